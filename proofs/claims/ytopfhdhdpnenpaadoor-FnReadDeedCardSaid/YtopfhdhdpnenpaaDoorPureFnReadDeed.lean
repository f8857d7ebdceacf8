/- The plain statement of FnReadDeed: the printed functions answer true for all arguments within the printed bounds; no other conditions. -/
import Derived.Test.YtopfhdhdpnenpaaDoorLGx16
import Derived.ChangeSlices
import Derived.Lib.ItoaNum
import Derived.Lib.SplitLaws
import Derived.Lib.Strings
import Derived.SizedLaws
import Derived.Test.YtopfhdhdpnenpaaDoorUSized
namespace Go.Proofs.YtopfhdhdpnenpaaDoor.Pure
open Go.RowKit Go.Proofs.YtopfhdhdpnenpaaDoor.LG Go.Proofs.YtopfhdhdpnenpaaDoorV.PrintWords Go.Proofs.YtopfhdhdpnenpaaDoorV.PrintLast
set_option linter.unusedVariables false
set_option linter.unusedSimpArgs false
theorem Ev.ret {α : Type} {r r' : α} (h : r=r') : Ev (fun _=>some r) r' := ⟨0, fun _ _ => by rw [h]⟩
theorem Ev.pos {α : Type} {c : Prop} [Decidable c] {g f : Nat→Option α} {r : α} (h : c) (k : Ev g r) : Ev (fun n=>if c then g n else f n) r:=by
 simpa only [if_pos h] using k
theorem Ev.neg {α : Type} {c : Prop} [Decidable c] {g f : Nat→Option α} {r : α} (h : ¬ c) (k : Ev f r) : Ev (fun n=>if c then g n else f n) r:=by
 simpa only [if_neg h] using k
theorem Ev.ite {α : Type} {c : Prop} [Decidable c] {g f : Nat→Option α} {r : α} (h : c→Ev g r) (k : ¬ c→Ev f r) : Ev (fun n=>if c then g n else f n) r:=by
 by_cases hc : c
 ·exact Ev.pos hc (h hc)
 ·exact Ev.neg hc (k hc)
theorem Ev.bind0 {α β : Type} {o : Option α} {f : Nat→α→Option β} {a : α} {r : β} (h : o=some a) (k : Ev (fun n=>f n a) r) : Ev (fun n=>o.bind (f n)) r:=by
 subst h; simpa only [Option.bind_some] using k
theorem Ev.eq {α : Type} {g : Nat→Option α} {r r' : α} (h : Ev g r) (e : r=r') : Ev g r' := e ▸ h
theorem wrap_id {n : Int} (h0 : -9223372036854775808≤n) (h1 : n<9223372036854775808) : wrap64 n=n:=by
 unfold wrap64; omega
theorem wrap_add1 {n : Nat} (h : n<1099511627776) : wrap64 ((n:Int)+1)=((n+1:Nat):Int):=by
 unfold wrap64; omega
theorem rd_nat (l : List Int) (j:Nat) : rd l (j:Int)=l.getD j 0 := by simp [rd]
open Go.ChangeShapes Go.WideShapes in
theorem _root_.Go.Proofs.YtopfhdhdpnenpaaDoor.PrintWords.sized_ints {H : Type} {enc : TypeId × Value→H} {P : Program} {W : World} {base : Nat} {spare : Nat→Bool} {held : Bool} {t e : TypeId} {k : IntKind} {a : Option Addr} {len cap : Nat} {d : DataW H} {ps : List MemPlace} {ts : List TypeId} {ds : List (DataW H)} {j : Nat}
  (hsz : (DataW.weightsEach P ts ds).all (·≤reachBytes)=true) (ht : ts[j]?=some t) (hd : ds[j]?=some d) (hu : P.underlying t=some (.slice e)) (he : P.underlying e=some (.int k)) (hc : P.cellsOf e=1) {B : Nat} (hB : P.bytesOf e=B)
  (h : DataW.Trod enc P W base spare held t (.slice a len cap) d ps) : len * B≤140737488351232 :=
 Go.Proofs.YtopfhdhdpnenpaaDoorV.PrintWords.sized_ints hsz ht hd hu he hc hB h
def cutL : List UInt8→List (List UInt8)
 | [] => [[]]
 | c :: r => if c=32 then [] :: cutL r else match cutL r with | [] => [[c]] | h :: t => (c :: h) :: t
theorem cutL_ne : ∀ l : List UInt8, cutL l≠[]
 | [] => by simp [cutL]
 | c :: r => by
  rw [cutL]
  split
  ·simp
  ·split <;> simp
theorem cutL_word : ∀ {w : List UInt8}, 32 ∉ w→cutL w=[w]
 | [], _ => rfl
 | c :: r, h => by
  rw [cutL, if_neg (fun e=>h (by simp [e])), cutL_word (w := r) (fun e=>h (List.mem_cons_of_mem _ e))]
theorem cutL_app : ∀ {w r : List UInt8}, 32 ∉ w→cutL (w ++ 32 :: r)=w :: cutL r
 | [], r, _ => by simp [cutL]
 | c :: w, r, h => by
  rw [List.cons_append, cutL, if_neg (fun e=>h (by simp [e])), cutL_app (w := w) (fun e=>h (List.mem_cons_of_mem _ e))]
theorem cutL_len : ∀ (l : List UInt8) (w : List UInt8), w ∈ cutL l→w.length≤l.length
 | [], w, h => by simp [cutL] at h; simp [h]
 | c :: r, w, h => by
  rw [cutL] at h
  split at h
  ·rcases List.mem_cons.1 h with h | h
   ·simp [h]
   ·have := cutL_len r w h; simp; omega
  ·split at h
   ·simp at h; simp [h]
   ·rename_i a t e
    rcases List.mem_cons.1 h with h | h
    ·have := cutL_len r a (by rw [e]; simp); simp [h]; omega
    ·have := cutL_len r w (by rw [e]; simp [h]); simp; omega
theorem splitK_cutL : ∀ l : List UInt8, Lib.splitK [32] 0 (l.count 32) l=cutL l
 | [] => rfl
 | b :: l => by
  have ih := splitK_cutL l
  by_cases h : b=32
  ·subst h
   have hix : Lib.index ((32 : UInt8) :: l) [32]=0 := by rw [Lib.index]; simp [List.isPrefixOf]
   rw [List.count_cons_self, Lib.splitK, hix, if_neg (by decide), cutL, if_pos rfl]
   simp [ih]
  ·have hp : ([32] : List UInt8).isPrefixOf (b :: l)=false := by simp [List.isPrefixOf, Ne.symm h]
   have hix : Lib.index (b :: l) [32]=if Lib.index l [32] == -1 then -1 else Lib.index l [32]+1 := by rw [Lib.index,hp]; simp
   rw [List.count_cons_of_ne (by simpa using h), cutL, if_neg h, ← ih]
   cases hc : l.count 32 with
   | zero => rfl
   | succ m =>
    have hge := Lib.index_ge l [32]
    by_cases hm : Lib.index l [32]=-1
    ·rw [Lib.splitK, Lib.splitK, hix, hm]; simp
    ·obtain ⟨j, hj⟩ : ∃ j : Nat, Lib.index l [32]=j := ⟨(Lib.index l [32]).toNat,by omega⟩
     rw [Lib.splitK, Lib.splitK, hix, hj, if_neg (show ¬ ((j:Int) == -1)=true by simp), if_neg (show ¬ ((j:Int) == -1)=true by simp)]
     rw [if_neg (show ¬ ((j:Int)+1 == -1)=true by simp; omega)]
     have e1 : ((j:Int)+1).toNat=j+1 := by omega
     simp [e1]
theorem split_cutL (s : ByteArray) : (Lib.splitB (⟨#[32]⟩ : ByteArray) 0 (Lib.countB s (⟨#[32]⟩ : ByteArray)) s).map (·.data.toList)=cutL s.data.toList:=by
 rw [Lib.splitB_data]
 have : Lib.countB s (⟨#[32]⟩ : ByteArray)=s.data.toList.count 32:=by
  show Lib.count s.data.toList [32]=_
  exact Lib.count_one 32 _
 rw [this]
 exact splitK_cutL _
theorem extract_data (s : ByteArray) (a b:Nat) : (s.extract a b).data.toList=(s.data.toList.drop a).take (b - a) := by rw [Lib.extract_eq]
theorem l1In_eq (a b c:Int) : spec_l1In.f a b c=some (decide (b≤a∧a≤c)):=by
 unfold spec_l1In.f
 split
 ·rename_i h; congr 1; rw [decide_eq_decide]; omega
 ·rename_i h; congr 1; symm; rw [decide_eq_false_iff_not]; omega
def num (u:Nat) : ByteArray := ⟨(if u<10 then [UInt8.ofNat (48+u)] else [UInt8.ofNat (48+u / 10), UInt8.ofNat (48+u % 10)]).toArray⟩
theorem num_size (u:Nat) : (num u).size≤2:=by
 unfold num
 split <;> simp [ByteArray.size]
theorem digits_num {u : Nat} (h : u<100) : (⟨(Lib.decDigits u).toArray⟩ : ByteArray)=num u:=by
 unfold num
 rw [Lib.decDigits]
 split
 ·rfl
 ·rw [Lib.decDigits, dif_pos (by omega)]; rfl
theorem strOfNums_one (u:Nat) : strOfNums [(u:Int)]=⟨#[UInt8.ofNat u]⟩:=by simp [strOfNums]
theorem mx0 {n : Int} (h : 0≤n) : mx n 0=n := by unfold mx; split <;> omega
theorem l1Number_ev {n : Int} (h0 : 0≤n) (h1 : n≤99) : Ev (fun k=>spec_l1Number.f k n) (num n.toNat):=by
 obtain ⟨u, rfl⟩ : ∃ u : Nat, n=(u:Int) := ⟨n.toNat,by omega⟩
 simp only [Int.toNat_natCast]
 have small : ∀ v : Nat, v<10→Ev (fun k=>spec_l1Number.f k (v:Int)) (num v):=by
  intro v hv
  refine ⟨1, fun k hk => ?_⟩
  obtain ⟨m, rfl⟩ : ∃ m, k=m+1 := ⟨k - 1,by omega⟩
  show spec_l1Number.f (m+1) (v:Int)=_
  unfold spec_l1Number.f
  rw [if_pos (by omega), mx0 (by omega)]
  have e : (wrap64 (48+(v:Int))) % 256=((48+v:Nat):Int) := by unfold wrap64; omega
  rw [e, strOfNums_one]
  congr 1
  unfold num
  rw [if_pos hv]
 by_cases hu : u<10
 ·exact small u hu
 ·obtain ⟨K, hK⟩:=small (u / 10) (by omega)
  refine ⟨K+1, fun k hk => ?_⟩
  obtain ⟨m, rfl⟩ : ∃ m, k=m+1 := ⟨k - 1,by omega⟩
  show spec_l1Number.f (m+1) (u:Int)=_
  unfold spec_l1Number.f
  have e1 : wrap64 (Int.tdiv (u:Int) 10)=((u / 10:Nat):Int):=by
   rw [Int.tdiv_eq_ediv_of_nonneg (by omega)]; unfold wrap64; omega
  have e2 : (wrap64 (48+Int.tmod (u:Int) 10)) % 256=((48+u % 10:Nat):Int):=by
   rw [Int.tmod_eq_emod_of_nonneg (by omega)]; unfold wrap64; omega
  rw [if_neg (by omega), e1, e2, show spec_l1Number.f m ((u / 10:Nat):Int)=some (num (u / 10)) from hK m (by omega)]
  simp only [Option.bind_some, strOfNums_one]
  have hs := num_size (u / 10)
  rw [if_pos (by have : (⟨#[UInt8.ofNat (48+u % 10)]⟩ : ByteArray).size=1 := rfl; omega)]
  congr 1
  unfold num
  rw [if_pos (show u / 10<10 by omega), if_neg hu]
  rfl
def deedOf (a b c:Int) : ByteArray :=
 if a=0∧(0≤b∧b≤99)∧(0≤c∧c≤99) then (((⟨#[104, 101, 97, 100, 32]⟩ : ByteArray) ++ num b.toNat) ++ (⟨#[32]⟩ : ByteArray)) ++ num c.toNat
 else if a=1∧(0≤b∧b≤99)∧c=0 then (⟨#[97, 100, 100, 32]⟩ : ByteArray) ++ num b.toNat
 else if a=2∧b=0∧c=0 then ⟨#[100, 114, 111, 112]⟩
 else if a=3∧b=0∧c=0 then ⟨#[116, 117, 114, 110]⟩
 else if a=4∧b=0∧c=0 then ⟨#[102, 108, 97, 116]⟩
 else if a=5∧b=0∧c=0 then ⟨#[98, 97, 99, 107]⟩
 else ⟨#[]⟩
theorem specDeedText_ev (a b c:Int) : Ev (fun k=>spec_DeedText.f k a b c) (deedOf a b c):=by
 have j1 : ∀ x : Bool, (x=true→a=1∧(0≤b∧b≤99)∧c=0)→(x=false→¬ (a=1∧(0≤b∧b≤99)∧c=0))→¬ (a=0∧(0≤b∧b≤99)∧(0≤c∧c≤99))→Ev (fun k=>spec_DeedText.j1 k x a b c) (deedOf a b c):=by
  intro x hx hy hn
  refine Ev.step (fun k=>by rw [spec_DeedText.j1]) ?_
  unfold deedOf
  rw [if_neg hn]
  cases x with
  | true =>
   have h := hx rfl
   rw [if_pos h]
   refine Ev.pos rfl (Ev.bind (l1Number_ev h.2.1.1 h.2.1.2) (Ev.pos ?_ (Ev.ret rfl)))
   have := num_size b.toNat; omega
  | false =>
   rw [if_neg (hy rfl)]
   refine Ev.neg (by simp) ?_
   by_cases h2 : a=2∧b=0∧c=0
   ·rw [if_pos h2]; obtain ⟨rfl, rfl, rfl⟩:=h2; exact Ev.pos (by decide) (Ev.ret rfl)
   rw [if_neg h2]
   refine Ev.neg (by simp only [Bool.and_eq_true, beq_iff_eq]; exact h2) ?_
   by_cases h3 : a=3∧b=0∧c=0
   ·rw [if_pos h3]; obtain ⟨rfl, rfl, rfl⟩:=h3; exact Ev.pos (by decide) (Ev.ret rfl)
   rw [if_neg h3]
   refine Ev.neg (by simp only [Bool.and_eq_true, beq_iff_eq]; exact h3) ?_
   by_cases h4 : a=4∧b=0∧c=0
   ·rw [if_pos h4]; obtain ⟨rfl, rfl, rfl⟩:=h4; exact Ev.pos (by decide) (Ev.ret rfl)
   rw [if_neg h4]
   refine Ev.neg (by simp only [Bool.and_eq_true, beq_iff_eq]; exact h4) ?_
   by_cases h5 : a=5∧b=0∧c=0
   ·rw [if_pos h5]; obtain ⟨rfl, rfl, rfl⟩:=h5; exact Ev.pos (by decide) (Ev.ret rfl)
   rw [if_neg h5]
   refine Ev.neg (by simp only [Bool.and_eq_true, beq_iff_eq]; exact h5) (Ev.ret rfl)
 have j0 : ∀ x : Bool, (x=true→a=0∧(0≤b∧b≤99)∧(0≤c∧c≤99))→(x=false→¬ (a=0∧(0≤b∧b≤99)∧(0≤c∧c≤99)))→Ev (fun k=>spec_DeedText.j0 k x a b c) (deedOf a b c):=by
  intro x hx hy
  refine Ev.step (fun k=>by rw [spec_DeedText.j0]) ?_
  cases x with
  | true =>
   have h := hx rfl
   have s1 := num_size b.toNat
   have s2 := num_size c.toNat
   have s3 : (⟨#[104, 101, 97, 100, 32]⟩ : ByteArray).size=5 := rfl
   have s4 : (⟨#[32]⟩ : ByteArray).size=1 := rfl
   refine Ev.pos rfl (Ev.bind (l1Number_ev h.2.1.1 h.2.1.2) (Ev.pos (by omega) (Ev.pos (by rw [ByteArray.size_append]; omega) (Ev.bind (l1Number_ev h.2.2.1 h.2.2.2) (Ev.pos (by rw [ByteArray.size_append, ByteArray.size_append]; omega) (Ev.ret ?_))))))
   unfold deedOf; rw [if_pos h]
  | false =>
   refine Ev.neg (by simp) ?_
   by_cases h1 : a=1
   ·refine Ev.pos h1 (Ev.bind0 (l1In_eq _ _ _) ?_)
    by_cases hb : 0≤b∧b≤99
    ·refine Ev.pos (by simpa using hb) (j1 _ (fun e=>⟨h1, hb, by simpa using e⟩) (fun e h => ?_) (hy rfl))
     rw [h.2.2] at e; simp at e
    ·refine Ev.neg (by simpa using hb) (j1 _ (by simp) (fun _ h => hb h.2.1) (hy rfl))
   ·exact Ev.neg h1 (j1 _ (by simp) (fun _ h => h1 h.1) (hy rfl))
 unfold spec_DeedText.f
 by_cases h0 : a=0
 ·refine Ev.pos h0 (Ev.bind0 (l1In_eq _ _ _) ?_)
  by_cases hb : 0≤b∧b≤99
  ·refine Ev.pos (by simpa using hb) (Ev.bind0 (l1In_eq _ _ _) ?_)
   exact j0 _ (fun e=>⟨h0, hb, by simpa using e⟩) (fun e h => by simp at e; omega)
  ·exact Ev.neg (by simpa using hb) (j0 _ (by simp) (fun _ h => hb h.2.1))
 ·exact Ev.neg h0 (j0 _ (by simp) (fun _ h => h0 h.1))
def namedP (a b c:Int) : Prop := a=0 ∨ (a=1∧c=0) ∨ ((a=2 ∨ a=3 ∨ a=4 ∨ a=5)∧b=0∧c=0)
instance (a b c:Int) : Decidable (namedP a b c) := by unfold namedP; infer_instance
theorem named_eq (a b c:Int) : impl_Deed_named.f a b c=some (decide (namedP a b c)):=by
 unfold impl_Deed_named.f namedP
 by_cases h0 : a=0
 ·rw [if_pos h0]; simp [h0]
 rw [if_neg h0]
 by_cases h1 : a=1
 ·subst h1; simp; by_cases hc : c=0 <;> simp [hc]
 rw [if_neg h1]
 have go : ∀ (x:Int), (x=2 ∨ x=3 ∨ x=4 ∨ x=5)→(if b=0 then some (c == 0) else some false)=some (decide (x=0 ∨ (x=1∧c=0) ∨ ((x=2 ∨ x=3 ∨ x=4 ∨ x=5)∧b=0∧c=0))):=by
  intro x hx
  have n0 : x≠0 := by omega
  have n1 : x≠1 := by omega
  by_cases hb : b=0
  ·by_cases hc : c=0 <;> simp [hb, hc, n0, n1, hx]
  ·simp [hb, n0, n1]
 by_cases h2 : a=2
 ·rw [if_pos h2]; exact go a (by omega)
 rw [if_neg h2]
 by_cases h3 : a=3
 ·rw [if_pos h3]; exact go a (by omega)
 rw [if_neg h3]
 by_cases h4 : a=4
 ·rw [if_pos h4]; exact go a (by omega)
 rw [if_neg h4]
 by_cases h5 : a=5
 ·rw [if_pos h5]; exact go a (by omega)
 rw [if_neg h5]
 simp [h0, h1, h2, h3, h4, h5]
theorem itoa_eq {n : Int} (h0 : 0≤n) (h1 : n≤99) : strconv_Itoa.f n=some (num n.toNat):=by
 unfold strconv_Itoa.f
 rw [if_pos (by omega), digits_num (by omega)]
theorem implDeedText_ev (a b c:Int) : Ev (fun k=>impl_DeedText.f k a b c) (deedOf a b c):=by
 have j0 : ∀ x : Bool, (x=false→namedP a b c∧(0≤b∧b≤99)∧(0≤c∧c≤99))→(x=true→¬ (namedP a b c∧(0≤b∧b≤99)∧(0≤c∧c≤99)))→Ev (fun k=>impl_DeedText.j0 k x a b c) (deedOf a b c):=by
  intro x hx hy
  refine Ev.step (fun k=>by rw [impl_DeedText.j0]) ?_
  cases x with
  | true =>
   have h := hy rfl
   unfold namedP at h
   refine Ev.pos rfl (Ev.ret ?_)
   unfold deedOf
   rw [if_neg (by omega), if_neg (by omega), if_neg (by omega), if_neg (by omega), if_neg (by omega), if_neg (by omega)]
  | false =>
   obtain ⟨hn, hb, hc⟩:=hx rfl
   refine Ev.neg (by simp) ?_
   have s1 := num_size b.toNat
   have s2 := num_size c.toNat
   have s3 : (⟨#[104, 101, 97, 100, 32]⟩ : ByteArray).size=5 := rfl
   have s4 : (⟨#[32]⟩ : ByteArray).size=1 := rfl
   by_cases h0 : a=0
   ·refine Ev.pos h0 (Ev.bind0 (itoa_eq hb.1 hb.2) (Ev.pos (by omega) (Ev.pos (by rw [ByteArray.size_append]; omega) (Ev.bind0 (itoa_eq hc.1 hc.2) (Ev.pos (by rw [ByteArray.size_append, ByteArray.size_append]; omega) (Ev.ret ?_))))))
    unfold deedOf; rw [if_pos ⟨h0, hb, hc⟩]
   ·refine Ev.neg h0 ?_
    unfold namedP at hn
    by_cases h1 : a=1
    ·refine Ev.pos h1 (Ev.bind0 (itoa_eq hb.1 hb.2) (Ev.pos (by omega) (Ev.ret ?_)))
     unfold deedOf
     rw [if_neg (by omega), if_pos (by omega)]
    ·refine Ev.neg h1 ⟨0, fun _ _ => ?_⟩
     have hz : b=0∧c=0 := by omega
     obtain ⟨rfl, rfl⟩:=hz
     have h4 : a=2 ∨ a=3 ∨ a=4 ∨ a=5 := by omega
     rcases h4 with rfl | rfl | rfl | rfl <;> rfl
 unfold impl_DeedText.f
 refine Ev.bind0 (named_eq a b c) ?_
 by_cases hn : namedP a b c
 ·refine Ev.pos (by simpa using hn) ?_
  by_cases h1 : b<0
  ·exact Ev.pos h1 (j0 _ (by simp) (fun _ h => by omega))
  refine Ev.neg h1 ?_
  by_cases h2 : b > 99
  ·exact Ev.pos h2 (j0 _ (by simp) (fun _ h => by omega))
  refine Ev.neg h2 ?_
  by_cases h3 : c<0
  ·exact Ev.pos h3 (j0 _ (by simp) (fun _ h => by omega))
  refine Ev.neg h3 (j0 _ (fun e=>?_) (fun e h => ?_))
  ·have := of_decide_eq_false e; exact ⟨hn,by omega,by omega⟩
  ·have := of_decide_eq_true e; omega
 ·exact Ev.neg (by simpa using hn) (j0 _ (by simp) (fun _ h => hn h.1))
theorem num_all : (List.range 100).all (fun b=>decide (32 ∉ (num b).data.toList) && decide (atoiVal (num b)=(b:Int)))=true := by decide +kernel
theorem num_facts {b : Int} (h0 : 0≤b) (h1 : b≤99) : 32 ∉ (num b.toNat).data.toList∧atoiVal (num b.toNat)=b:=by
 obtain ⟨u, rfl⟩ : ∃ u : Nat, b=(u:Int) := ⟨b.toNat,by omega⟩
 simp only [Int.toNat_natCast]
 have h := List.all_eq_true.1 num_all u (List.mem_range.2 (by omega))
 simp only [Bool.and_eq_true, decide_eq_true_eq] at h
 exact ⟨h.1, h.2⟩
def findI (w : ByteArray) : Nat→Nat→Int
 | 0, _ => -1
 | d+1, i => if w.toList=(rdOf ByteArray.empty wordsL (i:Int)).toList then (i:Int) else findI w d (i+1)
theorem index_ev (w : ByteArray) : Ev (fun k=>slices_Index_string_string.f k wordsL w) (findI w 6 0):=by
 have loop : ∀ d i : Nat, i+d=6→Ev (fun k=>slices_Index_string_string.l0 k wordsL w (wordsL.length:Int) (i:Int)) (findI w d i):=by
  intro d
  induction d with
  | zero => 
   intro i hi
   refine Ev.step (fun k=>by rw [slices_Index_string_string.l0]) ?_
   exact Ev.neg (by show ¬ ((i:Int)<6); omega) (Ev.ret rfl)
  | succ d ih =>
   intro i hi
   refine Ev.step (fun k=>by rw [slices_Index_string_string.l0]) ?_
   refine Ev.pos (by show (i:Int)<6; omega) (Ev.pos (by omega) (Ev.pos (by show (i:Int)<6; omega) ?_))
   unfold findI
   by_cases h : w.toList=(rdOf ByteArray.empty wordsL (i:Int)).toList
   ·rw [if_pos h]; exact Ev.pos h (Ev.ret rfl)
   ·rw [if_neg h]
    refine Ev.neg h ?_
    rw [wrap_add1 (by omega)]
    exact ih (i+1) (by omega)
 unfold slices_Index_string_string.f
 exact loop 6 0 rfl
theorem rdS (l : List ByteArray) (i:Nat) : rdOf ByteArray.empty l (i:Int)=l.getD i ByteArray.empty := by simp [rdOf]
def pieces (s : ByteArray) : List ByteArray := Lib.splitB (⟨#[32]⟩ : ByteArray) 0 (Lib.countB s (⟨#[32]⟩ : ByteArray)) s
theorem pieces_data (s : ByteArray) : (pieces s).map (·.data.toList)=cutL s.data.toList := split_cutL s
theorem pieces_pos (s : ByteArray) : 0<(pieces s).length:=by
 have h := congrArg List.length (pieces_data s)
 rw [List.length_map] at h
 have := cutL_ne s.data.toList
 cases e : cutL s.data.toList with
 | nil => exact absurd e this
 | cons a t => rw [e] at h; simp at h; omega
theorem piece_size (s : ByteArray) (i:Nat) : ((pieces s).getD i ByteArray.empty).size≤s.size:=by
 by_cases h : i<(pieces s).length
 ·rw [List.getD_eq_getElem?_getD, List.getElem?_eq_getElem h, Option.getD_some, Lib.size_eq, Lib.size_eq]
  refine cutL_len _ _ ?_
  rw [← pieces_data]
  exact List.mem_map.2 ⟨_, List.getElem_mem h, rfl⟩
 ·rw [List.getD_eq_getElem?_getD, List.getElem?_eq_none (by omega)]
  exact Nat.zero_le _
def candA (s : ByteArray) : Int := findI ((pieces s).getD 0 ByteArray.empty) 6 0
def candB (s : ByteArray) : Int := if 1<(pieces s).length then atoiVal ((pieces s).getD 1 ByteArray.empty) else 0
def candC (s : ByteArray) : Int := if 2<(pieces s).length then atoiVal ((pieces s).getD 2 ByteArray.empty) else 0
def readI (s : ByteArray) : Int × Int × Int × Bool :=
 if s.toList=([] : List UInt8) then (0, 0, 0, false) else if (deedOf (candA s) (candB s) (candC s)).toList=s.toList then (candA s, candB s, candC s, true) else (0, 0, 0, false)
theorem implReadDeed_ev (s : ByteArray) (hs : s.size≤1048577) : Ev (fun k=>impl_ReadDeed.f k s) (readI s):=by
 have at1 : ∀ i : Nat, strconv_Atoi.f (rdOf ByteArray.empty (pieces s) (i:Int))=some (atoiVal ((pieces s).getD i ByteArray.empty), 0):=by
  intro i
  unfold strconv_Atoi.f
  have := piece_size s i
  rw [rdS, if_pos (by omega)]
 have tail : ∀ c : Int, Ev (fun k=>if s.toList=([] : List UInt8) then (some ((0:Int), (0:Int), (0:Int), false)) else ((impl_DeedText.f k (candA s) (candB s) c).bind fun t121=>(if t121.toList=s.toList then (some (candA s, candB s, c, true)) else (some (0, 0, 0, false)))))
   (if s.toList=([] : List UInt8) then (0, 0, 0, false) else if (deedOf (candA s) (candB s) c).toList=s.toList then (candA s, candB s, c, true) else (0, 0, 0, false)):=by
  intro c
  by_cases h : s.toList=([] : List UInt8)
  ·rw [if_pos h]; exact Ev.pos h (Ev.ret rfl)
  ·rw [if_neg h]
   refine Ev.neg h (Ev.bind (implDeedText_ev _ _ _) ?_)
   by_cases h2 : (deedOf (candA s) (candB s) c).toList=s.toList
   ·simp only [if_pos h2]; exact Ev.ret rfl
   ·simp only [if_neg h2]; exact Ev.ret rfl
 have j0 : Ev (fun k=>impl_ReadDeed.j0 k s (pieces s) (candA s) (candB s) 0) (readI s):=by
  refine Ev.step (fun k=>by rw [impl_ReadDeed.j0]) ?_
  unfold readI
  by_cases h2 : 2<(pieces s).length
  ·have hc : candC s=atoiVal ((pieces s).getD 2 ByteArray.empty) := by unfold candC; rw [if_pos h2]
   rw [hc]
   exact Ev.pos (by omega) (Ev.pos (by omega) (Ev.bind0 (at1 2) (tail _)))
  ·have hc : candC s=0 := by unfold candC; rw [if_neg h2]
   rw [hc]
   exact Ev.neg (by omega) (tail 0)
 unfold impl_ReadDeed.f
 refine Ev.bind0 (a := pieces s) (by unfold strings_Split.f; rw [if_pos ⟨by omega, by decide⟩]; rfl) ?_
 have hp := pieces_pos s
 refine Ev.pos (by omega) (Ev.bind (a := candA s) ?_ ?_)
 ·have := index_ev ((pieces s).getD 0 ByteArray.empty)
  rw [show rdOf ByteArray.empty (pieces s) 0=(pieces s).getD 0 ByteArray.empty from rdS _ 0]
  exact this
 ·by_cases h1 : 1<(pieces s).length
  ·have hb : candB s=atoiVal ((pieces s).getD 1 ByteArray.empty) := by unfold candB; rw [if_pos h1]
   refine Ev.pos (by omega) (Ev.pos (by omega) (Ev.bind0 (at1 1) ?_))
   rw [hb] at j0
   exact j0
  ·have hb : candB s=0 := by unfold candB; rw [if_neg h1]
   refine Ev.neg (by omega) ?_
   rw [hb] at j0
   exact j0
theorem data_inj {s t : ByteArray} (h : s.data.toList=t.data.toList) : s=t:=by
 obtain ⟨⟨l⟩⟩:=s
 obtain ⟨⟨m⟩⟩:=t
 simp at h
 rw [h]
theorem toList_inj {s t : ByteArray} (h : s.toList=t.toList) : s=t := data_inj (by rw [← Lib.toList_data, ← Lib.toList_data]; exact h)
theorem toList_nil {s : ByteArray} (h : s=⟨#[]⟩) : s.toList=([] : List UInt8) := by rw [h, Lib.toList_data]
theorem cut_head {b c : Int} (hb : 0≤b∧b≤99) (hc : 0≤c∧c≤99) :
  cutL ((((⟨#[104, 101, 97, 100, 32]⟩ : ByteArray) ++ num b.toNat) ++ (⟨#[32]⟩ : ByteArray)) ++ num c.toNat).data.toList=[[104, 101, 97, 100], (num b.toNat).data.toList, (num c.toNat).data.toList]:=by
 have e : ((((⟨#[104, 101, 97, 100, 32]⟩ : ByteArray) ++ num b.toNat) ++ (⟨#[32]⟩ : ByteArray)) ++ num c.toNat).data.toList=[104, 101, 97, 100] ++ 32 :: ((num b.toNat).data.toList ++ 32 :: (num c.toNat).data.toList):=by
  simp [ByteArray.data_append]
 rw [e, cutL_app (by decide), cutL_app (num_facts hb.1 hb.2).1, cutL_word (num_facts hc.1 hc.2).1]
theorem cut_add {b : Int} (hb : 0≤b∧b≤99) : cutL ((⟨#[97, 100, 100, 32]⟩ : ByteArray) ++ num b.toNat).data.toList=[[97, 100, 100], (num b.toNat).data.toList]:=by
 have e : ((⟨#[97, 100, 100, 32]⟩ : ByteArray) ++ num b.toNat).data.toList=[97, 100, 100] ++ 32 :: (num b.toNat).data.toList:=by
  simp [ByteArray.data_append]
 rw [e, cutL_app (by decide), cutL_word (num_facts hb.1 hb.2).1]
theorem list_of_data {L M : List ByteArray} (h : L.map (·.data.toList)=M.map (·.data.toList)) : L=M:=by
 induction L generalizing M with
 | nil => cases M with
  | nil => rfl
  | cons => simp at h
 | cons a l ih => cases M with
  | nil => simp at h
  | cons b m =>
   simp only [List.map_cons, List.cons.injEq] at h
   rw [data_inj h.1, ih h.2]
def hasText (a b c:Int) : Prop := (a=0∧(0≤b∧b≤99)∧(0≤c∧c≤99)) ∨ (a=1∧(0≤b∧b≤99)∧c=0) ∨ ((a=2 ∨ a=3 ∨ a=4 ∨ a=5)∧b=0∧c=0)
theorem hasText_of {a b c : Int} (h : (deedOf a b c).toList≠([] : List UInt8)) : hasText a b c:=by
 unfold hasText
 by_cases h1 : a=0∧(0≤b∧b≤99)∧(0≤c∧c≤99)
 ·exact Or.inl h1
 by_cases h2 : a=1∧(0≤b∧b≤99)∧c=0
 ·exact Or.inr (Or.inl h2)
 by_cases h3 : (a=2 ∨ a=3 ∨ a=4 ∨ a=5)∧b=0∧c=0
 ·exact Or.inr (Or.inr h3)
 ·exfalso
  apply h
  apply toList_nil
  unfold deedOf
  rw [if_neg h1, if_neg h2, if_neg (fun e=>h3 ⟨Or.inl e.1, e.2⟩), if_neg (fun e=>h3 ⟨Or.inr (Or.inl e.1), e.2⟩), if_neg (fun e=>h3 ⟨Or.inr (Or.inr (Or.inl e.1)), e.2⟩), if_neg (fun e=>h3 ⟨Or.inr (Or.inr (Or.inr e.1)), e.2⟩)]
theorem deedOf0 {b c : Int} (hb : 0≤b∧b≤99) (hc : 0≤c∧c≤99) : deedOf 0 b c=(((⟨#[104, 101, 97, 100, 32]⟩ : ByteArray) ++ num b.toNat) ++ (⟨#[32]⟩ : ByteArray)) ++ num c.toNat:=by
 unfold deedOf; rw [if_pos ⟨rfl, hb, hc⟩]
theorem deedOf1 {b : Int} (hb : 0≤b∧b≤99) : deedOf 1 b 0=(⟨#[97, 100, 100, 32]⟩ : ByteArray) ++ num b.toNat:=by
 unfold deedOf; rw [if_neg (by omega), if_pos ⟨rfl, hb, rfl⟩]
theorem pieces_of {s : ByteArray} {M : List ByteArray} (h : cutL s.data.toList=M.map (·.data.toList)) : pieces s=M := list_of_data (by rw [pieces_data, h])
theorem cand_of {a b c : Int} (h : hasText a b c) : candA (deedOf a b c)=a∧candB (deedOf a b c)=b∧candC (deedOf a b c)=c:=by
 rcases h with ⟨rfl, hb, hc⟩ | ⟨rfl, hb, rfl⟩ | ⟨ha, rfl, rfl⟩
 ·have p : pieces (deedOf 0 b c)=[⟨#[104, 101, 97, 100]⟩, num b.toNat, num c.toNat] := pieces_of (by rw [deedOf0 hb hc, cut_head hb hc]; rfl)
  unfold candA candB candC
  rw [p]
  exact ⟨by show findI (⟨#[104, 101, 97, 100]⟩ : ByteArray) 6 0=0; decide +kernel, (num_facts hb.1 hb.2).2, (num_facts hc.1 hc.2).2⟩
 ·have p : pieces (deedOf 1 b 0)=[⟨#[97, 100, 100]⟩, num b.toNat] := pieces_of (by rw [deedOf1 hb, cut_add hb]; rfl)
  unfold candA candB candC
  rw [p]
  exact ⟨by show findI (⟨#[97, 100, 100]⟩ : ByteArray) 6 0=1; decide +kernel, (num_facts hb.1 hb.2).2, rfl⟩
 ·have go : ∀ w : ByteArray, 32 ∉ w.data.toList→pieces w=[w] := fun w hw => pieces_of (by rw [cutL_word hw]; rfl)
  rcases ha with rfl | rfl | rfl | rfl
  ·have p := go (deedOf 2 0 0) (by decide +kernel)
   unfold candA candB candC
   rw [p]
   exact ⟨by decide +kernel, rfl, rfl⟩
  ·have p := go (deedOf 3 0 0) (by decide +kernel)
   unfold candA candB candC
   rw [p]
   exact ⟨by decide +kernel, rfl, rfl⟩
  ·have p := go (deedOf 4 0 0) (by decide +kernel)
   unfold candA candB candC
   rw [p]
   exact ⟨by decide +kernel, rfl, rfl⟩
  ·have p := go (deedOf 5 0 0) (by decide +kernel)
   unfold candA candB candC
   rw [p]
   exact ⟨by decide +kernel, rfl, rfl⟩
theorem readI_text {a b c : Int} (h : (deedOf a b c).toList≠([] : List UInt8)) : readI (deedOf a b c)=(a, b, c, true):=by
 have hc := cand_of (hasText_of h)
 unfold readI
 rw [if_neg h, hc.1, hc.2.1, hc.2.2, if_pos rfl]
theorem readI_none {s : ByteArray} (h : ∀ a b c : Int, (deedOf a b c).toList≠([] : List UInt8)→deedOf a b c≠s) : readI s=(0, 0, 0, false):=by
 unfold readI
 by_cases h0 : s.toList=([] : List UInt8)
 ·rw [if_pos h0]
 ·rw [if_neg h0, if_neg]
  intro e
  have e' := toList_inj e
  exact h _ _ _ (by rw [e]; exact h0) e'
theorem deedOf_inj {a b c a' b' c' : Int} (h : (deedOf a b c).toList≠([] : List UInt8)) (e : deedOf a b c=deedOf a' b' c') : a=a'∧b=b'∧c=c':=by
 have h1 := readI_text h
 have h2 := readI_text (a := a') (b := b') (c := c') (by rw [← e]; exact h)
 rw [e, h2] at h1
 simp only [Prod.mk.injEq, and_true] at h1
 exact ⟨h1.1.symm, h1.2.1.symm, h1.2.2.symm⟩
def cutP (p l : List UInt8) : List (List UInt8) := match cutL l with | [] => [p] | h :: t => (p ++ h) :: t
theorem cutP_nil (l : List UInt8) : cutP [] l=cutL l:=by
 unfold cutP
 cases h : cutL l with
 | nil => exact absurd h (cutL_ne l)
 | cons a t => rfl
theorem cutP_end (p : List UInt8) : cutP p []=[p] := by simp [cutP, cutL]
theorem cutP_space (p r : List UInt8) : cutP p (32 :: r)=p :: cutP [] r := by rw [cutP_nil]; simp [cutP, cutL]
theorem cutP_byte (p r : List UInt8) {c : UInt8} (h : c≠32) : cutP p (c :: r)=cutP (p ++ [c]) r:=by
 unfold cutP
 rw [cutL, if_neg h]
 cases e : cutL r with
 | nil => exact absurd e (cutL_ne r)
 | cons a t => simp
theorem bt_get {s : ByteArray} {i : Nat} (h : i<s.size) : ∃ c : UInt8, s.data.toList[i]?=some c∧bt s (i:Int)=(c.toNat:Int):=by
 refine ⟨s[i], ?_, ?_⟩
 ·rw [List.getElem?_eq_getElem (by rw [← Lib.size_eq]; exact h)]
  rfl
 ·rw [← bt_at s (i:Int) (by simpa using h)]
  simp
theorem l1Cut_loop (s : ByteArray) (hs : s.size≤1048577) : ∀ d i : Nat, i+d=s.size→∀ (from_:Nat) (out : List ByteArray), from_≤i→out.length≤i →
  ∃ r, Ev (fun k=>spec_l1Cut.l0 k s 32 out (from_:Int) (i:Int)) r∧r.map (·.data.toList)=out.map (·.data.toList) ++ cutP ((s.data.toList.drop from_).take (i - from_)) (s.data.toList.drop i):=by
 intro d
 induction d with
 | zero =>
  intro i hi from_ out hf ho
  refine ⟨_, Ev.step (fun k=>by rw [spec_l1Cut.l0]) (Ev.neg (by omega) (Ev.pos (by omega) (Ev.pos (by omega) (Ev.pos (by omega) (Ev.ret rfl))))), ?_⟩
  have e : s.data.toList.drop i=[] := List.drop_eq_nil_of_le (by rw [← Lib.size_eq]; omega)
  rw [List.map_append, e, cutP_end]
  simp only [List.map_cons, List.map_nil, extract_data, Int.toNat_natCast]
  rw [show i=s.size by omega]
 | succ d ih =>
  intro i hi from_ out hf ho
  obtain ⟨c, hc, hb⟩:=bt_get (s := s) (i := i) (by omega)
  have hd : s.data.toList.drop i=c :: s.data.toList.drop (i+1):=by
   obtain ⟨hl, he⟩:=List.getElem?_eq_some_iff.1 hc
   rw [List.drop_eq_getElem_cons hl, he]
  by_cases h32 : c=32
  ·subst h32
   obtain ⟨r, h1, h2⟩:=ih (i+1) (by omega) (i+1) (out ++ [s.extract from_ i]) (Nat.le_refl _) (by simp; omega)
   refine ⟨r, Ev.step (fun k=>by rw [spec_l1Cut.l0]) (Ev.pos (by omega) (Ev.pos (by omega) (Ev.pos (by rw [hb]; rfl) (Ev.pos (by omega) (Ev.pos (by omega) (Ev.pos (by omega) (Ev.pos (by omega) ?_))))))), ?_⟩
   ·rw [wrap_add1 (by omega)]; simpa using h1
   ·rw [h2, hd, cutP_space]
    simp [extract_data]
  ·obtain ⟨r, h1, h2⟩:=ih (i+1) (by omega) from_ out (by omega) (by omega)
   refine ⟨r, Ev.step (fun k=>by rw [spec_l1Cut.l0]) (Ev.pos (by omega) (Ev.pos (by omega) (Ev.neg (by rw [hb]; intro e; apply h32; apply UInt8.toNat_inj.1; show c.toNat=32; omega) ?_))), ?_⟩
   ·rw [wrap_add1 (by omega)]; exact h1
   ·rw [h2, hd, cutP_byte _ _ h32]
    congr 2
    rw [show i+1 - from_=(i - from_)+1 by omega, List.take_add_one, List.getElem?_drop, show from_+(i - from_)=i by omega, hc]
    rfl
theorem l1Cut_ev (s : ByteArray) (hs : s.size≤1048577) : ∃ r, Ev (fun k=>spec_l1Cut.f k s 32) r∧r.map (·.data.toList)=cutL s.data.toList:=by
 obtain ⟨r, h1, h2⟩:=l1Cut_loop s hs s.size 0 (by omega) 0 [] (Nat.le_refl _) (Nat.le_refl _)
 refine ⟨r, by unfold spec_l1Cut.f; exact h1, ?_⟩
 simpa [cutP_nil] using h2
theorem getD_lt {α : Type} {l : List α} {i : Nat} {z : α} (h : i<l.length) : l.getD i z=l[i]:=by
 rw [List.getD_eq_getElem?_getD, List.getElem?_eq_getElem h]; rfl
theorem rd25 (l : List S25) (i:Nat) : rd_T25 l (i:Int)=l.getD i z25 := by simp [rd_T25]
theorem num_dig_all : (List.range 100).all (fun b=>decide (spec_l1Digits.f 6 (num b)=some (b:Int)))=true := by decide +kernel
theorem num_dig {b : Int} (h0 : 0≤b) (h1 : b≤99) : Ev (fun k=>spec_l1Digits.f k (num b.toNat)) b:=by
 obtain ⟨u, rfl⟩ : ∃ u : Nat, b=(u:Int) := ⟨b.toNat,by omega⟩
 simp only [Int.toNat_natCast]
 have h := List.all_eq_true.1 num_dig_all u (List.mem_range.2 (by omega))
 simp only [decide_eq_true_eq] at h
 exact Ev.of (fun k=>spec_l1Digits.mono _ k) h
theorem l1Digits_ev (s : ByteArray) : ∃ v, Ev (fun k=>spec_l1Digits.f k s) v:=by
 have loop : ∀ d i : Nat, i+d=s.size→s.size≤6→∀ n : Int, ∃ v, Ev (fun k=>spec_l1Digits.l0 k s n (i:Int)) v:=by
  intro d
  induction d with
  | zero =>
   intro i hi _ n
   exact ⟨_, Ev.step (fun k=>by rw [spec_l1Digits.l0]) (Ev.neg (show ¬ ((i:Int)<(s.size:Int)) by omega) (Ev.ret rfl))⟩
  | succ d ih =>
   intro i hi h6 n
   by_cases h1 : bt s (i:Int)<48
   ·exact ⟨_, Ev.step (fun k=>by rw [spec_l1Digits.l0]) (Ev.pos (show (i:Int)<(s.size:Int) by omega) (Ev.pos (show (0:Int)≤(i:Int) by omega) (Ev.pos h1 (Ev.ret rfl))))⟩
   by_cases h2 : bt s (i:Int) > 57
   ·exact ⟨_, Ev.step (fun k=>by rw [spec_l1Digits.l0]) (Ev.pos (show (i:Int)<(s.size:Int) by omega) (Ev.pos (show (0:Int)≤(i:Int) by omega) (Ev.neg h1 (Ev.pos h2 (Ev.ret rfl)))))⟩
   obtain ⟨v, hv⟩:=ih (i+1) (by omega) h6 (wrap64 ((wrap64 (10 * n))+(((bt s (i:Int)) - 48) % 256)))
   refine ⟨v, Ev.step (fun k=>by rw [spec_l1Digits.l0]) (Ev.pos (show (i:Int)<(s.size:Int) by omega) (Ev.pos (show (0:Int)≤(i:Int) by omega) (Ev.neg h1 (Ev.neg h2 ?_))))⟩
   rw [wrap_add1 (by omega)]
   exact hv
 have j0 : s.size≤6→∀ x : Bool, ∃ v, Ev (fun k=>spec_l1Digits.j0 k s x) v:=by
  intro h6 x
  cases x with
  | true => exact ⟨_, Ev.step (fun k=>by rw [spec_l1Digits.j0]) (Ev.pos rfl (Ev.ret rfl))⟩
  | false =>
   obtain ⟨v, hv⟩:=loop s.size 0 (by omega) h6 0
   refine ⟨v, ?_⟩
   refine Ev.step (fun k=>by rw [spec_l1Digits.j0]) ?_
   refine Ev.neg (by simp) ?_
   simpa using hv
 unfold spec_l1Digits.f
 by_cases h : (1:Int)≤(s.size:Int)∧(s.size:Int)≤6
 ·by_cases h1 : (s.size:Int) > 1
  ·obtain ⟨v, hv⟩:=j0 (by omega) (bt s 0 == 48)
   exact ⟨v, Ev.bind0 (l1In_eq _ _ _) (Ev.pos (by simpa using h) (Ev.pos h1 (Ev.pos (by omega) hv)))⟩
  ·obtain ⟨v, hv⟩:=j0 (by omega) false
   exact ⟨v, Ev.bind0 (l1In_eq _ _ _) (Ev.pos (by simpa using h) (Ev.neg h1 hv))⟩
 ·exact ⟨-1, Ev.bind0 (l1In_eq _ _ _) (Ev.neg (by simpa using h) (Ev.step (fun k=>by rw [spec_l1Digits.j0]) (Ev.pos rfl (Ev.ret rfl))))⟩
def firstR (s : ByteArray) : List S25→Int × Int × Int × Bool
 | [] => (0, 0, 0, false)
 | d :: r => if s.toList=([] : List UInt8) then firstR s r else if (deedOf d.f0 d.f1 d.f2).toList=s.toList then (d.f0, d.f1, d.f2, true) else firstR s r
theorem firstR_ev (s : ByteArray) (l : List S25) (hl : l.length<1099511627776) : ∀ d i : Nat, i+d=l.length→Ev (fun k=>spec_ReadDeed.l0 k s l (i:Int)) (firstR s (l.drop i)):=by
 intro d
 induction d with
 | zero =>
  intro i hi
  rw [List.drop_eq_nil_of_le (by omega)]
  refine Ev.step (fun k=>by rw [spec_ReadDeed.l0]) ?_
  exact Ev.neg (by omega) (Ev.ret rfl)
 | succ d ih =>
  intro i hi
  have hd : l.drop i=l.getD i z25 :: l.drop (i+1) := by rw [getD_lt (show i<l.length by omega)]; exact List.drop_eq_getElem_cons (by omega)
  rw [hd, firstR]
  refine Ev.step (fun k=>by rw [spec_ReadDeed.l0]) ?_
  rw [rd25]
  refine Ev.pos (by omega) ?_
  by_cases h : s.toList=([] : List UInt8)
  ·rw [if_pos h]
   refine Ev.pos h ?_
   rw [wrap_add1 (by omega)]
   exact ih (i+1) (by omega)
  ·rw [if_neg h]
   refine Ev.neg h (Ev.pos (by omega) (Ev.bind (specDeedText_ev _ _ _) ?_))
   by_cases h2 : (deedOf (l.getD i z25).f0 (l.getD i z25).f1 (l.getD i z25).f2).toList=s.toList
   ·rw [if_pos h2]; exact Ev.pos h2 (Ev.ret rfl)
   ·rw [if_neg h2]
    refine Ev.neg h2 ?_
    rw [wrap_add1 (by omega)]
    exact ih (i+1) (by omega)
theorem firstR_none (s : ByteArray) (h : ∀ a b c : Int, (deedOf a b c).toList≠([] : List UInt8)→deedOf a b c≠s) : ∀ l, firstR s l=(0, 0, 0, false)
 | [] => rfl
 | d :: r => by
  rw [firstR]
  by_cases h0 : s.toList=([] : List UInt8)
  ·rw [if_pos h0]; exact firstR_none s h r
  ·rw [if_neg h0, if_neg]
   ·exact firstR_none s h r
   ·intro e
    exact h _ _ _ (by rw [e]; exact h0) (toList_inj e)
theorem firstR_text {a b c : Int} (h : (deedOf a b c).toList≠([] : List UInt8)) : ∀ l, (⟨a, b, c⟩ : S25) ∈ l→firstR (deedOf a b c) l=(a, b, c, true)
 | [], hm => by cases hm
 | d :: r, hm => by
  rw [firstR, if_neg h]
  by_cases h2 : (deedOf d.f0 d.f1 d.f2).toList=(deedOf a b c).toList
  ·rw [if_pos h2]
   obtain ⟨rfl, rfl, rfl⟩:=deedOf_inj (a := a) (b := b) (c := c) h (toList_inj h2).symm
   rfl
  ·rw [if_neg h2]
   rcases List.mem_cons.1 hm with e | e
   ·rw [← e] at h2; exact absurd rfl h2
   ·exact firstR_text h r e
theorem specReadDeed_ev (s : ByteArray) (hs : s.size≤1048577) : Ev (fun k=>spec_ReadDeed.f k s) (readI s):=by
 obtain ⟨L, hL, hd⟩:=l1Cut_ev s hs
 obtain ⟨v1, e1⟩:=l1Digits_ev (L.getD 1 ByteArray.empty)
 obtain ⟨v2, e2⟩:=l1Digits_ev (L.getD 2 ByteArray.empty)
 have uniq : ∀ {g : Nat→Option Int} {x y : Int}, Ev g x→Ev g y→x=y:=by
  rintro g x y ⟨K, h1⟩ ⟨K', h2⟩
  have a := h1 (max K K') (by omega)
  have b := h2 (max K K') (by omega)
  rw [a] at b
  exact Option.some.inj b
 -- whatever the list is, with what the text may be in it
 have fin : ∀ l : List S25, l.length<1099511627776→(∀ a b c : Int, (deedOf a b c).toList≠([] : List UInt8)→deedOf a b c=s→(⟨a, b, c⟩ : S25) ∈ l)→firstR s l=readI s:=by
  intro l _ hm
  by_cases hx : ∃ a b c : Int, (deedOf a b c).toList≠([] : List UInt8)∧deedOf a b c=s
  ·obtain ⟨a, b, c, h0, rfl⟩:=hx
   rw [readI_text h0, firstR_text h0 l (hm a b c h0 rfl)]
  ·have hn : ∀ a b c : Int, (deedOf a b c).toList≠([] : List UInt8)→deedOf a b c≠s := fun a b c h0 e => hx ⟨a, b, c, h0, e⟩
   rw [readI_none hn, firstR_none s hn]
 have j1 : ∀ l : List S25, l.length<1099511627776→(∀ a b c : Int, (deedOf a b c).toList≠([] : List UInt8)→deedOf a b c=s→(⟨a, b, c⟩ : S25) ∈ l)→Ev (fun k=>spec_ReadDeed.j1 k s l) (readI s):=by
  intro l hl hm
  refine Ev.step (fun k=>by rw [spec_ReadDeed.j1]) ?_
  rw [← fin l hl hm]
  have := firstR_ev s l hl l.length 0 (by omega)
  simpa using this
 have hlist : ∀ {M : List ByteArray}, cutL s.data.toList=M.map (·.data.toList)→L=M := fun h=>list_of_data (by rw [hd, h])
 have four : ∀ {a b c : Int}, (a=2 ∨ a=3 ∨ a=4 ∨ a=5)∧b=0∧c=0→(⟨a, b, c⟩ : S25) ∈ [(⟨2, 0, 0⟩ : S25), (⟨3, 0, 0⟩ : S25), (⟨4, 0, 0⟩ : S25), (⟨5, 0, 0⟩ : S25)]:=by
  rintro a b c ⟨h | h | h | h, rfl, rfl⟩ <;> subst h <;> simp
 have head3 : ∀ {b c : Int}, (0≤b∧b≤99)→(0≤c∧c≤99)→deedOf 0 b c=s→L.length=3∧v1=b∧v2=c:=by
  rintro b c hb hc rfl
  have p : L=[⟨#[104, 101, 97, 100]⟩, num b.toNat, num c.toNat] := hlist (by rw [deedOf0 hb hc, cut_head hb hc]; rfl)
  subst p
  exact ⟨rfl, uniq e1 (num_dig hb.1 hb.2), uniq e2 (num_dig hc.1 hc.2)⟩
 have add2 : ∀ {b : Int}, (0≤b∧b≤99)→deedOf 1 b 0=s→L.length=2∧v1=b:=by
  rintro b hb rfl
  have p : L=[⟨#[97, 100, 100]⟩, num b.toNat] := hlist (by rw [deedOf1 hb, cut_add hb]; rfl)
  subst p
  exact ⟨rfl, uniq e1 (num_dig hb.1 hb.2)⟩
 unfold spec_ReadDeed.f
 refine Ev.bind hL (Ev.bind0 rfl ?_)
 have r1 : rdOf ByteArray.empty L 1=L.getD 1 ByteArray.empty := rdS L 1
 have r2 : rdOf ByteArray.empty L 2=L.getD 2 ByteArray.empty := rdS L 2
 by_cases h3 : (L.length:Int)=3
 ·refine Ev.pos h3 (Ev.pos (by omega) (Ev.bind (a := v1) (by rw [r1]; exact e1) (Ev.pos (by omega) (Ev.bind (a := v2) (by rw [r2]; exact e2) (Ev.pos (by decide) ?_)))))
  refine Ev.step (fun k=>by rw [spec_ReadDeed.j0]) ?_
  refine Ev.neg (by omega) (j1 _ (by simp) ?_)
  intro a b c h0 e
  rcases hasText_of h0 with ⟨rfl, hb, hc⟩ | ⟨rfl, hb, rfl⟩ | h
  ·obtain ⟨_, rfl, rfl⟩:=head3 hb hc e
   simp
  ·have := add2 hb e; omega
  ·exact List.mem_append_left _ (four h)
 ·refine Ev.neg h3 ?_
  by_cases h2 : (L.length:Int)=2
  ·refine Ev.step (fun k=>by rw [spec_ReadDeed.j0]) ?_
   refine Ev.pos h2 (Ev.pos (by omega) (Ev.bind (a := v1) (by rw [r1]; exact e1) (Ev.pos (by decide) (j1 _ (by simp) ?_))))
   intro a b c h0 e
   rcases hasText_of h0 with ⟨rfl, hb, hc⟩ | ⟨rfl, hb, rfl⟩ | h
   ·have := head3 hb hc e; omega
   ·obtain ⟨_, rfl⟩:=add2 hb e
    simp
   ·exact List.mem_append_left _ (four h)
  ·refine Ev.step (fun k=>by rw [spec_ReadDeed.j0]) ?_
   refine Ev.neg h2 (j1 _ (by simp) ?_)
   intro a b c h0 e
   rcases hasText_of h0 with ⟨rfl, hb, hc⟩ | ⟨rfl, hb, rfl⟩ | h
   ·have := head3 hb hc e; omega
   ·have := add2 hb e; omega
   ·exact four h
theorem deedOf_size (a b c:Int) : (deedOf a b c).size≤10:=by
 have s1 := num_size b.toNat
 have s2 := num_size c.toNat
 have s3 : (⟨#[104, 101, 97, 100, 32]⟩ : ByteArray).size=5 := rfl
 have s4 : (⟨#[32]⟩ : ByteArray).size=1 := rfl
 have s5 : (⟨#[97, 100, 100, 32]⟩ : ByteArray).size=4 := rfl
 unfold deedOf
 split
 ·rw [ByteArray.size_append, ByteArray.size_append, ByteArray.size_append]; omega
 split
 ·rw [ByteArray.size_append]; omega
 split
 ·decide
 split
 ·decide
 split
 ·decide
 split
 ·decide
 ·decide
def walkOk (l : List Int) : Nat→Int→Bool
 | 0, a => decide (a≤0)
 | m+1, a => if a≤0 then true else decide (0≤rd l (a - 1)∧rd l (a - 1)≤l.length) && walkOk l m (rd l (a - 1))
def okAt (l : List Int) (i:Nat) : Bool := decide (0≤rd l i∧rd l i≤l.length) && walkOk l l.length ((i:Int)+1)
def zerosFrom (l : List Int) (j:Nat) : Nat := (l.drop j).count 0
def treeOk (l : List Int) : Bool := decide (1≤l.length∧l.length≤8) && (List.range l.length).all (okAt l) && decide (l.count 0=1)
theorem walkOk_self (l : List Int) (a:Int) (ha : 0<a) (h : rd l (a - 1)=a) : ∀ m, walkOk l m a=false
 | 0 => by simp [walkOk]; omega
 | m+1 => by
  unfold walkOk
  rw [if_neg (by omega), h, walkOk_self l a ha h m, Bool.and_false]
theorem zerosFrom_succ (l : List Int) (j:Nat) (h : j<l.length) : zerosFrom l j=(if rd l j=0 then 1 else 0)+zerosFrom l (j+1):=by
 unfold zerosFrom
 rw [List.drop_eq_getElem_cons h, List.count_cons]
 have e : rd l j=l[j] := by simp [rd_nat, h]
 rw [e]
 by_cases e : l[j]=0 <;> simp [e, Nat.add_comm]
theorem all_from (p : Nat→Bool) (n j:Nat) (h : j<n) : ((List.range' j (n - j)).all p)=(p j && (List.range' (j+1) (n - (j+1))).all p):=by
 obtain ⟨d, hd⟩ : ∃ d, n - j=d+1 := ⟨n - j - 1,by omega⟩
 rw [hd, List.range'_succ, List.all_cons, show n - (j+1)=d by omega]
def restOk (l : List Int) (r:Nat) (j:Nat) : Bool := (List.range' j (l.length - j)).all (okAt l) && decide (r+zerosFrom l j=1)
theorem restOk_end (l : List Int) (r:Nat) (j:Nat) (h : j=l.length) : restOk l r j=((r:Int) == 1):=by
 subst h
 unfold restOk zerosFrom
 simp
 rw [Bool.eq_iff_iff]; simp; omega
theorem restOk_bad (l : List Int) (r:Nat) (j:Nat) (h : j<l.length) (hb : okAt l j=false) : restOk l r j=false:=by
 unfold restOk
 rw [all_from _ _ _ h, hb]; rfl
theorem restOk_good (l : List Int) (r:Nat) (j:Nat) (h : j<l.length) (hb : okAt l j=true) : restOk l r j=restOk l (r+if rd l j=0 then 1 else 0) (j+1):=by
 unfold restOk
 rw [all_from _ _ _ h, hb, Bool.true_and, zerosFrom_succ l j h, Nat.add_assoc]
theorem restOk_zero (l : List Int) (h : 1≤l.length∧l.length≤8) : restOk l 0 0=treeOk l:=by
 unfold restOk treeOk zerosFrom
 rw [decide_eq_true h]
 simp [List.range_eq_range']
def inRange (l : List Int) (i:Nat) : Bool := decide (0≤rd l i∧rd l i≤l.length)
theorem mem_rd {l : List Int} {a : Int} (h0 : 0≤a) (h1 : a<l.length) (h : (List.range l.length).all (inRange l)=true) : 0≤rd l a∧rd l a≤l.length:=by
 rw [List.all_eq_true] at h
 have := h a.toNat (by simp; omega)
 unfold inRange at this
 rw [show ((a.toNat:Nat):Int)=a by omega] at this
 exact of_decide_eq_true this
def stepsOf (l : List Int) : Nat→Int→Nat→Int
 | 0, _, _ => -1
 | m+1, w, i => if rd l (w - 1)=0 then i else stepsOf l m (rd l (w - 1)) (i+1)
theorem stepsOf_neg (l : List Int) (h : (List.range l.length).all (inRange l)=true) : ∀ (m:Nat) (w:Int) (i:Nat), 0<w→w≤l.length→(decide (stepsOf l m w i<0)=!walkOk l m w)
 | 0, w, i, h0, h1 => by simp [stepsOf, walkOk]; omega
 | m+1, w, i, h0, h1 => by
  have hr := mem_rd (a := w - 1) (by omega) (by omega) h
  unfold stepsOf walkOk
  rw [if_neg (show ¬ w≤0 by omega), decide_eq_true hr, Bool.true_and]
  by_cases e : rd l (w - 1)=0
  ·rw [if_pos e, e, decide_eq_false (by omega)]
   cases m <;> simp [walkOk]
  ·rw [if_neg e]
   exact stepsOf_neg l h m _ _ (by omega) (by omega)
theorem impl_steps_l0 (l : List Int) (hl : l.length≤8) (h : (List.range l.length).all (inRange l)=true) (d:Nat) : ∀ (w:Int) (j:Nat), j+d=l.length→0<w→w≤l.length →
  Ev (fun k=>impl_steps.l0 k l w (l.length:Int) (j:Int)) (stepsOf l d w j):=by
 induction d with
 | zero =>
  intro w j hj h0 h1
  refine Ev.step (fun k=>impl_steps.l0.eq_2 ..) ?_
  exact Ev.neg (by omega) (Ev.ret rfl)
 | succ d ih =>
  intro w j hj h0 h1
  have hr := mem_rd (a := w - 1) (by omega) (by omega) h
  refine Ev.step (fun k=>impl_steps.l0.eq_2 ..) ?_
  rw [wrap_id (n := w - 1) (by omega) (by omega), wrap_add1 (by omega)]
  refine Ev.pos (by omega) (Ev.pos (by omega) (Ev.pos (by omega) (Ev.ite (fun e=>?_) (fun e=>?_))))
  ·exact Ev.ret (by unfold stepsOf; rw [if_pos e])
  ·exact Ev.eq (ih (rd l (w - 1)) (j+1) (by omega) (by omega) (by omega)) (by rw [stepsOf, if_neg e])
theorem impl_steps_ev (l : List Int) (hl : l.length≤8) (h : (List.range l.length).all (inRange l)=true) (w:Int) (h0 : 0<w) (h1 : w≤l.length) :
  Ev (fun k=>impl_steps.f k l w) (stepsOf l l.length w 0):=by
 unfold impl_steps.f
 exact impl_steps_l0 l hl h l.length w 0 (by omega) h0 h1
theorem impl_TreeOk_l1 (l : List Int) (hl : l.length≤8) (h : (List.range l.length).all (inRange l)=true) (r:Nat) (d:Nat) : ∀ (j:Nat), j+d=l.length →
  Ev (fun k=>impl_TreeOk.l1 k l (r:Int) (l.length:Int) (j:Int)) ((List.range' j (l.length - j)).all (fun i=>walkOk l l.length ((i:Int)+1)) && ((r:Int) == 1)):=by
 induction d with
 | zero =>
  intro j hj
  refine Ev.step (fun k=>impl_TreeOk.l1.eq_2 ..) ?_
  exact Ev.neg (by omega) (Ev.ret (by rw [show l.length - j=0 by omega]; rfl))
 | succ d ih =>
  intro j hj
  refine Ev.step (fun k=>impl_TreeOk.l1.eq_2 ..) ?_
  rw [wrap_add1 (by omega)]
  refine Ev.pos (by omega) (Ev.bind (impl_steps_ev l hl h _ (by omega) (by omega)) ?_)
  have hs := stepsOf_neg l h l.length ((j+1:Nat):Int) 0 (by omega) (by omega)
  refine Ev.ite (fun e=>?_) (fun e=>?_)
  ·rw [decide_eq_true e] at hs
   refine Ev.ret ?_
   rw [all_from _ _ _ (by omega), show walkOk l l.length ((j:Int)+1)=false by simpa using hs.symm]; rfl
  ·rw [decide_eq_false e] at hs
   refine Ev.eq (ih (j+1) (by omega)) ?_
   rw [all_from _ l.length j (by omega), show walkOk l l.length ((j:Int)+1)=true by simpa using hs.symm, Bool.true_and]
theorem impl_TreeOk_l0 (l : List Int) (h1 : 1≤l.length) (hl : l.length≤8) (d:Nat) : ∀ (r j:Nat), j+d=l.length→r≤j→(∀ i, i<j→inRange l i=true)→r+zerosFrom l j=l.count 0 →
  Ev (fun k=>impl_TreeOk.l0 k l (r:Int) l (l.length:Int) (j:Int)) (treeOk l):=by
 induction d with
 | zero =>
  intro r j hj hr hin hz
  have hall : (List.range l.length).all (inRange l)=true:=by
   rw [List.all_eq_true]; intro i hi; exact hin i (by have := List.mem_range.mp hi; omega)
  refine Ev.step (fun k=>impl_TreeOk.l0.eq_2 ..) ?_
  refine Ev.neg (by omega) (Ev.eq (impl_TreeOk_l1 l hl hall r l.length 0 (by omega)) ?_)
  have hz0 : zerosFrom l j=0 := by unfold zerosFrom; rw [List.drop_eq_nil_of_le (by omega)]; rfl
  have hrc : r=l.count 0 := by omega
  unfold treeOk
  rw [decide_eq_true (show 1≤l.length∧l.length≤8 from ⟨h1, hl⟩), Bool.true_and, Nat.sub_zero, ← List.range_eq_range', hrc]
  congr 1
  ·rw [Bool.eq_iff_iff, List.all_eq_true, List.all_eq_true]
   rw [List.all_eq_true] at hall
   constructor
   ·intro hw i hi
    have := hall i hi
    unfold inRange at this
    unfold okAt; rw [this, hw i hi]; rfl
   ·intro hw i hi
    have := hw i hi
    unfold okAt at this
    exact (Bool.and_eq_true_iff.mp this).2
  ·rw [Bool.eq_iff_iff]; simp; omega
 | succ d ih =>
  intro r j hj hr hin hz
  refine Ev.step (fun k=>impl_TreeOk.l0.eq_2 ..) ?_
  have hbad : ¬ (0≤rd l (j:Int)∧rd l (j:Int)≤(l.length:Int))→treeOk l=false:=by
   intro hb
   unfold treeOk
   have : (List.range l.length).all (okAt l)=false:=by
    rw [List.all_eq_false]
    exact ⟨j, by simp; omega, by unfold okAt; rw [decide_eq_false hb]; simp⟩
   rw [this]; simp
  refine Ev.pos (by omega) (Ev.pos (by omega) (Ev.pos (by omega) (Ev.ite (fun e=>?_) (fun e=>?_))))
  ·refine Ev.step (fun k=>impl_TreeOk.j2.eq_2 ..) (Ev.pos rfl (Ev.ret ?_))
   exact (hbad (by omega)).symm
  ·refine Ev.step (fun k=>impl_TreeOk.j2.eq_2 ..) (Ev.ite (fun e2=>?_) (fun e2=>?_))
   ·have e2' := of_decide_eq_true e2
    exact Ev.ret (hbad (by omega)).symm
   ·have e2' : ¬ rd l (j:Int) > (l.length:Int) := by simpa using e2
    have hin' : ∀ i, i<j+1→inRange l i=true:=by
     intro i hi
     by_cases e' : i=j
     ·subst e'; unfold inRange; exact decide_eq_true (by omega)
     ·exact hin i (by omega)
    have hzs := zerosFrom_succ l j (by omega)
    rw [wrap_add1 (n := j) (by omega)]
    refine Ev.ite (fun e3=>?_) (fun e3=>?_)
    ·rw [wrap_add1 (by omega)]
     rw [if_pos e3] at hzs
     exact ih (r+1) (j+1) (by omega) (by omega) hin' (by omega)
    ·rw [if_neg e3] at hzs
     exact ih r (j+1) (by omega) (by omega) hin' (by omega)
theorem impl_TreeOk_ev (l : List Int) : Ev (fun k=>impl_TreeOk.f k l) (treeOk l):=by
 unfold impl_TreeOk.f
 have hbad : ¬ (1≤l.length∧l.length≤8)→treeOk l=false:=by
  intro hb; unfold treeOk; rw [decide_eq_false hb]; rfl
 refine Ev.ite (fun e=>?_) (fun e=>?_)
 ·refine Ev.step (fun k=>impl_TreeOk.j0.eq_2 ..) (Ev.pos rfl (Ev.ret ?_))
  exact (hbad (by omega)).symm
 ·refine Ev.step (fun k=>impl_TreeOk.j0.eq_2 ..) (Ev.ite (fun e2=>?_) (fun e2=>?_))
  ·have e2' := of_decide_eq_true e2
   exact Ev.ret (hbad (by omega)).symm
  ·have e2' : ¬ (l.length:Int) > 8 := by simpa using e2
   exact impl_TreeOk_l0 l (by omega) (by omega) l.length 0 0 (by omega) (by omega) (fun i h => by omega) (by simp [zerosFrom])
theorem alive_ev : Ev (fun k=>laws_alive.f k) true:=by
 unfold laws_alive.f
 refine Ev.bind (impl_TreeOk_ev _) (Ev.pos (by decide +kernel) (Ev.bind (impl_TreeOk_ev _) (Ev.ret (by decide +kernel))))
theorem xor_small (a b:Int) (ha : 0≤a) (ha2 : a<4294967296) (hb : 0≤b) (hb2 : b<4294967296) : 0≤Go.bits .xor .i64 a b∧Go.bits .xor .i64 a b<4294967296:=by
 obtain ⟨x, rfl⟩ : ∃ x : Nat, a=x := ⟨a.toNat,by omega⟩
 obtain ⟨y, rfl⟩ : ∃ y : Nat, b=y := ⟨b.toNat,by omega⟩
 have h := Nat.xor_lt_two_pow (n := 32) (show x<2 ^ 32 by omega) (show y<2 ^ 32 by omega)
 have e : Go.bits .xor .i64 (x:Int) (y:Int)=((x ^^^ y:Nat):Int):=by
  have hx : x % 2 ^ 64=x := Nat.mod_eq_of_lt (by omega)
  have hy : y % 2 ^ 64=y := Nat.mod_eq_of_lt (by omega)
  have hv : (BitVec.ofNat 64 x ^^^ BitVec.ofNat 64 y).toNat=x ^^^ y := by rw [BitVec.toNat_xor, BitVec.toNat_ofNat, BitVec.toNat_ofNat, hx, hy]
  simp only [Go.bits, BitVec.ofInt_natCast, IntKind.bits]
  rw [i64_w]
  show wrap64 (((BitVec.ofNat 64 x ^^^ BitVec.ofNat 64 y).toNat:Nat):Int)=_
  rw [hv]
  exact wrap_id (n := ((x ^^^ y:Nat):Int)) (by omega) (by omega)
 rw [e]
 omega
structure Bytes (b : List Int) : Prop where
 small : ∀ x ∈ b, 0≤x∧x≤255
 len : b.length≤2000
theorem Bytes.rd_le {b : List Int} (h : Bytes b) (i:Int) : 0≤rd b i∧rd b i≤255:=by
 unfold rd
 by_cases hi : i.toNat<b.length
 ·have e : b.getD i.toNat 0=b[i.toNat] := by simp [hi]
  rw [e]; exact h.small _ (List.getElem_mem hi)
 ·have e : b.getD i.toNat 0=0 := by simp [Nat.le_of_not_lt hi]
  rw [e]; omega
theorem pick_ev {b : List Int} (hb : Bytes b) (p n:Int) (h0 : 0≤p) (h1 : p≤1000000) (hn : 1≤n) (hn2 : n≤1000000) :
  ∃ v, 0≤v∧v<n∧Ev (fun k=>spec_l20Rd_pick.f k b p n) (v, p+1):=by
 unfold spec_l20Rd_pick.f
 have hl := hb.len
 rw [wrap_id (n := p+1) (by omega) (by omega)]
 by_cases hz : b.length=0
 ·refine ⟨0,by omega,by omega, Ev.neg (by omega) (Ev.step (fun k=>spec_l20Rd_pick.j0.eq_2 ..) (Ev.pos (by rw [hz]; rfl) (Ev.ret rfl)))⟩
 ·by_cases hp : p<b.length
  ·have hr := hb.rd_le p
   refine ⟨Int.tmod (rd b p) n, Int.tmod_nonneg _ hr.1, Int.tmod_lt_of_pos _ (by omega), ?_⟩
   refine Ev.neg (by omega) (Ev.step (fun k=>spec_l20Rd_pick.j0.eq_2 ..) (Ev.neg (by simp; intro e; simp [e] at hz) ?_))
   rw [wrap_id (n := p+1 - 1) (by omega) (by omega), show p+1 - 1=p by omega, wrap_id (n := rd b p) (by omega) (by omega)]
   exact Ev.pos hp (Ev.pos h0 (Ev.neg (by omega) (Ev.ret rfl)))
  ·have e0 : wrap64 (p+1 - 1)=p := by rw [wrap_id (by omega) (by omega)]; omega
   have hm1 : 0≤Int.tmod p (b.length:Int)∧Int.tmod p (b.length:Int)<b.length := ⟨Int.tmod_nonneg _ h0, Int.tmod_lt_of_pos _ (by omega)⟩
   have e1 : wrap64 (wrap64 (p * 7)+3)=p * 7+3 := by rw [wrap_id (n := p * 7) (by omega) (by omega), wrap_id (by omega) (by omega)]
   have hm2 : 0≤Int.tmod (p * 7+3) (b.length:Int)∧Int.tmod (p * 7+3) (b.length:Int)<b.length := ⟨Int.tmod_nonneg _ (by omega), Int.tmod_lt_of_pos _ (by omega)⟩
   have hr1 := hb.rd_le (Int.tmod p (b.length:Int))
   have hr2 := hb.rd_le (Int.tmod (p * 7+3) (b.length:Int))
   have hd : 0≤Int.tdiv p (b.length:Int)∧Int.tdiv p (b.length:Int)≤p:=by
    rw [Int.tdiv_eq_ediv_of_nonneg h0]
    exact ⟨Int.ediv_nonneg h0 (by omega), Int.ediv_le_self _ h0⟩
   obtain ⟨u1, hu1⟩ : ∃ u, u=rd b (Int.tmod p (b.length:Int)) := ⟨_, rfl⟩
   obtain ⟨u2, hu2⟩ : ∃ u, u=rd b (Int.tmod (p * 7+3) (b.length:Int)) := ⟨_, rfl⟩
   obtain ⟨q, hq⟩ : ∃ u, u=Int.tdiv p (b.length:Int) := ⟨_, rfl⟩
   rw [← hu1] at hr1
   rw [← hu2] at hr2
   rw [← hq] at hd
   obtain ⟨x, hx⟩ : ∃ x, x=wrap64 (wrap64 (wrap64 (wrap64 (wrap64 u1 * 131)+wrap64 (wrap64 u2 * 1117))+wrap64 (p * 29))+wrap64 (wrap64 q * 53)) := ⟨_, rfl⟩
   have hxb : 0≤x∧x<4294967296:=by
    rw [hx, wrap_id (n := u1) (by omega) (by omega), wrap_id (n := u2) (by omega) (by omega), wrap_id (n := u1 * 131) (by omega) (by omega), wrap_id (n := u2 * 1117) (by omega) (by omega), wrap_id (n := u1 * 131+_) (by omega) (by omega), wrap_id (n := p * 29) (by omega) (by omega), wrap_id (n := q) (by omega) (by omega), wrap_id (n := q * 53) (by omega) (by omega), wrap_id (n := u1 * 131+u2 * 1117+p * 29) (by omega) (by omega), wrap_id (by omega) (by omega)]
    omega
   have hy : 0≤wrap64 (Int.tdiv x 64)∧wrap64 (Int.tdiv x 64)<4294967296:=by
    rw [Int.tdiv_eq_ediv_of_nonneg hxb.1, wrap_id (by omega) (by omega)]
    omega
   have hz2 := xor_small x (wrap64 (Int.tdiv x 64)) hxb.1 hxb.2 hy.1 hy.2
   refine ⟨Int.tmod (Go.bits .xor .i64 x (wrap64 (Int.tdiv x 64))) n, Int.tmod_nonneg _ hz2.1, Int.tmod_lt_of_pos _ (by omega), ?_⟩
   refine Ev.neg (by omega) (Ev.step (fun k=>spec_l20Rd_pick.j0.eq_2 ..) (Ev.neg (by simp; intro e; simp [e] at hz) ?_))
   rw [e0, e1, ← hu1, ← hu2, ← hq, ← hx]
   exact Ev.neg hp (Ev.neg (by omega) (Ev.pos hm1.1 (Ev.pos hm1.2 (Ev.pos hm2.1 (Ev.pos hm2.2 (Ev.neg (by omega) (Ev.ret rfl)))))))
theorem l20Open_ev (l : List Int) (hb : ∀ x ∈ l, (Lit.int .u8 x).wf=true) : ∃ b, Bytes b∧spec_l20Open.f l=some (b, 0):=by
 have hs : ∀ x ∈ l, 0≤x∧x≤255:=by
  intro x hx
  have := hb x hx
  simp [Lit.wf, IntKind.min, IntKind.max, IntKind.signed, IntKind.bits] at this
  omega
 unfold spec_l20Open.f
 by_cases h : (l.length:Int) > 2000
 ·rw [if_pos h, if_pos (by omega)]
  exact ⟨l.take 2000, ⟨fun x hx => hs x (List.mem_of_mem_take hx), by simp; omega⟩, rfl⟩
 ·rw [if_neg h]
  exact ⟨l, ⟨hs,by omega⟩, rfl⟩
theorem odd_ev {b : List Int} (hb : Bytes b) (p n:Int) (h0 : 0≤p) (h1 : p≤1000000) (hn : 1≤n) (hn2 : n≤1000000) :
  ∃ v, Ev (fun k=>spec_l20Rd_odd.f k b p n) (v, p+1):=by
 obtain ⟨v, _, _, hv⟩:=pick_ev hb p n h0 h1 hn hn2
 unfold spec_l20Rd_odd.f
 exact ⟨_, Ev.pos (by omega) (Ev.bind hv (Ev.ret rfl))⟩
theorem odd_evG {b : List Int} (hb : Bytes b) (p n:Int) (h0 : 0≤p) (h1 : p≤1000000) (hn : 0≤n) (hn2 : n≤1000000) :
  ∃ v q, Ev (fun k=>spec_l20Rd_odd.f k b p n) (v, q)∧p≤q∧q≤p+1:=by
 by_cases h : 1≤n
 ·obtain ⟨v, hv⟩:=odd_ev hb p n h0 h1 h hn2
  exact ⟨v, p+1, hv,by omega,by omega⟩
 ·unfold spec_l20Rd_odd.f
  exact ⟨false, p, Ev.neg (by omega) (Ev.ret rfl),by omega,by omega⟩
theorem deed_j0 {b : List Int} (hb : Bytes b) (p x y z:Int) (hp : 0≤p) (hp2 : p≤900000) :
  ∃ c p', Ev (fun k=>spec_l20Deed.j0 k b p x y z) (x, y, c, p')∧p≤p'∧p'≤p+2:=by
 obtain ⟨o, ho⟩:=odd_ev hb p 40 hp (by omega) (by omega) (by omega)
 by_cases h : o=true
 ·obtain ⟨v, hv0, hv1, hv⟩:=pick_ev hb (p+1) 3 (by omega) (by omega) (by omega) (by omega)
  refine ⟨rd [-1, 9, 100] v, p+1+1, Ev.step (fun k=>spec_l20Deed.j0.eq_2 ..) (Ev.bind ho (Ev.pos h ?_)),by omega,by omega⟩
  simp only [Option.bind_some]
  exact Ev.bind hv (Ev.pos hv0 (Ev.pos (show v<(3:Int) by omega) (Ev.ret rfl)))
 ·exact ⟨z, p+1, Ev.step (fun k=>spec_l20Deed.j0.eq_2 ..) (Ev.bind ho (Ev.neg h (Ev.ret rfl))),by omega,by omega⟩
theorem deed_ev {b : List Int} (hb : Bytes b) (p:Int) (l : List Int) (hp : 0≤p) (hp2 : p≤800000) (hl : l.length≤1000) :
  ∃ x y z p', Ev (fun k=>spec_l20Deed.f k b p l) (x, y, z, p')∧p≤p'∧p'≤p+6:=by
 obtain ⟨v, hv0, hv1, hv⟩:=pick_ev hb p 8 hp (by omega) (by omega) (by omega)
 obtain ⟨u, hu0, hu1, hu⟩:=pick_ev hb (p+1) 60 (by omega) (by omega) (by omega) (by omega)
 have e : wrap64 ((l.length:Int)+1)=(l.length:Int)+1 := wrap_id (by omega) (by omega)
 unfold spec_l20Deed.f
 simp only [Option.bind_some]
 obtain ⟨K, hK⟩ : ∃ K, wrap64 (rd [0, 0, 1, 1, 2, 3, 4, 5] v+wrap64 (wrap64 (Int.tdiv u 59) * 6))=K := ⟨_, rfl⟩
 have go : ∀ (x y z p':Int), Ev (fun k=>if K=0 then ((spec_l20Rd_pick.f k b (p+1+1) (mx (l.length:Int) 1)).bind fun s=>((spec_l20Rd_pick.f k b s.2 (wrap64 ((l.length:Int)+1))).bind fun t=>spec_l20Deed.j0 k b t.2 K (wrap64 (1+s.1)) t.1)) else (if K=1 then ((spec_l20Rd_pick.f k b (p+1+1) (wrap64 ((l.length:Int)+1))).bind fun s=>((spec_l20Rd_pick.f k b s.2 9).bind fun t=>spec_l20Deed.j0 k b t.2 K (wrap64 (s.1+wrap64 (Int.tdiv t.1 8))) 0)) else spec_l20Deed.j0 k b (p+1+1) K 0 0)) (x, y, z, p')→p≤p'→p'≤p+6 →
   ∃ x y z p', Ev (fun k=>(spec_l20Rd_pick.f k b p 8).bind fun bt333=>(if 0≤bt333.1 then (if bt333.1<((([0, 0, 1, 1, 2, 3, 4, 5] : List Int)).length:Int) then ((spec_l20Rd_pick.f k b bt333.2 60).bind fun bt336=>(if (wrap64 ((rd [0, 0, 1, 1, 2, 3, 4, 5] bt333.1)+(wrap64 ((wrap64 (Int.tdiv bt336.1 59)) * 6))))=0 then ((spec_l20Rd_pick.f k b bt336.2 (mx (l.length:Int) 1)).bind fun bt339=>((spec_l20Rd_pick.f k b bt339.2 (wrap64 ((l.length:Int)+1))).bind fun bt341=>(spec_l20Deed.j0 k b bt341.2 (wrap64 ((rd [0, 0, 1, 1, 2, 3, 4, 5] bt333.1)+(wrap64 ((wrap64 (Int.tdiv bt336.1 59)) * 6)))) (wrap64 (1+bt339.1)) bt341.1))) else (if (wrap64 ((rd [0, 0, 1, 1, 2, 3, 4, 5] bt333.1)+(wrap64 ((wrap64 (Int.tdiv bt336.1 59)) * 6))))=1 then ((spec_l20Rd_pick.f k b bt336.2 (wrap64 ((l.length:Int)+1))).bind fun bt343=>((spec_l20Rd_pick.f k b bt343.2 9).bind fun bt345=>(spec_l20Deed.j0 k b bt345.2 (wrap64 ((rd [0, 0, 1, 1, 2, 3, 4, 5] bt333.1)+(wrap64 ((wrap64 (Int.tdiv bt336.1 59)) * 6)))) (wrap64 (bt343.1+(wrap64 (Int.tdiv bt345.1 8)))) 0))) else (spec_l20Deed.j0 k b bt336.2 (wrap64 ((rd [0, 0, 1, 1, 2, 3, 4, 5] bt333.1)+(wrap64 ((wrap64 (Int.tdiv bt336.1 59)) * 6)))) 0 0)))) else (none)) else (none))) (x, y, z, p')∧p≤p'∧p'≤p+6:=by
  intro x y z p' h h1 h2
  refine ⟨x, y, z, p', Ev.bind hv (Ev.pos hv0 (Ev.pos (show v<(8:Int) by omega) (Ev.bind hu ?_))), h1, h2⟩
  simp only [hK]
  exact h
 by_cases k0 : K=0
 ·obtain ⟨s, hs0, hs1, hs⟩:=pick_ev hb (p+1+1) (mx (l.length:Int) 1) (by omega) (by omega) (by unfold mx; split <;> omega) (by unfold mx; split <;> omega)
  obtain ⟨t, ht0, ht1, ht⟩:=pick_ev hb (p+1+1+1) (wrap64 ((l.length:Int)+1)) (by omega) (by omega) (by rw [e]; omega) (by rw [e]; omega)
  obtain ⟨c, p', h, h1, h2⟩:=deed_j0 hb (p+1+1+1+1) K (wrap64 (1+s)) t (by omega) (by omega)
  exact go _ _ _ _ (Ev.pos k0 (Ev.bind hs (Ev.bind ht h))) (by omega) (by omega)
 ·by_cases k1 : K=1
  ·obtain ⟨s, hs0, hs1, hs⟩:=pick_ev hb (p+1+1) (wrap64 ((l.length:Int)+1)) (by omega) (by omega) (by rw [e]; omega) (by rw [e]; omega)
   obtain ⟨t, ht0, ht1, ht⟩:=pick_ev hb (p+1+1+1) 9 (by omega) (by omega) (by omega) (by omega)
   obtain ⟨c, p', h, h1, h2⟩:=deed_j0 hb (p+1+1+1+1) K (wrap64 (s+wrap64 (Int.tdiv t 8))) 0 (by omega) (by omega)
   exact go _ _ _ _ (Ev.neg k0 (Ev.pos k1 (Ev.bind hs (Ev.bind ht h)))) (by omega) (by omega)
  ·obtain ⟨c, p', h, h1, h2⟩:=deed_j0 hb (p+1+1) K 0 0 (by omega) (by omega)
   exact go _ _ _ _ (Ev.neg k0 (Ev.neg k1 h)) (by omega) (by omega)
def Within (n:Int) (l : List Int) : Prop := ∀ x ∈ l, 1≤x∧x≤n
theorem Within.get {n : Int} {l : List Int} (h : Within n l) {i : Int} (h0 : 0≤i) (h1 : i<l.length) : 1≤rd l i∧rd l i≤n:=by
 have e : rd l i=l[i.toNat]'(by omega) := by unfold rd; simp [show i.toNat<l.length by omega]
 rw [e]; exact h _ (List.getElem_mem _)
theorem order_next (x5 : List Int) (m x7:Int) (h7 : 1≤x7) (hw : Within (x7 - 1) x5) (h0 : 0≤m) (h1 : m≤x5.length) :
  Within x7 (([] ++ x5.take m.toNat ++ [x7]) ++ x5.drop m.toNat)∧(([] ++ x5.take m.toNat ++ [x7]) ++ x5.drop m.toNat).length=x5.length+1:=by
 constructor
 ·intro x hx
  simp only [List.nil_append, List.append_assoc, List.mem_append, List.mem_singleton] at hx
  rcases hx with hx | hx | hx
  ·have := hw x (List.mem_of_mem_take hx); omega
  ·omega
  ·have := hw x (List.mem_of_mem_drop hx); omega
 ·simp; omega
theorem order_l0 {b : List Int} (hb : Bytes b) (n keep:Int) (hn : n≤100) (d:Nat) : ∀ (x5 : List Int) (x7 p:Int), x7+d=n+1→1≤x7→(x5.length:Int)=x7 - 1→Within (x7 - 1) x5→0≤p→p≤1000+2 * x7 →
  ∃ r p', Ev (fun k=>spec_l20Order.l0 k n x5 keep x7 b p) (r, p')∧(r.length:Int)=n∧Within n r∧p≤p'∧p'≤p+2 * d:=by
 induction d with
 | zero =>
  intro x5 x7 p h7 h1 hl hw hp hp2
  refine ⟨x5, p, Ev.step (fun k=>spec_l20Order.l0.eq_2 ..) (Ev.neg (by omega) (Ev.ret rfl)),by omega, ?_,by omega,by omega⟩
  intro x hx
  have := hw x hx
  omega
 | succ d ih =>
  intro x5 x7 p h7 h1 hl hw hp hp2
  have put : ∀ (m p':Int), 0≤m→m≤x5.length→p≤p'→p'≤p+2→∃ r p'', Ev (fun k=>spec_l20Order.l0 k n (([] ++ x5.take m.toNat ++ [x7]) ++ x5.drop m.toNat) keep (x7+1) b p') (r, p'')∧(r.length:Int)=n∧Within n r∧p≤p''∧p''≤p+2 * ((d+1:Nat):Int):=by
   intro m p' hm0 hm1 hpp hpp2
   obtain ⟨hw', hl'⟩:=order_next x5 m x7 h1 hw hm0 hm1
   obtain ⟨r, p'', h1, h2, h3, h4, h5⟩:=ih (([] ++ x5.take m.toNat ++ [x7]) ++ x5.drop m.toNat) (x7+1) p' (by omega) (by omega) (by omega) (by rw [show x7+1 - 1=x7 by omega]; exact hw') (by omega) (by omega)
   exact ⟨r, p'', h1, h2, h3,by omega,by omega⟩
  have hlen : ∀ m : Int, 0≤m→m≤x5.length→(x5.take m.toNat).length≤200∧(x5.drop m.toNat).length≤200:=by
   intro m _ _; simp; omega
  by_cases hk : keep=0
  ·obtain ⟨v, hv0, hv1, hv⟩:=pick_ev hb p x7 hp (by omega) h1 (by omega)
   obtain ⟨r, p'', h, hrest⟩:=put v (p+1) hv0 (by omega) (by omega) (by omega)
   have hlen' := hlen v hv0 (by omega)
   refine ⟨r, p'', Ev.step (fun k=>spec_l20Order.l0.eq_2 ..) (Ev.pos (by omega) (Ev.pos hk (Ev.bind hv ?_))), hrest⟩
   simp only [Option.bind_some]
   rw [wrap_id (n := x7+1) (by omega) (by omega)]
   refine Ev.pos hv0 (Ev.pos (show v≤x5.length by omega) (Ev.pos ?_ (Ev.pos ?_ (Ev.pos ?_ h))))
   ·simp only [List.length_nil]; omega
   ·simp only [List.length_append, List.length_nil]; omega
   ·simp only [List.length_append, List.length_nil, List.length_singleton]; omega
  ·obtain ⟨u, hu0, hu1, hu⟩:=pick_ev hb p 3 hp (by omega) (by omega) (by omega)
   by_cases hu3 : u=0
   ·obtain ⟨v, hv0, hv1, hv⟩:=pick_ev hb (p+1) x7 (by omega) (by omega) h1 (by omega)
    obtain ⟨r, p'', h, hrest⟩:=put v (p+1+1) hv0 (by omega) (by omega) (by omega)
    have hlen' := hlen v hv0 (by omega)
    refine ⟨r, p'', Ev.step (fun k=>spec_l20Order.l0.eq_2 ..) (Ev.pos (by omega) (Ev.neg hk (Ev.bind hu (Ev.pos hu3 (Ev.bind hv ?_))))), hrest⟩
    simp only [Option.bind_some]
    rw [wrap_id (n := x7+1) (by omega) (by omega)]
    refine Ev.pos hv0 (Ev.pos (show v≤x5.length by omega) (Ev.pos ?_ (Ev.pos ?_ (Ev.pos ?_ h))))
    ·simp only [List.length_nil]; omega
    ·simp only [List.length_append, List.length_nil]; omega
    ·simp only [List.length_append, List.length_nil, List.length_singleton]; omega
   ·obtain ⟨r, p'', h, hrest⟩:=put (x5.length:Int) (p+1) (by omega) (by omega) (by omega) (by omega)
    have hlen' := hlen (x5.length:Int) (by omega) (by omega)
    refine ⟨r, p'', Ev.step (fun k=>spec_l20Order.l0.eq_2 ..) (Ev.pos (by omega) (Ev.neg hk (Ev.bind hu (Ev.neg hu3 ?_)))), hrest⟩
    simp only [Option.bind_some]
    rw [wrap_id (n := x7+1) (by omega) (by omega)]
    refine Ev.pos (by omega) (Ev.pos (by omega) (Ev.pos ?_ (Ev.pos ?_ (Ev.pos ?_ h))))
    ·simp only [List.length_nil]; omega
    ·simp only [List.length_append, List.length_nil]; omega
    ·simp only [List.length_append, List.length_nil, List.length_singleton]; omega
theorem order_ev {b : List Int} (hb : Bytes b) (p n:Int) (hp : 0≤p) (hp2 : p≤1000) (h0 : 0≤n) (hn : n≤100) :
  ∃ r p', Ev (fun k=>spec_l20Order.f k b p n) (r, p')∧(r.length:Int)=n∧Within n r∧p≤p'∧p'≤p+1+2 * n:=by
 obtain ⟨v, hv0, hv1, hv⟩:=pick_ev hb p 2 hp (by omega) (by omega) (by omega)
 obtain ⟨r, p', h, h1, h2, h3, h4⟩:=order_l0 hb n v hn n.toNat [] 1 (p+1) (by omega) (by omega) (by simp) (by intro x hx; simp at hx) (by omega) (by omega)
 unfold spec_l20Order.f
 exact ⟨r, p', Ev.bind hv h, h1, h2,by omega,by omega⟩
theorem tree_l0 {b : List Int} (hb : Bytes b) (n many near:Int) (ord : List Int) (hm : 1≤many) (hm2 : many≤8) (hn : 0≤n) (hn2 : n≤1000) (hol : (ord.length:Int)=many) (how : Within many ord) (d:Nat) :
  ∀ (heads : List Int) (x9 p:Int), x9+d=many→1≤x9→(heads.length:Int)=many→0≤p→p≤1500+2 * x9 →
  ∃ r p', Ev (fun k=>spec_l20Tree.l0 k n many ord heads near x9 b p) (r, p')∧r.length≤9∧p≤p'∧p'≤p+2 * d+3:=by
 induction d with
 | zero =>
  intro heads x9 p h9 h1 hl hp hp2
  obtain ⟨o, q, ho, hq1, hq2⟩:=odd_evG hb p n hp (by omega) hn (by omega)
  by_cases ho1 : o=true
  ·obtain ⟨u, hu0, hu1, hu⟩:=pick_ev hb (q) 4 (by omega) (by omega) (by omega) (by omega)
   by_cases e0 : u=0
   ·exact ⟨[], q+1, Ev.step (fun k=>spec_l20Tree.l0.eq_2 ..) (Ev.neg (by omega) (Ev.bind ho (Ev.pos ho1 (Ev.bind hu (Ev.pos e0 (Ev.ret rfl)))))), by simp,by omega,by omega⟩
   ·by_cases e1 : u=1
    ·exact ⟨[2, 1, 0], q+1, Ev.step (fun k=>spec_l20Tree.l0.eq_2 ..) (Ev.neg (by omega) (Ev.bind ho (Ev.pos ho1 (Ev.bind hu (Ev.neg e0 (Ev.pos e1 (Ev.ret rfl))))))), by simp,by omega,by omega⟩
    ·by_cases e2 : u=2
     ·obtain ⟨v, hv0, hv1, hv⟩:=pick_ev hb (q+1) many (by omega) (by omega) (by omega) (by omega)
      refine ⟨heads.set v.toNat 0 ++ [0], q+1+1, Ev.step (fun k=>spec_l20Tree.l0.eq_2 ..) (Ev.neg (by omega) (Ev.bind ho (Ev.pos ho1 (Ev.bind hu (Ev.neg e0 (Ev.neg e1 (Ev.pos e2 (Ev.bind hv (Ev.pos hv0 (Ev.pos (by omega) ?_)))))))))), by simp; omega,by omega,by omega⟩
      simp only [Option.bind_some]
      exact Ev.pos (by rw [List.length_set]; omega) (Ev.ret rfl)
     ·obtain ⟨v, hv0, hv1, hv⟩:=pick_ev hb (q+1) 3 (by omega) (by omega) (by omega) (by omega)
      refine ⟨heads.set 0 (rd [1, wrap64 (many+1), -1] v), q+1+1, Ev.step (fun k=>spec_l20Tree.l0.eq_2 ..) (Ev.neg (by omega) (Ev.bind ho (Ev.pos ho1 (Ev.bind hu (Ev.neg e0 (Ev.neg e1 (Ev.neg e2 ?_))))))), by simp; omega,by omega,by omega⟩
      simp only [Option.bind_some]
      exact Ev.bind hv (Ev.pos hv0 (Ev.pos (show v<(3:Int) by omega) (Ev.pos (by omega) (Ev.ret rfl))))
  ·exact ⟨heads, q, Ev.step (fun k=>spec_l20Tree.l0.eq_2 ..) (Ev.neg (by omega) (Ev.bind ho (Ev.neg ho1 (Ev.ret rfl)))),by omega,by omega,by omega⟩
 | succ d ih =>
  intro heads x9 p h9 h1 hl hp hp2
  obtain ⟨v, hv0, hv1, hv⟩:=pick_ev hb p x9 hp (by omega) h1 (by omega)
  have hr9 := how.get (i := x9) (by omega) (by omega)
  have next : ∀ (y p':Int), p≤p'→p'≤p+2→∃ r p'', Ev (fun k=>spec_l20Tree.l0 k n many ord (heads.set (rd ord x9 - 1).toNat y) near (x9+1) b p') (r, p'')∧r.length≤9∧p≤p''∧p''≤p+2 * ((d+1:Nat):Int)+3:=by
   intro y p' hpp hpp2
   obtain ⟨r, p'', h1, h2, h3, h4⟩:=ih (heads.set (rd ord x9 - 1).toNat y) (x9+1) p' (by omega) (by omega) (by simpa using hl) (by omega) (by omega)
   exact ⟨r, p'', h1, h2,by omega,by omega⟩
  have e1 : wrap64 (x9+1)=x9+1 := wrap_id (by omega) (by omega)
  have e2 : wrap64 (x9 - 1)=x9 - 1 := wrap_id (by omega) (by omega)
  have e3 : wrap64 (rd ord x9 - 1)=rd ord x9 - 1 := wrap_id (by omega) (by omega)
  by_cases hnr : near=1
  ·obtain ⟨u, hu0, hu1, hu⟩:=pick_ev hb (p+1) 2 (by omega) (by omega) (by omega) (by omega)
   by_cases hu2 : u=0
   ·obtain ⟨r, p'', h, hrest⟩:=next (rd ord (x9 - 1)) (p+1+1) (by omega) (by omega)
    refine ⟨r, p'', Ev.step (fun k=>spec_l20Tree.l0.eq_2 ..) ?_, hrest⟩
    rw [e1, e2, e3]
    exact Ev.pos (by omega) (Ev.bind hv (Ev.pos hnr (Ev.bind hu (Ev.pos hu2 (Ev.pos (by omega) (Ev.pos (by omega) (Ev.pos (by omega) (Ev.pos (by omega) (Ev.pos (by omega) (Ev.pos (by omega) h))))))))))
   ·obtain ⟨r, p'', h, hrest⟩:=next (rd ord v) (p+1+1) (by omega) (by omega)
    refine ⟨r, p'', Ev.step (fun k=>spec_l20Tree.l0.eq_2 ..) ?_, hrest⟩
    rw [e1, e2, e3]
    exact Ev.pos (by omega) (Ev.bind hv (Ev.pos hnr (Ev.bind hu (Ev.neg hu2 (Ev.pos (by omega) (Ev.pos (by omega) (Ev.pos (by omega) (Ev.pos (by omega) (Ev.pos (by omega) (Ev.pos (by omega) h))))))))))
  ·obtain ⟨r, p'', h, hrest⟩:=next (rd ord v) (p+1) (by omega) (by omega)
   refine ⟨r, p'', Ev.step (fun k=>spec_l20Tree.l0.eq_2 ..) ?_, hrest⟩
   rw [e1, e2, e3]
   exact Ev.pos (by omega) (Ev.bind hv (Ev.neg hnr (Ev.pos (by omega) (Ev.pos (by omega) (Ev.pos (by omega) (Ev.pos (by omega) (Ev.pos (by omega) (Ev.pos (by omega) h))))))))
theorem tree_ev {b : List Int} (hb : Bytes b) (p n:Int) (hp : 0≤p) (hp2 : p≤500) (hn : 0≤n) (hn2 : n≤1000) :
  ∃ r p', Ev (fun k=>spec_l20Tree.f k b p n) (r, p')∧r.length≤9∧p≤p'∧p'≤p+60:=by
 obtain ⟨v, hv0, hv1, hv⟩:=pick_ev hb p 7 hp (by omega) (by omega) (by omega)
 have e : wrap64 (1+v)=1+v := wrap_id (by omega) (by omega)
 obtain ⟨o, p1, ho, hol, how,hp1,hp1'⟩:=order_ev hb (p+1) (1+v) (by omega) (by omega) (by omega) (by omega)
 obtain ⟨u, hu0, hu1, hu⟩:=pick_ev hb p1 2 (by omega) (by omega) (by omega) (by omega)
 obtain ⟨r, p', h, h1, h2, h3⟩:=tree_l0 hb n (1+v) u o (by omega) (by omega) hn hn2 hol how v.toNat (List.replicate (1+v).toNat 0) 1 (p1+1) (by omega) (by omega) (by simp; omega) (by omega) (by omega)
 unfold spec_l20Tree.f
 refine ⟨r, p', Ev.bind hv ?_, h1,by omega,by omega⟩
 rw [e]
 exact Ev.bind ho (Ev.pos (by omega) (Ev.pos (by omega) (Ev.bind hu h)))
theorem fill_ev {b : List Int} (hb : Bytes b) (n:Nat) (hn : n≤8) (s:Nat) : ∀ (heads : List Int) (lo hi hd p:Int), heads.length=n→1≤lo→lo≤hi→hi≤n→hi - lo+1≤s→0≤p→p+2 * (hi - lo+1)≤5001 →
  ∃ r p', Ev (fun k=>spec_l20Fill.f k b p heads lo hi hd) (p', r)∧r.length=n∧p≤p'∧p'≤p+2 * (hi - lo+1) - 1:=by
 induction s with
 | zero => intro heads lo hi hd p hl h1 h2 h3 h4; omega
 | succ s ih =>
  intro heads lo hi hd p hl h1 h2 h3 h4 hp hp2
  have right : ∀ (d:Nat) (root:Int), lo≤root→∀ (hs : List Int) (from_ q:Int), from_+d=hi+1→root<from_→hs.length=n→0≤q→q+2 * (hi+1 - from_)≤5000 →
    ∃ r p', Ev (fun k=>spec_l20Fill.l1 k hs hi root from_ b q) (p', r)∧r.length=n∧q≤p'∧p'≤q+2 * (hi+1 - from_):=by
   intro d
   induction d using Nat.strongRecOn with
   | _ d ihd =>
    intro root hroot hs from_ q hd2 hrf hhl hq hq2
    by_cases hf : from_≤hi
    ·have e1 : wrap64 (wrap64 (hi - from_)+1)=hi - from_+1 := by rw [wrap_id (n := hi - from_) (by omega) (by omega), wrap_id (by omega) (by omega)]
     obtain ⟨v, hv0, hv1, hv⟩:=pick_ev hb q (hi - from_+1) hq (by omega) (by omega) (by omega)
     have e2 : wrap64 (from_+v)=from_+v := wrap_id (by omega) (by omega)
     have e3 : wrap64 (from_+v+1)=from_+v+1 := wrap_id (by omega) (by omega)
     obtain ⟨r1, p1, hr1, hl1,hp1,hp1'⟩:=ih hs from_ (from_+v) root (q+1) hhl (by omega) (by omega) (by omega) (by omega) (by omega) (by omega)
     obtain ⟨r2, p2, hr2, hl2,hp2,hp2'⟩:=ihd (d - v.toNat - 1) (by omega) root hroot r1 (from_+v+1) p1 (by omega) (by omega) hl1 (by omega) (by omega)
     refine ⟨r2, p2, Ev.step (fun k=>spec_l20Fill.l1.eq_2 ..) (Ev.pos hf ?_), hl2,by omega,by omega⟩
     rw [e1]
     exact Ev.bind hv (by simp only []; rw [e2, e3]; exact Ev.bind hr1 hr2)
    ·exact ⟨hs, q, Ev.step (fun k=>spec_l20Fill.l1.eq_2 ..) (Ev.neg hf (Ev.ret rfl)), hhl,by omega,by omega⟩
  have left : ∀ (d:Nat) (root:Int), lo≤root→root≤hi→∀ (hs : List Int) (from_ q:Int), from_+d=root→lo≤from_→hs.length=n→0≤q→q+2 * (hi - from_)≤5000 →
    ∃ r p', Ev (fun k=>spec_l20Fill.l0 k hs hi root from_ b q) (p', r)∧r.length=n∧q≤p'∧p'≤q+2 * (hi - from_):=by
   intro d
   induction d using Nat.strongRecOn with
   | _ d ihd =>
    intro root hroot hroot2 hs from_ q hd2 hlf hhl hq hq2
    by_cases hf : from_<root
    ·have e1 : wrap64 (root - from_)=root - from_ := wrap_id (by omega) (by omega)
     obtain ⟨v, hv0, hv1, hv⟩:=pick_ev hb q (root - from_) hq (by omega) (by omega) (by omega)
     have e2 : wrap64 (from_+v)=from_+v := wrap_id (by omega) (by omega)
     have e3 : wrap64 (from_+v+1)=from_+v+1 := wrap_id (by omega) (by omega)
     obtain ⟨r1, p1, hr1, hl1,hp1,hp1'⟩:=ih hs from_ (from_+v) root (q+1) hhl (by omega) (by omega) (by omega) (by omega) (by omega) (by omega)
     obtain ⟨r2, p2, hr2, hl2,hp2,hp2'⟩:=ihd (d - v.toNat - 1) (by omega) root hroot hroot2 r1 (from_+v+1) p1 (by omega) (by omega) hl1 (by omega) (by omega)
     refine ⟨r2, p2, Ev.step (fun k=>spec_l20Fill.l0.eq_2 ..) (Ev.pos hf ?_), hl2,by omega,by omega⟩
     rw [e1]
     exact Ev.bind hv (by simp only []; rw [e2, e3]; exact Ev.bind hr1 hr2)
    ·obtain ⟨r1, p1, hr1, hl1,hp1,hp1'⟩:=right (hi - root).toNat root hroot hs (root+1) q (by omega) (by omega) hhl hq (by omega)
     refine ⟨r1, p1, Ev.step (fun k=>spec_l20Fill.l0.eq_2 ..) (Ev.neg hf ?_), hl1,by omega,by omega⟩
     rw [wrap_id (n := root+1) (by omega) (by omega)]
     exact hr1
  have e1 : wrap64 (wrap64 (hi - lo)+1)=hi - lo+1 := by rw [wrap_id (n := hi - lo) (by omega) (by omega), wrap_id (by omega) (by omega)]
  obtain ⟨v, hv0, hv1, hv⟩:=pick_ev hb p (hi - lo+1) hp (by omega) (by omega) (by omega)
  have e2 : wrap64 (lo+v)=lo+v := wrap_id (by omega) (by omega)
  have e3 : wrap64 (lo+v - 1)=lo+v - 1 := wrap_id (by omega) (by omega)
  obtain ⟨r1, p1, hr1, hl1,hp1,hp1'⟩:=left v.toNat (lo+v) (by omega) (by omega) (heads.set (lo+v - 1).toNat hd) lo (p+1) (by omega) (by omega) (by simpa using hl) (by omega) (by omega)
  refine ⟨r1, p1, Ev.step (fun k=>spec_l20Fill.f.eq_2 ..) (Ev.neg (by omega) ?_), hl1,by omega,by omega⟩
  rw [e1]
  exact Ev.bind hv (by simp only []; rw [e2, e3]; exact Ev.pos (by omega) (Ev.pos (by omega) hr1))
theorem flat_ev {b : List Int} (hb : Bytes b) (p n:Int) (hp : 0≤p) (hp2 : p≤200) (hn : 0≤n) (hn2 : n≤1000) :
  ∃ r p', Ev (fun k=>spec_l20Flat.f k b p n) (r, p')∧r.length≤9∧p≤p'∧p'≤p+100:=by
 obtain ⟨v, hv0, hv1, hv⟩:=pick_ev hb p 3 hp (by omega) (by omega) (by omega)
 unfold spec_l20Flat.f
 by_cases e : v=0
 ·obtain ⟨r, p', h, h1, h2, h3⟩:=tree_ev hb (p+1) n (by omega) (by omega) hn hn2
  exact ⟨r, p', Ev.bind hv (Ev.pos e (Ev.bind h (Ev.ret rfl))), h1,by omega,by omega⟩
 ·obtain ⟨u, hu0, hu1, hu⟩:=pick_ev hb (p+1) 7 (by omega) (by omega) (by omega) (by omega)
  have e1 : wrap64 (1+u)=1+u := wrap_id (by omega) (by omega)
  obtain ⟨r, p', h, h1, h2, h3⟩:=fill_ev hb (1+u).toNat (by omega) 8 (List.replicate (1+u).toNat 0) 1 (1+u) 0 (p+1+1) (by simp) (by omega) (by omega) (by omega) (by omega) (by omega) (by omega)
  refine ⟨r, p', Ev.bind hv (Ev.neg e (Ev.bind hu ?_)),by omega,by omega,by omega⟩
  simp only []
  rw [e1]
  exact Ev.pos (by omega) (Ev.pos (by omega) (Ev.bind h (Ev.ret rfl)))
@[reducible] def goodAt (o : List Int) (many:Int) (i:Nat) : Prop := (1≤rd o i∧rd o i≤many)∧∀ j : Nat, j<i→rd o j≠rd o i
def orderOk (o : List Int) (many:Int) : Bool := decide ((1≤many∧many≤8)∧(o.length:Int)=many∧∀ i : Nat, i<o.length→goodAt o many i)
theorem orderOk_bad {o : List Int} {many : Int} {i : Nat} (hi : i<o.length) (h : ¬ goodAt o many i) : orderOk o many=false:=by
 unfold orderOk
 rw [decide_eq_false_iff_not]
 exact fun h2=>h (h2.2.2 i hi)
theorem orderOk_iff {o : List Int} {many : Int} : orderOk o many=true ↔ ((1≤many∧many≤8)∧(o.length:Int)=many∧∀ i : Nat, i<o.length→goodAt o many i):=by
 unfold orderOk
 rw [decide_eq_true_iff]
theorem treeOk_len {l : List Int} (h : treeOk l=true) : 1≤l.length∧l.length≤8:=by
 unfold treeOk at h
 rw [Bool.and_eq_true, Bool.and_eq_true] at h
 exact of_decide_eq_true h.1.1
theorem treeOk_rd {l : List Int} (h : treeOk l=true) {j : Nat} (hj : j<l.length) : 0≤rd l j∧rd l j≤l.length:=by
 unfold treeOk at h
 rw [Bool.and_eq_true, Bool.and_eq_true] at h
 have := List.all_eq_true.mp h.1.2 j (List.mem_range.mpr hj)
 unfold okAt at this
 rw [Bool.and_eq_true] at this
 exact of_decide_eq_true this.1
def placeOf (o : List Int) (v:Int) : Int := match (List.range o.length).find? (fun i : Nat => decide (rd o i=v)) with | some i => (i:Int)+1 | none => 0
def putOf (l o : List Int) : List Int := o.map (fun w=>placeOf o (rd l (w - 1)))
def PlacesTo (o : List Int) (j:Nat) (y : List Int) : Prop := ∀ v : Nat, v<y.length→y[v]?=some (match (List.range j).find? (fun i : Nat => decide (rd o i=(v:Int))) with | some i => (i:Int)+1 | none => 0)
theorem find_range_succ (p : Nat→Bool) (j:Nat) : (List.range (j+1)).find? p=((List.range j).find? p).or (if p j then some j else none):=by
 rw [List.range_succ, List.find?_append]
 congr 1
 by_cases h : p j=true
 ·rw [if_pos h, List.find?_cons_of_pos h]
 ·rw [if_neg h, List.find?_cons_of_neg h]; rfl
theorem PlacesTo.set {o : List Int} {many : Int} (h : orderOk o many=true) {j : Nat} (hj : j<o.length) {y : List Int} (hy : PlacesTo o j y) : PlacesTo o (j+1) (y.set (rd o j).toNat ((j:Int)+1)):=by
 have hg := (orderOk_iff.mp h).2.2 j hj
 intro v hv
 rw [List.length_set] at hv
 rw [find_range_succ]
 by_cases e : v=(rd o j).toNat
 ·subst e
  rw [List.getElem?_set_self hv]
  have e2 : ((rd o j).toNat:Int)=rd o j := by omega
  rw [e2]
  have hn : (List.range j).find? (fun i : Nat => decide (rd o i=rd o j))=none:=by
   rw [List.find?_eq_none]
   intro i hi
   simp [hg.2 i (List.mem_range.mp hi)]
  rw [hn]
  simp
 ·rw [List.getElem?_set_ne (by omega), hy v hv]
  have e2 : ¬ (rd o j=(v:Int)) := by omega
  simp [e2]
theorem PlacesTo.whole {o : List Int} {y : List Int} (hy : PlacesTo o o.length y) {v : Int} (h0 : 0≤v) (h1 : v<y.length) : rd y v=placeOf o v:=by
 have := hy v.toNat (by omega)
 rw [show ((v.toNat:Nat):Int)=v by omega] at this
 unfold rd placeOf
 rw [List.getD_eq_getElem?_getD, this]
 rfl
theorem PlacesTo.zero (o : List Int) (n:Nat) : PlacesTo o 0 (List.replicate n 0):=by
 intro v hv
 simp at hv
 simp [hv]
def putInOrder (l o : List Int) : List Int × Bool := if treeOk l=true∧orderOk o l.length=true then (putOf l o, true) else ([], false)
theorem putInOrder_len (l o : List Int) : (putInOrder l o).1.length≤8:=by
 unfold putInOrder
 split
 ·rename_i h
  have hl := treeOk_len h.1
  obtain ⟨_, h2, _⟩:=orderOk_iff.mp h.2
  show (putOf l o).length≤8
  simp [putOf]; omega
 ·simp
theorem spec_OrderOk_l1 (o : List Int) (many:Int) (hl : o.length≤1048576) (i:Nat) (hi : i<o.length) (hin : 1≤rd o i∧rd o i≤many) (next : goodAt o many i→Ev (fun k=>spec_OrderOk.l0 k o many ((i+1:Nat):Int)) (orderOk o many)) (d:Nat) :
  ∀ j : Nat, j+d=i→(∀ j' : Nat, j'<j→rd o j'≠rd o i)→Ev (fun k=>spec_OrderOk.l1 k o many (i:Int) (j:Int)) (orderOk o many):=by
 induction d with
 | zero =>
  intro j hj h
  refine Ev.step (fun k=>spec_OrderOk.l1.eq_2 ..) (Ev.neg (by omega) ?_)
  rw [wrap_add1 (by omega)]
  exact next ⟨hin, fun j' hj' => h j' (by omega)⟩
 | succ d ih =>
  intro j hj h
  refine Ev.step (fun k=>spec_OrderOk.l1.eq_2 ..) (Ev.pos (by omega) (Ev.pos (by omega) (Ev.pos (by omega) (Ev.pos (by omega) (Ev.pos (by omega) (Ev.ite (fun e=>?_) (fun e=>?_)))))))
  ·exact Ev.ret (orderOk_bad hi (fun h2=>h2.2 j (by omega) e)).symm
  ·rw [wrap_add1 (by omega)]
   refine ih (j+1) (by omega) (fun j' hj' => ?_)
   by_cases e2 : j'=j
   ·subst e2; exact e
   ·exact h j' (by omega)
theorem spec_OrderOk_l0 (o : List Int) (many:Int) (hl : o.length≤1048576) (d:Nat) : ∀ i : Nat, i+d=o.length→(∀ j : Nat, j<i→goodAt o many j)→Ev (fun k=>spec_OrderOk.l0 k o many (i:Int)) (orderOk o many):=by
 induction d with
 | zero =>
  intro i hi h
  refine Ev.step (fun k=>spec_OrderOk.l0.eq_2 ..) (Ev.neg (by omega) (Ev.bind0 (l1In_eq ..) (Ev.ite (fun e=>?_) (fun e=>?_))))
  ·refine Ev.ret ?_
   have e' := of_decide_eq_true e
   rw [Bool.eq_iff_iff, orderOk_iff, beq_iff_eq]
   exact ⟨fun h2=>⟨e', h2, fun j hj => h j (by omega)⟩, fun h2=>h2.2.1⟩
  ·refine Ev.ret ?_
   symm
   unfold orderOk
   rw [decide_eq_false_iff_not]
   intro h2
   exact e (decide_eq_true h2.1)
 | succ d ih =>
  intro i hi h
  refine Ev.step (fun k=>spec_OrderOk.l0.eq_2 ..) (Ev.pos (by omega) (Ev.pos (by omega) (Ev.bind0 (l1In_eq ..) (Ev.ite (fun e=>?_) (fun e=>?_)))))
  ·have e' := of_decide_eq_true e
   refine spec_OrderOk_l1 o many hl i (by omega) e' (fun hg=>?_) i 0 (by omega) (fun j' hj' => by omega)
   refine ih (i+1) (by omega) (fun j hj => ?_)
   by_cases e2 : j=i
   ·subst e2; exact hg
   ·exact h j (by omega)
  ·refine Ev.ret ?_
   exact (orderOk_bad (by omega) (fun h2=>e (decide_eq_true h2.1))).symm
theorem spec_OrderOk_ev (o : List Int) (many:Int) (hl : o.length≤1048576) : Ev (fun k=>spec_OrderOk.f k o many) (orderOk o many):=by
 unfold spec_OrderOk.f
 exact spec_OrderOk_l0 o many hl o.length 0 (by omega) (fun j hj => by omega)
theorem spec_walk (l : List Int) (r j:Nat) (hl : l.length≤8) (hj : j<l.length) (_ : r≤8)
  (next : Ev (fun k=>spec_TreeOk.l0 k l (l.length:Int) (r:Int) ((j+1:Nat):Int)) (restOk l r (j+1)))
  (d:Nat) : ∀ (s:Nat) (a:Int), s+d=l.length→0≤a→a≤l.length →
  Ev (fun k=>spec_TreeOk.l1 k l (l.length:Int) (r:Int) (j:Int) a (s:Int)) (walkOk l d a && restOk l r (j+1)):=by
 induction d with
 | zero =>
  intro s a hs h0 h1
  refine Ev.step (fun k=>spec_TreeOk.l1.eq_2 ..) ?_
  refine Ev.ite (fun ha=>?_) (fun ha=>?_)
  ·rw [decide_eq_false (by omega)]
   refine Ev.step (fun k=>spec_TreeOk.j4.eq_2 ..) ?_
   refine Ev.neg (by simp) (Ev.pos ha (Ev.ret ?_))
   simp [walkOk, show ¬ a≤0 by omega]
  ·refine Ev.step (fun k=>spec_TreeOk.j4.eq_2 ..) ?_
   refine Ev.neg (by simp) (Ev.neg ha ?_)
   rw [wrap_add1 (by omega)]
   exact Ev.eq next (by simp [walkOk, show a≤0 by omega])
 | succ d ih =>
  intro s a hs h0 h1
  refine Ev.step (fun k=>spec_TreeOk.l1.eq_2 ..) ?_
  refine Ev.ite (fun ha=>?_) (fun ha=>?_)
  ·rw [decide_eq_true (by omega)]
   refine Ev.step (fun k=>spec_TreeOk.j4.eq_2 ..) ?_
   refine Ev.pos rfl ?_
   rw [wrap_id (by omega) (by omega)]
   refine Ev.pos (by omega) (Ev.pos (by omega) (Ev.bind0 (l1In_eq ..) ?_))
   refine Ev.ite (fun hc=>?_) (fun hc=>?_)
   ·have hc' := of_decide_eq_true hc
    rw [wrap_add1 (by omega)]
    refine Ev.eq (ih (s+1) (rd l (a - 1)) (by omega) hc'.1 hc'.2) ?_
    simp [walkOk, show ¬ a≤0 by omega, hc'.1, hc'.2]
   ·refine Ev.ret ?_
    have hc' : ¬ (0≤rd l (a - 1)∧rd l (a - 1)≤(l.length:Int)) := by simpa using hc
    simp [walkOk, show ¬ a≤0 by omega, decide_eq_false hc']
  ·refine Ev.step (fun k=>spec_TreeOk.j4.eq_2 ..) ?_
   refine Ev.neg (by simp) (Ev.neg ha ?_)
   rw [wrap_add1 (by omega)]
   exact Ev.eq next (by simp [walkOk, show a≤0 by omega])
theorem spec_TreeOk_l0 (l : List Int) (hl : l.length≤8) (d:Nat) : ∀ (r j:Nat), j+d=l.length→r≤j →
  Ev (fun k=>spec_TreeOk.l0 k l (l.length:Int) (r:Int) (j:Int)) (restOk l r j):=by
 induction d with
 | zero =>
  intro r j hj hr
  refine Ev.step (fun k=>spec_TreeOk.l0.eq_2 ..) ?_
  exact Ev.neg (by omega) (Ev.ret (restOk_end l r j (by omega)).symm)
 | succ d ih =>
  intro r j hj hr
  refine Ev.step (fun k=>spec_TreeOk.l0.eq_2 ..) ?_
  refine Ev.pos (by omega) (Ev.pos (by omega) (Ev.pos (by omega) (Ev.bind0 (l1In_eq ..) ?_)))
  refine Ev.ite (fun hc=>?_) (fun hc=>?_)
  ·have hc' := of_decide_eq_true hc
   refine Ev.step (fun k=>spec_TreeOk.j1.eq_2 ..) ?_
   rw [wrap_add1 (by omega)]
   refine Ev.ite (fun he=>?_) (fun he=>?_)
   ·refine Ev.ret (restOk_bad l r j (by omega) ?_).symm
    have he' : rd l (j:Int)=((j+1:Nat):Int) := by simpa using he
    unfold okAt
    rw [walkOk_self l ((j:Int)+1) (by omega) (by rw [show (j:Int)+1 - 1=(j:Int) by omega, he']; omega), Bool.and_false]
   ·have hfin : ∀ (r':Nat), r'=r+(if rd l j=0 then 1 else 0)→Ev (fun k=>spec_TreeOk.l1 k l (l.length:Int) (r':Int) (j:Int) ((j+1:Nat):Int) 0) (restOk l r j):=by
     intro r' hr'
     have hr8 : r'≤j+1 := by subst hr'; split <;> omega
     refine Ev.eq (spec_walk l r' j hl (by omega) (by omega) (ih r' (j+1) (by omega) hr8) l.length 0 ((j+1:Nat):Int) (by omega) (by omega) (by omega)) ?_
     by_cases hw : walkOk l l.length ((j:Int)+1)=true
     ·rw [restOk_good l r j (by omega) (by unfold okAt; rw [hw, decide_eq_true hc']; rfl), ← hr', show ((j+1:Nat):Int)=(j:Int)+1 by omega, hw]; rfl
     ·have hw' : walkOk l l.length ((j:Int)+1)=false := by simpa using hw
      rw [restOk_bad l r j (by omega) (by unfold okAt; rw [hw']; simp), show ((j+1:Nat):Int)=(j:Int)+1 by omega, hw']; rfl
    refine Ev.pos (by omega) (Ev.pos (by omega) (Ev.ite (fun hz=>?_) (fun hz=>?_)))
    ·rw [wrap_add1 (by omega)]
     refine Ev.step (fun k=>spec_TreeOk.j2.eq_2 ..) ?_
     rw [wrap_add1 (by omega)]
     exact hfin (r+1) (by rw [if_pos hz])
    ·refine Ev.step (fun k=>spec_TreeOk.j2.eq_2 ..) ?_
     rw [wrap_add1 (by omega)]
     exact hfin r (by rw [if_neg hz]; rfl)
  ·refine Ev.step (fun k=>spec_TreeOk.j1.eq_2 ..) ?_
   refine Ev.pos rfl (Ev.ret (restOk_bad l r j (by omega) ?_).symm)
   have hc' : ¬ (0≤rd l (j:Int)∧rd l (j:Int)≤(l.length:Int)) := by simpa using hc
   unfold okAt
   rw [decide_eq_false hc']; rfl
theorem spec_TreeOk_ev (l : List Int) : Ev (fun k=>spec_TreeOk.f k l) (treeOk l):=by
 unfold spec_TreeOk.f
 refine Ev.bind0 (l1In_eq ..) ?_
 refine Ev.ite (fun hc=>?_) (fun hc=>?_)
 ·have hc' := of_decide_eq_true hc
  exact Ev.eq (spec_TreeOk_l0 l (by omega) l.length 0 0 (by omega) (by omega)) (restOk_zero l (by omega))
 ·refine Ev.ret ?_
  have hc' : ¬ (1≤(l.length:Int)∧(l.length:Int)≤8) := by simpa using hc
  unfold treeOk
  rw [decide_eq_false (by omega)]; rfl
theorem spec_Put_l1 (l o y : List Int) (h : treeOk l=true) (ho : orderOk o l.length=true) (hy : PlacesTo o o.length y) (hyl : y.length=l.length+1) (d:Nat) : ∀ j : Nat, j+d=o.length →
  Ev (fun k=>spec_PutInOrder.l1 k l o y ((putOf l o).take j) (j:Int)) (putOf l o, true):=by
 have hl := treeOk_len h
 obtain ⟨_, h2, h3⟩:=orderOk_iff.mp ho
 have hlen : (putOf l o).length=o.length := by simp [putOf]
 induction d with
 | zero =>
  intro j hj
  refine Ev.step (fun k=>spec_PutInOrder.l1.eq_2 ..) (Ev.neg (by omega) (Ev.ret ?_))
  rw [List.take_of_length_le (by omega)]
 | succ d ih =>
  intro j hj
  have hg := h3 j (by omega)
  have hr := treeOk_rd h (j := (rd o j - 1).toNat) (by omega)
  rw [show (((rd o j - 1).toNat:Nat):Int)=rd o j - 1 by omega] at hr
  refine Ev.step (fun k=>spec_PutInOrder.l1.eq_2 ..) ?_
  rw [wrap_id (n := rd o j - 1) (by omega) (by omega), wrap_add1 (by omega)]
  refine Ev.pos (by omega) (Ev.pos (by omega) (Ev.pos (by omega) (Ev.pos (by omega) (Ev.pos (by omega) (Ev.pos (by omega) (Ev.pos (by rw [List.length_take]; omega) ?_))))))
  have e : (putOf l o).take j ++ [rd y (rd l (rd o j - 1))]=(putOf l o).take (j+1):=by
   rw [List.take_succ_eq_append_getElem (by omega), hy.whole hr.1 (by omega)]
   congr 2
   have e3 : rd o j=o[j]'(by omega) := by simp [rd_nat, show j<o.length by omega]
   simp [putOf, e3]
  rw [e]
  exact ih (j+1) (by omega)
theorem spec_Put_l0 (l o : List Int) (h : treeOk l=true) (ho : orderOk o l.length=true) (d:Nat) : ∀ (j:Nat) (y : List Int), j+d=o.length→PlacesTo o j y→y.length=l.length+1 →
  Ev (fun k=>spec_PutInOrder.l0 k l o y (j:Int)) (putOf l o, true):=by
 have hl := treeOk_len h
 obtain ⟨_, h2, h3⟩:=orderOk_iff.mp ho
 induction d with
 | zero =>
  intro j y hj hy hyl
  refine Ev.step (fun k=>spec_PutInOrder.l0.eq_2 ..) (Ev.neg (by omega) ?_)
  rw [show j=o.length by omega] at hy
  exact spec_Put_l1 l o y h ho hy hyl o.length 0 (by omega)
 | succ d ih =>
  intro j y hj hy hyl
  have hg := h3 j (by omega)
  refine Ev.step (fun k=>spec_PutInOrder.l0.eq_2 ..) ?_
  rw [wrap_id (n := (j:Int)+1) (by omega) (by omega)]
  refine Ev.pos (by omega) (Ev.pos (by omega) (Ev.pos (by omega) (Ev.pos (by omega) ?_)))
  exact ih (j+1) _ (by omega) (hy.set ho (by omega)) (by simpa using hyl)
theorem spec_PutInOrder_ev (l o : List Int) (hol : o.length≤1048576) : Ev (fun k=>spec_PutInOrder.f k l o) (putInOrder l o):=by
 unfold spec_PutInOrder.f putInOrder
 refine Ev.bind (spec_TreeOk_ev l) (Ev.ite (fun h=>?_) (fun h=>?_))
 ·refine Ev.bind (spec_OrderOk_ev o _ hol) (Ev.step (fun k=>spec_PutInOrder.j0.eq_2 ..) (Ev.ite (fun e=>?_) (fun e=>?_)))
  ·refine Ev.ret ?_
   rw [if_neg]
   intro h2; rw [h2.2] at e; cases e
  ·have ho : orderOk o l.length=true := by simpa using e
   have hl := treeOk_len h
   rw [if_pos ⟨h, ho⟩, wrap_id (n := (l.length:Int)+1) (by omega) (by omega)]
   refine Ev.pos (by omega) (Ev.pos (by omega) ?_)
   exact spec_Put_l0 l o h ho o.length 0 _ (by omega) (PlacesTo.zero o _) (by simp)
 ·refine Ev.step (fun k=>spec_PutInOrder.j0.eq_2 ..) (Ev.pos rfl (Ev.ret ?_))
  rw [if_neg (fun h2=>h h2.1)]
theorem wild_evP {b : List Int} (hb : Bytes b) (p n:Int) (hp : 0≤p) (hp2 : p≤50) (hn : 0≤n) (hn2 : n≤1000) :
  ∃ r p', Ev (fun k=>spec_l20Wild.f k b p n) (r, p')∧r.length≤9∧0≤p'∧p'≤p+200:=by
 obtain ⟨t, p1, ht, htl,hp1,hp1'⟩:=tree_ev hb p n (by omega) (by omega) hn hn2
 obtain ⟨v, hv0, hv1, hv⟩:=pick_ev hb p1 2 (by omega) (by omega) (by omega) (by omega)
 unfold spec_l20Wild.f
 have other : ∃ r p', Ev (fun k=>spec_l20Wild.j0 k n t false b (p1+1)) (r, p')∧r.length≤9∧0≤p'∧p'≤p+200:=by
  obtain ⟨u, hu0, hu1, hu⟩:=pick_ev hb (p1+1) 3 (by omega) (by omega) (by omega) (by omega)
  by_cases e : u=0
  ·obtain ⟨r, p', h, h1, h2, h3⟩:=flat_ev hb (p1+1+1) n (by omega) (by omega) hn hn2
   exact ⟨r, p', Ev.step (fun k=>spec_l20Wild.j0.eq_2 ..) (Ev.neg (by simp) (Ev.bind hu (Ev.pos e (Ev.bind h (Ev.ret rfl))))), h1,by omega,by omega⟩
  ·exact ⟨t, p1+1+1, Ev.step (fun k=>spec_l20Wild.j0.eq_2 ..) (Ev.neg (by simp) (Ev.bind hu (Ev.neg e (Ev.ret rfl)))), htl,by omega,by omega⟩
 by_cases e : v=0
 ·by_cases h : treeOk t=true
  ·obtain ⟨o, p2, ho, hol, how,hp2,hp2'⟩:=order_ev hb (p1+1) (t.length:Int) (by omega) (by omega) (by omega) (by omega)
   refine ⟨(putInOrder t o).1, p2, Ev.bind ht (Ev.bind hv (Ev.pos e (Ev.bind (spec_TreeOk_ev t) ?_))), Nat.le_trans (putInOrder_len t o) (by omega),by omega,by omega⟩
   rw [h]
   exact Ev.step (fun k=>spec_l20Wild.j0.eq_2 ..) (Ev.pos rfl (Ev.bind ho (Ev.bind (spec_PutInOrder_ev t o (by omega)) (Ev.ret rfl))))
  ·obtain ⟨r, p', hr, h1, h2⟩:=other
   refine ⟨r, p', Ev.bind ht (Ev.bind hv (Ev.pos e (Ev.bind (spec_TreeOk_ev t) ?_))), h1, h2⟩
   rw [show treeOk t=false by simpa using h]
   exact hr
 ·obtain ⟨r, p', hr, h1, h2⟩:=other
  exact ⟨r, p', Ev.bind ht (Ev.bind hv (Ev.neg e hr)), h1, h2⟩
theorem spoilRow : ∀ v : Int, 0≤v→v<6→(rdOf ByteArray.empty ([(⟨#[]⟩ : ByteArray), (⟨#[48]⟩ : ByteArray), (⟨#[32]⟩ : ByteArray), (⟨#[10]⟩ : ByteArray), (⟨#[45]⟩ : ByteArray), (⟨#[98, 97, 99, 107]⟩ : ByteArray)] : List ByteArray) v).size≤4:=by
 intro v h0 h1
 have h : v=0 ∨ v=1 ∨ v=2 ∨ v=3 ∨ v=4 ∨ v=5 := by omega
 rcases h with rfl | rfl | rfl | rfl | rfl | rfl <;> decide
theorem spoil_ev {b : List Int} (hb : Bytes b) (p:Int) (s : ByteArray) (hp : 0≤p) (hp2 : p≤900000) (hs : s.size≤900000) :
  ∃ r p', Ev (fun k=>spec_l20Spoil.f k b p s) (r, p')∧r.size≤s.size+4:=by
 unfold spec_l20Spoil.f
 by_cases h : (s.size:Int)=0
 ·exact ⟨_, _, Ev.pos h (Ev.ret rfl), by show (⟨#[10]⟩ : ByteArray).size≤_; have : (⟨#[10]⟩ : ByteArray).size=1 := rfl; omega⟩
 ·obtain ⟨v, hv0, hv1, hv⟩:=pick_ev hb p (s.size:Int) hp (by omega) (by omega) (by omega)
  obtain ⟨u, hu0, hu1, hu⟩:=pick_ev hb (p+1) 6 (by omega) (by omega) (by omega) (by omega)
  have e : wrap64 (v+1)=v+1 := wrap_id (by omega) (by omega)
  have hr := spoilRow u hu0 (by omega)
  have z1 : (s.extract 0 v.toNat).size=v.toNat := by rw [ByteArray.size_extract]; omega
  have z2 : (s.extract (v+1).toNat s.size).size=s.size - (v+1).toNat := by rw [ByteArray.size_extract]; omega
  refine ⟨(((s.extract 0 v.toNat) ++ (rdOf ByteArray.empty ([(⟨#[]⟩ : ByteArray), (⟨#[48]⟩ : ByteArray), (⟨#[32]⟩ : ByteArray), (⟨#[10]⟩ : ByteArray), (⟨#[45]⟩ : ByteArray), (⟨#[98, 97, 99, 107]⟩ : ByteArray)] : List ByteArray) u)) ++ (s.extract (v+1).toNat s.size)), p+1+1, Ev.neg h (Ev.bind hv (Ev.pos hv0 (Ev.pos (by omega) (Ev.bind0 rfl (Ev.bind hu (Ev.pos hu0 (Ev.pos (show u<(6:Int) by omega) (Ev.pos (by simp only [z1]; omega) ?_)))))))), ?_⟩
  ·rw [e]
   refine Ev.pos (by omega) (Ev.pos (by omega) (Ev.pos (by simp only [ByteArray.size_append, z1, z2]; omega) (Ev.ret rfl)))
  ·rw [ByteArray.size_append, ByteArray.size_append, z1, z2]; omega
theorem drawReadDeed_ev (l : List Int) (hb : ∀ x ∈ l, (Lit.int .u8 x).wf=true) : ∃ s, Ev (fun k=>spec_DrawReadDeed.f k l) s∧s.size≤20:=by
 obtain ⟨b, hB, hopen⟩:=l20Open_ev l hb
 obtain ⟨t, p, h1, h2, h3, h4⟩:=wild_evP hB 0 0 (by omega) (by omega) (by omega) (by omega)
 obtain ⟨x, y, z, p', h5, h6, h7⟩:=deed_ev hB p t h3 (by omega) (by omega)
 have hs := deedOf_size x y z
 obtain ⟨v, hv0, hv1, hv⟩:=pick_ev hB p' 3 (by omega) (by omega) (by omega) (by omega)
 obtain ⟨r, q, hr, hrs⟩:=spoil_ev hB (p'+1) (deedOf x y z) (by omega) (by omega) (by omega)
 unfold spec_DrawReadDeed.f
 by_cases h : v=0
 ·exact ⟨r, Ev.bind0 hopen (Ev.bind h1 (Ev.bind h5 (Ev.bind (specDeedText_ev x y z) (Ev.bind hv (Ev.pos h (Ev.bind hr (Ev.ret rfl))))))),by omega⟩
 ·exact ⟨deedOf x y z, Ev.bind0 hopen (Ev.bind h1 (Ev.bind h5 (Ev.bind (specDeedText_ev x y z) (Ev.bind hv (Ev.neg h (Ev.ret rfl)))))),by omega⟩
theorem num_last_all : (List.range 100).all (fun b=>decide ((num b).data.toList.getLast?≠some 32) && decide ((num b).data.toList.getLast?≠none))=true := by decide +kernel
theorem num_last {b : Int} (h0 : 0≤b) (h1 : b≤99) (l : List UInt8) : (l ++ (num b.toNat).data.toList).getLast?≠some 32:=by
 have h := List.all_eq_true.1 num_last_all b.toNat (List.mem_range.2 (by omega))
 simp only [Bool.and_eq_true, decide_eq_true_eq] at h
 rw [List.getLast?_append]
 cases e : (num b.toNat).data.toList.getLast? with
 | none => exact absurd e h.2
 | some x => rw [e] at h; simpa using h.1
theorem last_deed {a b c : Int} (h : (deedOf a b c).toList≠([] : List UInt8)) (s : ByteArray) : deedOf a b c≠s ++ (⟨#[32]⟩ : ByteArray):=by
 intro e
 have e2 : (deedOf a b c).data.toList=s.data.toList ++ [32] := by rw [e]; simp [ByteArray.data_append]
 have e3 : (deedOf a b c).data.toList.getLast?=some 32 := by rw [e2]; simp
 rcases hasText_of h with ⟨rfl, hb, hc⟩ | ⟨rfl, hb, rfl⟩ | ⟨ha, rfl, rfl⟩
 ·rw [deedOf0 hb hc, ByteArray.data_append, Array.toList_append] at e3
  exact num_last hc.1 hc.2 _ e3
 ·rw [deedOf1 hb, ByteArray.data_append, Array.toList_append] at e3
  exact num_last hb.1 hb.2 _ e3
 ·rcases ha with rfl | rfl | rfl | rfl <;> exact absurd e3 (by decide +kernel)
theorem FnReadDeed : laws_FnReadDeed.Pure:=by
 intro l _ _ hb
 refine Ev.rounds (g := fun k=>laws_FnReadDeed.f k l) ?_
 unfold laws_FnReadDeed.f
 refine Ev.ite (fun _=>Ev.ret rfl) (fun _=>?_)
 obtain ⟨s, hd, hs⟩:=drawReadDeed_ev l hb
 refine Ev.bind hd (Ev.bind (implReadDeed_ev s (by omega)) (Ev.bind (specReadDeed_ev s (by omega)) (Ev.neg (by simp) ?_)))
 rw [show ((readI s).2.2.2 != (readI s).2.2.2)=false by simp]
 refine Ev.step (fun k=>by rw [laws_FnReadDeed.j0]) ?_
 refine Ev.neg (by simp) ?_
 by_cases hx : ∃ a b c : Int, (deedOf a b c).toList≠([] : List UInt8)∧deedOf a b c=s
 ·obtain ⟨a, b, c, h0, rfl⟩:=hx
  rw [readI_text h0]
  have hn : readI (deedOf a b c ++ (⟨#[32]⟩ : ByteArray))=(0, 0, 0, false) := readI_none (fun a' b' c' h1 => last_deed h1 _)
  have s1 : (⟨#[32]⟩ : ByteArray).size=1 := rfl
  have hr : Ev (fun k=>impl_ReadDeed.f k (deedOf a b c ++ (⟨#[32]⟩ : ByteArray))) (0, 0, 0, false):=by
   rw [← hn]
   exact implReadDeed_ev _ (by rw [ByteArray.size_append]; omega)
  exact Ev.pos rfl (Ev.pos (by omega) (Ev.bind hr (Ev.bind (implDeedText_ev a b c) (Ev.pos rfl (Ev.ret rfl)))))
 ·have hn : ∀ a b c : Int, (deedOf a b c).toList≠([] : List UInt8)→deedOf a b c≠s := fun a b c h0 e => hx ⟨a, b, c, h0, e⟩
  rw [readI_none hn]
  exact Ev.neg (by simp) (Ev.pos rfl (Ev.bind alive_ev (Ev.ret rfl)))
end Go.Proofs.YtopfhdhdpnenpaaDoor.Pure
