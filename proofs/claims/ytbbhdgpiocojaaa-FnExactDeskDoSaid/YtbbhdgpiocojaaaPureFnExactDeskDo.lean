/- The plain statement of FnExactDeskDo: the printed functions answer true for all arguments within the printed bounds; no other conditions. -/
import Derived.Test.YtbbhdgpiocojaaaLAx15
import Derived.ChangeSlices
import Derived.SizedLaws
import Derived.Test.YtbbhdgpiocojaaaUSized
namespace Go.Proofs.Ytbbhdgpiocojaaa.Pure
open Go.RowKit Go.Proofs.Ytbbhdgpiocojaaa.LA Go.Proofs.YtbbhdgpiocojaaaV.PrintWords Go.Proofs.YtbbhdgpiocojaaaV.PrintLast
set_option linter.unusedVariables false
set_option linter.unusedSimpArgs false
theorem Ev.ret {α : Type} {r r' : α} (h : r=r') : Ev (fun _=>some r) r' := ⟨0, fun _ _ => by rw [h]⟩
theorem Ev.pos {α : Type} {c : Prop} [Decidable c] {g f : Nat→Option α} {r : α} (h : c) (k : Ev g r) : Ev (fun n=>if c then g n else f n) r:=by
 simpa only [if_pos h] using k
theorem Ev.neg {α : Type} {c : Prop} [Decidable c] {g f : Nat→Option α} {r : α} (h : ¬ c) (k : Ev f r) : Ev (fun n=>if c then g n else f n) r:=by
 simpa only [if_neg h] using k
theorem Ev.ite {α : Type} {c : Prop} [Decidable c] {g f : Nat→Option α} {r : α} (h : c→Ev g r) (k : ¬ c→Ev f r) : Ev (fun n=>if c then g n else f n) r:=by
 by_cases hc : c
 ·exact Ev.pos hc (h hc)
 ·exact Ev.neg hc (k hc)
theorem Ev.bind0 {α β : Type} {o : Option α} {f : Nat→α→Option β} {a : α} {r : β} (h : o=some a) (k : Ev (fun n=>f n a) r) : Ev (fun n=>o.bind (f n)) r:=by
 subst h; simpa only [Option.bind_some] using k
theorem Ev.eq {α : Type} {g : Nat→Option α} {r r' : α} (h : Ev g r) (e : r=r') : Ev g r' := e ▸ h
theorem wrap_id {n : Int} (h0 : -9223372036854775808≤n) (h1 : n<9223372036854775808) : wrap64 n=n:=by
 unfold wrap64; omega
theorem wrap_add1 {n : Nat} (h : n<1099511627776) : wrap64 ((n:Int)+1)=((n+1:Nat):Int):=by
 unfold wrap64; omega
theorem rd_nat (l : List Int) (j:Nat) : rd l (j:Int)=l.getD j 0 := by simp [rd]
open Go.ChangeShapes Go.WideShapes in
theorem _root_.Go.Proofs.Ytbbhdgpiocojaaa.PrintWords.sized_ints {H : Type} {enc : TypeId × Value→H} {P : Program} {W : World} {base : Nat} {spare : Nat→Bool} {held : Bool} {t e : TypeId} {k : IntKind} {a : Option Addr} {len cap : Nat} {d : DataW H} {ps : List MemPlace} {ts : List TypeId} {ds : List (DataW H)} {j : Nat}
  (hsz : (DataW.weightsEach P ts ds).all (·≤reachBytes)=true) (ht : ts[j]?=some t) (hd : ds[j]?=some d) (hu : P.underlying t=some (.slice e)) (he : P.underlying e=some (.int k)) (hc : P.cellsOf e=1) {B : Nat} (hB : P.bytesOf e=B)
  (h : DataW.Trod enc P W base spare held t (.slice a len cap) d ps) : len * B≤140737488351232 :=
 Go.Proofs.YtbbhdgpiocojaaaV.PrintWords.sized_ints hsz ht hd hu he hc hB h
theorem toIntS_l0 (l : List Int) (hl : l.length≤1099511627776) (d:Nat) : ∀ (j:Nat) (y : List Int), j+d=l.length→y.length=l.length→(∀ i, i<j→y[i]?=l[i]?)→Ev (fun k=>laws_toIntS.l0 k l y (j:Int)) l:=by
 induction d with
 | zero =>
  intro j y hj hy h
  refine Ev.step (fun k=>laws_toIntS.l0.eq_2 ..) ?_
  refine Ev.neg (by omega) (Ev.ret ?_)
  apply List.ext_getElem?
  intro i
  by_cases hi : i<j
  ·exact h i hi
  ·rw [List.getElem?_eq_none (by omega), List.getElem?_eq_none (by omega)]
 | succ d ih =>
  intro j y hj hy h
  refine Ev.step (fun k=>laws_toIntS.l0.eq_2 ..) ?_
  refine Ev.pos (by omega) (Ev.pos (by omega) (Ev.pos (by omega) ?_))
  rw [wrap_add1 (by omega)]
  refine ih (j+1) _ (by omega) (by simpa using hy) ?_
  intro i hi
  rw [rd_nat, Int.toNat_natCast]
  by_cases e : i=j
  ·subst e
   simp [hy, show i<l.length by omega]
  ·rw [List.getElem?_set_ne (by omega)]
   exact h i (by omega)
theorem toIntS_ev (l : List Int) (hl : l.length≤1048576) : Ev (fun k=>laws_toIntS.f k l) l:=by
 unfold laws_toIntS.f
 refine Ev.pos (by omega) (Ev.pos (by omega) ?_)
 exact toIntS_l0 l (by omega) l.length 0 _ (by omega) (by simp) (fun i h => by omega)
theorem eqIntS_l0 (l m : List Int) (hl : l.length≤1099511627776) (hm : l.length=m.length) (d:Nat) : ∀ (j:Nat), j+d=l.length→(∀ i, i<j→l[i]?=m[i]?)→Ev (fun k=>laws_eqIntS.l0 k l m (j:Int)) (decide (l=m)):=by
 induction d with
 | zero =>
  intro j hj h
  refine Ev.step (fun k=>laws_eqIntS.l0.eq_2 ..) ?_
  refine Ev.neg (by omega) (Ev.ret ?_)
  symm
  rw [decide_eq_true_iff]
  apply List.ext_getElem?
  intro i
  by_cases hi : i<j
  ·exact h i hi
  ·rw [List.getElem?_eq_none (by omega), List.getElem?_eq_none (by omega)]
 | succ d ih =>
  intro j hj h
  refine Ev.step (fun k=>laws_eqIntS.l0.eq_2 ..) ?_
  refine Ev.pos (by omega) (Ev.pos (by omega) (Ev.pos (by omega) (Ev.ite ?_ ?_)))
  ·intro e
   rw [wrap_add1 (by omega)]
   refine ih (j+1) (by omega) ?_
   intro i hi
   by_cases e' : i=j
   ·subst e'
    rw [rd_nat, rd_nat] at e
    rw [List.getElem?_eq_getElem (by omega), List.getElem?_eq_getElem (by omega)]
    simpa [List.getD_eq_getElem?_getD, show i<l.length by omega, show i<m.length by omega] using e
   ·exact h i (by omega)
  ·intro e
   refine Ev.ret ?_
   symm
   rw [decide_eq_false_iff_not]
   intro e'; subst e'; exact e rfl
theorem eqIntS_ev (l m : List Int) (hl : l.length≤1048576) : Ev (fun k=>laws_eqIntS.f k l m) (decide (l=m)):=by
 unfold laws_eqIntS.f
 refine Ev.ite (fun h=>?_) (fun h=>?_)
 ·exact eqIntS_l0 l m (by omega) (by omega) l.length 0 (by omega) (fun i h => by omega)
 ·refine Ev.ret ?_
  symm
  rw [decide_eq_false_iff_not]
  intro e; subst e; exact h rfl
theorem rd1_nat (xs : List (List Int)) (j:Nat) : rd_L1 xs (j:Int)=xs.getD j [] := by simp [rd_L1]
theorem szIntSS_l0 (l : List (List Int)) (hl : l.length≤1048576) (hx : ∀ x ∈ l, x.length≤maxLen) (d:Nat) : ∀ (j:Nat) (a:Int), j+d=l.length→0≤a→a≤1048576→(∀ i, i<j→(rd_L1 l (i:Int)).length≤1048576) →
  ∃ r, Ev (fun k=>laws_szIntSS.l0 k l a (j:Int)) r∧(0≤r→r≤1048576∧∀ i, i<l.length→(rd_L1 l (i:Int)).length≤1048576):=by
 induction d with
 | zero =>
  intro j a hj h0 h1 h
  refine ⟨a, Ev.step (fun k=>laws_szIntSS.l0.eq_2 ..) (Ev.neg (by omega) (Ev.ret rfl)), ?_⟩
  exact fun _=>⟨h1, fun i hi => h i (by omega)⟩
 | succ d ih =>
  intro j a hj h0 h1 h
  have hlen : (rd_L1 l (j:Int)).length≤maxLen:=by
   rw [rd1_nat, List.getD_eq_getElem?_getD, List.getElem?_eq_getElem (by omega)]
   exact hx _ (List.getElem_mem ..)
  simp only [maxLen] at hlen
  have hw : wrap64 (a - ((rd_L1 l (j:Int)).length:Int))=a - ((rd_L1 l (j:Int)).length:Int) := wrap_id (by omega) (by omega)
  by_cases hc : a - ((rd_L1 l (j:Int)).length:Int)<0
  ·refine ⟨-1, Ev.step (fun k=>laws_szIntSS.l0.eq_2 ..) (Ev.pos (by omega) (Ev.pos (by omega) (Ev.bind0 (a := -1) ?_ (Ev.pos (by omega) (Ev.ret rfl))))), fun h=>absurd h (by omega)⟩
   unfold laws_szIntS.f
   rw [hw, if_pos hc]
  ·obtain ⟨r, h2, h3⟩:=ih (j+1) (a - ((rd_L1 l (j:Int)).length:Int)) (by omega) (by omega) (by omega) (by
    intro i hi
    by_cases e : i=j
    ·subst e; omega
    ·exact h i (by omega))
   refine ⟨r, Ev.step (fun k=>laws_szIntSS.l0.eq_2 ..) (Ev.pos (by omega) (Ev.pos (by omega) (Ev.bind0 (a := a - ((rd_L1 l (j:Int)).length:Int)) ?_ (Ev.neg (by omega) ?_)))), h3⟩
   ·unfold laws_szIntS.f
    rw [hw, if_neg hc]
   ·rw [wrap_add1 (by omega)]
    exact h2
theorem szIntSS_any (l : List (List Int)) (a:Int) (h0 : 0≤a) (ha : a≤1048576) (hl : l.length≤maxLen) (hx : ∀ x ∈ l, x.length≤maxLen) :
  ∃ r, Ev (fun k=>laws_szIntSS.f k l a) r∧(¬ r<0→r≤1048576∧l.length≤1048576∧∀ i, i<l.length→(rd_L1 l (i:Int)).length≤1048576):=by
 simp only [maxLen] at hl
 have hw : wrap64 (a - (l.length:Int))=a - (l.length:Int) := wrap_id (by omega) (by omega)
 unfold laws_szIntSS.f
 by_cases hc : a - (l.length:Int)<0
 ·refine ⟨-1, ?_, fun h=>absurd h (by omega)⟩
  rw [hw]
  exact Ev.pos hc (Ev.ret rfl)
 ·obtain ⟨r, h1, h2⟩:=szIntSS_l0 l (by omega) hx l.length 0 (a - (l.length:Int)) (by omega) (by omega) (by omega) (fun i h => by omega)
  refine ⟨r, ?_, fun h=>⟨(h2 (by omega)).1,by omega, (h2 (by omega)).2⟩⟩
  rw [hw]
  exact Ev.neg hc h1
theorem szIntS_any (l : List Int) (a:Int) (h0 : 0≤a) (ha : a≤1048576) (hl : l.length≤maxLen) :
  ∃ r, laws_szIntS.f l a=some r∧(¬ r<0→r≤1048576∧l.length≤1048576):=by
 simp only [maxLen] at hl
 have hw : wrap64 (a - (l.length:Int))=a - (l.length:Int) := wrap_id (by omega) (by omega)
 unfold laws_szIntS.f
 rw [hw]
 by_cases hc : a - (l.length:Int)<0
 ·exact ⟨-1, if_pos hc, fun h=>absurd h (by omega)⟩
 ·exact ⟨_, if_neg hc, fun _=>⟨by omega,by omega⟩⟩
theorem szDesk_ev (l : List Int) (r : List (List Int)) (a:Int) (h0 : 0≤a) (ha : a≤1048576) (hl : l.length≤maxLen) (hr : r.length≤maxLen) (hx : ∀ x ∈ r, x.length≤maxLen) :
  ∃ t, Ev (fun k=>laws_szDesk.f k l r a) t∧(¬ t<0→t≤1048576∧l.length≤1048576∧r.length≤1048576∧∀ x ∈ r, x.length≤1048576):=by
 obtain ⟨t, h1, h2⟩:=szIntS_any l a h0 ha hl
 unfold laws_szDesk.f
 by_cases hc : t<0
 ·exact ⟨-1, Ev.bind0 h1 (Ev.pos hc (Ev.ret rfl)), fun h=>absurd h (by omega)⟩
 ·obtain ⟨h3, h4⟩:=h2 hc
  obtain ⟨u, h5, h6⟩:=szIntSS_any r t (by omega) h3 hr hx
  by_cases hu : u<0
  ·exact ⟨-1, Ev.bind0 h1 (Ev.neg hc (Ev.bind h5 (Ev.pos hu (Ev.ret rfl)))), fun h=>absurd h (by omega)⟩
  ·obtain ⟨h7, h8, h9⟩:=h6 hu
   refine ⟨u, Ev.bind0 h1 (Ev.neg hc (Ev.bind h5 (Ev.neg hu (Ev.ret rfl)))), fun _=>⟨h7, h4, h8, fun x hx => ?_⟩⟩
   obtain ⟨i, hi, rfl⟩:=List.getElem_of_mem hx
   have := h9 i hi
   rwa [rd1_nat, List.getD_eq_getElem?_getD, List.getElem?_eq_getElem hi] at this
theorem toIntSS_l0 (l : List (List Int)) (hl : l.length≤1048576) (hx : ∀ i, i<l.length→(rd_L1 l (i:Int)).length≤1048576) (d:Nat) : ∀ (j:Nat) (y : List (List Int)), j+d=l.length→y.length=l.length→(∀ i, i<j→y[i]?=l[i]?)→Ev (fun k=>laws_toIntSS.l0 k l y (j:Int)) l:=by
 induction d with
 | zero =>
  intro j y hj hy h
  refine Ev.step (fun k=>laws_toIntSS.l0.eq_2 ..) ?_
  refine Ev.neg (by omega) (Ev.ret ?_)
  apply List.ext_getElem?
  intro i
  by_cases hi : i<j
  ·exact h i hi
  ·rw [List.getElem?_eq_none (by omega), List.getElem?_eq_none (by omega)]
 | succ d ih =>
  intro j y hj hy h
  refine Ev.step (fun k=>laws_toIntSS.l0.eq_2 ..) ?_
  refine Ev.pos (by omega) (Ev.pos (by omega) (Ev.bind (toIntS_ev _ (hx j (by omega))) (Ev.pos (by omega) ?_)))
  rw [wrap_add1 (by omega)]
  refine ih (j+1) _ (by omega) (by simpa using hy) ?_
  intro i hi
  rw [rd1_nat, Int.toNat_natCast]
  by_cases e : i=j
  ·subst e
   simp [hy, show i<l.length by omega]
  ·rw [List.getElem?_set_ne (by omega)]
   exact h i (by omega)
theorem toIntSS_ev (l : List (List Int)) (hl : l.length≤1048576) (hx : ∀ i, i<l.length→(rd_L1 l (i:Int)).length≤1048576) : Ev (fun k=>laws_toIntSS.f k l) l:=by
 unfold laws_toIntSS.f
 refine Ev.pos (by omega) (Ev.pos (by omega) ?_)
 exact toIntSS_l0 l hl hx l.length 0 _ (by omega) (by simp) (fun i h => by omega)
theorem toDesk_ev (l : List Int) (r : List (List Int)) (hl : l.length≤1048576) (hr : r.length≤1048576) (hx : ∀ x ∈ r, x.length≤1048576) : Ev (fun k=>laws_toDesk.f k l r) (l, r):=by
 unfold laws_toDesk.f
 have h1 : ∀ i, i<r.length→(rd_L1 r (i:Int)).length≤1048576 := fun i hi => by rw [rd1_nat, List.getD_eq_getElem?_getD, List.getElem?_eq_getElem hi]; exact hx _ (List.getElem_mem ..)
 exact Ev.bind (toIntS_ev l hl) (Ev.bind (toIntSS_ev r hr h1) (Ev.ret rfl))
def walkOk (l : List Int) : Nat→Int→Bool
 | 0, a => decide (a≤0)
 | m+1, a => if a≤0 then true else decide (0≤rd l (a - 1)∧rd l (a - 1)≤l.length) && walkOk l m (rd l (a - 1))
def okAt (l : List Int) (i:Nat) : Bool := decide (0≤rd l i∧rd l i≤l.length) && walkOk l l.length ((i:Int)+1)
def zerosFrom (l : List Int) (j:Nat) : Nat := (l.drop j).count 0
def treeOk (l : List Int) : Bool := decide (1≤l.length∧l.length≤8) && (List.range l.length).all (okAt l) && decide (l.count 0=1)
theorem walkOk_self (l : List Int) (a:Int) (ha : 0<a) (h : rd l (a - 1)=a) : ∀ m, walkOk l m a=false
 | 0 => by simp [walkOk]; omega
 | m+1 => by
  unfold walkOk
  rw [if_neg (by omega), h, walkOk_self l a ha h m, Bool.and_false]
theorem zerosFrom_succ (l : List Int) (j:Nat) (h : j<l.length) : zerosFrom l j=(if rd l j=0 then 1 else 0)+zerosFrom l (j+1):=by
 unfold zerosFrom
 rw [List.drop_eq_getElem_cons h, List.count_cons]
 have e : rd l j=l[j] := by simp [rd_nat, h]
 rw [e]
 by_cases e : l[j]=0 <;> simp [e, Nat.add_comm]
theorem all_from (p : Nat→Bool) (n j:Nat) (h : j<n) : ((List.range' j (n - j)).all p)=(p j && (List.range' (j+1) (n - (j+1))).all p):=by
 obtain ⟨d, hd⟩ : ∃ d, n - j=d+1 := ⟨n - j - 1,by omega⟩
 rw [hd, List.range'_succ, List.all_cons, show n - (j+1)=d by omega]
def restOk (l : List Int) (r:Nat) (j:Nat) : Bool := (List.range' j (l.length - j)).all (okAt l) && decide (r+zerosFrom l j=1)
theorem restOk_end (l : List Int) (r:Nat) (j:Nat) (h : j=l.length) : restOk l r j=((r:Int) == 1):=by
 subst h
 unfold restOk zerosFrom
 simp
 rw [Bool.eq_iff_iff]; simp; omega
theorem restOk_bad (l : List Int) (r:Nat) (j:Nat) (h : j<l.length) (hb : okAt l j=false) : restOk l r j=false:=by
 unfold restOk
 rw [all_from _ _ _ h, hb]; rfl
theorem restOk_good (l : List Int) (r:Nat) (j:Nat) (h : j<l.length) (hb : okAt l j=true) : restOk l r j=restOk l (r+if rd l j=0 then 1 else 0) (j+1):=by
 unfold restOk
 rw [all_from _ _ _ h, hb, Bool.true_and, zerosFrom_succ l j h, Nat.add_assoc]
theorem restOk_zero (l : List Int) (h : 1≤l.length∧l.length≤8) : restOk l 0 0=treeOk l:=by
 unfold restOk treeOk zerosFrom
 rw [decide_eq_true h]
 simp [List.range_eq_range']
def deskOk (l : List Int) (r : List (List Int)) : Bool := treeOk l && decide (r.length≤8) && r.all treeOk
@[reducible] def goodAt (o : List Int) (many:Int) (i:Nat) : Prop := (1≤rd o i∧rd o i≤many)∧∀ j : Nat, j<i→rd o j≠rd o i
def orderOk (o : List Int) (many:Int) : Bool := decide ((1≤many∧many≤8)∧(o.length:Int)=many∧∀ i : Nat, i<o.length→goodAt o many i)
theorem orderOk_bad {o : List Int} {many : Int} {i : Nat} (hi : i<o.length) (h : ¬ goodAt o many i) : orderOk o many=false:=by
 unfold orderOk
 rw [decide_eq_false_iff_not]
 exact fun h2=>h (h2.2.2 i hi)
theorem orderOk_iff {o : List Int} {many : Int} : orderOk o many=true ↔ ((1≤many∧many≤8)∧(o.length:Int)=many∧∀ i : Nat, i<o.length→goodAt o many i):=by
 unfold orderOk
 rw [decide_eq_true_iff]
theorem treeOk_len {l : List Int} (h : treeOk l=true) : 1≤l.length∧l.length≤8:=by
 unfold treeOk at h
 rw [Bool.and_eq_true, Bool.and_eq_true] at h
 exact of_decide_eq_true h.1.1
theorem treeOk_rd {l : List Int} (h : treeOk l=true) {j : Nat} (hj : j<l.length) : 0≤rd l j∧rd l j≤l.length:=by
 unfold treeOk at h
 rw [Bool.and_eq_true, Bool.and_eq_true] at h
 have := List.all_eq_true.mp h.1.2 j (List.mem_range.mpr hj)
 unfold okAt at this
 rw [Bool.and_eq_true] at this
 exact of_decide_eq_true this.1
theorem treeOk_walk {l : List Int} (h : treeOk l=true) {j : Nat} (hj : j<l.length) : walkOk l l.length ((j:Int)+1)=true:=by
 unfold treeOk at h
 rw [Bool.and_eq_true, Bool.and_eq_true] at h
 have := List.all_eq_true.mp h.1.2 j (List.mem_range.mpr hj)
 unfold okAt at this
 rw [Bool.and_eq_true] at this
 exact this.2
theorem treeOk_ne {l : List Int} (h : treeOk l=true) {j : Nat} (hj : j<l.length) : rd l j≠(j:Int)+1:=by
 intro e
 have := treeOk_walk h hj
 rw [walkOk_self l _ (by omega) (by rw [show (j:Int)+1 - 1=(j:Int) by omega]; exact e)] at this
 cases this
theorem treeOk_zero {l : List Int} (h : treeOk l=true) : l.count 0=1:=by
 unfold treeOk at h
 rw [Bool.and_eq_true] at h
 exact of_decide_eq_true h.2
def placeOf (o : List Int) (v:Int) : Int := match (List.range o.length).find? (fun i : Nat => decide (rd o i=v)) with | some i => (i:Int)+1 | none => 0
def putOf (l o : List Int) : List Int := o.map (fun w=>placeOf o (rd l (w - 1)))
theorem order_inj {o : List Int} {many : Int} (h : orderOk o many=true) {i j : Nat} (hi : i<o.length) (hj : j<o.length) (e : rd o i=rd o j) : i=j:=by
 obtain ⟨_, _, h3⟩:=orderOk_iff.mp h
 rcases Nat.lt_trichotomy i j with h4 | h4 | h4
 ·exact absurd e ((h3 j hj).2 i h4)
 ·exact h4
 ·exact absurd e.symm ((h3 i hi).2 j h4)
theorem placeOf_at {o : List Int} {many : Int} (h : orderOk o many=true) {i : Nat} (hi : i<o.length) : placeOf o (rd o i)=(i:Int)+1:=by
 unfold placeOf
 cases hf : (List.range o.length).find? (fun k : Nat => decide (rd o k=rd o i)) with
 | some k =>
  have h1 := List.mem_range.mp (List.mem_of_find?_eq_some hf)
  have h2 : rd o k=rd o i := by simpa using List.find?_some hf
  rw [order_inj h h1 hi h2]
 | none => exact absurd (decide_eq_true rfl) (List.find?_eq_none.mp hf i (List.mem_range.mpr hi))
theorem placeOf_none {o : List Int} {v : Int} (h : ∀ i : Nat, i<o.length→rd o i≠v) : placeOf o v=0:=by
 unfold placeOf
 cases hf : (List.range o.length).find? (fun k : Nat => decide (rd o k=v)) with
 | some k => exact absurd (by simpa using List.find?_some hf) (h k (List.mem_range.mp (List.mem_of_find?_eq_some hf)))
 | none => rfl
def PlacesTo (o : List Int) (j:Nat) (y : List Int) : Prop := ∀ v : Nat, v<y.length→y[v]?=some (match (List.range j).find? (fun i : Nat => decide (rd o i=(v:Int))) with | some i => (i:Int)+1 | none => 0)
theorem find_range_succ (p : Nat→Bool) (j:Nat) : (List.range (j+1)).find? p=((List.range j).find? p).or (if p j then some j else none):=by
 rw [List.range_succ, List.find?_append]
 congr 1
 by_cases h : p j=true
 ·rw [if_pos h, List.find?_cons_of_pos h]
 ·rw [if_neg h, List.find?_cons_of_neg h]; rfl
theorem PlacesTo.set {o : List Int} {many : Int} (h : orderOk o many=true) {j : Nat} (hj : j<o.length) {y : List Int} (hy : PlacesTo o j y) : PlacesTo o (j+1) (y.set (rd o j).toNat ((j:Int)+1)):=by
 have hg := (orderOk_iff.mp h).2.2 j hj
 intro v hv
 rw [List.length_set] at hv
 rw [find_range_succ]
 by_cases e : v=(rd o j).toNat
 ·subst e
  rw [List.getElem?_set_self hv]
  have e2 : ((rd o j).toNat:Int)=rd o j := by omega
  rw [e2]
  have hn : (List.range j).find? (fun i : Nat => decide (rd o i=rd o j))=none:=by
   rw [List.find?_eq_none]
   intro i hi
   simp [hg.2 i (List.mem_range.mp hi)]
  rw [hn]
  simp
 ·rw [List.getElem?_set_ne (by omega), hy v hv]
  have e2 : ¬ (rd o j=(v:Int)) := by omega
  simp [e2]
theorem PlacesTo.whole {o : List Int} {y : List Int} (hy : PlacesTo o o.length y) {v : Int} (h0 : 0≤v) (h1 : v<y.length) : rd y v=placeOf o v:=by
 have := hy v.toNat (by omega)
 rw [show ((v.toNat:Nat):Int)=v by omega] at this
 unfold rd placeOf
 rw [List.getD_eq_getElem?_getD, this]
 rfl
theorem PlacesTo.zero (o : List Int) (n:Nat) : PlacesTo o 0 (List.replicate n 0):=by
 intro v hv
 simp at hv
 simp [hv]
theorem nodup_le : ∀ (n:Nat) (L : List Int), L.Nodup→(∀ x, x ∈ L→1≤x∧x≤n)→L.length≤n
 | 0, L, _, h => by
  cases L with
  | nil => simp
  | cons a r => have := h a (by simp); omega
 | n+1, L, hn, h => by
  by_cases hm : ((n+1:Nat):Int) ∈ L
  ·have h1 := nodup_le n (L.erase ((n+1:Nat):Int)) (hn.erase _) (fun x hx => by
    rw [hn.mem_erase_iff] at hx
    have := h x hx.2
    omega)
   rw [List.length_erase_of_mem hm] at h1
   omega
  ·have := nodup_le n L hn (fun x hx => by
    have h2 := h x hx
    have : x≠((n+1:Nat):Int) := fun e=>hm (e ▸ hx)
    omega)
   omega
theorem nodup_all : ∀ (n:Nat) (L : List Int), L.Nodup→(∀ x, x ∈ L→1≤x∧x≤n)→L.length=n→∀ v : Int, 1≤v→v≤n→v ∈ L
 | 0, L, _, h, hl, v, h0, h1 => by omega
 | n+1, L, hn, h, hl, v, h0, h1 => by
  have hm : ((n+1:Nat):Int) ∈ L:=by
   apply Decidable.byContradiction
   intro hm
   have := nodup_le n L hn (fun x hx => by
    have h2 := h x hx
    have : x≠((n+1:Nat):Int) := fun e=>hm (e ▸ hx)
    omega)
   omega
  by_cases e : v=((n+1:Nat):Int)
  ·rw [e]; exact hm
  ·have := nodup_all n (L.erase ((n+1:Nat):Int)) (hn.erase _) (fun x hx => by
    rw [hn.mem_erase_iff] at hx
    have := h x hx.2
    omega) (by rw [List.length_erase_of_mem hm]; omega) v h0 (by omega)
   exact List.mem_of_mem_erase this
theorem rd_get (l : List Int) {i : Nat} (h : i<l.length) : rd l i=l[i] := by simp [rd_nat, h]
theorem nodup_iff_rd (l : List Int) : l.Nodup ↔ ∀ i j : Nat, i<j→j<l.length→rd l i≠rd l j:=by
 rw [List.nodup_iff_pairwise_ne, List.pairwise_iff_getElem]
 constructor
 ·intro h i j hij hj
  rw [rd_get l (by omega), rd_get l hj]
  exact h i j (by omega) hj hij
 ·intro h i j hi hj hij
  have := h i j hij hj
  rwa [rd_get l hi, rd_get l hj] at this
theorem orderOk_nodup {o : List Int} {many : Int} : orderOk o many=true ↔ (1≤many∧many≤8)∧(o.length:Int)=many∧o.Nodup∧∀ x, x ∈ o→1≤x∧x≤many:=by
 rw [orderOk_iff, nodup_iff_rd]
 constructor
 ·rintro ⟨h1, h2, h3⟩
  refine ⟨h1, h2, fun i j hij hj => (h3 j hj).2 i hij, fun x hx => ?_⟩
  obtain ⟨i, hi, rfl⟩:=List.getElem_of_mem hx
  have := (h3 i hi).1
  rwa [rd_get o hi] at this
 ·rintro ⟨h1, h2, h3, h4⟩
  refine ⟨h1, h2, fun i hi => ⟨?_, fun j hj => h3 j i hj hi⟩⟩
  rw [rd_get o hi]
  exact h4 _ (List.getElem_mem hi)
def indexFrom (l : List Int) (v:Int) (n j:Nat) : Int := match (List.range' j (n - j)).find? (fun i : Nat => decide (rd l i=v)) with | some i => i | none => -1
def rootOf (l : List Int) : Int := if treeOk l then indexFrom l 0 l.length 0+1 else -1
theorem indexFrom_step (l : List Int) (v:Int) {n j : Nat} (h : j<n) : indexFrom l v n j=if rd l j=v then (j:Int) else indexFrom l v n (j+1):=by
 unfold indexFrom
 have hr : List.range' j (n - j)=j :: List.range' (j+1) (n - (j+1)):=by
  rw [show n - j=(n - (j+1))+1 by omega, List.range'_succ]
 rw [hr]
 by_cases e : rd l j=v
 ·rw [List.find?_cons_of_pos (by simpa using e), if_pos e]
 ·rw [List.find?_cons_of_neg (by simpa using e), if_neg e]
theorem indexFrom_end (l : List Int) (v:Int) {n j : Nat} (h : n≤j) : indexFrom l v n j=-1:=by
 unfold indexFrom
 rw [show n - j=0 by omega]
 rfl
theorem indexFrom_spec (l : List Int) (v:Int) (n:Nat) (d:Nat) : ∀ j, j+d=n→(∃ i : Nat, j≤i∧i<n∧rd l i=v∧indexFrom l v n j=i) ∨ ((∀ i : Nat, j≤i→i<n→rd l i≠v)∧indexFrom l v n j=-1):=by
 induction d with
 | zero => intro j hj; exact .inr ⟨fun i h1 h2 => by omega, indexFrom_end l v (by omega)⟩
 | succ d ih =>
  intro j hj
  rw [indexFrom_step l v (by omega)]
  by_cases e : rd l j=v
  ·rw [if_pos e]; exact .inl ⟨j,by omega,by omega, e, rfl⟩
  ·rw [if_neg e]
   rcases ih (j+1) (by omega) with ⟨i, h1, h2, h3, h4⟩ | ⟨h1, h2⟩
   ·exact .inl ⟨i,by omega, h2, h3, h4⟩
   ·refine .inr ⟨fun i h3 h4 => ?_, h2⟩
    by_cases e2 : i=j
    ·subst e2; exact e
    ·exact h1 i (by omega) h4
theorem exists_root {l : List Int} (h : treeOk l=true) : ∃ i : Nat, i<l.length∧rd l i=0:=by
 have hz := treeOk_zero h
 have hm : (0:Int) ∈ l:=by
  apply List.count_pos_iff.mp; omega
 obtain ⟨i, hi, e⟩:=List.getElem_of_mem hm
 exact ⟨i, hi, by simp [rd_nat, hi, e]⟩
theorem rootOf_spec {l : List Int} (h : treeOk l=true) : ∃ i : Nat, i<l.length∧rd l i=0∧rootOf l=(i:Int)+1:=by
 unfold rootOf
 rw [if_pos h]
 rcases indexFrom_spec l 0 l.length l.length 0 (by omega) with ⟨i, _, h2, h3, h4⟩ | ⟨h1, _⟩
 ·exact ⟨i, h2, h3, by rw [h4]⟩
 ·obtain ⟨i, hi, e⟩:=exists_root h
  exact absurd e (h1 i (by omega) hi)
def Deep (l : List Int) : Nat→Int→Prop
 | 0, w => rd l (w - 1)=0
 | d+1, w => 1≤rd l (w - 1)∧rd l (w - 1)≤l.length∧Deep l d (rd l (w - 1))
theorem deep_of_walk (l : List Int) : ∀ (m:Nat) (w:Int), 0<w→walkOk l m w=true→∃ d, d<m∧Deep l d w
 | 0, w, h0, h => by simp [walkOk] at h; omega
 | m+1, w, h0, h => by
  unfold walkOk at h
  rw [if_neg (by omega), Bool.and_eq_true, decide_eq_true_eq] at h
  by_cases e : rd l (w - 1)=0
  ·exact ⟨0,by omega, e⟩
  ·obtain ⟨d, hd, hd2⟩:=deep_of_walk l m _ (by omega) h.2
   exact ⟨d+1,by omega,by omega, h.1.2, hd2⟩
theorem tree_deep {l : List Int} (h : treeOk l=true) {w : Int} (h0 : 1≤w) (h1 : w≤l.length) : ∃ d, d<l.length∧Deep l d w:=by
 have := treeOk_walk h (j := (w - 1).toNat) (by omega)
 rw [show (((w - 1).toNat:Nat):Int)+1=w by omega] at this
 exact deep_of_walk l _ w (by omega) this
theorem deep_unique (l : List Int) : ∀ (d d':Nat) (w:Int), Deep l d w→Deep l d' w→d=d'
 | 0, 0, _, _, _ => rfl
 | 0, d'+1, w, h, h' => by
  have h : rd l (w - 1)=0 := h
  have := h'.1
  omega
 | d+1, 0, w, h, h' => by
  have h' : rd l (w - 1)=0 := h'
  have := h.1
  omega
 | d+1, d'+1, w, h, h' => by rw [deep_unique l d d' _ h.2.2 h'.2.2]
theorem deep_lt {l : List Int} (h : treeOk l=true) {w : Int} (h0 : 1≤w) (h1 : w≤l.length) {d : Nat} (hd : Deep l d w) : d<l.length:=by
 obtain ⟨d', h2, h3⟩:=tree_deep h h0 h1
 rw [deep_unique l d d' w hd h3]
 exact h2
theorem deep_kid {l : List Int} {w : Int} (hw : 1≤w∧w≤l.length) {d : Nat} (hd : Deep l d w) {i : Nat} (e : rd l i=w) : Deep l (d+1) ((i:Int)+1):=by
 have e' : rd l ((i:Int)+1 - 1)=w := by rw [show (i:Int)+1 - 1=(i:Int) by omega]; exact e
 exact ⟨by omega,by omega, by rw [e']; exact hd⟩
def up (l : List Int) : Nat→Int→Int
 | 0, v => v
 | k+1, v => up l k (rd l (v - 1))
theorem up_succ (l : List Int) : ∀ (k:Nat) (v:Int), up l (k+1) v=rd l (up l k v - 1)
 | 0, v => rfl
 | k+1, v => by rw [up, up_succ l k, ← up]
theorem zero_unique {l : List Int} (h : treeOk l=true) {i j : Nat} (hi : i<l.length) (hj : j<l.length) (e1 : rd l i=0) (e2 : rd l j=0) : i=j:=by
 have hz := treeOk_zero h
 have key : ∀ a b : Nat, a<b→b<l.length→rd l a=0→rd l b=0→False:=by
  intro a b hab hb ha0 hb0
  have h1 := zerosFrom_succ l a (by omega)
  rw [if_pos ha0] at h1
  have h2 : ∀ q : Nat, a+1≤q→q≤b→zerosFrom l b≤zerosFrom l q:=by
   intro q hq hqb
   obtain ⟨d, hd⟩ : ∃ d, q+d=b := ⟨b - q,by omega⟩
   clear hq
   induction d generalizing q with
   | zero => rw [show q=b by omega]; exact Nat.le_refl _
   | succ d ih =>
    have h3 := zerosFrom_succ l q (by omega)
    have h4 := ih (q+1) (by omega) (by omega)
    omega
  have h3 := h2 (a+1) (by omega) (by omega)
  have h4 := zerosFrom_succ l b hb
  rw [if_pos hb0] at h4
  have h5 : zerosFrom l a≤l.count 0:=by
   unfold zerosFrom
   exact (List.drop_sublist a l).count_le 0
  omega
 rcases Nat.lt_trichotomy i j with h1 | h1 | h1
 ·exact absurd (key i j h1 hj e1 e2) id
 ·exact h1
 ·exact absurd (key j i h1 hi e2 e1) id
theorem orderOk_len {o : List Int} {n : Nat} (h : orderOk o n=true) : o.length=n:=by
 have := (orderOk_iff.mp h).2.1; omega
theorem orderOk_rd {o : List Int} {n : Nat} (h : orderOk o n=true) {i : Nat} (hi : i<n) : 1≤rd o i∧rd o i≤n :=
 ((orderOk_iff.mp h).2.2 i (by rw [orderOk_len h]; exact hi)).1
theorem placeOf_spec {o : List Int} {n : Nat} (h : orderOk o n=true) {v : Int} (h0 : 1≤v) (h1 : v≤n) : ∃ i : Nat, i<n∧rd o i=v∧placeOf o v=(i:Int)+1:=by
 obtain ⟨_, h2, h3, h4⟩:=orderOk_nodup.mp h
 have hm := nodup_all n o h3 h4 (by omega) v h0 h1
 obtain ⟨i, hi, e⟩:=List.getElem_of_mem hm
 have e2 : rd o i=v := by rw [rd_get o hi]; exact e
 exact ⟨i,by omega, e2, by rw [← e2]; exact placeOf_at h hi⟩
theorem placeOf_zero {o : List Int} {n : Nat} (h : orderOk o n=true) : placeOf o 0=0 :=
 placeOf_none (fun i hi e => by have := orderOk_rd h (i := i) (by rw [← orderOk_len h]; exact hi); omega)
theorem placeOf_range {o : List Int} {n : Nat} (h : orderOk o n=true) {v : Int} (h0 : 0≤v) (h1 : v≤n) : 0≤placeOf o v∧placeOf o v≤n∧(placeOf o v≤0 ↔ v≤0):=by
 by_cases e : v=0
 ·subst e; rw [placeOf_zero h]; omega
 ·obtain ⟨i, h2, _, h3⟩:=placeOf_spec h (v := v) (by omega) h1
  omega
theorem putOf_length (l o : List Int) : (putOf l o).length=o.length := by simp [putOf]
theorem putOf_rd {l o : List Int} {n : Nat} (h : orderOk o n=true) {i : Nat} (hi : i<n) : rd (putOf l o) i=placeOf o (rd l (rd o i - 1)):=by
 rw [rd_get _ (by rw [putOf_length, orderOk_len h]; exact hi)]
 have hi' : i<o.length := by rw [orderOk_len h]; exact hi
 simp only [putOf, List.getElem_map, rd_get o hi']
theorem putOf_at {l o : List Int} {n : Nat} (h : orderOk o n=true) {v : Int} (h0 : 1≤v) (h1 : v≤n) : rd (putOf l o) (placeOf o v - 1)=placeOf o (rd l (v - 1)):=by
 obtain ⟨i, h2, h3, h4⟩:=placeOf_spec h h0 h1
 rw [h4, show (i:Int)+1 - 1=i by omega, putOf_rd h h2, h3]
theorem treeOk_rd' {l : List Int} (h : treeOk l=true) {v : Int} (h0 : 1≤v) (h1 : v≤l.length) : 0≤rd l (v - 1)∧rd l (v - 1)≤l.length:=by
 have := treeOk_rd h (j := (v - 1).toNat) (by omega)
 rwa [show (((v - 1).toNat:Nat):Int)=v - 1 by omega] at this
theorem walk_put {l o : List Int} (hl : treeOk l=true) (h : orderOk o l.length=true) : ∀ (m:Nat) (v:Int), 0≤v→v≤l.length→walkOk (putOf l o) m (placeOf o v)=walkOk l m v
 | 0, v, h0, h1 => by
  unfold walkOk
  rw [decide_eq_decide]; exact (placeOf_range h h0 h1).2.2
 | m+1, v, h0, h1 => by
  unfold walkOk
  have hr := placeOf_range h h0 h1
  by_cases e : v≤0
  ·rw [if_pos e, if_pos (hr.2.2.mpr e)]
  ·rw [if_neg e, if_neg (fun h2=>e (hr.2.2.mp h2)), putOf_at h (by omega) h1]
   have h3 := treeOk_rd' hl (v := v) (by omega) h1
   have h4 := placeOf_range h h3.1 h3.2
   rw [putOf_length, orderOk_len h, decide_eq_true h3, decide_eq_true (show 0≤placeOf o (rd l (v - 1))∧placeOf o (rd l (v - 1))≤(l.length:Int) from ⟨h4.1, h4.2.1⟩), walk_put hl h m _ h3.1 h3.2]
theorem count_zero_one {l : List Int} {i : Nat} (hi : i<l.length) (h0 : rd l i=0) (hu : ∀ j : Nat, j<l.length→rd l j=0→j=i) : l.count 0=1:=by
 have key : ∀ d j, j+d=l.length→zerosFrom l j=if j≤i then 1 else 0:=by
  intro d
  induction d with
  | zero => intro j hj; unfold zerosFrom; rw [List.drop_eq_nil_of_le (by omega), if_neg (by omega)]; rfl
  | succ d ih =>
   intro j hj
   rw [zerosFrom_succ l j (by omega), ih (j+1) (by omega)]
   by_cases e : j=i
   ·subst e; rw [if_pos h0, if_neg (by omega), if_pos (by omega)]
   ·rw [if_neg (fun h=>e (hu j (by omega) h))]
    split <;> split <;> omega
 have := key l.length 0 (by omega)
 rw [if_pos (by omega)] at this
 simpa [zerosFrom] using this
theorem treeOk_put {l o : List Int} (hl : treeOk l=true) (h : orderOk o l.length=true) : treeOk (putOf l o)=true:=by
 have hlen : (putOf l o).length=l.length := by rw [putOf_length, orderOk_len h]
 unfold treeOk
 rw [hlen, decide_eq_true (treeOk_len hl), Bool.true_and, Bool.and_eq_true]
 constructor
 ·rw [List.all_eq_true]
  intro i hi
  have hi := List.mem_range.mp hi
  have h1 := orderOk_rd h hi
  have h2 := treeOk_rd' hl h1.1 h1.2
  have h3 := placeOf_range h h2.1 h2.2
  unfold okAt
  rw [putOf_rd h hi, hlen, decide_eq_true ⟨h3.1, h3.2.1⟩, Bool.true_and]
  have h4 : placeOf o (rd o i)=(i:Int)+1 := placeOf_at h (by rw [orderOk_len h]; exact hi)
  rw [← h4, walk_put hl h _ _ (by omega) h1.2]
  have := treeOk_walk hl (j := (rd o i - 1).toNat) (by omega)
  rwa [show (((rd o i - 1).toNat:Nat):Int)+1=rd o i by omega] at this
 ·rw [decide_eq_true_iff]
  obtain ⟨i, h1, h2⟩:=exists_root hl
  obtain ⟨j, h3, h4, h5⟩:=placeOf_spec h (v := (i:Int)+1) (by omega) (by omega)
  refine count_zero_one (i := j) (by omega) ?_ ?_
  ·rw [putOf_rd h h3, h4, show (i:Int)+1 - 1=i by omega, h2, placeOf_zero h]
  ·intro k hk hk0
   have hk' : k<l.length := by omega
   rw [putOf_rd h hk'] at hk0
   have h6 := orderOk_rd h hk'
   have h7 := treeOk_rd' hl h6.1 h6.2
   have h8 := (placeOf_range h h7.1 h7.2).2.2.mp (by omega)
   have h9 := zero_unique hl (i := (rd o k - 1).toNat) (j := i) (by omega) h1 (by rw [show (((rd o k - 1).toNat:Nat):Int)=rd o k - 1 by omega]; omega) h2
   exact order_inj h (by rw [orderOk_len h]; omega) (by rw [orderOk_len h]; omega) (by omega)
def downO (n:Nat) : List Int := (List.range n).map (fun i : Nat => (n:Int) - i)
theorem downO_length (n:Nat) : (downO n).length=n := by simp [downO]
theorem downO_rd {n i : Nat} (h : i<n) : rd (downO n) (i:Int)=(n:Int) - i:=by
 rw [rd_get _ (by rw [downO_length]; exact h)]; simp [downO]
theorem downO_ok {n : Nat} (h1 : 1≤n) (h2 : n≤8) : orderOk (downO n) n=true:=by
 rw [orderOk_iff]
 refine ⟨by omega, by rw [downO_length], ?_⟩
 intro i hi
 rw [downO_length] at hi
 refine ⟨by rw [downO_rd hi]; omega, fun j hj => ?_⟩
 rw [downO_rd hi, downO_rd (show j<n by omega)]; omega
theorem placeOf_down {n : Nat} (h1 : 1≤n) (h2 : n≤8) {v : Int} (h3 : 1≤v) (h4 : v≤n) : placeOf (downO n) v=(n:Int)+1 - v:=by
 obtain ⟨i, h5, h6, h7⟩:=placeOf_spec (downO_ok h1 h2) h3 h4
 rw [downO_rd h5] at h6; omega
def backOf (l : List Int) : List Int := if treeOk l then putOf l (downO l.length) else []
theorem backOf_ok {l : List Int} (h : treeOk l=true) : treeOk (backOf l)=true∧(backOf l).length=l.length:=by
 have hn := treeOk_len h
 unfold backOf
 rw [if_pos h]
 exact ⟨treeOk_put h (downO_ok hn.1 hn.2), by rw [putOf_length, downO_length]⟩
theorem backOf_rd {l : List Int} (h : treeOk l=true) {i : Nat} (hi : i<l.length) : rd (backOf l) (i:Int)=if rd l (((l.length - 1 - i:Nat)):Int)=0 then 0 else (l.length:Int)+1 - rd l (((l.length - 1 - i:Nat)):Int):=by
 have hn := treeOk_len h
 have hr := treeOk_rd h (j := l.length - 1 - i) (by omega)
 unfold backOf
 rw [if_pos h, putOf_rd (downO_ok hn.1 hn.2) hi, downO_rd hi, show (l.length:Int) - i - 1=((l.length - 1 - i:Nat):Int) by omega]
 by_cases e : rd l (((l.length - 1 - i:Nat)):Int)=0
 ·rw [if_pos e, e, placeOf_zero (downO_ok hn.1 hn.2)]
 ·rw [if_neg e, placeOf_down hn.1 hn.2 (by omega) hr.2]
def kidsL (l : List Int) (w:Int) (n j:Nat) : List Nat := (List.range' j (n - j)).filter (fun i=>decide (rd l i=w∧(i:Int)+1<w))
def kidsR (l : List Int) (w:Int) (n j:Nat) : List Nat := (List.range' j (n - j)).filter (fun i=>decide (rd l i=w∧¬ (i:Int)+1<w))
def flatF (l : List Int) : Nat→Int→List Int
 | 0, w => [w]
 | m+1, w => (kidsL l w l.length 0).flatMap (fun i : Nat => flatF l m ((i:Int)+1)) ++ ([w] ++ (kidsR l w l.length 0).flatMap (fun i : Nat => flatF l m ((i:Int)+1)))
def flatOrder (l : List Int) : List Int := if treeOk l then flatF l l.length (rootOf l) else []
theorem range'_cons {n j : Nat} (h : j<n) : List.range' j (n - j)=j :: List.range' (j+1) (n - (j+1)):=by
 rw [show n - j=(n - (j+1))+1 by omega, List.range'_succ]
theorem kidsL_end (l : List Int) (w:Int) {n j : Nat} (h : n≤j) : kidsL l w n j=[] := by unfold kidsL; rw [show n - j=0 by omega]; rfl
theorem kidsR_end (l : List Int) (w:Int) {n j : Nat} (h : n≤j) : kidsR l w n j=[] := by unfold kidsR; rw [show n - j=0 by omega]; rfl
theorem kidsL_yes (l : List Int) (w:Int) {n j : Nat} (h : j<n) (e : rd l j=w∧(j:Int)+1<w) : kidsL l w n j=j :: kidsL l w n (j+1):=by
 unfold kidsL; rw [range'_cons h, List.filter_cons_of_pos (by simpa using e)]
theorem kidsL_no (l : List Int) (w:Int) {n j : Nat} (h : j<n) (e : ¬ (rd l j=w∧(j:Int)+1<w)) : kidsL l w n j=kidsL l w n (j+1):=by
 unfold kidsL; rw [range'_cons h, List.filter_cons_of_neg (by simpa using e)]
theorem kidsR_yes (l : List Int) (w:Int) {n j : Nat} (h : j<n) (e : rd l j=w∧¬ (j:Int)+1<w) : kidsR l w n j=j :: kidsR l w n (j+1):=by
 unfold kidsR; rw [range'_cons h, List.filter_cons_of_pos (by simpa using e)]
theorem kidsR_no (l : List Int) (w:Int) {n j : Nat} (h : j<n) (e : ¬ (rd l j=w∧¬ (j:Int)+1<w)) : kidsR l w n j=kidsR l w n (j+1):=by
 unfold kidsR; rw [range'_cons h, List.filter_cons_of_neg (by simpa using e)]
theorem flatMap_small (m b:Nat) (g : Nat→List Int) (hg : ∀ i, (g i).length≤b) : ∀ (ks : List Nat), ks.length≤m→(ks.flatMap g).length≤m * b
 | [], _ => by simp
 | i :: r, h => by
  have h1 := hg i
  obtain ⟨m, rfl⟩ : ∃ q, m=q+1 := ⟨m - 1, by simp at h; omega⟩
  have h2 := flatMap_small m b g hg r (by simpa using h)
  rw [List.flatMap_cons, List.length_append, Nat.add_mul]
  omega
theorem kids_len (l : List Int) (w:Int) (n j:Nat) : (kidsL l w n j).length≤n∧(kidsR l w n j).length≤n:=by
 constructor
 ·exact Nat.le_trans (List.length_filter_le _ _) (by simp)
 ·exact Nat.le_trans (List.length_filter_le _ _) (by simp)
theorem flatF_small (l : List Int) (hl : l.length≤8) : ∀ (m:Nat) (w:Int), (flatF l m w).length≤20 ^ m
 | 0, w => by simp [flatF]
 | m+1, w => by
  have h1 := kids_len l w l.length 0
  have h2 := flatMap_small 8 (20 ^ m) (fun i : Nat => flatF l m ((i:Int)+1)) (fun i=>flatF_small l hl m _) (kidsL l w l.length 0) (by omega)
  have h3 := flatMap_small 8 (20 ^ m) (fun i : Nat => flatF l m ((i:Int)+1)) (fun i=>flatF_small l hl m _) (kidsR l w l.length 0) (by omega)
  have h4 : 1≤20 ^ m := Nat.one_le_pow _ _ (by omega)
  unfold flatF
  simp only [List.length_append, List.length_singleton]
  rw [Nat.pow_succ]
  omega
theorem pow20_le {m : Nat} (h : m≤8) : 20 ^ m≤25600000000 := Nat.le_trans (Nat.pow_le_pow_right (by omega) h) (by decide)
theorem mem_flatF {l : List Int} : ∀ (m e:Nat) (w v:Int), (1≤w∧w≤l.length)→Deep l e w→v ∈ flatF l m w→(1≤v∧v≤l.length)∧∃ k, up l k v=w∧Deep l (e+k) v
 | 0, e, w, v, hw, hd, hv => by
  rw [flatF, List.mem_singleton] at hv
  subst hv
  exact ⟨hw, 0, rfl, hd⟩
 | m+1, e, w, v, hw, hd, hv => by
  have kid : ∀ i : Nat, i<l.length→rd l i=w→v ∈ flatF l m ((i:Int)+1)→(1≤v∧v≤l.length)∧∃ k, up l k v=w∧Deep l (e+k) v:=by
   intro i hi hr hm
   obtain ⟨h1, k, h2, h3⟩:=mem_flatF m (e+1) _ v ⟨by omega,by omega⟩ (deep_kid hw hd hr) hm
   refine ⟨h1, k+1, ?_, by rw [show e+(k+1)=e+1+k by omega]; exact h3⟩
   rw [up_succ, h2, show (i:Int)+1 - 1=(i:Int) by omega]
   exact hr
  rw [flatF, List.mem_append, List.mem_append, List.mem_flatMap, List.mem_flatMap, List.mem_singleton] at hv
  rcases hv with ⟨i, hi, hv⟩ | rfl | ⟨i, hi, hv⟩
  ·unfold kidsL at hi
   rw [List.mem_filter, List.mem_range'_1, decide_eq_true_eq] at hi
   exact kid i (by omega) hi.2.1 hv
  ·exact ⟨hw, 0, rfl, hd⟩
  ·unfold kidsR at hi
   rw [List.mem_filter, List.mem_range'_1, decide_eq_true_eq] at hi
   exact kid i (by omega) hi.2.1 hv
theorem nodup_flatMap' (g : Nat→List Int) : ∀ (ks : List Nat), ks.Nodup→(∀ i, i ∈ ks→(g i).Nodup)→(∀ i j, i ∈ ks→j ∈ ks→i≠j→∀ x, x ∈ g i→x ∉ g j)→(ks.flatMap g).Nodup
 | [], _, _, _ => by simp
 | i :: r, hn, hg, hd => by
  rw [List.nodup_cons] at hn
  rw [List.flatMap_cons, List.nodup_append]
  refine ⟨hg i (by simp), nodup_flatMap' g r hn.2 (fun j hj => hg j (by simp [hj])) (fun a b ha hb => hd a b (by simp [ha]) (by simp [hb])), ?_⟩
  intro x hx y hy e
  subst e
  rw [List.mem_flatMap] at hy
  obtain ⟨j, hj, hy⟩:=hy
  refine hd i j (by simp) (by simp [hj]) ?_ x hx hy
  rintro rfl
  exact hn.1 hj
theorem flatF_nodup {l : List Int} : ∀ (m e:Nat) (w:Int), (1≤w∧w≤l.length)→Deep l e w→(flatF l m w).Nodup
 | 0, e, w, hw, hd => by simp [flatF]
 | m+1, e, w, hw, hd => by
  have kl : ∀ i : Nat, i ∈ kidsL l w l.length 0→i<l.length∧rd l i=w∧(i:Int)+1<w:=by
   intro i hi
   unfold kidsL at hi
   rw [List.mem_filter, List.mem_range'_1, decide_eq_true_eq] at hi
   exact ⟨by omega, hi.2⟩
  have kr : ∀ i : Nat, i ∈ kidsR l w l.length 0→i<l.length∧rd l i=w∧¬ (i:Int)+1<w:=by
   intro i hi
   unfold kidsR at hi
   rw [List.mem_filter, List.mem_range'_1, decide_eq_true_eq] at hi
   exact ⟨by omega, hi.2⟩
  have apart : ∀ i j : Nat, (i<l.length∧rd l i=w)→(j<l.length∧rd l j=w)→i≠j→∀ x, x ∈ flatF l m ((i:Int)+1)→x ∉ flatF l m ((j:Int)+1):=by
   intro i j hi hj hne x hx hy
   obtain ⟨_, k, h2, h3⟩:=mem_flatF m (e+1) _ x ⟨by omega,by omega⟩ (deep_kid hw hd hi.2) hx
   obtain ⟨_, k', h2', h3'⟩:=mem_flatF m (e+1) _ x ⟨by omega,by omega⟩ (deep_kid hw hd hj.2) hy
   have := deep_unique l _ _ x h3 h3'
   have hk : k=k' := by omega
   subst hk
   omega
  have notself : ∀ i : Nat, i<l.length→rd l i=w→w ∉ flatF l m ((i:Int)+1):=by
   intro i hi hr hx
   obtain ⟨_, k, h2, h3⟩:=mem_flatF m (e+1) _ w ⟨by omega,by omega⟩ (deep_kid hw hd hr) hx
   have := deep_unique l _ _ w hd h3
   omega
  have nd : ∀ i : Nat, i<l.length→rd l i=w→(flatF l m ((i:Int)+1)).Nodup := fun i hi hr => flatF_nodup m (e+1) _ ⟨by omega,by omega⟩ (deep_kid hw hd hr)
  rw [flatF, List.nodup_append, List.nodup_append]
  refine ⟨?_, ⟨by simp, ?_, ?_⟩, ?_⟩
  ·refine nodup_flatMap' _ _ (List.Pairwise.filter _ List.nodup_range') (fun i hi => nd i (kl i hi).1 (kl i hi).2.1) (fun i j hi hj hne => apart i j ⟨(kl i hi).1, (kl i hi).2.1⟩ ⟨(kl j hj).1, (kl j hj).2.1⟩ hne)
  ·refine nodup_flatMap' _ _ (List.Pairwise.filter _ List.nodup_range') (fun i hi => nd i (kr i hi).1 (kr i hi).2.1) (fun i j hi hj hne => apart i j ⟨(kr i hi).1, (kr i hi).2.1⟩ ⟨(kr j hj).1, (kr j hj).2.1⟩ hne)
  ·intro x hx y hy exy
   rw [List.mem_singleton] at hx
   subst hx; subst exy
   rw [List.mem_flatMap] at hy
   obtain ⟨i, hi, hy⟩:=hy
   exact notself i (kr i hi).1 (kr i hi).2.1 hy
  ·intro x hx y hy exy
   subst exy
   rw [List.mem_flatMap] at hx
   obtain ⟨i, hi, hx⟩:=hx
   rw [List.mem_append, List.mem_singleton, List.mem_flatMap] at hy
   rcases hy with rfl | ⟨j, hj, hy⟩
   ·exact notself i (kl i hi).1 (kl i hi).2.1 hx
   ·refine apart i j ⟨(kl i hi).1, (kl i hi).2.1⟩ ⟨(kr j hj).1, (kr j hj).2.1⟩ ?_ x hx hy
    rintro rfl
    exact (kr _ hj).2.2 (kl _ hi).2.2
theorem flatF_root {l : List Int} (h : treeOk l=true) : (1≤rootOf l∧rootOf l≤l.length)∧Deep l 0 (rootOf l):=by
 obtain ⟨i, h1, h2, h3⟩:=rootOf_spec h
 rw [h3]
 refine ⟨by omega, ?_⟩
 show rd l ((i:Int)+1 - 1)=0
 rw [show (i:Int)+1 - 1=(i:Int) by omega]
 exact h2
theorem flatOrder_nodup {l : List Int} (h : treeOk l=true) : (flatOrder l).Nodup:=by
 unfold flatOrder
 rw [if_pos h]
 exact flatF_nodup _ 0 _ (flatF_root h).1 (flatF_root h).2
theorem flatOrder_range {l : List Int} (h : treeOk l=true) : ∀ x, x ∈ flatOrder l→1≤x∧x≤l.length:=by
 unfold flatOrder
 rw [if_pos h]
 exact fun x hx => (mem_flatF _ 0 _ x (flatF_root h).1 (flatF_root h).2 hx).1
theorem flatOrder_le (l : List Int) : (flatOrder l).length≤8:=by
 by_cases h : treeOk l=true
 ·have := nodup_le l.length _ (flatOrder_nodup h) (flatOrder_range h)
  have hl := treeOk_len h
  omega
 ·unfold flatOrder; rw [if_neg h]; simp
theorem flatOrder_small (l : List Int) : (flatOrder l).length≤1048576 := Nat.le_trans (flatOrder_le l) (by omega)
def putInOrder (l o : List Int) : List Int × Bool := if treeOk l=true∧orderOk o l.length=true then (putOf l o, true) else ([], false)
theorem putInOrder_len (l o : List Int) : (putInOrder l o).1.length≤8:=by
 unfold putInOrder
 split
 ·rename_i h
  have hl := treeOk_len h.1
  obtain ⟨_, h2, _⟩:=orderOk_iff.mp h.2
  show (putOf l o).length≤8
  simp [putOf]; omega
 ·simp
def madeFlat (l : List Int) : List Int := (putInOrder l (flatOrder l)).1
theorem madeFlat_small (l : List Int) : (madeFlat l).length≤1048576 := Nat.le_trans (putInOrder_len l _) (by omega)
def deskMade (l : List Int) (a b c:Int) : List Int :=
 if a=0∧1≤b∧b≤l.length then l.set (b - 1).toNat c
 else if a=1∧c=0 then l ++ [b]
 else if a=2∧b=0∧c=0 then l.take (l.length - 1)
 else if a=3∧b=0∧c=0 then backOf l
 else if a=4∧b=0∧c=0 then madeFlat l
 else []
def deskPut (l m : List Int) (r : List (List Int)) : List Int × List (List Int) × Bool :=
 if m=l ∨ treeOk m=false then (l, r, false) else (m, if r.length+1 > 8 then (r ++ [l]).drop 1 else r ++ [l], true)
def deskDo (l : List Int) (r : List (List Int)) (a b c:Int) : List Int × List (List Int) × Bool :=
 if deskOk l r=true then
  if (a=5∧b=0∧c=0)∧0<r.length then (r.getD (r.length - 1) [], r.take (r.length - 1), true)
  else deskPut l (deskMade l a b c) r
 else ([], [], false)
theorem deskOk_parts {l : List Int} {r : List (List Int)} (h : deskOk l r=true) : treeOk l=true∧r.length≤8∧∀ x ∈ r, treeOk x=true:=by
 unfold deskOk at h
 simp only [Bool.and_eq_true, decide_eq_true_eq, List.all_eq_true] at h
 exact ⟨h.1.1, h.1.2, h.2⟩
theorem deskOk_mk {l : List Int} {r : List (List Int)} (h1 : treeOk l=true) (h2 : r.length≤8) (h3 : ∀ x ∈ r, treeOk x=true) : deskOk l r=true:=by
 unfold deskOk
 simp only [Bool.and_eq_true, decide_eq_true_eq, List.all_eq_true]
 exact ⟨⟨h1, h2⟩, h3⟩
theorem deskDo_ok {l : List Int} {r : List (List Int)} (a b c:Int) (h : (deskDo l r a b c).2.2=true) : deskOk (deskDo l r a b c).1 (deskDo l r a b c).2.1=true∧(deskDo l r a b c).2.1.length≤r.length+1:=by
 unfold deskDo at h ⊢
 by_cases h1 : deskOk l r=true
 ·rw [if_pos h1] at h ⊢
  obtain ⟨p1, p2, p3⟩:=deskOk_parts h1
  by_cases h2 : (a=5∧b=0∧c=0)∧0<r.length
  ·rw [if_pos h2]
   have hl : r.length - 1<r.length := by omega
   refine ⟨deskOk_mk (p3 _ ?_) ?_ (fun x hx => p3 x (List.mem_of_mem_take hx)), ?_⟩
   ·show r.getD (r.length - 1) [] ∈ r
    rw [List.getD_eq_getElem?_getD, List.getElem?_eq_getElem hl]
    exact List.getElem_mem ..
   ·show (r.take (r.length - 1)).length≤8
    rw [List.length_take]; omega
   ·show (r.take (r.length - 1)).length≤r.length+1
    rw [List.length_take]; omega
  ·rw [if_neg h2] at h ⊢
   unfold deskPut at h ⊢
   by_cases h3 : deskMade l a b c=l ∨ treeOk (deskMade l a b c)=false
   ·rw [if_pos h3] at h
    cases h
   ·rw [if_neg h3]
    have h4 : treeOk (deskMade l a b c)=true:=by
     by_cases z : treeOk (deskMade l a b c)=true
     ·exact z
     ·exact absurd (.inr (Bool.eq_false_iff.mpr z)) h3
    refine ⟨deskOk_mk h4 ?_ ?_, ?_⟩
    ·show (if r.length+1 > 8 then (r ++ [l]).drop 1 else r ++ [l]).length≤8
     split <;> simp <;> omega
    ·intro x hx
     have hx : x ∈ (if r.length+1 > 8 then (r ++ [l]).drop 1 else r ++ [l]) := hx
     have hx2 : x ∈ r ++ [l]:=by
      split at hx
      ·exact List.mem_of_mem_drop hx
      ·exact hx
     rcases List.mem_append.1 hx2 with h5 | h5
     ·exact p3 x h5
     ·rw [List.mem_singleton.1 h5]; exact p1
    ·show (if r.length+1 > 8 then (r ++ [l]).drop 1 else r ++ [l]).length≤r.length+1
     split <;> simp
 ·rw [if_neg h1] at h
  cases h
theorem deskMade_len (l : List Int) (a b c:Int) (hl : l.length≤1048575) : (deskMade l a b c).length≤1048576:=by
 unfold deskMade
 by_cases h0 : a=0∧1≤b∧b≤l.length
 ·rw [if_pos h0, List.length_set]; omega
 ·rw [if_neg h0]
  by_cases h1 : a=1∧c=0
  ·rw [if_pos h1]; simp; omega
  ·rw [if_neg h1]
   by_cases h2 : a=2∧b=0∧c=0
   ·rw [if_pos h2, List.length_take]; omega
   ·rw [if_neg h2]
    by_cases h3 : a=3∧b=0∧c=0
    ·rw [if_pos h3]
     by_cases z : treeOk l=true
     ·rw [(backOf_ok z).2]; omega
     ·unfold backOf; rw [if_neg z]; simp
    ·rw [if_neg h3]
     by_cases h4 : a=4∧b=0∧c=0
     ·rw [if_pos h4]; exact madeFlat_small l
     ·rw [if_neg h4]; simp
theorem l1In_eq (a b c:Int) : spec_l1In.f a b c=some (decide (b≤a∧a≤c)):=by
 unfold spec_l1In.f
 split
 ·rename_i h; congr 1; rw [decide_eq_decide]; omega
 ·rename_i h; congr 1; symm; rw [decide_eq_false_iff_not]; omega
theorem spec_walk (l : List Int) (r j:Nat) (hl : l.length≤8) (hj : j<l.length) (_ : r≤8)
  (next : Ev (fun k=>spec_TreeOk.l0 k l (l.length:Int) (r:Int) ((j+1:Nat):Int)) (restOk l r (j+1)))
  (d:Nat) : ∀ (s:Nat) (a:Int), s+d=l.length→0≤a→a≤l.length →
  Ev (fun k=>spec_TreeOk.l1 k l (l.length:Int) (r:Int) (j:Int) a (s:Int)) (walkOk l d a && restOk l r (j+1)):=by
 induction d with
 | zero =>
  intro s a hs h0 h1
  refine Ev.step (fun k=>spec_TreeOk.l1.eq_2 ..) ?_
  refine Ev.ite (fun ha=>?_) (fun ha=>?_)
  ·rw [decide_eq_false (by omega)]
   refine Ev.step (fun k=>spec_TreeOk.j4.eq_2 ..) ?_
   refine Ev.neg (by simp) (Ev.pos ha (Ev.ret ?_))
   simp [walkOk, show ¬ a≤0 by omega]
  ·refine Ev.step (fun k=>spec_TreeOk.j4.eq_2 ..) ?_
   refine Ev.neg (by simp) (Ev.neg ha ?_)
   rw [wrap_add1 (by omega)]
   exact Ev.eq next (by simp [walkOk, show a≤0 by omega])
 | succ d ih =>
  intro s a hs h0 h1
  refine Ev.step (fun k=>spec_TreeOk.l1.eq_2 ..) ?_
  refine Ev.ite (fun ha=>?_) (fun ha=>?_)
  ·rw [decide_eq_true (by omega)]
   refine Ev.step (fun k=>spec_TreeOk.j4.eq_2 ..) ?_
   refine Ev.pos rfl ?_
   rw [wrap_id (by omega) (by omega)]
   refine Ev.pos (by omega) (Ev.pos (by omega) (Ev.bind0 (l1In_eq ..) ?_))
   refine Ev.ite (fun hc=>?_) (fun hc=>?_)
   ·have hc' := of_decide_eq_true hc
    rw [wrap_add1 (by omega)]
    refine Ev.eq (ih (s+1) (rd l (a - 1)) (by omega) hc'.1 hc'.2) ?_
    simp [walkOk, show ¬ a≤0 by omega, hc'.1, hc'.2]
   ·refine Ev.ret ?_
    have hc' : ¬ (0≤rd l (a - 1)∧rd l (a - 1)≤(l.length:Int)) := by simpa using hc
    simp [walkOk, show ¬ a≤0 by omega, decide_eq_false hc']
  ·refine Ev.step (fun k=>spec_TreeOk.j4.eq_2 ..) ?_
   refine Ev.neg (by simp) (Ev.neg ha ?_)
   rw [wrap_add1 (by omega)]
   exact Ev.eq next (by simp [walkOk, show a≤0 by omega])
theorem spec_TreeOk_l0 (l : List Int) (hl : l.length≤8) (d:Nat) : ∀ (r j:Nat), j+d=l.length→r≤j →
  Ev (fun k=>spec_TreeOk.l0 k l (l.length:Int) (r:Int) (j:Int)) (restOk l r j):=by
 induction d with
 | zero =>
  intro r j hj hr
  refine Ev.step (fun k=>spec_TreeOk.l0.eq_2 ..) ?_
  exact Ev.neg (by omega) (Ev.ret (restOk_end l r j (by omega)).symm)
 | succ d ih =>
  intro r j hj hr
  refine Ev.step (fun k=>spec_TreeOk.l0.eq_2 ..) ?_
  refine Ev.pos (by omega) (Ev.pos (by omega) (Ev.pos (by omega) (Ev.bind0 (l1In_eq ..) ?_)))
  refine Ev.ite (fun hc=>?_) (fun hc=>?_)
  ·have hc' := of_decide_eq_true hc
   refine Ev.step (fun k=>spec_TreeOk.j1.eq_2 ..) ?_
   rw [wrap_add1 (by omega)]
   refine Ev.ite (fun he=>?_) (fun he=>?_)
   ·refine Ev.ret (restOk_bad l r j (by omega) ?_).symm
    have he' : rd l (j:Int)=((j+1:Nat):Int) := by simpa using he
    unfold okAt
    rw [walkOk_self l ((j:Int)+1) (by omega) (by rw [show (j:Int)+1 - 1=(j:Int) by omega, he']; omega), Bool.and_false]
   ·have hfin : ∀ (r':Nat), r'=r+(if rd l j=0 then 1 else 0)→Ev (fun k=>spec_TreeOk.l1 k l (l.length:Int) (r':Int) (j:Int) ((j+1:Nat):Int) 0) (restOk l r j):=by
     intro r' hr'
     have hr8 : r'≤j+1 := by subst hr'; split <;> omega
     refine Ev.eq (spec_walk l r' j hl (by omega) (by omega) (ih r' (j+1) (by omega) hr8) l.length 0 ((j+1:Nat):Int) (by omega) (by omega) (by omega)) ?_
     by_cases hw : walkOk l l.length ((j:Int)+1)=true
     ·rw [restOk_good l r j (by omega) (by unfold okAt; rw [hw, decide_eq_true hc']; rfl), ← hr', show ((j+1:Nat):Int)=(j:Int)+1 by omega, hw]; rfl
     ·have hw' : walkOk l l.length ((j:Int)+1)=false := by simpa using hw
      rw [restOk_bad l r j (by omega) (by unfold okAt; rw [hw']; simp), show ((j+1:Nat):Int)=(j:Int)+1 by omega, hw']; rfl
    refine Ev.pos (by omega) (Ev.pos (by omega) (Ev.ite (fun hz=>?_) (fun hz=>?_)))
    ·rw [wrap_add1 (by omega)]
     refine Ev.step (fun k=>spec_TreeOk.j2.eq_2 ..) ?_
     rw [wrap_add1 (by omega)]
     exact hfin (r+1) (by rw [if_pos hz])
    ·refine Ev.step (fun k=>spec_TreeOk.j2.eq_2 ..) ?_
     rw [wrap_add1 (by omega)]
     exact hfin r (by rw [if_neg hz]; rfl)
  ·refine Ev.step (fun k=>spec_TreeOk.j1.eq_2 ..) ?_
   refine Ev.pos rfl (Ev.ret (restOk_bad l r j (by omega) ?_).symm)
   have hc' : ¬ (0≤rd l (j:Int)∧rd l (j:Int)≤(l.length:Int)) := by simpa using hc
   unfold okAt
   rw [decide_eq_false hc']; rfl
theorem spec_TreeOk_ev (l : List Int) : Ev (fun k=>spec_TreeOk.f k l) (treeOk l):=by
 unfold spec_TreeOk.f
 refine Ev.bind0 (l1In_eq ..) ?_
 refine Ev.ite (fun hc=>?_) (fun hc=>?_)
 ·have hc' := of_decide_eq_true hc
  exact Ev.eq (spec_TreeOk_l0 l (by omega) l.length 0 0 (by omega) (by omega)) (restOk_zero l (by omega))
 ·refine Ev.ret ?_
  have hc' : ¬ (1≤(l.length:Int)∧(l.length:Int)≤8) := by simpa using hc
  unfold treeOk
  rw [decide_eq_false (by omega)]; rfl
theorem spec_BackOf_l0 (l : List Int) (h : treeOk l=true) (d:Nat) : ∀ (j:Nat), j+d=l.length →
  Ev (fun k=>spec_BackOf.l0 k l ((backOf l).take j) (l.length:Int) ((l.length:Int) - 1 - j)) (backOf l):=by
 have hn := treeOk_len h
 have hb := (backOf_ok h).2
 induction d with
 | zero =>
  intro j hj
  refine Ev.step (fun k=>spec_BackOf.l0.eq_2 ..) (Ev.neg (by omega) ?_)
  refine Ev.step (fun k=>spec_BackOf.j1.eq_2 ..) (Ev.neg (by simp) (Ev.ret ?_))
  rw [List.take_of_length_le (by omega)]
 | succ d ih =>
  intro j hj
  have next := ih (j+1) (by omega)
  have ht : (backOf l).take (j+1)=(backOf l).take j ++ [rd (backOf l) (j:Int)]:=by
   rw [List.take_succ_eq_append_getElem (by omega), rd_get _ (by omega)]
  have e1 : wrap64 ((l.length:Int) - 1 - j - 1)=(l.length:Int) - 1 - ((j+1:Nat):Int) := by rw [wrap_id (by omega) (by omega)]; omega
  have e2 : ((l.length:Int) - 1 - j)=((l.length - 1 - j:Nat):Int) := by omega
  have hr := treeOk_rd h (j := l.length - 1 - j) (by omega)
  have hk := backOf_rd h (i := j) (by omega)
  refine Ev.step (fun k=>spec_BackOf.l0.eq_2 ..) (Ev.pos (by omega) (Ev.bind (spec_TreeOk_ev l) ?_))
  refine Ev.step (fun k=>spec_BackOf.j1.eq_2 ..) (Ev.pos h (Ev.pos (by omega) (Ev.pos (by omega) ?_)))
  rw [e1]
  rw [e2]
  by_cases e : rd l (((l.length - 1 - j:Nat)):Int)=0
  ·rw [if_pos e] at hk
   refine Ev.pos e (Ev.pos (by rw [List.length_take]; omega) ?_)
   rw [show (backOf l).take j ++ [0]=(backOf l).take (j+1) by rw [ht, hk]]
   exact next
  ·rw [if_neg e] at hk
   refine Ev.neg e (Ev.pos (by rw [List.length_take]; omega) ?_)
   rw [wrap_id (n := (l.length:Int)+1) (by omega) (by omega), wrap_id (by omega) (by omega), ← hk, ← ht]
   exact next
theorem spec_BackOf_ev (l : List Int) (hl : l.length≤1048576) : Ev (fun k=>spec_BackOf.f k l) (backOf l):=by
 unfold spec_BackOf.f
 rw [wrap_id (by omega) (by omega)]
 by_cases h : treeOk l=true
 ·have := spec_BackOf_l0 l h l.length 0 (by omega)
  rw [List.take_zero] at this
  simpa using this
 ·have e : backOf l=[] := by unfold backOf; rw [if_neg h]
  rw [e]
  have out : ∀ m : Int, Ev (fun k=>spec_BackOf.j1 k l [] (l.length:Int) m false) [] := fun m=>Ev.step (fun k=>spec_BackOf.j1.eq_2 ..) (Ev.neg (by simp) (Ev.ret rfl))
  refine Ev.step (fun k=>spec_BackOf.l0.eq_2 ..) (Ev.ite (fun _=>Ev.bind (spec_TreeOk_ev l) ?_) (fun _=>out _))
  rw [Bool.eq_false_iff.mpr h]
  exact out _
theorem spec_OrderOk_l1 (o : List Int) (many:Int) (hl : o.length≤1048576) (i:Nat) (hi : i<o.length) (hin : 1≤rd o i∧rd o i≤many) (next : goodAt o many i→Ev (fun k=>spec_OrderOk.l0 k o many ((i+1:Nat):Int)) (orderOk o many)) (d:Nat) :
  ∀ j : Nat, j+d=i→(∀ j' : Nat, j'<j→rd o j'≠rd o i)→Ev (fun k=>spec_OrderOk.l1 k o many (i:Int) (j:Int)) (orderOk o many):=by
 induction d with
 | zero =>
  intro j hj h
  refine Ev.step (fun k=>spec_OrderOk.l1.eq_2 ..) (Ev.neg (by omega) ?_)
  rw [wrap_add1 (by omega)]
  exact next ⟨hin, fun j' hj' => h j' (by omega)⟩
 | succ d ih =>
  intro j hj h
  refine Ev.step (fun k=>spec_OrderOk.l1.eq_2 ..) (Ev.pos (by omega) (Ev.pos (by omega) (Ev.pos (by omega) (Ev.pos (by omega) (Ev.pos (by omega) (Ev.ite (fun e=>?_) (fun e=>?_)))))))
  ·exact Ev.ret (orderOk_bad hi (fun h2=>h2.2 j (by omega) e)).symm
  ·rw [wrap_add1 (by omega)]
   refine ih (j+1) (by omega) (fun j' hj' => ?_)
   by_cases e2 : j'=j
   ·subst e2; exact e
   ·exact h j' (by omega)
theorem spec_OrderOk_l0 (o : List Int) (many:Int) (hl : o.length≤1048576) (d:Nat) : ∀ i : Nat, i+d=o.length→(∀ j : Nat, j<i→goodAt o many j)→Ev (fun k=>spec_OrderOk.l0 k o many (i:Int)) (orderOk o many):=by
 induction d with
 | zero =>
  intro i hi h
  refine Ev.step (fun k=>spec_OrderOk.l0.eq_2 ..) (Ev.neg (by omega) (Ev.bind0 (l1In_eq ..) (Ev.ite (fun e=>?_) (fun e=>?_))))
  ·refine Ev.ret ?_
   have e' := of_decide_eq_true e
   rw [Bool.eq_iff_iff, orderOk_iff, beq_iff_eq]
   exact ⟨fun h2=>⟨e', h2, fun j hj => h j (by omega)⟩, fun h2=>h2.2.1⟩
  ·refine Ev.ret ?_
   symm
   unfold orderOk
   rw [decide_eq_false_iff_not]
   intro h2
   exact e (decide_eq_true h2.1)
 | succ d ih =>
  intro i hi h
  refine Ev.step (fun k=>spec_OrderOk.l0.eq_2 ..) (Ev.pos (by omega) (Ev.pos (by omega) (Ev.bind0 (l1In_eq ..) (Ev.ite (fun e=>?_) (fun e=>?_)))))
  ·have e' := of_decide_eq_true e
   refine spec_OrderOk_l1 o many hl i (by omega) e' (fun hg=>?_) i 0 (by omega) (fun j' hj' => by omega)
   refine ih (i+1) (by omega) (fun j hj => ?_)
   by_cases e2 : j=i
   ·subst e2; exact hg
   ·exact h j (by omega)
  ·refine Ev.ret ?_
   exact (orderOk_bad (by omega) (fun h2=>e (decide_eq_true h2.1))).symm
theorem spec_OrderOk_ev (o : List Int) (many:Int) (hl : o.length≤1048576) : Ev (fun k=>spec_OrderOk.f k o many) (orderOk o many):=by
 unfold spec_OrderOk.f
 exact spec_OrderOk_l0 o many hl o.length 0 (by omega) (fun j hj => by omega)
theorem spec_Put_l1 (l o y : List Int) (h : treeOk l=true) (ho : orderOk o l.length=true) (hy : PlacesTo o o.length y) (hyl : y.length=l.length+1) (d:Nat) : ∀ j : Nat, j+d=o.length →
  Ev (fun k=>spec_PutInOrder.l1 k l o y ((putOf l o).take j) (j:Int)) (putOf l o, true):=by
 have hl := treeOk_len h
 obtain ⟨_, h2, h3⟩:=orderOk_iff.mp ho
 have hlen : (putOf l o).length=o.length := by simp [putOf]
 induction d with
 | zero =>
  intro j hj
  refine Ev.step (fun k=>spec_PutInOrder.l1.eq_2 ..) (Ev.neg (by omega) (Ev.ret ?_))
  rw [List.take_of_length_le (by omega)]
 | succ d ih =>
  intro j hj
  have hg := h3 j (by omega)
  have hr := treeOk_rd h (j := (rd o j - 1).toNat) (by omega)
  rw [show (((rd o j - 1).toNat:Nat):Int)=rd o j - 1 by omega] at hr
  refine Ev.step (fun k=>spec_PutInOrder.l1.eq_2 ..) ?_
  rw [wrap_id (n := rd o j - 1) (by omega) (by omega), wrap_add1 (by omega)]
  refine Ev.pos (by omega) (Ev.pos (by omega) (Ev.pos (by omega) (Ev.pos (by omega) (Ev.pos (by omega) (Ev.pos (by omega) (Ev.pos (by rw [List.length_take]; omega) ?_))))))
  have e : (putOf l o).take j ++ [rd y (rd l (rd o j - 1))]=(putOf l o).take (j+1):=by
   rw [List.take_succ_eq_append_getElem (by omega), hy.whole hr.1 (by omega)]
   congr 2
   have e3 : rd o j=o[j]'(by omega) := by simp [rd_nat, show j<o.length by omega]
   simp [putOf, e3]
  rw [e]
  exact ih (j+1) (by omega)
theorem spec_Put_l0 (l o : List Int) (h : treeOk l=true) (ho : orderOk o l.length=true) (d:Nat) : ∀ (j:Nat) (y : List Int), j+d=o.length→PlacesTo o j y→y.length=l.length+1 →
  Ev (fun k=>spec_PutInOrder.l0 k l o y (j:Int)) (putOf l o, true):=by
 have hl := treeOk_len h
 obtain ⟨_, h2, h3⟩:=orderOk_iff.mp ho
 induction d with
 | zero =>
  intro j y hj hy hyl
  refine Ev.step (fun k=>spec_PutInOrder.l0.eq_2 ..) (Ev.neg (by omega) ?_)
  rw [show j=o.length by omega] at hy
  exact spec_Put_l1 l o y h ho hy hyl o.length 0 (by omega)
 | succ d ih =>
  intro j y hj hy hyl
  have hg := h3 j (by omega)
  refine Ev.step (fun k=>spec_PutInOrder.l0.eq_2 ..) ?_
  rw [wrap_id (n := (j:Int)+1) (by omega) (by omega)]
  refine Ev.pos (by omega) (Ev.pos (by omega) (Ev.pos (by omega) (Ev.pos (by omega) ?_)))
  exact ih (j+1) _ (by omega) (hy.set ho (by omega)) (by simpa using hyl)
theorem spec_PutInOrder_ev (l o : List Int) (hol : o.length≤1048576) : Ev (fun k=>spec_PutInOrder.f k l o) (putInOrder l o):=by
 unfold spec_PutInOrder.f putInOrder
 refine Ev.bind (spec_TreeOk_ev l) (Ev.ite (fun h=>?_) (fun h=>?_))
 ·refine Ev.bind (spec_OrderOk_ev o _ hol) (Ev.step (fun k=>spec_PutInOrder.j0.eq_2 ..) (Ev.ite (fun e=>?_) (fun e=>?_)))
  ·refine Ev.ret ?_
   rw [if_neg]
   intro h2; rw [h2.2] at e; cases e
  ·have ho : orderOk o l.length=true := by simpa using e
   have hl := treeOk_len h
   rw [if_pos ⟨h, ho⟩, wrap_id (n := (l.length:Int)+1) (by omega) (by omega)]
   refine Ev.pos (by omega) (Ev.pos (by omega) ?_)
   exact spec_Put_l0 l o h ho o.length 0 _ (by omega) (PlacesTo.zero o _) (by simp)
 ·refine Ev.step (fun k=>spec_PutInOrder.j0.eq_2 ..) (Ev.pos rfl (Ev.ret ?_))
  rw [if_neg (fun h2=>h h2.1)]
theorem spec_RootOf_l0 (l : List Int) (h : treeOk l=true) (d:Nat) : ∀ j : Nat, j+d=l.length→(∃ i : Nat, j≤i∧i<l.length∧rd l i=0)→Ev (fun k=>spec_RootOf.l0 k l (j:Int)) (indexFrom l 0 l.length j+1):=by
 have hl := treeOk_len h
 induction d with
 | zero => intro j hj ⟨i, h1, h2, _⟩; omega
 | succ d ih =>
  intro j hj ⟨i, h1, h2, h3⟩
  refine Ev.step (fun k=>spec_RootOf.l0.eq_2 ..) (Ev.pos (by omega) (Ev.bind (spec_TreeOk_ev l) ?_))
  rw [h, indexFrom_step l 0 (by omega)]
  refine Ev.step (fun k=>spec_RootOf.j1.eq_2 ..) (Ev.pos rfl (Ev.pos (by omega) (Ev.pos (by omega) (Ev.ite (fun e=>?_) (fun e=>?_)))))
  ·rw [if_pos e]
   exact Ev.ret (wrap_id (by omega) (by omega))
  ·rw [if_neg e, wrap_add1 (by omega)]
   refine ih (j+1) (by omega) ⟨i, ?_, h2, h3⟩
   by_cases e2 : i=j
   ·subst e2; exact absurd h3 e
   ·omega
theorem spec_RootOf_ev (l : List Int) : Ev (fun k=>spec_RootOf.f k l) (rootOf l):=by
 unfold spec_RootOf.f rootOf
 by_cases h : treeOk l=true
 ·rw [if_pos h]
  obtain ⟨i, h1, h2⟩:=exists_root h
  exact spec_RootOf_l0 l h l.length 0 (by omega) ⟨i,by omega, h1, h2⟩
 ·rw [if_neg h]
  refine Ev.step (fun k=>spec_RootOf.l0.eq_2 ..) (Ev.ite (fun e=>?_) (fun e=>?_))
  ·refine Ev.bind (spec_TreeOk_ev l) ?_
   rw [show treeOk l=false by simpa using h]
   exact Ev.step (fun k=>spec_RootOf.j1.eq_2 ..) (Ev.neg (by simp) (Ev.ret rfl))
  ·exact Ev.step (fun k=>spec_RootOf.j1.eq_2 ..) (Ev.neg (by simp) (Ev.ret rfl))
theorem spec_walk_l1 (l : List Int) (w:Int) (hl : l.length≤8) (m:Nat) (hm : m<8) (hw : 1≤w∧w≤l.length) (ih : ∀ i : Nat, i<l.length→rd l i=w→Ev (fun k=>spec_l8Walk.f k l ((i:Int)+1)) (flatF l m ((i:Int)+1))) (d:Nat) :
  ∀ (j:Nat) (x : List Int), j+d=l.length→w≤j→x.length+(d+1) * 20 ^ m≤1000000000000→Ev (fun k=>spec_l8Walk.l1 k l w x ((j:Int)+1)) (x ++ (kidsR l w l.length j).flatMap (fun i : Nat => flatF l m ((i:Int)+1))):=by
 induction d with
 | zero =>
  intro j x hj hwj hx
  refine Ev.step (fun k=>spec_l8Walk.l1.eq_2 ..) (Ev.neg (by omega) (Ev.ret ?_))
  rw [kidsR_end l w (by omega)]; simp
 | succ d ihd =>
  intro j x hj hwj hx
  have hf := flatF_small l hl m ((j:Int)+1)
  have hp : (d+1+1) * 20 ^ m=(d+1) * 20 ^ m+20 ^ m := by rw [Nat.add_mul (d+1) 1, Nat.one_mul]
  refine Ev.step (fun k=>spec_l8Walk.l1.eq_2 ..) ?_
  rw [wrap_id (n := (j:Int)+1 - 1) (by omega) (by omega), show (j:Int)+1 - 1=(j:Int) by omega, wrap_id (n := (j:Int)+1+1) (by omega) (by omega)]
  refine Ev.pos (by omega) (Ev.pos (by omega) (Ev.pos (by omega) (Ev.ite (fun e=>?_) (fun e=>?_))))
  ·refine Ev.bind (ih j (by omega) e) (Ev.pos (by omega) ?_)
   rw [kidsR_yes l w (by omega) ⟨e,by omega⟩, List.flatMap_cons, ← List.append_assoc]
   exact ihd (j+1) _ (by omega) (by omega) (by rw [List.length_append]; omega)
  ·rw [kidsR_no l w (by omega) (fun h=>e h.1)]
   exact ihd (j+1) _ (by omega) (by omega) (by omega)
theorem spec_walk_l0 (l : List Int) (w:Int) (hl : l.length≤8) (m:Nat) (hm : m<8) (hw : 1≤w∧w≤l.length) (hself : rd l (w - 1)≠w) (ih : ∀ i : Nat, i<l.length→rd l i=w→Ev (fun k=>spec_l8Walk.f k l ((i:Int)+1)) (flatF l m ((i:Int)+1))) (d:Nat) :
  ∀ (j:Nat) (x : List Int), j+d+1=w→x.length+(d+10) * 20 ^ m≤1000000000000→Ev (fun k=>spec_l8Walk.l0 k l w x ((j:Int)+1)) (x ++ ((kidsL l w l.length j).flatMap (fun i : Nat => flatF l m ((i:Int)+1)) ++ ([w] ++ (kidsR l w l.length 0).flatMap (fun i : Nat => flatF l m ((i:Int)+1))))):=by
 have h20 : 1≤20 ^ m := Nat.one_le_pow _ _ (by omega)
 induction d with
 | zero =>
  intro j x hj hx
  have e0 : kidsL l w l.length j=[]:=by
   unfold kidsL
   rw [List.filter_eq_nil_iff]
   intro i hi
   have := List.mem_range'_1.mp hi
   simp; intro _; omega
  have e1 : kidsR l w l.length 0=kidsR l w l.length (j+1):=by
   have : ∀ q : Nat, q≤j+1→kidsR l w l.length 0=kidsR l w l.length q:=by
    intro q
    induction q with
    | zero => intro _; rfl
    | succ q ihq =>
     intro hq
     rw [ihq (by omega), kidsR_no l w (by omega)]
     rintro ⟨h1, h2⟩
     have : q=j := by omega
     subst this
     exact hself (by rw [show w - 1=(q:Int) by omega]; exact h1)
   exact this (j+1) (Nat.le_refl _)
  refine Ev.step (fun k=>spec_l8Walk.l0.eq_2 ..) (Ev.neg (by omega) (Ev.pos (by omega) ?_))
  rw [e0, e1, List.flatMap_nil, List.nil_append, ← List.append_assoc, wrap_id (n := w+1) (by omega) (by omega), show w+1=((j+1:Nat):Int)+1 by omega]
  refine spec_walk_l1 l w hl m hm hw ih (l.length - (j+1)) (j+1) _ (by omega) (by omega) ?_
  have : (l.length - (j+1)+1) * 20 ^ m≤8 * 20 ^ m := Nat.mul_le_mul_right _ (by omega)
  rw [List.length_append, List.length_singleton]
  rw [Nat.zero_add] at hx
  omega
 | succ d ihd =>
  intro j x hj hx
  have hf := flatF_small l hl m ((j:Int)+1)
  have hp : (d+1+10) * 20 ^ m=(d+10) * 20 ^ m+20 ^ m := by rw [show d+1+10=(d+10)+1 by omega, Nat.add_mul (d+10) 1, Nat.one_mul]
  refine Ev.step (fun k=>spec_l8Walk.l0.eq_2 ..) ?_
  rw [wrap_id (n := (j:Int)+1 - 1) (by omega) (by omega), show (j:Int)+1 - 1=(j:Int) by omega, wrap_id (n := (j:Int)+1+1) (by omega) (by omega)]
  refine Ev.pos (by omega) (Ev.pos (by omega) (Ev.pos (by omega) (Ev.ite (fun e=>?_) (fun e=>?_))))
  ·refine Ev.bind (ih j (by omega) e) (Ev.pos (by omega) ?_)
   rw [kidsL_yes l w (by omega) ⟨e,by omega⟩, List.flatMap_cons]
   simp only [List.append_assoc]
   rw [← List.append_assoc x]
   exact ihd (j+1) _ (by omega) (by rw [List.length_append]; omega)
  ·rw [kidsL_no l w (by omega) (fun h=>e h.1)]
   exact ihd (j+1) _ (by omega) (by omega)
theorem spec_l8Walk_ev (l : List Int) (h : treeOk l=true) : ∀ (m d:Nat) (w:Int), 1≤w∧w≤l.length→Deep l d w→l.length≤d+m→m≤8→Ev (fun k=>spec_l8Walk.f k l w) (flatF l m w)
 | 0, d, w, hw, hd, hm, hm8 => by
  have := deep_lt h hw.1 hw.2 hd
  omega
 | m+1, d, w, hw, hd, hm, hm8 => by
  have hl := treeOk_len h
  have hself := treeOk_ne h (j := (w - 1).toNat) (by omega)
  rw [show (((w - 1).toNat:Nat):Int)=w - 1 by omega] at hself
  have hp := pow20_le (m := m) (by omega)
  refine Ev.step (fun k=>spec_l8Walk.f.eq_2 ..) ?_
  have := spec_walk_l0 l w hl.2 m (by omega) hw (by omega) (fun i hi e => spec_l8Walk_ev l h m (d+1) _ ⟨by omega,by omega⟩ (deep_kid hw hd e) (by omega) (by omega)) (w - 1).toNat 0 [] (by omega) (by
   have : ((w - 1).toNat+10) * 20 ^ m≤18 * 20 ^ m := Nat.mul_le_mul_right _ (by omega)
   simp only [List.length_nil]
   omega)
  exact this
theorem spec_FlatOrder_ev (l : List Int) : Ev (fun k=>spec_FlatOrder.f k l) (flatOrder l):=by
 unfold spec_FlatOrder.f flatOrder
 refine Ev.bind (spec_TreeOk_ev l) (Ev.ite (fun h=>?_) (fun h=>?_))
 ·have hl := treeOk_len h
  obtain ⟨i, h1, h2, h3⟩:=rootOf_spec h
  rw [if_pos h]
  refine Ev.bind (spec_RootOf_ev l) (Ev.bind (spec_l8Walk_ev l h l.length 0 _ ⟨by omega,by omega⟩ ?_ (by omega) (by omega)) (Ev.ret rfl))
  rw [h3]
  show rd l ((i:Int)+1 - 1)=0
  rw [show (i:Int)+1 - 1=(i:Int) by omega]
  exact h2
 ·rw [if_neg h]; exact Ev.ret rfl
theorem spec_MadeFlat_ev (l : List Int) : Ev (fun k=>spec_MadeFlat.f k l) (madeFlat l):=by
 unfold spec_MadeFlat.f
 exact Ev.bind (spec_FlatOrder_ev l) (Ev.bind (spec_PutInOrder_ev l _ (flatOrder_small l)) (Ev.ret rfl))
theorem l12Copy_l0 (l : List Int) (r : List (List Int)) (hr : r.length≤1048576) (hx : ∀ x ∈ r, x.length≤1048576) (m : List Int) (d:Nat) : ∀ (j:Nat), j+d=r.length →
  Ev (fun k=>spec_l12Copy.l0 k (j:Int) l r m (r.take j)) (m, r):=by
 induction d with
 | zero =>
  intro j hj
  refine Ev.step (fun k=>spec_l12Copy.l0.eq_2 ..) (Ev.neg (by omega) (Ev.ret ?_))
  rw [List.take_of_length_le (by omega)]
 | succ d ih =>
  intro j hj
  have hjl : j<r.length := by omega
  have e : rd_L1 r (j:Int)=r[j] := by rw [rd1_nat, List.getD_eq_getElem?_getD, List.getElem?_eq_getElem hjl]; rfl
  have hlen : (rd_L1 r (j:Int)).length≤1048576 := by rw [e]; exact hx _ (List.getElem_mem ..)
  refine Ev.step (fun k=>spec_l12Copy.l0.eq_2 ..) (Ev.pos (by omega) ?_)
  simp only [Option.bind_some, List.nil_append, List.length_nil, Nat.zero_add]
  refine Ev.pos (by omega) (Ev.pos (by omega) (Ev.pos (by rw [List.length_take]; omega) ?_))
  rw [wrap_add1 (by omega), e, ← List.take_succ_eq_append_getElem hjl]
  exact ih (j+1) (by omega)
theorem l12Copy_ev (l : List Int) (r : List (List Int)) (hl : l.length≤1048576) (hr : r.length≤1048576) (hx : ∀ x ∈ r, x.length≤1048576) : Ev (fun k=>spec_l12Copy.f k l r) (l, r):=by
 unfold spec_l12Copy.f
 simp only [Option.bind_some, List.nil_append, List.length_nil, Nat.zero_add]
 refine Ev.pos (by omega) ?_
 have := l12Copy_l0 l r hr hx l r.length 0 (by omega)
 rw [List.take_zero] at this
 exact this
theorem l12Made_j0 (l : List Int) (hp : 1≤l.length) (hl : l.length≤1048576) (a b c:Int) (t : Bool) (ht : t=decide (a=0∧1≤b∧b≤l.length)) : Ev (fun k=>spec_l12Made.j0 k l l t a b c) (deskMade l a b c):=by
 refine Ev.step (fun k=>spec_l12Made.j0.eq_2 ..) ?_
 unfold deskMade
 by_cases h0 : a=0∧1≤b∧b≤l.length
 ·have e : wrap64 (b - 1)=b - 1 := wrap_id (by omega) (by omega)
  rw [if_pos h0, e]
  exact Ev.pos (by rw [ht]; exact decide_eq_true h0) (Ev.pos (by omega) (Ev.pos (by omega) (Ev.ret rfl)))
 ·rw [if_neg h0]
  refine Ev.neg (by rw [ht]; simpa using h0) ?_
  by_cases h1 : a=1∧c=0
  ·rw [if_pos h1]
   exact Ev.pos (by simp [h1]) (Ev.pos (by omega) (Ev.ret rfl))
  ·rw [if_neg h1]
   refine Ev.neg (by simpa using h1) ?_
   by_cases h2 : a=2∧b=0∧c=0
   ·rw [if_pos h2]
    refine Ev.pos (by simp [h2]) ?_
    have e : wrap64 ((l.length:Int) - 1)=(l.length:Int) - 1 := wrap_id (by omega) (by omega)
    rw [e, show l.length - 1=((l.length:Int) - 1).toNat by omega]
    exact Ev.pos (by omega) (Ev.pos (by omega) (Ev.ret rfl))
   ·rw [if_neg h2]
    refine Ev.neg (by simpa using h2) ?_
    by_cases h3 : a=3∧b=0∧c=0
    ·rw [if_pos h3]
     exact Ev.pos (by simp [h3]) (Ev.bind (spec_BackOf_ev l hl) (Ev.ret rfl))
    ·rw [if_neg h3]
     refine Ev.neg (by simpa using h3) ?_
     by_cases h4 : a=4∧b=0∧c=0
     ·rw [if_pos h4]
      exact Ev.pos (by simp [h4]) (Ev.bind (spec_MadeFlat_ev l) (Ev.ret rfl))
     ·rw [if_neg h4]
      exact Ev.neg (by simpa using h4) (Ev.ret rfl)
theorem l12Made_ev (l : List Int) (h1 : 1≤l.length) (hl : l.length≤1048576) (a b c:Int) : Ev (fun k=>spec_l12Made.f k l a b c) (deskMade l a b c):=by
 unfold spec_l12Made.f
 simp only [Option.bind_some, List.nil_append, List.length_nil, Nat.zero_add]
 refine Ev.pos (by omega) (Ev.ite (fun h=>?_) (fun h=>l12Made_j0 l h1 hl a b c _ (by simp [h])))
 refine Ev.bind0 (l1In_eq b 1 (l.length:Int)) (l12Made_j0 l h1 hl a b c _ ?_)
 simp [h]
theorem drop_all {α : Type} (p : α→Bool) (l : List α) (z : α) (j:Nat) (h : j<l.length) : (l.drop j).all p=(p (l.getD j z) && (l.drop (j+1)).all p):=by
 rw [List.drop_eq_getElem_cons h, List.all_cons, List.getD_eq_getElem?_getD, List.getElem?_eq_getElem h]; rfl
theorem specDesk_l0 (l : List Int) (r : List (List Int)) (hr : r.length≤1048576) (d:Nat) : ∀ (j:Nat), j+d=r.length→Ev (fun k=>spec_DeskOk.l0 k (j:Int) l r) (treeOk l && decide (r.length≤8) && (r.drop j).all treeOk):=by
 induction d with
 | zero =>
  intro j hj
  refine Ev.step (fun k=>spec_DeskOk.l0.eq_2 ..) (Ev.neg (by omega) (Ev.bind (spec_TreeOk_ev l) (Ev.ite (fun h=>Ev.ret ?_) (fun h=>Ev.ret ?_))))
  ·rw [List.drop_of_length_le (by omega), h]
   simp
   omega
  ·rw [Bool.eq_false_iff.mpr h]; simp
 | succ d ih =>
  intro j hj
  refine Ev.step (fun k=>spec_DeskOk.l0.eq_2 ..) (Ev.pos (by omega) (Ev.pos (by omega) (Ev.bind (spec_TreeOk_ev _) (Ev.ite (fun h=>?_) (fun h=>Ev.ret ?_)))))
  ·rw [wrap_add1 (by omega), drop_all _ _ [] j (by omega), ← rd1_nat, h, Bool.true_and]
   exact ih (j+1) (by omega)
  ·rw [drop_all _ _ [] j (by omega), ← rd1_nat, Bool.eq_false_iff.mpr h]; simp
theorem spec_DeskOk_ev (l : List Int) (r : List (List Int)) (hr : r.length≤1048576) : Ev (fun k=>spec_DeskOk.f k l r) (deskOk l r):=by
 have h := specDesk_l0 l r hr r.length 0 (by omega)
 rw [List.drop_zero] at h
 exact h
theorem spec_DeskDo_l0 (m l : List Int) (r : List (List Int)) (lo : List Int) (ro : List (List Int)) (hm : m.length≤1048576) (out : Bool→List Int × List (List Int) × Bool)
  (hout : ∀ s, Ev (fun k=>spec_DeskDo.j2 k m s lo ro) (out s)) (heq : m.length=l.length) (d:Nat) : ∀ (j:Nat), j+d=m.length→(∀ i, i<j→m[i]?=l[i]?)→Ev (fun k=>spec_DeskDo.l0 k m true (j:Int) l r lo ro) (out (decide (m=l))):=by
 induction d with
 | zero =>
  intro j hj h
  have e : m=l:=by
   apply List.ext_getElem?
   intro i
   by_cases hi : i<j
   ·exact h i hi
   ·rw [List.getElem?_eq_none (by omega), List.getElem?_eq_none (by omega)]
  rw [decide_eq_true e]
  exact Ev.step (fun k=>spec_DeskDo.l0.eq_2 ..) (Ev.neg (by omega) (hout true))
 | succ d ih =>
  intro j hj h
  refine Ev.step (fun k=>spec_DeskDo.l0.eq_2 ..) (Ev.pos (by omega) (Ev.pos rfl (Ev.pos (by omega) (Ev.pos (by omega) ?_))))
  rw [wrap_add1 (by omega)]
  by_cases e : rd m (j:Int)=rd l (j:Int)
  ·rw [show (rd m (j:Int) == rd l (j:Int))=true by simpa using e]
   refine ih (j+1) (by omega) (fun i hi => ?_)
   by_cases e2 : i=j
   ·subst e2
    rw [rd_nat, rd_nat, List.getD_eq_getElem?_getD, List.getD_eq_getElem?_getD, List.getElem?_eq_getElem (by omega), List.getElem?_eq_getElem (by omega)] at e
    rw [List.getElem?_eq_getElem (by omega), List.getElem?_eq_getElem (by omega)]
    simpa using e
   ·exact h i (by omega)
  ·rw [show (rd m (j:Int) == rd l (j:Int))=false by simpa using e, decide_eq_false (fun z=>e (by rw [z]))]
   by_cases c : ((j+1:Nat):Int)<(m.length:Int)
   ·exact Ev.step (fun k=>spec_DeskDo.l0.eq_2 ..) (Ev.pos c (Ev.neg (by simp) (hout false)))
   ·exact Ev.step (fun k=>spec_DeskDo.l0.eq_2 ..) (Ev.neg c (hout false))
theorem spec_DeskDo_same (m l : List Int) (r : List (List Int)) (lo : List Int) (ro : List (List Int)) (hm : m.length≤1048576) (out : Bool→List Int × List (List Int) × Bool)
  (hout : ∀ s, Ev (fun k=>spec_DeskDo.j2 k m s lo ro) (out s)) : Ev (fun k=>spec_DeskDo.l0 k m ((m.length:Int) == (l.length:Int)) 0 l r lo ro) (out (decide (m=l))):=by
 by_cases heq : m.length=l.length
 ·rw [show ((m.length:Int) == (l.length:Int))=true from beq_iff_eq.mpr (by omega)]
  exact spec_DeskDo_l0 m l r lo ro hm out hout heq m.length 0 (by omega) (fun i h => by omega)
 ·rw [show ((m.length:Int) == (l.length:Int))=false from beq_eq_false_iff_ne.mpr (by omega), decide_eq_false (fun z=>heq (by rw [z]))]
  by_cases c : (0:Int)<(m.length:Int)
  ·exact Ev.step (fun k=>spec_DeskDo.l0.eq_2 ..) (Ev.pos c (Ev.neg (by simp) (hout false)))
  ·exact Ev.step (fun k=>spec_DeskDo.l0.eq_2 ..) (Ev.neg c (hout false))
def ddOut (l m : List Int) (r : List (List Int)) (s : Bool) : List Int × List (List Int) × Bool := if (s || !treeOk m)=true then (l, r, false) else (m, if r.length+1 > 8 then (r ++ [l]).drop 1 else r ++ [l], true)
theorem ddOut_put (l m : List Int) (r : List (List Int)) : ddOut l m r (decide (m=l))=deskPut l m r:=by
 unfold ddOut deskPut
 by_cases c : m=l ∨ treeOk m=false
 ·rw [if_pos c, if_pos (by simpa using c)]
 ·rw [if_neg c, if_neg (by simpa using c)]
theorem spec_DeskDo_j3 (m l : List Int) (r : List (List Int)) (hm : m.length≤1048576) (hr : r.length≤1048576) (s : Bool) :
  Ev (fun k=>spec_DeskDo.j3 k m s l r) (if s=true then (l, r, false) else (m, if r.length+1 > 8 then (r ++ [l]).drop 1 else r ++ [l], true)):=by
 refine Ev.step (fun k=>spec_DeskDo.j3.eq_2 ..) (Ev.ite (fun h=>Ev.ret (by rw [if_pos h])) (fun h=>?_))
 rw [if_neg h]
 refine Ev.pos (by omega) ?_
 simp only [Option.bind_some, List.nil_append, List.length_nil, Nat.zero_add]
 have hlen : (r ++ [l]).length=r.length+1 := by simp
 by_cases c : r.length+1 > 8
 ·rw [if_pos c]
  exact Ev.pos (by rw [hlen]; omega) (Ev.pos (by omega) (Ev.ret rfl))
 ·rw [if_neg c]
  exact Ev.neg (by rw [hlen]; omega) (Ev.pos (by omega) (Ev.ret rfl))
theorem spec_DeskDo_j2 (m l : List Int) (r : List (List Int)) (hm : m.length≤1048576) (hr : r.length≤1048576) (s : Bool) : Ev (fun k=>spec_DeskDo.j2 k m s l r) (ddOut l m r s):=by
 unfold ddOut
 refine Ev.step (fun k=>spec_DeskDo.j2.eq_2 ..) (Ev.ite (fun h=>?_) (fun h=>Ev.bind (spec_TreeOk_ev m) ?_))
 ·rw [h, Bool.true_or]; exact spec_DeskDo_j3 m l r hm hr true
 ·rw [Bool.eq_false_iff.mpr h, Bool.false_or]; exact spec_DeskDo_j3 m l r hm hr _
theorem spec_DeskDo_ev (l : List Int) (r : List (List Int)) (a b c:Int) (hl : l.length≤1048576) (hr : r.length≤1048576) (hx : ∀ x ∈ r, x.length≤1048576) : Ev (fun k=>spec_DeskDo.f k l r a b c) (deskDo l r a b c):=by
 unfold spec_DeskDo.f deskDo
 refine Ev.bind (spec_DeskOk_ev l r (by omega)) (Ev.ite (fun h=>?_) (fun h=>Ev.ret (by rw [if_neg h])))
 rw [if_pos h]
 obtain ⟨p1, p2, p3⟩:=deskOk_parts h
 have hn := treeOk_len p1
 refine Ev.bind (l12Copy_ev l r (by omega) (by omega) hx) ?_
 have go : ∀ t : Bool, t=decide ((a=5∧b=0∧c=0)∧0<r.length)→Ev (fun k=>spec_DeskDo.j0 k t l r a b c l r) (if (a=5∧b=0∧c=0)∧0<r.length then (r.getD (r.length - 1) [], r.take (r.length - 1), true) else deskPut l (deskMade l a b c) r):=by
  intro t ht
  refine Ev.step (fun k=>spec_DeskDo.j0.eq_2 ..) (Ev.ite (fun h=>?_) (fun h=>?_))
  ·rw [ht, decide_eq_true_eq] at h
   rw [if_pos h]
   have e : wrap64 ((r.length:Int) - 1)=((r.length - 1:Nat):Int) := by rw [wrap_id (by omega) (by omega)]; omega
   rw [e]
   refine Ev.pos (by omega) (Ev.pos (by omega) (Ev.ret ?_))
   rw [rd1_nat, Int.toNat_natCast]
  ·rw [ht, decide_eq_true_eq] at h
   rw [if_neg h]
   have hm : (deskMade l a b c).length≤1048576 := deskMade_len l a b c (by have := hn.2; omega)
   exact Ev.bind (l12Made_ev l hn.1 (by omega) a b c) (Ev.eq (spec_DeskDo_same (deskMade l a b c) l r l r hm (ddOut l (deskMade l a b c) r) (fun s=>spec_DeskDo_j2 _ _ _ hm hr s)) (ddOut_put ..))
 refine Ev.ite (fun h5=>go _ ?_) (fun h5=>go _ ?_)
 ·simp at h5
  simp [h5]
 ·simp at h5
  symm
  rw [decide_eq_false_iff_not]
  rintro ⟨⟨h6, h7, h8⟩, _⟩
  exact h5 h6 h7 h8
theorem impl_own_some (l : List Int) (hl : l.length≤1048576) : impl_own.f l=some l:=by
 unfold impl_own.f
 exact (if_pos (show ([] : List Int).length+l.length<17592186044416 by simp only [List.length_nil]; omega)).trans rfl
def inRange (l : List Int) (i:Nat) : Bool := decide (0≤rd l i∧rd l i≤l.length)
theorem mem_rd {l : List Int} {a : Int} (h0 : 0≤a) (h1 : a<l.length) (h : (List.range l.length).all (inRange l)=true) : 0≤rd l a∧rd l a≤l.length:=by
 rw [List.all_eq_true] at h
 have := h a.toNat (by simp; omega)
 unfold inRange at this
 rw [show ((a.toNat:Nat):Int)=a by omega] at this
 exact of_decide_eq_true this
def stepsOf (l : List Int) : Nat→Int→Nat→Int
 | 0, _, _ => -1
 | m+1, w, i => if rd l (w - 1)=0 then i else stepsOf l m (rd l (w - 1)) (i+1)
theorem stepsOf_neg (l : List Int) (h : (List.range l.length).all (inRange l)=true) : ∀ (m:Nat) (w:Int) (i:Nat), 0<w→w≤l.length→(decide (stepsOf l m w i<0)=!walkOk l m w)
 | 0, w, i, h0, h1 => by simp [stepsOf, walkOk]; omega
 | m+1, w, i, h0, h1 => by
  have hr := mem_rd (a := w - 1) (by omega) (by omega) h
  unfold stepsOf walkOk
  rw [if_neg (show ¬ w≤0 by omega), decide_eq_true hr, Bool.true_and]
  by_cases e : rd l (w - 1)=0
  ·rw [if_pos e, e, decide_eq_false (by omega)]
   cases m <;> simp [walkOk]
  ·rw [if_neg e]
   exact stepsOf_neg l h m _ _ (by omega) (by omega)
theorem impl_steps_l0 (l : List Int) (hl : l.length≤8) (h : (List.range l.length).all (inRange l)=true) (d:Nat) : ∀ (w:Int) (j:Nat), j+d=l.length→0<w→w≤l.length →
  Ev (fun k=>impl_steps.l0 k l w (l.length:Int) (j:Int)) (stepsOf l d w j):=by
 induction d with
 | zero =>
  intro w j hj h0 h1
  refine Ev.step (fun k=>impl_steps.l0.eq_2 ..) ?_
  exact Ev.neg (by omega) (Ev.ret rfl)
 | succ d ih =>
  intro w j hj h0 h1
  have hr := mem_rd (a := w - 1) (by omega) (by omega) h
  refine Ev.step (fun k=>impl_steps.l0.eq_2 ..) ?_
  rw [wrap_id (n := w - 1) (by omega) (by omega), wrap_add1 (by omega)]
  refine Ev.pos (by omega) (Ev.pos (by omega) (Ev.pos (by omega) (Ev.ite (fun e=>?_) (fun e=>?_))))
  ·exact Ev.ret (by unfold stepsOf; rw [if_pos e])
  ·exact Ev.eq (ih (rd l (w - 1)) (j+1) (by omega) (by omega) (by omega)) (by rw [stepsOf, if_neg e])
theorem impl_steps_ev (l : List Int) (hl : l.length≤8) (h : (List.range l.length).all (inRange l)=true) (w:Int) (h0 : 0<w) (h1 : w≤l.length) :
  Ev (fun k=>impl_steps.f k l w) (stepsOf l l.length w 0):=by
 unfold impl_steps.f
 exact impl_steps_l0 l hl h l.length w 0 (by omega) h0 h1
theorem impl_TreeOk_l1 (l : List Int) (hl : l.length≤8) (h : (List.range l.length).all (inRange l)=true) (r:Nat) (d:Nat) : ∀ (j:Nat), j+d=l.length →
  Ev (fun k=>impl_TreeOk.l1 k l (r:Int) (l.length:Int) (j:Int)) ((List.range' j (l.length - j)).all (fun i=>walkOk l l.length ((i:Int)+1)) && ((r:Int) == 1)):=by
 induction d with
 | zero =>
  intro j hj
  refine Ev.step (fun k=>impl_TreeOk.l1.eq_2 ..) ?_
  exact Ev.neg (by omega) (Ev.ret (by rw [show l.length - j=0 by omega]; rfl))
 | succ d ih =>
  intro j hj
  refine Ev.step (fun k=>impl_TreeOk.l1.eq_2 ..) ?_
  rw [wrap_add1 (by omega)]
  refine Ev.pos (by omega) (Ev.bind (impl_steps_ev l hl h _ (by omega) (by omega)) ?_)
  have hs := stepsOf_neg l h l.length ((j+1:Nat):Int) 0 (by omega) (by omega)
  refine Ev.ite (fun e=>?_) (fun e=>?_)
  ·rw [decide_eq_true e] at hs
   refine Ev.ret ?_
   rw [all_from _ _ _ (by omega), show walkOk l l.length ((j:Int)+1)=false by simpa using hs.symm]; rfl
  ·rw [decide_eq_false e] at hs
   refine Ev.eq (ih (j+1) (by omega)) ?_
   rw [all_from _ l.length j (by omega), show walkOk l l.length ((j:Int)+1)=true by simpa using hs.symm, Bool.true_and]
theorem impl_TreeOk_l0 (l : List Int) (h1 : 1≤l.length) (hl : l.length≤8) (d:Nat) : ∀ (r j:Nat), j+d=l.length→r≤j→(∀ i, i<j→inRange l i=true)→r+zerosFrom l j=l.count 0 →
  Ev (fun k=>impl_TreeOk.l0 k l (r:Int) l (l.length:Int) (j:Int)) (treeOk l):=by
 induction d with
 | zero =>
  intro r j hj hr hin hz
  have hall : (List.range l.length).all (inRange l)=true:=by
   rw [List.all_eq_true]; intro i hi; exact hin i (by have := List.mem_range.mp hi; omega)
  refine Ev.step (fun k=>impl_TreeOk.l0.eq_2 ..) ?_
  refine Ev.neg (by omega) (Ev.eq (impl_TreeOk_l1 l hl hall r l.length 0 (by omega)) ?_)
  have hz0 : zerosFrom l j=0 := by unfold zerosFrom; rw [List.drop_eq_nil_of_le (by omega)]; rfl
  have hrc : r=l.count 0 := by omega
  unfold treeOk
  rw [decide_eq_true (show 1≤l.length∧l.length≤8 from ⟨h1, hl⟩), Bool.true_and, Nat.sub_zero, ← List.range_eq_range', hrc]
  congr 1
  ·rw [Bool.eq_iff_iff, List.all_eq_true, List.all_eq_true]
   rw [List.all_eq_true] at hall
   constructor
   ·intro hw i hi
    have := hall i hi
    unfold inRange at this
    unfold okAt; rw [this, hw i hi]; rfl
   ·intro hw i hi
    have := hw i hi
    unfold okAt at this
    exact (Bool.and_eq_true_iff.mp this).2
  ·rw [Bool.eq_iff_iff]; simp; omega
 | succ d ih =>
  intro r j hj hr hin hz
  refine Ev.step (fun k=>impl_TreeOk.l0.eq_2 ..) ?_
  have hbad : ¬ (0≤rd l (j:Int)∧rd l (j:Int)≤(l.length:Int))→treeOk l=false:=by
   intro hb
   unfold treeOk
   have : (List.range l.length).all (okAt l)=false:=by
    rw [List.all_eq_false]
    exact ⟨j, by simp; omega, by unfold okAt; rw [decide_eq_false hb]; simp⟩
   rw [this]; simp
  refine Ev.pos (by omega) (Ev.pos (by omega) (Ev.pos (by omega) (Ev.ite (fun e=>?_) (fun e=>?_))))
  ·refine Ev.step (fun k=>impl_TreeOk.j2.eq_2 ..) (Ev.pos rfl (Ev.ret ?_))
   exact (hbad (by omega)).symm
  ·refine Ev.step (fun k=>impl_TreeOk.j2.eq_2 ..) (Ev.ite (fun e2=>?_) (fun e2=>?_))
   ·have e2' := of_decide_eq_true e2
    exact Ev.ret (hbad (by omega)).symm
   ·have e2' : ¬ rd l (j:Int) > (l.length:Int) := by simpa using e2
    have hin' : ∀ i, i<j+1→inRange l i=true:=by
     intro i hi
     by_cases e' : i=j
     ·subst e'; unfold inRange; exact decide_eq_true (by omega)
     ·exact hin i (by omega)
    have hzs := zerosFrom_succ l j (by omega)
    rw [wrap_add1 (n := j) (by omega)]
    refine Ev.ite (fun e3=>?_) (fun e3=>?_)
    ·rw [wrap_add1 (by omega)]
     rw [if_pos e3] at hzs
     exact ih (r+1) (j+1) (by omega) (by omega) hin' (by omega)
    ·rw [if_neg e3] at hzs
     exact ih r (j+1) (by omega) (by omega) hin' (by omega)
theorem impl_TreeOk_ev (l : List Int) : Ev (fun k=>impl_TreeOk.f k l) (treeOk l):=by
 unfold impl_TreeOk.f
 have hbad : ¬ (1≤l.length∧l.length≤8)→treeOk l=false:=by
  intro hb; unfold treeOk; rw [decide_eq_false hb]; rfl
 refine Ev.ite (fun e=>?_) (fun e=>?_)
 ·refine Ev.step (fun k=>impl_TreeOk.j0.eq_2 ..) (Ev.pos rfl (Ev.ret ?_))
  exact (hbad (by omega)).symm
 ·refine Ev.step (fun k=>impl_TreeOk.j0.eq_2 ..) (Ev.ite (fun e2=>?_) (fun e2=>?_))
  ·have e2' := of_decide_eq_true e2
   exact Ev.ret (hbad (by omega)).symm
  ·have e2' : ¬ (l.length:Int) > 8 := by simpa using e2
   exact impl_TreeOk_l0 l (by omega) (by omega) l.length 0 0 (by omega) (by omega) (fun i h => by omega) (by simp [zerosFrom])
theorem deskIdx_l0 (r : List (List Int)) (hr : r.length≤1048576) (d:Nat) : ∀ (j:Nat), j+d=r.length→∃ x, Ev (fun k=>slices_IndexFunc_int_int_DeskOk_1.l0 k r (r.length:Int) (j:Int)) x∧decide (x ≥ 0)=!((r.drop j).all treeOk):=by
 induction d with
 | zero =>
  intro j hj
  refine ⟨-1, Ev.step (fun k=>slices_IndexFunc_int_int_DeskOk_1.l0.eq_2 ..) (Ev.neg (by omega) (Ev.ret rfl)), ?_⟩
  rw [List.drop_of_length_le (by omega)]
  rfl
 | succ d ih =>
  intro j hj
  have ht : Ev (fun k=>impl_DeskOk_1.f k (rd_L1 r (j:Int))) (!treeOk (rd_L1 r (j:Int))):=by
   unfold impl_DeskOk_1.f
   exact Ev.bind (impl_TreeOk_ev _) (Ev.ret rfl)
  by_cases h : treeOk (rd_L1 r (j:Int))=true
  ·obtain ⟨x, h1, h2⟩:=ih (j+1) (by omega)
   refine ⟨x, Ev.step (fun k=>slices_IndexFunc_int_int_DeskOk_1.l0.eq_2 ..) (Ev.pos (by omega) (Ev.pos (by omega) (Ev.pos (by omega) (Ev.bind ht (Ev.neg (by simp [h]) ?_))))), ?_⟩
   ·rw [wrap_add1 (by omega)]; exact h1
   ·rw [h2, drop_all _ _ [] j (by omega), ← rd1_nat, h, Bool.true_and]
  ·refine ⟨(j:Int), Ev.step (fun k=>slices_IndexFunc_int_int_DeskOk_1.l0.eq_2 ..) (Ev.pos (by omega) (Ev.pos (by omega) (Ev.pos (by omega) (Ev.bind ht (Ev.pos (by simp [h]) (Ev.ret rfl)))))), ?_⟩
   rw [drop_all _ _ [] j (by omega), ← rd1_nat, Bool.eq_false_iff.mpr h, Bool.false_and]
   simp
theorem impl_DeskOk_ev (l : List Int) (r : List (List Int)) (hr : r.length≤1048576) : Ev (fun k=>impl_DeskOk.f k l r) (deskOk l r):=by
 unfold impl_DeskOk.f deskOk
 refine Ev.bind (impl_TreeOk_ev l) (Ev.ite (fun h=>Ev.ite (fun h2=>?_) (fun h2=>Ev.ret ?_)) (fun h=>Ev.ret ?_))
 ·obtain ⟨x, h3, h4⟩:=deskIdx_l0 r hr r.length 0 (by omega)
  unfold slices_ContainsFunc_int_int_DeskOk_1.f slices_IndexFunc_int_int_DeskOk_1.f
  refine Ev.bind (Ev.bind h3 (Ev.ret rfl)) (Ev.ret ?_)
  rw [h4, List.drop_zero, Bool.not_not, h, decide_eq_true (by omega : r.length≤8)]
  rfl
 ·rw [decide_eq_false (by omega : ¬ r.length≤8)]; simp
 ·rw [Bool.eq_false_iff.mpr h]; simp
theorem impl_put_l1 (l o y : List Int) (h : treeOk l=true) (ho : orderOk o l.length=true) (hy : PlacesTo o o.length y) (hyl : y.length=l.length+1) (d:Nat) : ∀ (j:Nat) (x : List Int), j+d=o.length→x.length=l.length→(∀ i : Nat, i<j→x[i]?=(putOf l o)[i]?) →
  Ev (fun k=>impl_put.l1 k l y x o (o.length:Int) (j:Int)) (putOf l o):=by
 have hl := treeOk_len h
 obtain ⟨_, h2, h3⟩:=orderOk_iff.mp ho
 have hlen : (putOf l o).length=o.length := by simp [putOf]
 induction d with
 | zero =>
  intro j x hj hx hp
  refine Ev.step (fun k=>impl_put.l1.eq_2 ..) (Ev.neg (by omega) (Ev.ret ?_))
  apply List.ext_getElem?
  intro i
  by_cases hi : i<j
  ·exact hp i hi
  ·rw [List.getElem?_eq_none (by omega), List.getElem?_eq_none (by omega)]
 | succ d ih =>
  intro j x hj hx hp
  have hg := h3 j (by omega)
  have hr := treeOk_rd h (j := (rd o j - 1).toNat) (by omega)
  rw [show (((rd o j - 1).toNat:Nat):Int)=rd o j - 1 by omega] at hr
  refine Ev.step (fun k=>impl_put.l1.eq_2 ..) ?_
  rw [wrap_id (n := rd o j - 1) (by omega) (by omega), wrap_add1 (by omega), Int.toNat_natCast]
  refine Ev.pos (by omega) (Ev.pos (by omega) (Ev.pos (by omega) (Ev.pos (by omega) (Ev.pos (by omega) (Ev.pos (by omega) (Ev.pos (by omega) (Ev.pos (by omega) ?_)))))))
  refine ih (j+1) _ (by omega) (by simpa using hx) ?_
  intro i hi
  by_cases e : i=j
  ·subst e
   have e3 : rd o i=o[i]'(by omega) := by simp [rd_nat, show i<o.length by omega]
   rw [List.getElem?_set_self (by omega), hy.whole hr.1 (by omega), List.getElem?_eq_getElem (by omega)]
   congr 1
   simp [putOf, e3]
  ·rw [List.getElem?_set_ne (by omega)]
   exact hp i (by omega)
theorem impl_put_l0 (l o : List Int) (h : treeOk l=true) (ho : orderOk o l.length=true) (d:Nat) : ∀ (j:Nat) (y : List Int), j+d=o.length→PlacesTo o j y→y.length=l.length+1 →
  Ev (fun k=>impl_put.l0 k l o y o (o.length:Int) (j:Int)) (putOf l o):=by
 have hl := treeOk_len h
 obtain ⟨_, h2, h3⟩:=orderOk_iff.mp ho
 induction d with
 | zero =>
  intro j y hj hy hyl
  refine Ev.step (fun k=>impl_put.l0.eq_2 ..) (Ev.neg (by omega) (Ev.pos (by omega) (Ev.pos (by omega) ?_)))
  rw [show j=o.length by omega] at hy
  exact impl_put_l1 l o y h ho hy hyl o.length 0 _ (by omega) (by simp) (fun i hi => by omega)
 | succ d ih =>
  intro j y hj hy hyl
  have hg := h3 j (by omega)
  refine Ev.step (fun k=>impl_put.l0.eq_2 ..) ?_
  rw [wrap_id (n := (j:Int)+1) (by omega) (by omega)]
  refine Ev.pos (by omega) (Ev.pos (by omega) (Ev.pos (by omega) (Ev.pos (by omega) (Ev.pos (by omega) ?_))))
  exact ih (j+1) _ (by omega) (hy.set ho (by omega)) (by simpa using hyl)
theorem impl_put_ev (l o : List Int) (h : treeOk l=true) (ho : orderOk o l.length=true) : Ev (fun k=>impl_put.f k l o) (putOf l o):=by
 have hl := treeOk_len h
 unfold impl_put.f
 rw [wrap_id (n := (l.length:Int)+1) (by omega) (by omega)]
 exact Ev.pos (by omega) (Ev.pos (by omega) (impl_put_l0 l o h ho o.length 0 _ (by omega) (PlacesTo.zero o _) (by simp)))
theorem take_snoc (l : List Int) {j : Nat} (h : j<l.length) : l.take (j+1)=l.take j ++ [rd l (j:Int)]:=by
 rw [List.take_succ_eq_append_getElem h, rd_get l h]
theorem impl_BackOf_l0 (l : List Int) (h : treeOk l=true) (d:Nat) : ∀ (j:Nat), j+d=l.length →
  Ev (fun k=>impl_BackOf.l0 k l ((downO l.length).take j) ((l.length:Int) - j)) (putOf l (downO l.length)):=by
 have hn := treeOk_len h
 induction d with
 | zero =>
  intro j hj
  refine Ev.step (fun k=>impl_BackOf.l0.eq_2 ..) ?_
  rw [List.take_of_length_le (by rw [downO_length]; omega)]
  exact Ev.neg (by omega) (Ev.bind (impl_put_ev l _ h (downO_ok hn.1 hn.2)) (Ev.ret rfl))
 | succ d ih =>
  intro j hj
  refine Ev.step (fun k=>impl_BackOf.l0.eq_2 ..) ?_
  have e : (downO l.length).take j ++ [(l.length:Int) - j]=(downO l.length).take (j+1):=by
   rw [take_snoc _ (by rw [downO_length]; omega), downO_rd (by omega)]
  have e2 : wrap64 ((l.length:Int) - j - 1)=(l.length:Int) - ((j+1:Nat):Int) := by rw [wrap_id (by omega) (by omega)]; omega
  refine Ev.pos (by omega) (Ev.pos (by rw [List.length_take]; omega) ?_)
  rw [e, e2]
  exact ih (j+1) (by omega)
theorem impl_BackOf_ev (l : List Int) : Ev (fun k=>impl_BackOf.f k l) (backOf l):=by
 unfold impl_BackOf.f
 refine Ev.bind (impl_TreeOk_ev l) (Ev.ite (fun h=>?_) (fun h=>?_))
 ·refine Ev.eq ?_ (show putOf l (downO l.length)=backOf l by unfold backOf; rw [if_pos h])
  have := impl_BackOf_l0 l h l.length 0 (by omega)
  simpa using this
 ·exact Ev.ret (by unfold backOf; rw [if_neg h])
def SortedTo (x : List Int) (i:Nat) : Prop := ∀ a b : Nat, a<b→b<i→rd x a≤rd x b
def SameCount (x l : List Int) : Prop := x.length=l.length∧∀ v : Int, x.count v=l.count v
def SortedBut (x : List Int) (i j:Nat) : Prop := ∀ a b : Nat, a<b→b≤i→b≠j→rd x a≤rd x b
theorem rd_set (x : List Int) (i:Nat) (v:Int) (j:Nat) (h : i<x.length) : rd (x.set i v) j=if j=i then v else rd x j:=by
 rw [rd_nat, rd_nat, List.getD_eq_getElem?_getD, List.getD_eq_getElem?_getD]
 by_cases e : j=i
 ·subst e; simp [h]
 ·rw [List.getElem?_set_ne (by omega), if_neg e]
theorem swap_same {x l : List Int} (h : SameCount x l) {j : Nat} (hj : j+1<x.length) : SameCount ((x.set (j+1) (rd x j)).set j (rd x ((j+1:Nat):Int))) l:=by
 refine ⟨by simp [h.1], fun v=>?_⟩
 have hj2 : j<(x.set (j+1) (rd x j)).length := by simp; omega
 rw [List.count_set hj2, List.count_set hj, List.getElem_set_ne (by omega), ← rd_get x (i := j) (by omega), ← rd_get x (i := j+1) hj, ← h.2 v]
 have h1 : 0<x.count (rd x j) := List.count_pos_iff.mpr (by rw [rd_get x (by omega)]; exact List.getElem_mem _)
 have h2 : 0<x.count (rd x ((j+1:Nat):Int)) := List.count_pos_iff.mpr (by rw [rd_get x hj]; exact List.getElem_mem _)
 by_cases e1 : rd x j=v
 ·by_cases e2 : rd x ((j+1:Nat):Int)=v
  ·simp only [e1, e2, beq_self_eq_true, if_true]; rw [e1] at h1; omega
  ·have : (rd x ((j+1:Nat):Int) == v)=false := by simpa using e2
   simp only [e1, this, beq_self_eq_true, if_true, Bool.false_eq_true, if_false]; omega
 ·have e1' : (rd x j == v)=false := by simpa using e1
  by_cases e2 : rd x ((j+1:Nat):Int)=v
  ·simp only [e2, e1', beq_self_eq_true, if_true, Bool.false_eq_true, if_false]; rw [e2] at h2; omega
  ·have : (rd x ((j+1:Nat):Int) == v)=false := by simpa using e2
   simp only [this, e1', Bool.false_eq_true, if_false]; omega
theorem swap_sorted {x : List Int} {i j : Nat} (h : SortedBut x i (j+1)) (hj : j+1≤i) (hi : i<x.length) (hlt : rd x ((j+1:Nat):Int)<rd x j) : SortedBut ((x.set (j+1) (rd x j)).set j (rd x ((j+1:Nat):Int))) i j:=by
 intro a b hab hb hne
 have hj2 : j<(x.set (j+1) (rd x j)).length := by simp; omega
 rw [rd_set _ _ _ _ hj2, rd_set _ _ _ _ hj2, rd_set _ _ _ _ (by omega), rd_set _ _ _ _ (by omega), if_neg hne]
 by_cases e1 : b=j+1
 ·subst e1
  rw [if_pos rfl]
  by_cases e2 : a=j
  ·rw [if_pos e2]; omega
  ·rw [if_neg e2, if_neg (by omega)]
   exact h a j (by omega) (by omega) (by omega)
 ·rw [if_neg e1]
  by_cases e2 : a=j
  ·rw [if_pos e2]
   exact h (j+1) b (by omega) hb e1
  ·rw [if_neg e2]
   by_cases e3 : a=j+1
   ·rw [if_pos e3]
    exact h j b (by omega) hb e1
   ·rw [if_neg e3]
    exact h a b hab hb e1
theorem sorted_of_but {x : List Int} {i j : Nat} (h : SortedBut x i j) (hj : j=0 ∨ ∃ p : Nat, j=p+1∧rd x p≤rd x j) : SortedTo x (i+1):=by
 intro a b hab hb
 by_cases e : b=j
 ·rcases hj with h0 | ⟨p,hp, hle⟩
  ·omega
  ·by_cases e2 : a=p
   ·subst e2; rw [e]; exact hle
   ·have := h a p (by omega) (by omega) (by omega)
    rw [e]; omega
 ·exact h a b hab (by omega) e
theorem order_of_sorted {s l : List Int} (hs : SortedTo s s.length) (hc : SameCount s l) (h1 : 1≤l.length) (h8 : l.length≤8) : decide (∀ i : Nat, i<s.length→rd s i=(i:Int)+1)=orderOk l l.length:=by
 rw [Bool.eq_iff_iff, decide_eq_true_iff, orderOk_nodup]
 constructor
 ·intro h
  have hnd : s.Nodup:=by
   rw [nodup_iff_rd]
   intro i j hij hj
   rw [h i (by omega), h j hj]; omega
  have hnl : l.Nodup:=by
   rw [List.nodup_iff_count]
   intro a
   rw [← hc.2 a]
   exact List.nodup_iff_count.mp hnd a
  refine ⟨by omega, rfl, hnl, fun x hx => ?_⟩
  have hx2 : x ∈ s := by rw [← List.count_pos_iff, hc.2 x, List.count_pos_iff]; exact hx
  obtain ⟨i, hi, e⟩:=List.getElem_of_mem hx2
  have := h i hi
  rw [rd_get s hi, e] at this
  have := hc.1
  omega
 ·rintro ⟨_, _, hnl, hr⟩
  have hnd : s.Nodup:=by
   rw [List.nodup_iff_count]
   intro a
   rw [hc.2 a]
   exact List.nodup_iff_count.mp hnl a
  have hrs : ∀ i : Nat, i<s.length→1≤rd s i∧rd s i≤l.length:=by
   intro i hi
   refine hr _ ?_
   rw [← List.count_pos_iff, ← hc.2, List.count_pos_iff, rd_get s hi]
   exact List.getElem_mem _
  have hst : ∀ i : Nat, i+1<s.length→rd s i<rd s ((i+1:Nat):Int):=by
   intro i hi
   have a1 := hs i (i+1) (by omega) hi
   have a2 := (nodup_iff_rd s).mp hnd i (i+1) (by omega) hi
   omega
  have hlow : ∀ i : Nat, i<s.length→(i:Int)+1≤rd s i:=by
   intro i
   induction i with
   | zero => intro hi; have := hrs 0 hi; omega
   | succ i ih =>
    intro hi
    have := ih (by omega)
    have := hst i hi
    omega
  have hhigh : ∀ d i : Nat, i+d+1=s.length→rd s i+d≤l.length:=by
   intro d
   induction d with
   | zero => intro i hi; have := hrs i (by omega); omega
   | succ d ih =>
    intro i hi
    have h1 := ih (i+1) (by omega)
    have h2 := hst i (by omega)
    omega
  intro i hi
  have a1 := hlow i hi
  have a2 := hhigh (s.length - i - 1) i (by omega)
  have a3 := hc.1
  omega
theorem less_int (a b:Int) : cmp_Less_int.f a b=some (decide (a<b)):=by
 unfold cmp_Less_int.f cmp_isNaN_int.f
 simp
theorem insertion_l1 (n:Nat) (hn : n≤8) (i:Nat) (hi : i<n) (l r : List Int) (next : ∀ x : List Int, x.length=n→SameCount x l→SortedTo x (i+1)→∃ s, Ev (fun k=>slices_insertionSortOrdered_int.l0 k x 0 (n:Int) ((i+1:Nat):Int)) s∧SameCount s l∧SortedTo s n) :
  ∀ (j:Nat) (x : List Int), j≤i→x.length=n→SameCount x l→SortedBut x i j→∃ s, Ev (fun k=>slices_insertionSortOrdered_int.l1 k x 0 (n:Int) (i:Int) (j:Int)) s∧SameCount s l∧SortedTo s n
 | 0, x, hj, hx, hc, hs => by
  obtain ⟨s, h1, h2, h3⟩:=next x hx hc (sorted_of_but hs (.inl rfl))
  refine ⟨s, Ev.step (fun k=>slices_insertionSortOrdered_int.l1.eq_2 ..) (Ev.neg (by omega) ?_), h2, h3⟩
  rw [wrap_add1 (by omega)]
  exact h1
 | j+1, x, hj, hx, hc, hs => by
  have e1 : wrap64 (((j+1:Nat):Int) - 1)=(j:Int) := by rw [wrap_id (by omega) (by omega)]; omega
  have hless : cmp_Less_int.f (rd x ((j+1:Nat):Int)) (rd x j)=some (decide (rd x ((j+1:Nat):Int)<rd x j)) := less_int _ _
  by_cases h : rd x ((j+1:Nat):Int)<rd x j
  ·obtain ⟨s, h1, h2, h3⟩:=insertion_l1 n hn i hi l r next j _ (by omega) (by simpa using hx) (swap_same hc (by omega)) (swap_sorted hs hj (by omega) h)
   refine ⟨s, Ev.step (fun k=>slices_insertionSortOrdered_int.l1.eq_2 ..) ?_, h2, h3⟩
   rw [e1]
   refine Ev.pos (by omega) (Ev.pos (by omega) (Ev.pos (by omega) (Ev.pos (by omega) (Ev.pos (by omega) (Ev.bind0 hless (Ev.pos (decide_eq_true h) ?_))))))
   rw [Int.toNat_natCast, Int.toNat_natCast]
   exact h1
  ·obtain ⟨s, h1, h2, h3⟩:=next x hx hc (sorted_of_but hs (.inr ⟨j, rfl,by omega⟩))
   refine ⟨s, Ev.step (fun k=>slices_insertionSortOrdered_int.l1.eq_2 ..) ?_, h2, h3⟩
   rw [e1, wrap_add1 (by omega)]
   exact Ev.pos (by omega) (Ev.pos (by omega) (Ev.pos (by omega) (Ev.pos (by omega) (Ev.pos (by omega) (Ev.bind0 hless (Ev.neg (by simpa using h) h1))))))
theorem insertion_l0 (n:Nat) (hn : n≤8) (l : List Int) (d:Nat) : ∀ (i:Nat) (x : List Int), i+d=n→x.length=n→SameCount x l→SortedTo x i→∃ s, Ev (fun k=>slices_insertionSortOrdered_int.l0 k x 0 (n:Int) (i:Int)) s∧SameCount s l∧SortedTo s n:=by
 induction d with
 | zero =>
  intro i x hi hx hc hs
  refine ⟨x, Ev.step (fun k=>slices_insertionSortOrdered_int.l0.eq_2 ..) (Ev.neg (by omega) (Ev.ret rfl)), hc, ?_⟩
  rw [show n=i by omega]; exact hs
 | succ d ih =>
  intro i x hi hx hc hs
  obtain ⟨s, h1, h2, h3⟩:=insertion_l1 n hn i (by omega) l [] (fun x' hx' hc' hs' => ih (i+1) x' (by omega) hx' hc' hs') i x (Nat.le_refl _) hx hc (fun a b hab hb hne => hs a b hab (by omega))
  exact ⟨s, Ev.step (fun k=>slices_insertionSortOrdered_int.l0.eq_2 ..) (Ev.pos (by omega) h1), h2, h3⟩
theorem sort_ev (l : List Int) (h1 : 1≤l.length) (h8 : l.length≤8) : ∃ s, Ev (fun k=>slices_Sort_int_int.f k l) s∧SameCount s l∧SortedTo s l.length:=by
 obtain ⟨s, hs, h2, h3⟩:=insertion_l0 l.length h8 l (l.length - 1) 1 l (by omega) rfl ⟨rfl, fun _=>rfl⟩ (fun a b hab hb => by omega)
 refine ⟨s, ?_, h2, h3⟩
 unfold slices_Sort_int_int.f
 have hw : IntKind.u64.wrap (l.length:Int)=(l.length:Int):=by
  simp [IntKind.wrap, IntKind.bits, IntKind.signed]; omega
 rw [hw]
 refine Ev.bind0 (a := (Lib.bitLen (l.length:Int).toNat:Int)) (by unfold bits_Len.f; rw [if_pos (by omega)]) ?_
 unfold slices_pdqsortOrdered_int.f slices_insertionSortOrdered_int.f
 rw [show wrap64 (0+1)=((1:Nat):Int) by decide +kernel]
 exact Ev.bind (Ev.pos (by omega) hs) (Ev.ret rfl)
theorem impl_OrderOk_ev (o : List Int) (many:Int) : Ev (fun k=>impl_OrderOk.f k o many) (orderOk o many):=by
 unfold impl_OrderOk.f
 by_cases h : 1≤many∧many≤8∧(o.length:Int)=many
 ·obtain ⟨h1, h2, rfl⟩:=h
  obtain ⟨s, hs, hc, hst⟩:=sort_ev o (by omega) (by omega)
  refine Ev.pos ⟨h1, h2, rfl⟩ (Ev.bind hs (Ev.pos (by have := hc.1; omega) (Ev.ret ?_)))
  exact order_of_sorted (by rw [hc.1]; exact hst) hc (by omega) (by omega)
 ·refine Ev.neg h (Ev.ret ?_)
  symm
  unfold orderOk
  rw [decide_eq_false_iff_not]
  exact fun h2=>h ⟨h2.1.1, h2.1.2, h2.2.1⟩
theorem impl_PutInOrder_ev (l o : List Int) : Ev (fun k=>impl_PutInOrder.f k l o) (putInOrder l o):=by
 unfold impl_PutInOrder.f putInOrder
 refine Ev.bind (impl_TreeOk_ev l) (Ev.ite (fun h=>?_) (fun h=>?_))
 ·refine Ev.bind (impl_OrderOk_ev o _) (Ev.ite (fun ho=>?_) (fun ho=>?_))
  ·rw [if_pos ⟨h, ho⟩]
   exact Ev.bind (impl_put_ev l o h ho) (Ev.ret rfl)
  ·rw [if_neg (fun h2=>ho h2.2)]; exact Ev.ret rfl
 ·rw [if_neg (fun h2=>h h2.1)]; exact Ev.ret rfl
theorem slices_Index_l0 (l : List Int) (v:Int) (hl : l.length≤1048576) (d:Nat) : ∀ (j:Nat), j+d=l.length →
  Ev (fun k=>slices_Index_int_int.l0 k l v (l.length:Int) (j:Int)) (indexFrom l v l.length j):=by
 induction d with
 | zero =>
  intro j hj
  refine Ev.step (fun k=>slices_Index_int_int.l0.eq_2 ..) ?_
  exact Ev.neg (by omega) (Ev.ret (by unfold indexFrom; rw [show l.length - j=0 by omega]; rfl))
 | succ d ih =>
  intro j hj
  refine Ev.step (fun k=>slices_Index_int_int.l0.eq_2 ..) ?_
  have hr : List.range' j (l.length - j)=j :: List.range' (j+1) (l.length - (j+1)):=by
   rw [show l.length - j=(l.length - (j+1))+1 by omega, List.range'_succ]
  refine Ev.pos (by omega) (Ev.pos (by omega) (Ev.pos (by omega) (Ev.ite (fun e=>?_) (fun e=>?_))))
  ·exact Ev.ret (by unfold indexFrom; rw [hr, List.find?_cons_of_pos (by simpa using e.symm)])
  ·rw [wrap_add1 (by omega)]
   refine Ev.eq (ih (j+1) (by omega)) ?_
   unfold indexFrom
   rw [hr, List.find?_cons_of_neg (by simpa using fun h=>e h.symm)]
theorem slices_Index_ev (l : List Int) (v:Int) (hl : l.length≤1048576) : Ev (fun k=>slices_Index_int_int.f k l v) (indexFrom l v l.length 0):=by
 unfold slices_Index_int_int.f
 exact slices_Index_l0 l v hl l.length 0 (by omega)
theorem impl_RootOf_ev (l : List Int) : Ev (fun k=>impl_RootOf.f k l) (rootOf l):=by
 unfold impl_RootOf.f
 refine Ev.bind (impl_TreeOk_ev l) (Ev.ite (fun h=>?_) (fun h=>?_))
 ·have hl := treeOk_len h
  obtain ⟨i, h1, h2, h3⟩:=rootOf_spec h
  have e : rootOf l=indexFrom l 0 l.length 0+1 := by unfold rootOf; rw [if_pos h]
  refine Ev.bind (slices_Index_ev l 0 (by omega)) (Ev.ret ?_)
  rw [wrap_id (by omega) (by omega), e]
 ·exact Ev.ret (by unfold rootOf; rw [if_neg h])
theorem impl_flat_l0 (l : List Int) (w:Int) (hl : l.length≤8) (m:Nat) (hm : m<8) (ih : ∀ i : Nat, i<l.length→rd l i=w→Ev (fun k=>impl_flatOrder.f k l ((i:Int)+1)) (flatF l m ((i:Int)+1))) (d:Nat) :
  ∀ (j:Nat) (x y : List Int), j+d=l.length→x.length+y.length+(d+1) * 20 ^ m≤1000000000000→Ev (fun k=>impl_flatOrder.l0 k l w x y l (l.length:Int) (j:Int)) ((x ++ (kidsL l w l.length j).flatMap (fun i : Nat => flatF l m ((i:Int)+1))) ++ (y ++ (kidsR l w l.length j).flatMap (fun i : Nat => flatF l m ((i:Int)+1)))):=by
 induction d with
 | zero =>
  intro j x y hj hx
  refine Ev.step (fun k=>impl_flatOrder.l0.eq_2 ..) (Ev.neg (by omega) (Ev.pos (by omega) (Ev.ret ?_)))
  rw [kidsL_end l w (by omega), kidsR_end l w (by omega)]; simp
 | succ d ihd =>
  intro j x y hj hx
  have c1 : (j:Int)<(l.length:Int) := by clear hx; omega
  have c2 : 0≤(j:Int) := Int.natCast_nonneg _
  have hf := flatF_small l hl m ((j:Int)+1)
  have hp : (d+1+1) * 20 ^ m=(d+1) * 20 ^ m+20 ^ m := by rw [Nat.add_mul (d+1) 1, Nat.one_mul]
  have e1 : wrap64 ((j:Int)+1)=(j:Int)+1 := by clear hx hp; exact wrap_id (by omega) (by omega)
  have next : ∀ x' y' : List Int, x'.length+y'.length+(d+1) * 20 ^ m≤1000000000000→Ev (fun k=>impl_flatOrder.l0 k l w x' y' l (l.length:Int) ((j:Int)+1)) ((x' ++ (kidsL l w l.length (j+1)).flatMap (fun i : Nat => flatF l m ((i:Int)+1))) ++ (y' ++ (kidsR l w l.length (j+1)).flatMap (fun i : Nat => flatF l m ((i:Int)+1)))) := fun x' y' h => by
   have := ihd (j+1) x' y' (by omega) h
   rw [show ((j+1:Nat):Int)=(j:Int)+1 by omega] at this
   exact this
  refine Ev.step (fun k=>impl_flatOrder.l0.eq_2 ..) ?_
  rw [e1]
  refine Ev.pos c1 (Ev.pos c2 (Ev.pos c1 (Ev.ite (fun e=>?_) (fun e=>?_))))
  ·refine Ev.step (fun k=>impl_flatOrder.j1.eq_2 ..) ?_
   rw [e1]
   refine Ev.ite (fun e2=>?_) (fun e2=>?_)
   ·have e2' := of_decide_eq_true e2
    refine Ev.bind (ih j (by omega) e) (Ev.pos (by omega) ?_)
    rw [kidsL_yes l w (by omega) ⟨e, e2'⟩, kidsR_no l w (by omega) (fun h=>h.2 e2'), List.flatMap_cons, ← List.append_assoc x]
    exact next _ _ (by rw [List.length_append]; omega)
   ·have e2' : ¬ (j:Int)+1<w := by simpa using e2
    refine Ev.pos e (Ev.bind (ih j (by omega) e) (Ev.pos (by omega) ?_))
    rw [kidsL_no l w (by omega) (fun h=>e2' h.2), kidsR_yes l w (by omega) ⟨e, e2'⟩, List.flatMap_cons, ← List.append_assoc y]
    exact next _ _ (by rw [List.length_append]; omega)
  ·refine Ev.step (fun k=>impl_flatOrder.j1.eq_2 ..) ?_
   rw [e1]
   refine Ev.neg (by simp) (Ev.neg e ?_)
   rw [kidsL_no l w (by omega) (fun h=>e h.1), kidsR_no l w (by omega) (fun h=>e h.1)]
   exact next _ _ (by omega)
theorem impl_flatOrder_ev (l : List Int) (h : treeOk l=true) : ∀ (m d:Nat) (w:Int), 1≤w∧w≤l.length→Deep l d w→l.length≤d+m→m≤8→Ev (fun k=>impl_flatOrder.f k l w) (flatF l m w)
 | 0, d, w, hw, hd, hm, hm8 => by
  have := deep_lt h hw.1 hw.2 hd
  omega
 | m+1, d, w, hw, hd, hm, hm8 => by
  have hl := treeOk_len h
  have hp := pow20_le (m := m) (by omega)
  refine Ev.step (fun k=>impl_flatOrder.f.eq_2 ..) ?_
  refine impl_flat_l0 l w hl.2 m (by omega) (fun i hi e => impl_flatOrder_ev l h m (d+1) _ ⟨by omega,by omega⟩ (deep_kid hw hd e) (by omega) (by omega)) l.length 0 [] [w] (by omega) ?_
  have : (l.length+1) * 20 ^ m≤9 * 20 ^ m := Nat.mul_le_mul_right _ (by omega)
  simp only [List.length_nil, List.length_singleton]
  omega
theorem impl_FlatOrder_ev (l : List Int) : Ev (fun k=>impl_FlatOrder.f k l) (flatOrder l):=by
 unfold impl_FlatOrder.f flatOrder
 refine Ev.bind (impl_TreeOk_ev l) (Ev.ite (fun h=>?_) (fun h=>?_))
 ·have hl := treeOk_len h
  obtain ⟨i, h1, h2, h3⟩:=rootOf_spec h
  rw [if_pos h]
  refine Ev.bind (impl_RootOf_ev l) (Ev.bind (impl_flatOrder_ev l h l.length 0 _ ⟨by omega,by omega⟩ ?_ (by omega) (by omega)) (Ev.bind0 rfl (Ev.ret rfl)))
  rw [h3]
  show rd l ((i:Int)+1 - 1)=0
  rw [show (i:Int)+1 - 1=(i:Int) by omega]
  exact h2
 ·rw [if_neg h]; exact Ev.ret rfl
theorem impl_MadeFlat_ev (l : List Int) : Ev (fun k=>impl_MadeFlat.f k l) (madeFlat l):=by
 unfold impl_MadeFlat.f
 exact Ev.bind (impl_FlatOrder_ev l) (Ev.bind (impl_PutInOrder_ev l _) (Ev.ret rfl))
theorem impl_copied_l0 (r : List (List Int)) (hr : r.length≤1048576) (hx : ∀ x ∈ r, x.length≤1048576) (m : List Int) (d:Nat) : ∀ (j:Nat), j+d=r.length →
  Ev (fun k=>impl_Desk_copied.l0 k r (r.length:Int) (j:Int) m (r.take j)) (m, r):=by
 induction d with
 | zero =>
  intro j hj
  refine Ev.step (fun k=>impl_Desk_copied.l0.eq_2 ..) (Ev.neg (by omega) (Ev.ret ?_))
  rw [List.take_of_length_le (by omega)]
 | succ d ih =>
  intro j hj
  have hjl : j<r.length := by omega
  have e : rd_L1 r (j:Int)=r[j] := by rw [rd1_nat, List.getD_eq_getElem?_getD, List.getElem?_eq_getElem hjl]; rfl
  have hlen : (rd_L1 r (j:Int)).length≤1048576 := by rw [e]; exact hx _ (List.getElem_mem ..)
  refine Ev.step (fun k=>impl_Desk_copied.l0.eq_2 ..) (Ev.pos (by omega) (Ev.pos (by omega) (Ev.pos (by omega) (Ev.bind0 (impl_own_some _ hlen) (Ev.pos (by rw [List.length_take]; omega) ?_)))))
  rw [wrap_add1 (by omega), e, ← List.take_succ_eq_append_getElem hjl]
  exact ih (j+1) (by omega)
theorem impl_copied_ev (l : List Int) (r : List (List Int)) (hl : l.length≤1048576) (hr : r.length≤1048576) (hx : ∀ x ∈ r, x.length≤1048576) : Ev (fun k=>impl_Desk_copied.f k l r) (l, r):=by
 unfold impl_Desk_copied.f
 refine Ev.bind0 (impl_own_some l hl) ?_
 have := impl_copied_l0 r hr hx l r.length 0 (by omega)
 rw [List.take_zero] at this
 exact this
@[reducible] def deedNamed (a b c:Int) : Prop := a=0 ∨ (a=1∧c=0) ∨ ((a=2 ∨ a=3 ∨ a=4 ∨ a=5)∧b=0∧c=0)
theorem impl_named_some (a b c:Int) : impl_Deed_named.f a b c=some (decide (deedNamed a b c)):=by
 unfold impl_Deed_named.f
 by_cases h0 : a=0
 ·rw [if_pos h0]; congr 1; symm; rw [decide_eq_true_iff]; exact .inl h0
 rw [if_neg h0]
 by_cases h1 : a=1
 ·rw [if_pos h1]; congr 1
  by_cases hc : c=0
  ·rw [decide_eq_true (show deedNamed a b c from .inr (.inl ⟨h1, hc⟩))]; simpa using hc
  ·rw [decide_eq_false (show ¬ deedNamed a b c by omega)]; simpa using hc
 rw [if_neg h1]
 have go : (a=2 ∨ a=3 ∨ a=4 ∨ a=5)→(if b=0 then (some (c == 0)) else (some false))=some (decide (deedNamed a b c)):=by
  intro h
  by_cases hb : b=0
  ·rw [if_pos hb]; congr 1
   by_cases hc : c=0
   ·rw [decide_eq_true (show deedNamed a b c from .inr (.inr ⟨h, hb, hc⟩))]; simpa using hc
   ·rw [decide_eq_false (show ¬ deedNamed a b c by omega)]; simpa using hc
  ·rw [if_neg hb, decide_eq_false (show ¬ deedNamed a b c by omega)]
 by_cases h2 : a=2
 ·rw [if_pos h2]; exact go (.inl h2)
 rw [if_neg h2]
 by_cases h3 : a=3
 ·rw [if_pos h3]; exact go (.inr (.inl h3))
 rw [if_neg h3]
 by_cases h4 : a=4
 ·rw [if_pos h4]; exact go (.inr (.inr (.inl h4)))
 rw [if_neg h4]
 by_cases h5 : a=5
 ·rw [if_pos h5]; exact go (.inr (.inr (.inr h5)))
 rw [if_neg h5, decide_eq_false (show ¬ deedNamed a b c by omega)]
theorem dm0 {l : List Int} {a b c : Int} (h : a=0∧1≤b∧b≤l.length) : deskMade l a b c=l.set (b - 1).toNat c:=by
 unfold deskMade; rw [if_pos h]
theorem dm1 {l : List Int} {a b c : Int} (h : a=1∧c=0) : deskMade l a b c=l ++ [b]:=by
 unfold deskMade; rw [if_neg (by omega), if_pos h]
theorem dm2 {l : List Int} {a b c : Int} (h : a=2∧b=0∧c=0) : deskMade l a b c=l.take (l.length - 1):=by
 unfold deskMade; rw [if_neg (by omega), if_neg (by omega), if_pos h]
theorem dm3 {l : List Int} {a b c : Int} (h : a=3∧b=0∧c=0) : deskMade l a b c=backOf l:=by
 unfold deskMade; rw [if_neg (by omega), if_neg (by omega), if_neg (by omega), if_pos h]
theorem dm4 {l : List Int} {a b c : Int} (h : a=4∧b=0∧c=0) : deskMade l a b c=madeFlat l:=by
 unfold deskMade; rw [if_neg (by omega), if_neg (by omega), if_neg (by omega), if_neg (by omega), if_pos h]
theorem dm5 {l : List Int} {a b c : Int} (h0 : ¬ (a=0∧1≤b∧b≤l.length)) (h1 : ¬ (a=1∧c=0)) (h2 : ¬ (a=2∧b=0∧c=0)) (h3 : ¬ (a=3∧b=0∧c=0)) (h4 : ¬ (a=4∧b=0∧c=0)) : deskMade l a b c=[]:=by
 unfold deskMade; rw [if_neg h0, if_neg h1, if_neg h2, if_neg h3, if_neg h4]
theorem deskMade_unnamed {l : List Int} {a b c : Int} (h : ¬ deedNamed a b c) : deskMade l a b c=[] := dm5 (by omega) (by omega) (by omega) (by omega) (by omega)
theorem impl_after_ev (l : List Int) (hl1 : 1≤l.length) (hl : l.length≤8) (a b c:Int) (h : deedNamed a b c) (h5 : a≠5) : Ev (fun k=>impl_after.f k l a b c) (deskMade l a b c):=by
 unfold impl_after.f
 refine Ev.ite (fun h0=>Ev.bind0 (impl_own_some l (by omega)) (Ev.ite (fun h1=>Ev.ret ?_) (fun h1=>Ev.ite (fun h2=>Ev.ret ?_) (fun h2=>?_)))) (fun h0=>?_)
 ·exact (dm5 (by omega) (by omega) (by omega) (by omega) (by omega)).symm
 ·exact (dm5 (by omega) (by omega) (by omega) (by omega) (by omega)).symm
 ·have e : wrap64 (b - 1)=b - 1 := wrap_id (by omega) (by omega)
  rw [e]
  exact Ev.pos (by omega) (Ev.pos (by omega) (Ev.ret (dm0 (by omega)).symm))
 ·refine Ev.ite (fun h1=>Ev.bind0 (impl_own_some l (by omega)) ?_) (fun h1=>?_)
  ·simp only [Option.bind_some]
   exact Ev.pos (by simp only [List.length_singleton]; omega) (Ev.bind0 rfl (Ev.ret (dm1 (by omega)).symm))
  ·refine Ev.ite (fun h2=>?_) (fun h2=>?_)
   ·have e : wrap64 ((l.length:Int) - 1)=((l.length - 1:Nat):Int) := by rw [wrap_id (by omega) (by omega)]; omega
    rw [e]
    exact Ev.pos (by omega) (Ev.pos (by omega) (Ev.bind0 (impl_own_some _ (by rw [List.length_take]; omega)) (Ev.ret (by rw [Int.toNat_natCast]; exact (dm2 (by omega)).symm))))
   ·refine Ev.ite (fun h3=>?_) (fun h3=>?_)
    ·exact Ev.bind (impl_BackOf_ev l) (Ev.ret (dm3 (by omega)).symm)
    ·exact Ev.bind (impl_MadeFlat_ev l) (Ev.ret (dm4 (by omega)).symm)
theorem slicesEqual_l0 (l m : List Int) (hl : l.length≤1048576) (hm : l.length=m.length) (d:Nat) : ∀ (j:Nat), j+d=l.length→(∀ i, i<j→l[i]?=m[i]?)→Ev (fun k=>slices_Equal_int_int.l0 k l m (l.length:Int) (j:Int)) (decide (l=m)):=by
 induction d with
 | zero =>
  intro j hj h
  refine Ev.step (fun k=>slices_Equal_int_int.l0.eq_2 ..) (Ev.neg (by omega) (Ev.ret ?_))
  symm
  rw [decide_eq_true_iff]
  apply List.ext_getElem?
  intro i
  by_cases hi : i<j
  ·exact h i hi
  ·rw [List.getElem?_eq_none (by omega), List.getElem?_eq_none (by omega)]
 | succ d ih =>
  intro j hj h
  refine Ev.step (fun k=>slices_Equal_int_int.l0.eq_2 ..) (Ev.pos (by omega) (Ev.pos (by omega) (Ev.pos (by omega) (Ev.pos (by omega) (Ev.ite (fun e=>?_) (fun e=>Ev.ret ?_))))))
  ·rw [wrap_add1 (by omega)]
   refine ih (j+1) (by omega) (fun i hi => ?_)
   by_cases e2 : i=j
   ·subst e2
    rw [rd_nat, rd_nat, List.getD_eq_getElem?_getD, List.getD_eq_getElem?_getD, List.getElem?_eq_getElem (by omega), List.getElem?_eq_getElem (by omega)] at e
    rw [List.getElem?_eq_getElem (by omega), List.getElem?_eq_getElem (by omega)]
    simpa using e
   ·exact h i (by omega)
  ·symm
   rw [decide_eq_false_iff_not]
   intro z
   exact e (by rw [z])
theorem slicesEqual_ev (l m : List Int) (hl : l.length≤1048576) : Ev (fun k=>slices_Equal_int_int.f k l m) (decide (l=m)):=by
 unfold slices_Equal_int_int.f
 refine Ev.ite (fun h=>slicesEqual_l0 l m hl (by omega) l.length 0 (by omega) (fun i h => by omega)) (fun h=>Ev.ret ?_)
 symm
 rw [decide_eq_false_iff_not]
 intro z
 exact h (by rw [z])
theorem impl_DeskDo_j0 (m l : List Int) (r : List (List Int)) (hr : r.length≤8) (s : Bool) : Ev (fun k=>impl_DeskDo.j0 k m s l r) (if s=true then (l, r, false) else (m, if r.length+1 > 8 then (r ++ [l]).drop 1 else r ++ [l], true)):=by
 refine Ev.step (fun k=>impl_DeskDo.j0.eq_2 ..) (Ev.ite (fun h=>Ev.ret (by rw [if_pos h])) (fun h=>?_))
 rw [if_neg h]
 refine Ev.pos (by omega) ?_
 simp only [Option.bind_some]
 have hlen : (r ++ [l]).length=r.length+1 := by simp
 by_cases c : r.length+1 > 8
 ·rw [if_pos c]
  exact Ev.pos (by rw [hlen]; omega) (Ev.ret (by rw [hlen, show r.length+1 - 8=1 by omega]))
 ·rw [if_neg c]
  exact Ev.neg (by rw [hlen]; omega) (Ev.ret rfl)
theorem impl_DeskDo_ev (l : List Int) (r : List (List Int)) (a b c:Int) (hl : l.length≤1048576) (hr : r.length≤1048576) (hx : ∀ x ∈ r, x.length≤1048576) : Ev (fun k=>impl_DeskDo.f k l r a b c) (deskDo l r a b c):=by
 unfold impl_DeskDo.f
 refine Ev.bind (impl_DeskOk_ev l r hr) (Ev.ite (fun h=>?_) (fun h=>Ev.ret (by unfold deskDo; rw [if_neg h])))
 obtain ⟨p1, p2, p3⟩:=deskOk_parts h
 have hn := treeOk_len p1
 have eb : (a=5∧b=0∧c=0)∧0<r.length→deskDo l r a b c=(r.getD (r.length - 1) [], r.take (r.length - 1), true) := fun z=>by unfold deskDo; rw [if_pos h, if_pos z]
 have en : ¬ ((a=5∧b=0∧c=0)∧0<r.length)→deskDo l r a b c=deskPut l (deskMade l a b c) r := fun z=>by unfold deskDo; rw [if_pos h, if_neg z]
 have e0 : deskPut l [] r=(l, r, false) := by unfold deskPut; rw [if_pos (.inr (by decide))]
 refine Ev.bind (impl_copied_ev l r hl hr hx) (Ev.bind0 (impl_named_some a b c) (Ev.ite (fun hd=>?_) (fun hd=>Ev.ret ?_)))
 ·have hd := of_decide_eq_true hd
  refine Ev.ite (fun h5=>Ev.ite (fun h6=>Ev.ret ?_) (fun h6=>?_)) (fun h5=>?_)
  ·have h6 : (r.length:Int)=0 := h6
   rw [en (by omega), dm5 (by omega) (by omega) (by omega) (by omega) (by omega), e0]
  ·have h6 : ¬ (r.length:Int)=0 := h6
   have e : wrap64 ((r.length:Int) - 1)=((r.length - 1:Nat):Int) := by rw [wrap_id (by omega) (by omega)]; omega
   rw [eb (by omega)]
   show Ev (fun k=>if 0≤wrap64 ((r.length:Int) - 1) then (if wrap64 ((r.length:Int) - 1)<(r.length:Int) then (some (rd_L1 r (wrap64 ((r.length:Int) - 1)), r.take (wrap64 ((r.length:Int) - 1)).toNat, true)) else none) else none) _
   rw [e]
   refine Ev.pos (by omega) (Ev.pos (by omega) (Ev.ret ?_))
   rw [rd1_nat, Int.toNat_natCast]
  ·rw [en (by omega)]
   refine Ev.bind (impl_after_ev l hn.1 hn.2 a b c hd h5) (Ev.bind (impl_TreeOk_ev _) (Ev.ite (fun ht=>Ev.bind (slicesEqual_ev _ l (by have := treeOk_len ht; omega)) ?_) (fun ht=>?_)))
   ·refine Ev.eq (impl_DeskDo_j0 _ l r p2 _) ?_
    unfold deskPut
    by_cases q : deskMade l a b c=l
    ·rw [if_pos (decide_eq_true q), if_pos (.inl q)]
    ·have q2 : ¬ (deskMade l a b c=l ∨ treeOk (deskMade l a b c)=false) := by rintro (z | z); exact q z; rw [ht] at z; cases z
     rw [if_neg q2, if_neg (by simpa using q)]
   ·refine Ev.eq (impl_DeskDo_j0 _ l r p2 true) ?_
    unfold deskPut
    rw [if_pos rfl, if_pos (.inr (by simpa using ht))]
 ·have hd : ¬ deedNamed a b c := by simpa using hd
  rw [en (by omega), deskMade_unnamed hd, e0]
theorem eqIntSS_l0 (l m : List (List Int)) (hl : l.length≤1048576) (hm : l.length=m.length) (hx : ∀ i, i<l.length→(rd_L1 l (i:Int)).length≤1048576) (d:Nat) : ∀ (j:Nat), j+d=l.length→(∀ i, i<j→l[i]?=m[i]?)→Ev (fun k=>laws_eqIntSS.l0 k l m (j:Int)) (decide (l=m)):=by
 induction d with
 | zero =>
  intro j hj h
  refine Ev.step (fun k=>laws_eqIntSS.l0.eq_2 ..) ?_
  refine Ev.neg (by omega) (Ev.ret ?_)
  symm
  rw [decide_eq_true_iff]
  apply List.ext_getElem?
  intro i
  by_cases hi : i<j
  ·exact h i hi
  ·rw [List.getElem?_eq_none (by omega), List.getElem?_eq_none (by omega)]
 | succ d ih =>
  intro j hj h
  refine Ev.step (fun k=>laws_eqIntSS.l0.eq_2 ..) ?_
  refine Ev.pos (by omega) (Ev.pos (by omega) (Ev.pos (by omega) (Ev.bind (eqIntS_ev _ _ (hx j (by omega))) (Ev.ite ?_ ?_))))
  ·intro e0
   have e := of_decide_eq_true e0
   rw [wrap_add1 (by omega)]
   refine ih (j+1) (by omega) ?_
   intro i hi
   by_cases e' : i=j
   ·subst e'
    rw [rd1_nat, rd1_nat] at e
    rw [List.getElem?_eq_getElem (by omega), List.getElem?_eq_getElem (by omega)]
    simpa [List.getD_eq_getElem?_getD, show i<l.length by omega, show i<m.length by omega] using e
   ·exact h i (by omega)
  ·intro e
   refine Ev.ret ?_
   symm
   rw [decide_eq_false_iff_not]
   intro e'; subst e'; exact e (by simp)
theorem eqIntSS_ev (l m : List (List Int)) (hl : l.length≤1048576) (hx : ∀ i, i<l.length→(rd_L1 l (i:Int)).length≤1048576) : Ev (fun k=>laws_eqIntSS.f k l m) (decide (l=m)):=by
 unfold laws_eqIntSS.f
 refine Ev.ite (fun h=>?_) (fun h=>?_)
 ·exact eqIntSS_l0 l m (by omega) (by omega) hx l.length 0 (by omega) (fun i h => by omega)
 ·refine Ev.ret ?_
  symm
  rw [decide_eq_false_iff_not]
  intro e; subst e; exact h rfl
theorem eqDesk_ev (l m : List Int) (r s : List (List Int)) (hl : l.length≤1048576) (hr : r.length≤1048576) (hx : ∀ x ∈ r, x.length≤1048576) : Ev (fun k=>laws_eqDesk.f k l r m s) (decide (l=m∧r=s)):=by
 unfold laws_eqDesk.f
 have h1 : ∀ i, i<r.length→(rd_L1 r (i:Int)).length≤1048576 := fun i hi => by rw [rd1_nat, List.getD_eq_getElem?_getD, List.getElem?_eq_getElem hi]; exact hx _ (List.getElem_mem ..)
 refine Ev.bind (eqIntS_ev l m hl) (Ev.ite (fun h=>?_) (fun h=>Ev.ret (by simp at h; simp [h])))
 have h := of_decide_eq_true h
 refine Ev.bind (eqIntSS_ev r s hr h1) (Ev.ite (fun h2=>Ev.ret ?_) (fun h2=>Ev.ret ?_))
 ·have h2 := of_decide_eq_true h2
  simp [h, h2]
 ·simp only [decide_eq_true_eq] at h2
  simp [h2]
def seqN (s:Int) (n:Nat) : List Int := (List.range n).map (fun i : Nat => s+(i:Int))
theorem seqN_len (s:Int) (n:Nat) : (seqN s n).length=n := by simp [seqN]
theorem seqN_get (s:Int) {n i : Nat} (h : i<n) : (seqN s n)[i]?=some (s+(i:Int)) := by simp [seqN, h]
theorem markN_l0 (s:Int) (n:Nat) (hs : 0≤s) (hs2 : s≤4000000000000) (hn : n≤1048576) (d:Nat) : ∀ (j:Nat) (y : List Int), j+d=n→y.length=n→(∀ i, i<j→y[i]?=some (s+(i:Int))) →
  Ev (fun k=>laws_markIntS.l0 k y (s+(j:Int)) (j:Int)) (s+(n:Int), seqN s n):=by
 induction d with
 | zero =>
  intro j y hj hy h
  refine Ev.step (fun k=>laws_markIntS.l0.eq_2 ..) (Ev.neg (by omega) (Ev.ret ?_))
  have e : y=seqN s n:=by
   apply List.ext_getElem?
   intro i
   by_cases hi : i<j
   ·rw [h i hi, seqN_get s (by omega)]
   ·rw [List.getElem?_eq_none (by omega), List.getElem?_eq_none (by rw [seqN_len]; omega)]
  rw [e, show (j:Int)=n by omega]
 | succ d ih =>
  intro j y hj hy h
  refine Ev.step (fun k=>laws_markIntS.l0.eq_2 ..) (Ev.pos (by omega) (Ev.pos (by omega) ?_))
  rw [wrap_add1 (by omega), wrap_id (by omega) (by omega), show s+(j:Int)+1=s+((j+1:Nat):Int) by omega]
  refine ih (j+1) _ (by omega) (by simpa using hy) ?_
  intro i hi
  rw [Int.toNat_natCast]
  by_cases e : i=j
  ·subst e
   rw [List.getElem?_set_self (by omega)]
  ·rw [List.getElem?_set_ne (by omega)]
   exact h i (by omega)
theorem markN_ev (s:Int) (l : List Int) (hs : 0≤s) (hs2 : s≤4000000000000) (hl : l.length≤1048576) : Ev (fun k=>laws_markIntS.f k l s) (s+(l.length:Int), seqN s l.length):=by
 unfold laws_markIntS.f
 have h := markN_l0 s l.length hs hs2 hl l.length 0 l (by omega) rfl (fun i h => by omega)
 rw [show s+((0:Nat):Int)=s by omega] at h
 exact h
theorem heldN_l0 (s:Int) (n:Nat) (hs : 0≤s) (hs2 : s≤4000000000000) (hn : n≤1048576) (d:Nat) : ∀ (j:Nat), j+d=n→Ev (fun k=>laws_heldIntS.l0 k (seqN s n) (s+(j:Int)) (j:Int)) (s+(n:Int)):=by
 induction d with
 | zero =>
  intro j hj
  refine Ev.step (fun k=>laws_heldIntS.l0.eq_2 ..) (Ev.neg (by rw [seqN_len]; omega) (Ev.ret (by omega)))
 | succ d ih =>
  intro j hj
  refine Ev.step (fun k=>laws_heldIntS.l0.eq_2 ..) (Ev.pos (by rw [seqN_len]; omega) (Ev.pos (by omega) (Ev.pos ?_ ?_)))
  ·rw [rd_nat, List.getD_eq_getElem?_getD, seqN_get s (by omega)]; rfl
  ·rw [wrap_add1 (by omega), wrap_id (by omega) (by omega), show s+(j:Int)+1=s+((j+1:Nat):Int) by omega]
   exact ih (j+1) (by omega)
theorem heldN_ev (s:Int) (n:Nat) (hs : 0≤s) (hs2 : s≤4000000000000) (hn : n≤1048576) : Ev (fun k=>laws_heldIntS.f k (seqN s n) s) (s+(n:Int)):=by
 unfold laws_heldIntS.f
 have h := heldN_l0 s n hs hs2 hn n 0 (by omega)
 rw [show s+((0:Nat):Int)=s by omega] at h
 exact h
def totalL : List (List Int)→Nat
 | [] => 0
 | r :: t => r.length+totalL t
def seqR : Int→List (List Int)→List (List Int)
 | _, [] => []
 | s, r :: t => seqN s r.length :: seqR (s+r.length) t
theorem totalL_le (b:Nat) : ∀ (l : List (List Int)), (∀ r ∈ l, r.length≤b)→totalL l≤l.length * b
 | [], _ => by simp [totalL]
 | r :: t, h => by
  have h1 := totalL_le b t (fun x hx => h x (List.mem_cons_of_mem _ hx))
  have h2 := h r (List.mem_cons_self ..)
  rw [totalL, List.length_cons, Nat.add_mul, Nat.one_mul]; omega
theorem markR_l0 (d : List (List Int)) : ∀ (z : List (List Int)) (s:Int), 0≤s→s+totalL d≤4000000000000→z.length+d.length≤1048576→(∀ r ∈ d, r.length≤1048576) →
  Ev (fun k=>laws_markIntSS.l0 k (z ++ d) s (z.length:Int)) (s+(totalL d:Int), z ++ seqR s d):=by
 induction d with
 | nil =>
  intro z s h0 h1 h2 h3
  exact Ev.step (fun k=>laws_markIntSS.l0.eq_2 ..) (Ev.neg (by simp) (Ev.ret (by simp [totalL, seqR])))
 | cons r t ih =>
  intro z s h0 h1 h2 h3
  rw [totalL] at h1
  have hr := h3 r (List.mem_cons_self ..)
  rw [List.length_cons] at h2
  refine Ev.step (fun k=>laws_markIntSS.l0.eq_2 ..) (Ev.pos (by simp; omega) (Ev.pos (by omega) ?_))
  have e : (z ++ r :: t).getD (z.length:Int).toNat []=r := by simp
  rw [e]
  refine Ev.bind (markN_ev s r h0 (by omega) hr) ?_
  have e2 : (z ++ r :: t).set (z.length:Int).toNat (seqN s r.length)=(z ++ [seqN s r.length]) ++ t := by simp
  rw [wrap_add1 (by omega)]
  show Ev (fun k=>laws_markIntSS.l0 k ((z ++ r :: t).set (z.length:Int).toNat (seqN s r.length)) (s+(r.length:Int)) ((z.length+1:Nat):Int)) _
  rw [e2, show ((z.length+1:Nat):Int)=((z ++ [seqN s r.length]).length:Int) by simp]
  refine Ev.eq (ih (z ++ [seqN s r.length]) (s+(r.length:Int)) (by omega) (by omega) (by simp; omega) (fun x hx => h3 x (List.mem_cons_of_mem _ hx))) ?_
  rw [totalL, seqR]
  refine Prod.ext ?_ ?_
  ·simp; omega
  ·simp
theorem markR_ev (l : List (List Int)) (s:Int) (h0 : 0≤s) (h1 : s+totalL l≤4000000000000) (h2 : l.length≤1048576) (h3 : ∀ r ∈ l, r.length≤1048576) : Ev (fun k=>laws_markIntSS.f k l s) (s+(totalL l:Int), seqR s l):=by
 unfold laws_markIntSS.f
 exact markR_l0 l [] s h0 h1 (by simpa using h2) h3
theorem heldR_l0 (d : List (List Int)) : ∀ (z : List (List Int)) (s:Int), 0≤s→s+totalL d≤4000000000000→z.length+d.length≤1048576→(∀ r ∈ d, r.length≤1048576) →
  Ev (fun k=>laws_heldIntSS.l0 k (z ++ seqR s d) s (z.length:Int)) (s+(totalL d:Int)):=by
 induction d with
 | nil =>
  intro z s h0 h1 h2 h3
  exact Ev.step (fun k=>laws_heldIntSS.l0.eq_2 ..) (Ev.neg (by simp [seqR]) (Ev.ret (by simp [totalL])))
 | cons r t ih =>
  intro z s h0 h1 h2 h3
  rw [totalL] at h1
  have hr := h3 r (List.mem_cons_self ..)
  rw [List.length_cons] at h2
  rw [seqR]
  refine Ev.step (fun k=>laws_heldIntSS.l0.eq_2 ..) (Ev.pos (by simp; omega) (Ev.pos (by omega) ?_))
  have e : rd_L1 (z ++ seqN s r.length :: seqR (s+r.length) t) (z.length:Int)=seqN s r.length := by rw [rd1_nat]; simp
  rw [e]
  refine Ev.bind (heldN_ev s r.length h0 (by omega) hr) (Ev.neg (by omega) ?_)
  rw [wrap_add1 (by omega), show z ++ seqN s r.length :: seqR (s+r.length) t=(z ++ [seqN s r.length]) ++ seqR (s+r.length) t by simp, show ((z.length+1:Nat):Int)=((z ++ [seqN s r.length]).length:Int) by simp]
  refine Ev.eq (ih (z ++ [seqN s r.length]) (s+(r.length:Int)) (by omega) (by omega) (by simp; omega) (fun x hx => h3 x (List.mem_cons_of_mem _ hx))) ?_
  rw [totalL]
  omega
theorem heldR_ev (l : List (List Int)) (s:Int) (h0 : 0≤s) (h1 : s+totalL l≤4000000000000) (h2 : l.length≤1048576) (h3 : ∀ r ∈ l, r.length≤1048576) : Ev (fun k=>laws_heldIntSS.f k (seqR s l) s) (s+(totalL l:Int)):=by
 unfold laws_heldIntSS.f
 exact heldR_l0 l [] s h0 h1 (by simpa using h2) h3
theorem markD_ev (l : List Int) (r : List (List Int)) (s:Int) (h0 : 0≤s) (h1 : s+l.length+totalL r≤4000000000000) (hl : l.length≤1048576) (h2 : r.length≤1048576) (h3 : ∀ x ∈ r, x.length≤1048576) :
  Ev (fun k=>laws_markDesk.f k l r s) (s+(l.length:Int)+(totalL r:Int), seqN s l.length, seqR (s+(l.length:Int)) r):=by
 unfold laws_markDesk.f
 exact Ev.bind (markN_ev s l h0 (by omega) hl) (Ev.bind (markR_ev r (s+(l.length:Int)) (by omega) h1 h2 h3) (Ev.ret rfl))
theorem heldD_ev (l : List Int) (r : List (List Int)) (s:Int) (h0 : 0≤s) (h1 : s+l.length+totalL r≤4000000000000) (hl : l.length≤1048576) (h2 : r.length≤1048576) (h3 : ∀ x ∈ r, x.length≤1048576) :
  Ev (fun k=>laws_heldDesk.f k (seqN s l.length) (seqR (s+(l.length:Int)) r) s) (s+(l.length:Int)+(totalL r:Int)):=by
 unfold laws_heldDesk.f
 refine Ev.bind (heldN_ev s l.length h0 (by omega) hl) (Ev.neg (by omega) ?_)
 exact Ev.bind (heldR_ev r (s+(l.length:Int)) (by omega) h1 h2 h3) (Ev.neg (by omega) (Ev.ret rfl))
theorem totalL_mb (r : List (List Int)) (h : ∀ x ∈ r, x.length≤1048576) : totalL r≤r.length * 1048576 := totalL_le 1048576 r h
theorem deskDo_small (l : List Int) (r : List (List Int)) (a b c:Int) (hl : l.length≤1048576) : (deskDo l r a b c).1.length≤1048576∧(deskDo l r a b c).2.1.length≤1048576∧(∀ x ∈ (deskDo l r a b c).2.1, x.length≤1048576)∧totalL (deskDo l r a b c).2.1≤9437184:=by
 have key : ∀ l' r', deskOk l' r'=true→l'.length≤1048576∧r'.length≤1048576∧(∀ x ∈ r', x.length≤1048576)∧totalL r'≤9437184:=by
  intro l' r' h
  obtain ⟨p1, p2, p3⟩:=deskOk_parts h
  have h1 := treeOk_len p1
  have h2 : ∀ x ∈ r', x.length≤1048576 := fun x hx => by have := treeOk_len (p3 x hx); omega
  have h3 := totalL_mb r' h2
  refine ⟨by omega,by omega, h2, ?_⟩
  have h4 : r'.length * 1048576≤8 * 1048576 := Nat.mul_le_mul_right _ p2
  omega
 by_cases h : deskOk l r=true
 ·by_cases h2 : (deskDo l r a b c).2.2=true
  ·exact key _ _ (deskDo_ok a b c h2).1
  ·have e : deskDo l r a b c=(l, r, false):=by
    unfold deskDo at h2 ⊢
    rw [if_pos h] at h2 ⊢
    by_cases h3 : (a=5∧b=0∧c=0)∧0<r.length
    ·rw [if_pos h3] at h2; exact absurd rfl h2
    ·rw [if_neg h3] at h2 ⊢
     unfold deskPut at h2 ⊢
     by_cases h4 : deskMade l a b c=l ∨ treeOk (deskMade l a b c)=false
     ·rw [if_pos h4]
     ·rw [if_neg h4] at h2; exact absurd rfl h2
   rw [e]
   exact key l r h
 ·have e : deskDo l r a b c=([], [], false) := by unfold deskDo; rw [if_neg h]
  rw [e]
  exact ⟨by simp, by simp, by simp, by show totalL []≤_; simp [totalL]⟩
theorem FnExactDeskDo : ∀ (l0_0 : List (Int)) (l0_1 : List (List (Int))) (a1_0:Int) (a1_1:Int) (a1_2:Int), l0_0.length≤maxLen→(∀ x ∈ l0_0, (Lit.int .i64 x).wf=true)→l0_1.length≤maxLen→(∀ x ∈ l0_1, x.length≤maxLen∧∀ x_, x_ ∈ x→((Lit.int .i64 x_).wf=true))→(Lit.int .i64 a1_0).wf=true→(Lit.int .i64 a1_1).wf=true→(Lit.int .i64 a1_2).wf=true→∃ k, laws_FnExactDeskDo.f k l0_0 l0_1 a1_0 a1_1 a1_2=some true:=by
 intro l r a b c hl _ hr hx _ _ _
 refine Ev.rounds (g := fun k=>laws_FnExactDeskDo.f k l r a b c) ?_
 unfold laws_FnExactDeskDo.f
 obtain ⟨t, h1, h2⟩:=szDesk_ev l r 1048576 (by omega) (by omega) hl hr (fun x h => (hx x h).1)
 refine Ev.bind h1 (Ev.ite (fun h=>Ev.ret rfl) (fun h=>?_))
 obtain ⟨_, h3, h4, h5⟩:=h2 h
 have h6 := totalL_mb r h5
 have ht := toDesk_ev l r h3 h4 h5
 have hsp := spec_DeskDo_ev l r a b c h3 h4 h5
 have him := impl_DeskDo_ev l r a b c h3 h4 h5
 obtain ⟨g1, g2, g3, g4⟩:=deskDo_small l r a b c h3
 have heq := eqDesk_ev (deskDo l r a b c).1 (deskDo l r a b c).1 (deskDo l r a b c).2.1 (deskDo l r a b c).2.1 g1 g2 g3
 refine Ev.bind ht (Ev.bind hsp (Ev.bind ht (Ev.bind him (Ev.bind heq (Ev.bind ht (Ev.bind (eqDesk_ev l l r r h3 h4 h5) (Ev.bind (markD_ev l r 1 (by omega) (by omega) h3 h4 h5) (Ev.bind (markD_ev _ _ 1 (by omega) (by omega) g1 g2 g3) (Ev.bind (heldD_ev _ _ 1 (by omega) (by omega) g1 g2 g3) (Ev.bind ht (Ev.bind him (Ev.bind heq (Ev.pos ?_ (Ev.ret rfl))))))))))))))
 refine ⟨rfl, rfl, by simp, by simp, by simp, ?_, ?_, rfl⟩
 ·omega
 ·omega
end Go.Proofs.Ytbbhdgpiocojaaa.Pure
