/- The plain statement of FnRunEager: the printed functions answer true for all arguments within the printed bounds; no other conditions. -/
import Derived.Test.YtbbhdgpiocojaaaLFx11
import Derived.ChangeSlices
import Derived.SizedLaws
import Derived.Test.YtbbhdgpiocojaaaUSized
namespace Go.Proofs.Ytbbhdgpiocojaaa.Pure
open Go.RowKit Go.Proofs.Ytbbhdgpiocojaaa.LF Go.Proofs.YtbbhdgpiocojaaaV.PrintWords Go.Proofs.YtbbhdgpiocojaaaV.PrintLast
set_option linter.unusedVariables false
set_option linter.unusedSimpArgs false
theorem Ev.ret {α : Type} {r r' : α} (h : r=r') : Ev (fun _=>some r) r' := ⟨0, fun _ _ => by rw [h]⟩
theorem Ev.pos {α : Type} {c : Prop} [Decidable c] {g f : Nat→Option α} {r : α} (h : c) (k : Ev g r) : Ev (fun n=>if c then g n else f n) r:=by
 simpa only [if_pos h] using k
theorem Ev.neg {α : Type} {c : Prop} [Decidable c] {g f : Nat→Option α} {r : α} (h : ¬ c) (k : Ev f r) : Ev (fun n=>if c then g n else f n) r:=by
 simpa only [if_neg h] using k
theorem Ev.ite {α : Type} {c : Prop} [Decidable c] {g f : Nat→Option α} {r : α} (h : c→Ev g r) (k : ¬ c→Ev f r) : Ev (fun n=>if c then g n else f n) r:=by
 by_cases hc : c
 ·exact Ev.pos hc (h hc)
 ·exact Ev.neg hc (k hc)
theorem Ev.bind0 {α β : Type} {o : Option α} {f : Nat→α→Option β} {a : α} {r : β} (h : o=some a) (k : Ev (fun n=>f n a) r) : Ev (fun n=>o.bind (f n)) r:=by
 subst h; simpa only [Option.bind_some] using k
theorem Ev.eq {α : Type} {g : Nat→Option α} {r r' : α} (h : Ev g r) (e : r=r') : Ev g r' := e ▸ h
theorem wrap_id {n : Int} (h0 : -9223372036854775808≤n) (h1 : n<9223372036854775808) : wrap64 n=n:=by
 unfold wrap64; omega
theorem wrap_add1 {n : Nat} (h : n<1099511627776) : wrap64 ((n:Int)+1)=((n+1:Nat):Int):=by
 unfold wrap64; omega
theorem rd_nat (l : List Int) (j:Nat) : rd l (j:Int)=l.getD j 0 := by simp [rd]
open Go.ChangeShapes Go.WideShapes in
theorem _root_.Go.Proofs.Ytbbhdgpiocojaaa.PrintWords.sized_ints {H : Type} {enc : TypeId × Value→H} {P : Program} {W : World} {base : Nat} {spare : Nat→Bool} {held : Bool} {t e : TypeId} {k : IntKind} {a : Option Addr} {len cap : Nat} {d : DataW H} {ps : List MemPlace} {ts : List TypeId} {ds : List (DataW H)} {j : Nat}
  (hsz : (DataW.weightsEach P ts ds).all (·≤reachBytes)=true) (ht : ts[j]?=some t) (hd : ds[j]?=some d) (hu : P.underlying t=some (.slice e)) (he : P.underlying e=some (.int k)) (hc : P.cellsOf e=1) {B : Nat} (hB : P.bytesOf e=B)
  (h : DataW.Trod enc P W base spare held t (.slice a len cap) d ps) : len * B≤140737488351232 :=
 Go.Proofs.YtbbhdgpiocojaaaV.PrintWords.sized_ints hsz ht hd hu he hc hB h
theorem sameInts_l0 (l m : List Int) (hl : l.length≤1099511627776) (hm : l.length=m.length) (d:Nat) : ∀ (j:Nat), j+d=l.length→(∀ i, i<j→l[i]?=m[i]?)→Ev (fun k=>laws_sameInts.l0 k l m (j:Int)) (decide (l=m)):=by
 induction d with
 | zero =>
  intro j hj h
  refine Ev.step (fun k=>laws_sameInts.l0.eq_2 ..) ?_
  refine Ev.neg (by omega) (Ev.ret ?_)
  symm
  rw [decide_eq_true_iff]
  apply List.ext_getElem?
  intro i
  by_cases hi : i<j
  ·exact h i hi
  ·rw [List.getElem?_eq_none (by omega), List.getElem?_eq_none (by omega)]
 | succ d ih =>
  intro j hj h
  refine Ev.step (fun k=>laws_sameInts.l0.eq_2 ..) ?_
  refine Ev.pos (by omega) (Ev.pos (by omega) (Ev.pos (by omega) (Ev.ite ?_ ?_)))
  ·intro e
   rw [wrap_add1 (by omega)]
   refine ih (j+1) (by omega) ?_
   intro i hi
   by_cases e' : i=j
   ·subst e'
    rw [rd_nat, rd_nat] at e
    rw [List.getElem?_eq_getElem (by omega), List.getElem?_eq_getElem (by omega)]
    simpa [List.getD_eq_getElem?_getD, show i<l.length by omega, show i<m.length by omega] using e
   ·exact h i (by omega)
  ·intro e
   refine Ev.ret ?_
   symm
   rw [decide_eq_false_iff_not]
   intro e'; subst e'; exact e rfl
theorem sameInts_ev (l m : List Int) (hl : l.length≤1048576) : Ev (fun k=>laws_sameInts.f k l m) (decide (l=m)):=by
 unfold laws_sameInts.f
 refine Ev.ite (fun h=>?_) (fun h=>?_)
 ·exact sameInts_l0 l m (by omega) (by omega) l.length 0 (by omega) (fun i h => by omega)
 ·refine Ev.ret ?_
  symm
  rw [decide_eq_false_iff_not]
  intro e; subst e; exact h rfl
def walkOk (l : List Int) : Nat→Int→Bool
 | 0, a => decide (a≤0)
 | m+1, a => if a≤0 then true else decide (0≤rd l (a - 1)∧rd l (a - 1)≤l.length) && walkOk l m (rd l (a - 1))
def okAt (l : List Int) (i:Nat) : Bool := decide (0≤rd l i∧rd l i≤l.length) && walkOk l l.length ((i:Int)+1)
def zerosFrom (l : List Int) (j:Nat) : Nat := (l.drop j).count 0
def treeOk (l : List Int) : Bool := decide (1≤l.length∧l.length≤8) && (List.range l.length).all (okAt l) && decide (l.count 0=1)
theorem walkOk_self (l : List Int) (a:Int) (ha : 0<a) (h : rd l (a - 1)=a) : ∀ m, walkOk l m a=false
 | 0 => by simp [walkOk]; omega
 | m+1 => by
  unfold walkOk
  rw [if_neg (by omega), h, walkOk_self l a ha h m, Bool.and_false]
theorem zerosFrom_succ (l : List Int) (j:Nat) (h : j<l.length) : zerosFrom l j=(if rd l j=0 then 1 else 0)+zerosFrom l (j+1):=by
 unfold zerosFrom
 rw [List.drop_eq_getElem_cons h, List.count_cons]
 have e : rd l j=l[j] := by simp [rd_nat, h]
 rw [e]
 by_cases e : l[j]=0 <;> simp [e, Nat.add_comm]
theorem all_from (p : Nat→Bool) (n j:Nat) (h : j<n) : ((List.range' j (n - j)).all p)=(p j && (List.range' (j+1) (n - (j+1))).all p):=by
 obtain ⟨d, hd⟩ : ∃ d, n - j=d+1 := ⟨n - j - 1,by omega⟩
 rw [hd, List.range'_succ, List.all_cons, show n - (j+1)=d by omega]
def restOk (l : List Int) (r:Nat) (j:Nat) : Bool := (List.range' j (l.length - j)).all (okAt l) && decide (r+zerosFrom l j=1)
theorem restOk_end (l : List Int) (r:Nat) (j:Nat) (h : j=l.length) : restOk l r j=((r:Int) == 1):=by
 subst h
 unfold restOk zerosFrom
 simp
 rw [Bool.eq_iff_iff]; simp; omega
theorem restOk_bad (l : List Int) (r:Nat) (j:Nat) (h : j<l.length) (hb : okAt l j=false) : restOk l r j=false:=by
 unfold restOk
 rw [all_from _ _ _ h, hb]; rfl
theorem restOk_good (l : List Int) (r:Nat) (j:Nat) (h : j<l.length) (hb : okAt l j=true) : restOk l r j=restOk l (r+if rd l j=0 then 1 else 0) (j+1):=by
 unfold restOk
 rw [all_from _ _ _ h, hb, Bool.true_and, zerosFrom_succ l j h, Nat.add_assoc]
theorem restOk_zero (l : List Int) (h : 1≤l.length∧l.length≤8) : restOk l 0 0=treeOk l:=by
 unfold restOk treeOk zerosFrom
 rw [decide_eq_true h]
 simp [List.range_eq_range']
def inRange (l : List Int) (i:Nat) : Bool := decide (0≤rd l i∧rd l i≤l.length)
theorem mem_rd {l : List Int} {a : Int} (h0 : 0≤a) (h1 : a<l.length) (h : (List.range l.length).all (inRange l)=true) : 0≤rd l a∧rd l a≤l.length:=by
 rw [List.all_eq_true] at h
 have := h a.toNat (by simp; omega)
 unfold inRange at this
 rw [show ((a.toNat:Nat):Int)=a by omega] at this
 exact of_decide_eq_true this
def stepsOf (l : List Int) : Nat→Int→Nat→Int
 | 0, _, _ => -1
 | m+1, w, i => if rd l (w - 1)=0 then i else stepsOf l m (rd l (w - 1)) (i+1)
theorem stepsOf_neg (l : List Int) (h : (List.range l.length).all (inRange l)=true) : ∀ (m:Nat) (w:Int) (i:Nat), 0<w→w≤l.length→(decide (stepsOf l m w i<0)=!walkOk l m w)
 | 0, w, i, h0, h1 => by simp [stepsOf, walkOk]; omega
 | m+1, w, i, h0, h1 => by
  have hr := mem_rd (a := w - 1) (by omega) (by omega) h
  unfold stepsOf walkOk
  rw [if_neg (show ¬ w≤0 by omega), decide_eq_true hr, Bool.true_and]
  by_cases e : rd l (w - 1)=0
  ·rw [if_pos e, e, decide_eq_false (by omega)]
   cases m <;> simp [walkOk]
  ·rw [if_neg e]
   exact stepsOf_neg l h m _ _ (by omega) (by omega)
theorem impl_steps_l0 (l : List Int) (hl : l.length≤8) (h : (List.range l.length).all (inRange l)=true) (d:Nat) : ∀ (w:Int) (j:Nat), j+d=l.length→0<w→w≤l.length →
  Ev (fun k=>impl_steps.l0 k l w (l.length:Int) (j:Int)) (stepsOf l d w j):=by
 induction d with
 | zero =>
  intro w j hj h0 h1
  refine Ev.step (fun k=>impl_steps.l0.eq_2 ..) ?_
  exact Ev.neg (by omega) (Ev.ret rfl)
 | succ d ih =>
  intro w j hj h0 h1
  have hr := mem_rd (a := w - 1) (by omega) (by omega) h
  refine Ev.step (fun k=>impl_steps.l0.eq_2 ..) ?_
  rw [wrap_id (n := w - 1) (by omega) (by omega), wrap_add1 (by omega)]
  refine Ev.pos (by omega) (Ev.pos (by omega) (Ev.pos (by omega) (Ev.ite (fun e=>?_) (fun e=>?_))))
  ·exact Ev.ret (by unfold stepsOf; rw [if_pos e])
  ·exact Ev.eq (ih (rd l (w - 1)) (j+1) (by omega) (by omega) (by omega)) (by rw [stepsOf, if_neg e])
theorem impl_steps_ev (l : List Int) (hl : l.length≤8) (h : (List.range l.length).all (inRange l)=true) (w:Int) (h0 : 0<w) (h1 : w≤l.length) :
  Ev (fun k=>impl_steps.f k l w) (stepsOf l l.length w 0):=by
 unfold impl_steps.f
 exact impl_steps_l0 l hl h l.length w 0 (by omega) h0 h1
theorem impl_TreeOk_l1 (l : List Int) (hl : l.length≤8) (h : (List.range l.length).all (inRange l)=true) (r:Nat) (d:Nat) : ∀ (j:Nat), j+d=l.length →
  Ev (fun k=>impl_TreeOk.l1 k l (r:Int) (l.length:Int) (j:Int)) ((List.range' j (l.length - j)).all (fun i=>walkOk l l.length ((i:Int)+1)) && ((r:Int) == 1)):=by
 induction d with
 | zero =>
  intro j hj
  refine Ev.step (fun k=>impl_TreeOk.l1.eq_2 ..) ?_
  exact Ev.neg (by omega) (Ev.ret (by rw [show l.length - j=0 by omega]; rfl))
 | succ d ih =>
  intro j hj
  refine Ev.step (fun k=>impl_TreeOk.l1.eq_2 ..) ?_
  rw [wrap_add1 (by omega)]
  refine Ev.pos (by omega) (Ev.bind (impl_steps_ev l hl h _ (by omega) (by omega)) ?_)
  have hs := stepsOf_neg l h l.length ((j+1:Nat):Int) 0 (by omega) (by omega)
  refine Ev.ite (fun e=>?_) (fun e=>?_)
  ·rw [decide_eq_true e] at hs
   refine Ev.ret ?_
   rw [all_from _ _ _ (by omega), show walkOk l l.length ((j:Int)+1)=false by simpa using hs.symm]; rfl
  ·rw [decide_eq_false e] at hs
   refine Ev.eq (ih (j+1) (by omega)) ?_
   rw [all_from _ l.length j (by omega), show walkOk l l.length ((j:Int)+1)=true by simpa using hs.symm, Bool.true_and]
theorem impl_TreeOk_l0 (l : List Int) (h1 : 1≤l.length) (hl : l.length≤8) (d:Nat) : ∀ (r j:Nat), j+d=l.length→r≤j→(∀ i, i<j→inRange l i=true)→r+zerosFrom l j=l.count 0 →
  Ev (fun k=>impl_TreeOk.l0 k l (r:Int) l (l.length:Int) (j:Int)) (treeOk l):=by
 induction d with
 | zero =>
  intro r j hj hr hin hz
  have hall : (List.range l.length).all (inRange l)=true:=by
   rw [List.all_eq_true]; intro i hi; exact hin i (by have := List.mem_range.mp hi; omega)
  refine Ev.step (fun k=>impl_TreeOk.l0.eq_2 ..) ?_
  refine Ev.neg (by omega) (Ev.eq (impl_TreeOk_l1 l hl hall r l.length 0 (by omega)) ?_)
  have hz0 : zerosFrom l j=0 := by unfold zerosFrom; rw [List.drop_eq_nil_of_le (by omega)]; rfl
  have hrc : r=l.count 0 := by omega
  unfold treeOk
  rw [decide_eq_true (show 1≤l.length∧l.length≤8 from ⟨h1, hl⟩), Bool.true_and, Nat.sub_zero, ← List.range_eq_range', hrc]
  congr 1
  ·rw [Bool.eq_iff_iff, List.all_eq_true, List.all_eq_true]
   rw [List.all_eq_true] at hall
   constructor
   ·intro hw i hi
    have := hall i hi
    unfold inRange at this
    unfold okAt; rw [this, hw i hi]; rfl
   ·intro hw i hi
    have := hw i hi
    unfold okAt at this
    exact (Bool.and_eq_true_iff.mp this).2
  ·rw [Bool.eq_iff_iff]; simp; omega
 | succ d ih =>
  intro r j hj hr hin hz
  refine Ev.step (fun k=>impl_TreeOk.l0.eq_2 ..) ?_
  have hbad : ¬ (0≤rd l (j:Int)∧rd l (j:Int)≤(l.length:Int))→treeOk l=false:=by
   intro hb
   unfold treeOk
   have : (List.range l.length).all (okAt l)=false:=by
    rw [List.all_eq_false]
    exact ⟨j, by simp; omega, by unfold okAt; rw [decide_eq_false hb]; simp⟩
   rw [this]; simp
  refine Ev.pos (by omega) (Ev.pos (by omega) (Ev.pos (by omega) (Ev.ite (fun e=>?_) (fun e=>?_))))
  ·refine Ev.step (fun k=>impl_TreeOk.j2.eq_2 ..) (Ev.pos rfl (Ev.ret ?_))
   exact (hbad (by omega)).symm
  ·refine Ev.step (fun k=>impl_TreeOk.j2.eq_2 ..) (Ev.ite (fun e2=>?_) (fun e2=>?_))
   ·have e2' := of_decide_eq_true e2
    exact Ev.ret (hbad (by omega)).symm
   ·have e2' : ¬ rd l (j:Int) > (l.length:Int) := by simpa using e2
    have hin' : ∀ i, i<j+1→inRange l i=true:=by
     intro i hi
     by_cases e' : i=j
     ·subst e'; unfold inRange; exact decide_eq_true (by omega)
     ·exact hin i (by omega)
    have hzs := zerosFrom_succ l j (by omega)
    rw [wrap_add1 (n := j) (by omega)]
    refine Ev.ite (fun e3=>?_) (fun e3=>?_)
    ·rw [wrap_add1 (by omega)]
     rw [if_pos e3] at hzs
     exact ih (r+1) (j+1) (by omega) (by omega) hin' (by omega)
    ·rw [if_neg e3] at hzs
     exact ih r (j+1) (by omega) (by omega) hin' (by omega)
theorem impl_TreeOk_ev (l : List Int) : Ev (fun k=>impl_TreeOk.f k l) (treeOk l):=by
 unfold impl_TreeOk.f
 have hbad : ¬ (1≤l.length∧l.length≤8)→treeOk l=false:=by
  intro hb; unfold treeOk; rw [decide_eq_false hb]; rfl
 refine Ev.ite (fun e=>?_) (fun e=>?_)
 ·refine Ev.step (fun k=>impl_TreeOk.j0.eq_2 ..) (Ev.pos rfl (Ev.ret ?_))
  exact (hbad (by omega)).symm
 ·refine Ev.step (fun k=>impl_TreeOk.j0.eq_2 ..) (Ev.ite (fun e2=>?_) (fun e2=>?_))
  ·have e2' := of_decide_eq_true e2
   exact Ev.ret (hbad (by omega)).symm
  ·have e2' : ¬ (l.length:Int) > 8 := by simpa using e2
   exact impl_TreeOk_l0 l (by omega) (by omega) l.length 0 0 (by omega) (by omega) (fun i h => by omega) (by simp [zerosFrom])
theorem alive_ev : Ev (fun k=>laws_alive.f k) true:=by
 unfold laws_alive.f
 refine Ev.bind (impl_TreeOk_ev _) (Ev.pos (by decide +kernel) (Ev.bind (impl_TreeOk_ev _) (Ev.ret (by decide +kernel))))
theorem mx_max (a b:Int) : mx a b=max a b := by unfold mx; split <;> omega
theorem mn_min (a b:Int) : mn a b=min a b := by unfold mn; split <;> omega
theorem treeOk_len {l : List Int} (h : treeOk l=true) : 1≤l.length∧l.length≤8:=by
 unfold treeOk at h
 rw [Bool.and_eq_true, Bool.and_eq_true] at h
 exact of_decide_eq_true h.1.1
theorem treeOk_rd {l : List Int} (h : treeOk l=true) {j : Nat} (hj : j<l.length) : 0≤rd l j∧rd l j≤l.length:=by
 unfold treeOk at h
 rw [Bool.and_eq_true, Bool.and_eq_true] at h
 have := List.all_eq_true.mp h.1.2 j (List.mem_range.mpr hj)
 unfold okAt at this
 rw [Bool.and_eq_true] at this
 exact of_decide_eq_true this.1
theorem treeOk_walk {l : List Int} (h : treeOk l=true) {j : Nat} (hj : j<l.length) : walkOk l l.length ((j:Int)+1)=true:=by
 unfold treeOk at h
 rw [Bool.and_eq_true, Bool.and_eq_true] at h
 have := List.all_eq_true.mp h.1.2 j (List.mem_range.mpr hj)
 unfold okAt at this
 rw [Bool.and_eq_true] at this
 exact this.2
theorem treeOk_ne {l : List Int} (h : treeOk l=true) {j : Nat} (hj : j<l.length) : rd l j≠(j:Int)+1:=by
 intro e
 have := treeOk_walk h hj
 rw [walkOk_self l _ (by omega) (by rw [show (j:Int)+1 - 1=(j:Int) by omega]; exact e)] at this
 cases this
theorem treeOk_zero {l : List Int} (h : treeOk l=true) : l.count 0=1:=by
 unfold treeOk at h
 rw [Bool.and_eq_true] at h
 exact of_decide_eq_true h.2
def Deep (l : List Int) : Nat→Int→Prop
 | 0, w => rd l (w - 1)=0
 | d+1, w => 1≤rd l (w - 1)∧rd l (w - 1)≤l.length∧Deep l d (rd l (w - 1))
theorem deep_of_walk (l : List Int) : ∀ (m:Nat) (w:Int), 0<w→walkOk l m w=true→∃ d, d<m∧Deep l d w
 | 0, w, h0, h => by simp [walkOk] at h; omega
 | m+1, w, h0, h => by
  unfold walkOk at h
  rw [if_neg (by omega), Bool.and_eq_true, decide_eq_true_eq] at h
  by_cases e : rd l (w - 1)=0
  ·exact ⟨0,by omega, e⟩
  ·obtain ⟨d, hd, hd2⟩:=deep_of_walk l m _ (by omega) h.2
   exact ⟨d+1,by omega,by omega, h.1.2, hd2⟩
theorem tree_deep {l : List Int} (h : treeOk l=true) {w : Int} (h0 : 1≤w) (h1 : w≤l.length) : ∃ d, d<l.length∧Deep l d w:=by
 have := treeOk_walk h (j := (w - 1).toNat) (by omega)
 rw [show (((w - 1).toNat:Nat):Int)+1=w by omega] at this
 exact deep_of_walk l _ w (by omega) this
theorem deep_unique (l : List Int) : ∀ (d d':Nat) (w:Int), Deep l d w→Deep l d' w→d=d'
 | 0, 0, _, _, _ => rfl
 | 0, d'+1, w, h, h' => by
  have h : rd l (w - 1)=0 := h
  have := h'.1
  omega
 | d+1, 0, w, h, h' => by
  have h' : rd l (w - 1)=0 := h'
  have := h.1
  omega
 | d+1, d'+1, w, h, h' => by rw [deep_unique l d d' _ h.2.2 h'.2.2]
theorem deep_lt {l : List Int} (h : treeOk l=true) {w : Int} (h0 : 1≤w) (h1 : w≤l.length) {d : Nat} (hd : Deep l d w) : d<l.length:=by
 obtain ⟨d', h2, h3⟩:=tree_deep h h0 h1
 rw [deep_unique l d d' w hd h3]
 exact h2
def up (l : List Int) : Nat→Int→Int
 | 0, v => v
 | k+1, v => up l k (rd l (v - 1))
theorem deep_up (l : List Int) : ∀ (k e:Nat) (v:Int), Deep l (e+k) v→Deep l e (up l k v)
 | 0, e, v, h => h
 | k+1, e, v, h => deep_up l k e _ (show Deep l (e+k+1) v from h).2.2
theorem up_range (l : List Int) : ∀ (k e:Nat) (v:Int), Deep l (e+k) v→(1≤v∧v≤l.length)→1≤up l k v∧up l k v≤l.length
 | 0, e, v, h, hv => hv
 | k+1, e, v, h, hv => by
  have h' : Deep l (e+k+1) v := h
  exact up_range l k e _ h'.2.2 ⟨h'.1, h'.2.1⟩
theorem deep_top {l : List Int} : ∀ (d:Nat) (v:Int), Deep l d v→rd l (up l d v - 1)=0
 | 0, v, h => h
 | d+1, v, h => deep_top d _ h.2.2
theorem zero_unique {l : List Int} (h : treeOk l=true) {i j : Nat} (hi : i<l.length) (hj : j<l.length) (e1 : rd l i=0) (e2 : rd l j=0) : i=j:=by
 have hz := treeOk_zero h
 have key : ∀ a b : Nat, a<b→b<l.length→rd l a=0→rd l b=0→False:=by
  intro a b hab hb ha0 hb0
  have h1 := zerosFrom_succ l a (by omega)
  rw [if_pos ha0] at h1
  have h2 : ∀ q : Nat, a+1≤q→q≤b→zerosFrom l b≤zerosFrom l q:=by
   intro q hq hqb
   obtain ⟨d, hd⟩ : ∃ d, q+d=b := ⟨b - q,by omega⟩
   clear hq
   induction d generalizing q with
   | zero => rw [show q=b by omega]; exact Nat.le_refl _
   | succ d ih =>
    have h3 := zerosFrom_succ l q (by omega)
    have h4 := ih (q+1) (by omega) (by omega)
    omega
  have h3 := h2 (a+1) (by omega) (by omega)
  have h4 := zerosFrom_succ l b hb
  rw [if_pos hb0] at h4
  have h5 : zerosFrom l a≤l.count 0:=by
   unfold zerosFrom
   exact (List.drop_sublist a l).count_le 0
  omega
 rcases Nat.lt_trichotomy i j with h1 | h1 | h1
 ·exact absurd (key i j h1 hj e1 e2) id
 ·exact h1
 ·exact absurd (key j i h1 hi e2 e1) id
theorem nodup_le : ∀ (n:Nat) (L : List Int), L.Nodup→(∀ x, x ∈ L→1≤x∧x≤n)→L.length≤n
 | 0, L, _, h => by
  cases L with
  | nil => simp
  | cons a r => have := h a (by simp); omega
 | n+1, L, hn, h => by
  by_cases hm : ((n+1:Nat):Int) ∈ L
  ·have h1 := nodup_le n (L.erase ((n+1:Nat):Int)) (hn.erase _) (fun x hx => by
    rw [hn.mem_erase_iff] at hx
    have := h x hx.2
    omega)
   rw [List.length_erase_of_mem hm] at h1
   omega
  ·have := nodup_le n L hn (fun x hx => by
    have h2 := h x hx
    have : x≠((n+1:Nat):Int) := fun e=>hm (e ▸ hx)
    omega)
   omega
def sumTo (f : Nat→Int) : Nat→Int
 | 0 => 0
 | n+1 => sumTo f n+f n
theorem sumTo_congr {f g : Nat→Int} : ∀ (n:Nat), (∀ i, i<n→f i=g i)→sumTo f n=sumTo g n
 | 0, _ => rfl
 | n+1, h => by rw [sumTo, sumTo, sumTo_congr n (fun i hi => h i (by omega)), h n (by omega)]
theorem sumTo_le {f g : Nat→Int} : ∀ (n:Nat), (∀ i, i<n→f i≤g i)→sumTo f n≤sumTo g n
 | 0, _ => by simp [sumTo]
 | n+1, h => by
  have := sumTo_le n (fun i hi => h i (by omega))
  have := h n (by omega)
  simp only [sumTo]; omega
theorem sumTo_pick (a:Nat) (c:Int) : ∀ n : Nat, sumTo (fun i=>if i=a then c else 0) n=if a<n then c else 0
 | 0 => by simp [sumTo]
 | n+1 => by
  rw [sumTo, sumTo_pick a c n]
  by_cases h1 : a<n
  ·rw [if_pos h1, if_neg (by omega), if_pos (by omega)]; omega
  ·by_cases h2 : n=a
   ·rw [if_neg h1, if_pos h2, if_pos (by omega)]; omega
   ·rw [if_neg h1, if_neg h2, if_neg (by omega)]; rfl
theorem sumTo_bound {f : Nat→Int} (c:Int) : ∀ (n:Nat), (∀ i, i<n→0≤f i∧f i≤c)→0≤sumTo f n∧sumTo f n≤c * n
 | 0, _ => by simp [sumTo]
 | n+1, h => by
  have h1 := sumTo_bound c n (fun i hi => h i (by omega))
  have h2 := h n (by omega)
  have h3 : c * ((n+1:Nat):Int)=c * n+c := by rw [Int.natCast_succ, Int.mul_add, Int.mul_one]
  rw [h3]
  simp only [sumTo]; omega
theorem sumTo_gap (a b:Int) (h0 : 1≤a) (h1 : a≤b) : ∀ m : Nat, sumTo (fun g=>if a≤(g:Int)+1∧b > (g:Int)+1 then 1 else 0) m=max 0 (min (b - 1) m - a+1)
 | 0 => by simp only [sumTo]; omega
 | m+1 => by
  rw [sumTo, sumTo_gap a b h0 h1 m]
  by_cases h : a≤(m:Int)+1∧b > (m:Int)+1
  ·rw [if_pos h]; omega
  ·rw [if_neg h]; omega
def underF (l : List Int) : Nat→Int→Int→Bool
 | 0, v, w => decide (v=w)
 | m+1, v, w => decide (v=w) || (decide (rd l (v - 1)≠0) && underF l m (rd l (v - 1)) w)
theorem underF_iff (l : List Int) : ∀ (m d:Nat) (v w:Int), Deep l d v→d≤m→(underF l m v w=true ↔ ∃ k, k≤d∧up l k v=w)
 | 0, d, v, w, hd, hm => by
  obtain rfl : d=0 := by omega
  unfold underF
  rw [decide_eq_true_iff]
  constructor
  ·intro e; exact ⟨0, Nat.le_refl _, e⟩
  ·rintro ⟨k, hk, e⟩
   obtain rfl : k=0 := by omega
   exact e
 | m+1, d, v, w, hd, hm => by
  unfold underF
  rw [Bool.or_eq_true, Bool.and_eq_true, decide_eq_true_iff, decide_eq_true_iff]
  cases d with
  | zero =>
   have h0 : rd l (v - 1)=0 := hd
   constructor
   ·intro h
    rcases h with h | h
    ·exact ⟨0, Nat.le_refl _, h⟩
    ·exact absurd h0 h.1
   ·rintro ⟨k, hk, e⟩
    obtain rfl : k=0 := by omega
    exact .inl e
  | succ d =>
   have h1 := hd.1
   have ih := underF_iff l m d (rd l (v - 1)) w hd.2.2 (by omega)
   constructor
   ·intro h
    rcases h with h | h
    ·exact ⟨0,by omega, h⟩
    ·obtain ⟨k, hk, e⟩:=ih.mp h.2
     exact ⟨k+1,by omega, e⟩
   ·rintro ⟨k, hk, e⟩
    cases k with
    | zero => exact .inl e
    | succ k => exact .inr ⟨by omega, ih.mpr ⟨k,by omega, e⟩⟩
def undB (l : List Int) (i w:Nat) : Bool := underF l l.length ((i:Int)+1) ((w:Int)+1)
theorem undB_iff {l : List Int} (h : treeOk l=true) {i w : Nat} (hi : i<l.length) {d : Nat} (hd : Deep l d ((i:Int)+1)) : undB l i w=true ↔ ∃ k, k≤d∧up l k ((i:Int)+1)=(w:Int)+1 :=
 underF_iff l _ d _ _ hd (Nat.le_of_lt (deep_lt h (by omega) (by omega) hd))
def RowB (l : List Int) (w:Nat) : Prop := ∀ a b c : Nat, a<b→b<c→c<l.length→undB l a w=true→undB l c w=true→undB l b w=true
def Flat (l : List Int) : Prop := ∀ w : Nat, w<l.length→RowB l w
@[reducible] def goodAt (o : List Int) (many:Int) (i:Nat) : Prop := (1≤rd o i∧rd o i≤many)∧∀ j : Nat, j<i→rd o j≠rd o i
def orderOk (o : List Int) (many:Int) : Bool := decide ((1≤many∧many≤8)∧(o.length:Int)=many∧∀ i : Nat, i<o.length→goodAt o many i)
theorem orderOk_iff {o : List Int} {many : Int} : orderOk o many=true ↔ ((1≤many∧many≤8)∧(o.length:Int)=many∧∀ i : Nat, i<o.length→goodAt o many i):=by
 unfold orderOk
 rw [decide_eq_true_iff]
def PlacesTo (o : List Int) (j:Nat) (y : List Int) : Prop := ∀ v : Nat, v<y.length→y[v]?=some (match (List.range j).find? (fun i : Nat => decide (rd o i=(v:Int))) with | some i => (i:Int)+1 | none => 0)
theorem find_range_succ (p : Nat→Bool) (j:Nat) : (List.range (j+1)).find? p=((List.range j).find? p).or (if p j then some j else none):=by
 rw [List.range_succ, List.find?_append]
 congr 1
 by_cases h : p j=true
 ·rw [if_pos h, List.find?_cons_of_pos h]
 ·rw [if_neg h, List.find?_cons_of_neg h]; rfl
theorem PlacesTo.set {o : List Int} {many : Int} (h : orderOk o many=true) {j : Nat} (hj : j<o.length) {y : List Int} (hy : PlacesTo o j y) : PlacesTo o (j+1) (y.set (rd o j).toNat ((j:Int)+1)):=by
 have hg := (orderOk_iff.mp h).2.2 j hj
 intro v hv
 rw [List.length_set] at hv
 rw [find_range_succ]
 by_cases e : v=(rd o j).toNat
 ·subst e
  rw [List.getElem?_set_self hv]
  have e2 : ((rd o j).toNat:Int)=rd o j := by omega
  rw [e2]
  have hn : (List.range j).find? (fun i : Nat => decide (rd o i=rd o j))=none:=by
   rw [List.find?_eq_none]
   intro i hi
   simp [hg.2 i (List.mem_range.mp hi)]
  rw [hn]
  simp
 ·rw [List.getElem?_set_ne (by omega), hy v hv]
  have e2 : ¬ (rd o j=(v:Int)) := by omega
  simp [e2]
theorem PlacesTo.zero (o : List Int) (n:Nat) : PlacesTo o 0 (List.replicate n 0):=by
 intro v hv
 simp at hv
 simp [hv]
theorem sumTo_less (f g : Nat→Int) : ∀ n : Nat, sumTo (fun i=>f i - g i) n=sumTo f n - sumTo g n
 | 0 => rfl
 | n+1 => by rw [sumTo, sumTo, sumTo, sumTo_less f g n]; omega
@[reducible] def incP (l : List Int) (i v:Nat) : Prop := rd l (i:Int)≠0∧(i=v ∨ rd l (i:Int)=(v:Int)+1)
@[reducible] def meetP (l : List Int) (i k:Nat) : Prop := rd l (i:Int)=rd l (k:Int) ∨ rd l (i:Int)=(k:Int)+1 ∨ rd l (k:Int)=(i:Int)+1
@[reducible] def apartP (l : List Int) (i k:Nat) : Prop := i≠k∧rd l (i:Int)≠0∧rd l (k:Int)≠0∧¬ meetP l i k
def cntU (U : Nat→Bool) (i:Nat) : Int := sumTo (fun i=>if U i=true then 1 else 0) i
def mnU (U : Nat→Bool) (n:Int) : Nat→Int
 | 0 => n
 | i+1 => if U i=true then min (mnU U n i) i else mnU U n i
def mxU (U : Nat→Bool) : Nat→Int
 | 0 => -1
 | i+1 => if U i=true then max (mxU U i) i else mxU U i
theorem cntU_bound (U : Nat→Bool) (i:Nat) : 0≤cntU U i∧cntU U i≤i:=by
 have := sumTo_bound (f := fun i=>if U i=true then (1:Int) else 0) 1 i (fun i _ => by split <;> omega)
 unfold cntU; omega
theorem mnU_spec (U : Nat→Bool) (n:Nat) : ∀ i : Nat, i≤n→(∀ j : Nat, j<i→U j=true→mnU U n i≤j)∧(mnU U n i=n ∨ ∃ j : Nat, j<i∧U j=true∧mnU U n i=j)
 | 0, _ => ⟨fun j hj => by omega, .inl rfl⟩
 | i+1, hi => by
  obtain ⟨h1, h2⟩:=mnU_spec U n i (by omega)
  unfold mnU
  by_cases c : U i=true
  ·rw [if_pos c]
   refine ⟨fun j hj hu => ?_, ?_⟩
   ·by_cases e : j=i
    ·subst e; omega
    ·have := h1 j (by omega) hu; omega
   ·rcases h2 with e | ⟨j, hj, hu, e⟩
    ·exact .inr ⟨i,by omega, c,by omega⟩
    ·by_cases q : (j:Int)≤i
     ·exact .inr ⟨j,by omega, hu,by omega⟩
     ·exact .inr ⟨i,by omega, c,by omega⟩
  ·rw [if_neg c]
   refine ⟨fun j hj hu => ?_, ?_⟩
   ·by_cases e : j=i
    ·subst e; exact absurd hu c
    ·exact h1 j (by omega) hu
   ·rcases h2 with e | ⟨j, hj, hu, e⟩
    ·exact .inl e
    ·exact .inr ⟨j,by omega, hu, e⟩
theorem mxU_spec (U : Nat→Bool) : ∀ i : Nat, (∀ j : Nat, j<i→U j=true→(j:Int)≤mxU U i)∧(mxU U i=-1 ∨ ∃ j : Nat, j<i∧U j=true∧mxU U i=j)
 | 0 => ⟨fun j hj => by omega, .inl rfl⟩
 | i+1 => by
  obtain ⟨h1, h2⟩:=mxU_spec U i
  unfold mxU
  by_cases c : U i=true
  ·rw [if_pos c]
   refine ⟨fun j hj hu => ?_, ?_⟩
   ·by_cases e : j=i
    ·subst e; omega
    ·have := h1 j (by omega) hu; omega
   ·rcases h2 with e | ⟨j, hj, hu, e⟩
    ·exact .inr ⟨i,by omega, c,by omega⟩
    ·exact .inr ⟨i,by omega, c,by omega⟩
  ·rw [if_neg c]
   refine ⟨fun j hj hu => ?_, ?_⟩
   ·by_cases e : j=i
    ·subst e; exact absurd hu c
    ·exact h1 j (by omega) hu
   ·rcases h2 with e | ⟨j, hj, hu, e⟩
    ·exact .inl e
    ·exact .inr ⟨j,by omega, hu, e⟩
theorem row_iff (U : Nat→Bool) (n:Nat) {w : Nat} (hw : w<n) (hu : U w=true) : mxU U n - mnU U n n+1=cntU U n ↔ ∀ a b c : Nat, a<b→b<c→c<n→U a=true→U c=true→U b=true:=by
 obtain ⟨m1, m2⟩:=mnU_spec U n n (Nat.le_refl _)
 obtain ⟨x1, x2⟩:=mxU_spec U n
 have hm := m1 w hw hu
 have hx := x1 w hw hu
 obtain ⟨lo, hlo, hulo, elo⟩ : ∃ j : Nat, j<n∧U j=true∧mnU U n n=j:=by
  rcases m2 with e | h
  ·omega
  ·exact h
 obtain ⟨hi, hhi, huhi, ehi⟩ : ∃ j : Nat, j<n∧U j=true∧mxU U n=j:=by
  rcases x2 with e | h
  ·omega
  ·exact h
 have hg := sumTo_gap ((lo:Int)+1) ((hi:Int)+2) (by omega) (by omega) n
 have hin : ∀ i : Nat, i<n→U i=true→lo≤i∧i≤hi:=by
  intro i hi2 hui
  have := m1 i hi2 hui
  have := x1 i hi2 hui
  omega
 rw [elo, ehi]
 constructor
 ·intro hc a b c hab hbc hcn ha hcc
  apply Decidable.byContradiction
  intro hb
  have h1 := hin a (by omega) ha
  have h2 := hin c hcn hcc
  have h3 : cntU U n≤sumTo (fun g=>(if (lo:Int)+1≤(g:Int)+1∧(hi:Int)+2 > (g:Int)+1 then 1 else 0) - (if g=b then 1 else 0)) n:=by
   refine sumTo_le _ (fun i hi2 => ?_)
   by_cases e : i=b
   ·subst e
    rw [if_neg hb, if_pos (by omega), if_pos rfl]; omega
   ·rw [if_neg e]
    by_cases c2 : U i=true
    ·have := hin i hi2 c2
     rw [if_pos c2, if_pos (by omega)]; omega
    ·rw [if_neg c2]; split <;> omega
  rw [sumTo_less, sumTo_pick, if_pos (by omega)] at h3
  omega
 ·intro h
  have : cntU U n=sumTo (fun g=>if (lo:Int)+1≤(g:Int)+1∧(hi:Int)+2 > (g:Int)+1 then 1 else 0) n:=by
   refine sumTo_congr _ (fun i hi2 => ?_)
   by_cases c2 : U i=true
   ·have := hin i hi2 c2
    rw [if_pos c2, if_pos (by omega)]
   ·rw [if_neg c2, if_neg]
    rintro ⟨q1, q2⟩
    refine c2 ?_
    by_cases e1 : i=lo
    ·rw [e1]; exact hulo
    ·by_cases e2 : i=hi
     ·rw [e2]; exact huhi
     ·exact h lo i hi (by omega) (by omega) hhi hulo huhi
  omega
def rowB (l : List Int) (w:Nat) : Bool := decide (mxU (fun i=>undB l i w) l.length - mnU (fun i=>undB l i w) l.length l.length+1=cntU (fun i=>undB l i w) l.length)
def flatB (l : List Int) : Bool := treeOk l && (List.range l.length).all (rowB l)
theorem undB_self {l : List Int} (w:Nat) : undB l w w=true:=by
 unfold undB
 cases l.length with
 | zero => unfold underF; simp
 | succ n => unfold underF; simp
theorem flatB_iff {l : List Int} (h : treeOk l=true) : flatB l=true ↔ Flat l:=by
 unfold flatB
 rw [h, Bool.true_and, List.all_eq_true]
 constructor
 ·intro ha w hw
  have := of_decide_eq_true (ha w (List.mem_range.mpr hw))
  exact (row_iff (fun i=>undB l i w) l.length hw (undB_self w)).mp this
 ·intro hf w hw
  have hw := List.mem_range.mp hw
  exact decide_eq_true ((row_iff (fun i=>undB l i w) l.length hw (undB_self w)).mpr (hf w hw))
theorem impl_under_l0 (l : List Int) (hl : l.length≤8) (w:Int) (hw : 1≤w) : ∀ (m d:Nat) (v:Int), (1≤v∧v≤l.length)→Deep l d v→d≤m→Ev (fun k=>impl_under.l0 k l v w) (underF l m v w):=by
 intro m
 induction m with
 | zero =>
  intro d v hv hd hm
  obtain rfl : d=0 := by omega
  have h0 : rd l (v - 1)=0 := hd
  have e : wrap64 (v - 1)=v - 1 := wrap_id (by omega) (by omega)
  refine Ev.step (fun k=>impl_under.l0.eq_2 ..) (Ev.neg (by omega) (Ev.ite (fun c=>Ev.ret ?_) (fun c=>?_)))
  ·unfold underF; simp [c]
  ·rw [e, h0]
   refine Ev.pos (by omega) (Ev.pos (by omega) (Ev.step (fun k=>impl_under.l0.eq_2 ..) (Ev.pos rfl (Ev.ret ?_))))
   unfold underF; simp [c]; omega
 | succ m ih =>
  intro d v hv hd hm
  have e : wrap64 (v - 1)=v - 1 := wrap_id (by omega) (by omega)
  refine Ev.step (fun k=>impl_under.l0.eq_2 ..) (Ev.neg (by omega) (Ev.ite (fun c=>Ev.ret ?_) (fun c=>?_)))
  ·unfold underF; simp [c]
  ·rw [e]
   refine Ev.pos (by omega) (Ev.pos (by omega) ?_)
   by_cases h0 : rd l (v - 1)=0
   ·rw [h0]
    refine Ev.step (fun k=>impl_under.l0.eq_2 ..) (Ev.pos rfl (Ev.ret ?_))
    unfold underF; simp [c, h0]; omega
   ·cases d with
    | zero => exact absurd hd h0
    | succ d =>
     refine Ev.eq (ih d _ ⟨hd.1, hd.2.1⟩ hd.2.2 (by omega)) ?_
     rw [show underF l (m+1) v w=(decide (v=w) || (decide (rd l (v - 1)≠0) && underF l m (rd l (v - 1)) w)) from rfl]
     simp [c, h0]
theorem impl_under_ev {l : List Int} (h : treeOk l=true) {i w : Nat} (hi : i<l.length) (hw : w<l.length) : Ev (fun k=>impl_under.f k l ((i:Int)+1) ((w:Int)+1)) (undB l i w):=by
 obtain ⟨d, hd, hdd⟩:=tree_deep h (w := (i:Int)+1) (by omega) (by omega)
 unfold impl_under.f undB
 exact impl_under_l0 l (treeOk_len h).2 _ (by omega) l.length d _ (by omega) hdd (by omega)
theorem impl_flatOk_l1 {l : List Int} (h : treeOk l=true) {w : Nat} (hw : w<l.length) (r : Bool)
  (next : Ev (fun k=>impl_flat.l0 k l (l.length:Int) ((w+1:Nat):Int)) r) (d:Nat) : ∀ i : Nat, i+d=l.length →
  Ev (fun k=>impl_flat.l1 k l (w:Int) (cntU (fun i=>undB l i w) i) (mnU (fun i=>undB l i w) l.length i) (mxU (fun i=>undB l i w) i) (l.length:Int) (w:Int) (l.length:Int) (i:Int)) (rowB l w && r):=by
 have hn := treeOk_len h
 have bm : ∀ i : Nat, i≤l.length→0≤mnU (fun i=>undB l i w) l.length i∧mnU (fun i=>undB l i w) l.length i≤l.length:=by
  intro i hi
  rcases (mnU_spec (fun i=>undB l i w) l.length i hi).2 with e | ⟨j, hj, _, e⟩ <;> omega
 have bx : ∀ i : Nat, i≤l.length→-1≤mxU (fun i=>undB l i w) i∧mxU (fun i=>undB l i w) i≤l.length:=by
  intro i hi
  rcases (mxU_spec (fun i=>undB l i w) i).2 with e | ⟨j, hj, _, e⟩ <;> omega
 induction d with
 | zero =>
  intro i hi
  have hi : i=l.length := by omega
  subst hi
  have b1 := bm _ (Nat.le_refl _)
  have b2 := bx _ (Nat.le_refl _)
  refine Ev.step (fun k=>impl_flat.l1.eq_2 ..) (Ev.neg (by omega) ?_)
  rw [wrap_id (n := mxU (fun i=>undB l i w) l.length - mnU (fun i=>undB l i w) l.length l.length) (by omega) (by omega), wrap_id (n := mxU (fun i=>undB l i w) l.length - mnU (fun i=>undB l i w) l.length l.length+1) (by omega) (by omega), wrap_add1 (by omega)]
  refine Ev.ite (fun c=>Ev.eq next ?_) (fun c=>Ev.ret ?_)
  ·rw [show rowB l w=true from decide_eq_true c]; rfl
  ·rw [show rowB l w=false from decide_eq_false c]; rfl
 | succ d ih =>
  intro i hi
  have b3 := cntU_bound (fun i=>undB l i w) i
  have next := ih (i+1) (by omega)
  refine Ev.step (fun k=>impl_flat.l1.eq_2 ..) (Ev.pos (by omega) ?_)
  rw [wrap_add1 (n := i) (by omega), wrap_add1 (n := w) (by omega), wrap_id (n := cntU (fun i=>undB l i w) i+1) (by omega) (by omega), mn_min, mx_max]
  refine Ev.bind (impl_under_ev h (by omega) hw) (Ev.ite (fun c=>?_) (fun c=>?_))
  ·have e1 : cntU (fun i=>undB l i w) (i+1)=cntU (fun i=>undB l i w) i+1:=by
    unfold cntU; rw [sumTo, if_pos c]
   have e2 : mnU (fun i=>undB l i w) l.length (i+1)=min (mnU (fun i=>undB l i w) l.length i) i := by rw [mnU, if_pos c]
   have e3 : mxU (fun i=>undB l i w) (i+1)=max (mxU (fun i=>undB l i w) i) i := by rw [mxU, if_pos c]
   rw [e1, e2, e3] at next
   exact next
  ·have e1 : cntU (fun i=>undB l i w) (i+1)=cntU (fun i=>undB l i w) i:=by
    unfold cntU; rw [sumTo, if_neg c]; omega
   have e2 : mnU (fun i=>undB l i w) l.length (i+1)=mnU (fun i=>undB l i w) l.length i := by rw [mnU, if_neg c]
   have e3 : mxU (fun i=>undB l i w) (i+1)=mxU (fun i=>undB l i w) i := by rw [mxU, if_neg c]
   rw [e1, e2, e3] at next
   exact next
theorem impl_flatOk_l0 {l : List Int} (h : treeOk l=true) (d:Nat) : ∀ w : Nat, w+d=l.length →
  Ev (fun k=>impl_flat.l0 k l (l.length:Int) (w:Int)) ((List.range' w (l.length - w)).all (rowB l)):=by
 have hn := treeOk_len h
 induction d with
 | zero =>
  intro w hw
  refine Ev.step (fun k=>impl_flat.l0.eq_2 ..) (Ev.neg (by omega) (Ev.ret ?_))
  rw [show l.length - w=0 by omega]; rfl
 | succ d ih =>
  intro w hw
  refine Ev.step (fun k=>impl_flat.l0.eq_2 ..) (Ev.pos (by omega) ?_)
  rw [all_from _ _ _ (by omega)]
  exact impl_flatOk_l1 h (by omega) _ (ih (w+1) (by omega)) l.length 0 (by omega)
theorem impl_FlatOk_ev (l : List Int) : Ev (fun k=>impl_FlatOk.f k l) (flatB l):=by
 unfold impl_FlatOk.f flatB
 refine Ev.bind (impl_TreeOk_ev l) (Ev.ite (fun h=>?_) (fun h=>Ev.ret ?_))
 ·rw [h, Bool.true_and, List.range_eq_range']
  refine Ev.bind (g := fun k=>impl_flat.f k l) ?_ (Ev.ret rfl)
  unfold impl_flat.f
  exact impl_flatOk_l0 h l.length 0 (by omega)
 ·rw [show treeOk l=false by simpa using h]; rfl
def gone (ws : List Int) (nx:Int) (j:Nat) : Prop := (j:Int)+1≤nx∧(j:Int)+1 ∉ ws
def freeW (l ws : List Int) (nx x:Int) : Prop := ∀ j : Nat, j<l.length→rd l j=x→gone ws nx j
def redW (l ws : List Int) (nx a b:Int) : Prop := (rd l (a - 1)=b∧freeW l ws nx a) ∨ (rd l (b - 1)=a∧freeW l ws nx b)
structure SInv (l ws : List Int) (nx:Int) (hs : List Int) : Prop where
 len : hs.length=l.length
 n0 : 0≤nx
 n1 : nx≤l.length
 srt : ws.Pairwise (·<·)
 mem : ∀ x ∈ ws, 1≤x∧x≤nx
 val : ∀ j : Nat, j<l.length→(gone ws nx j→rd hs j=rd l j∧rd l j≠0)∧(¬ gone ws nx j→rd hs j=0)
 shut : ∀ i : Nat, i<l.length→gone ws nx i→freeW l ws nx ((i:Int)+1)
 wait : ∀ xs a b ys, ws=xs ++ a :: b :: ys→ys≠[]→¬ redW l ws nx a b
theorem left_free {l ws hs : List Int} {nx : Int} (h : SInv l ws nx hs) (x:Int) : sm_leftN l hs x l.length=0 ↔ freeW l ws nx x:=by
 have key : ∀ k : Nat, k≤l.length→(sm_leftN l hs x k=0 ↔ ∀ j : Nat, j<k→rd l j=x→gone ws nx j):=by
  intro k
  induction k with
  | zero => intro _; exact ⟨fun _ j hj => by omega, fun _=>rfl⟩
  | succ k ih =>
   intro hk
   have h1 := ih (by omega)
   have h2 := sm_leftN_le l hs x k
   rw [sm_leftN_succ]
   have h3 := h.val k (by omega)
   by_cases c : rd l k=x∧rd hs k=0
   ·rw [if_pos c]
    refine ⟨fun q=>by omega, fun q=>?_⟩
    have h4 := q k (by omega) c.1
    have h5 := h3.1 h4
    exact absurd (h5.1 ▸ c.2) h5.2
   ·rw [if_neg c]
    refine ⟨fun q j hj hx => ?_, fun q=>by have := h1.mpr (fun j hj => q j (by omega)); omega⟩
    by_cases e : j=k
    ·subst e
     by_cases g : gone ws nx j
     ·exact g
     ·exact absurd ⟨hx, h3.2 g⟩ c
    ·exact h1.mp (by omega) j (by omega) hx
 exact key l.length (Nat.le_refl _)
theorem gone_drop {xs : List Int} {b u nx : Int} (hs : (xs ++ [b, u]).Pairwise (·<·)) (j:Nat) :
  (gone (xs ++ [u]) nx j ↔ gone (xs ++ [b, u]) nx j ∨ ((j:Int)+1≤nx∧(j:Int)+1=b))∧(gone (xs ++ [b]) nx j ↔ gone (xs ++ [b, u]) nx j ∨ ((j:Int)+1≤nx∧(j:Int)+1=u)):=by
 rw [List.pairwise_append] at hs
 obtain ⟨_, h2, h3⟩:=hs
 have hbu : b<u := by simpa using h2
 have hb : b ∉ xs := fun q=>by have := h3 b q b (by simp); omega
 have hu : u ∉ xs := fun q=>by have := h3 u q u (by simp); omega
 unfold gone
 simp only [List.mem_append, List.mem_cons, List.not_mem_nil, or_false, not_or]
 refine ⟨⟨fun ⟨q1, q2, q3⟩ => ?_, ?_⟩, ⟨fun ⟨q1, q2, q3⟩ => ?_, ?_⟩⟩
 ·by_cases e : (j:Int)+1=b
  ·exact .inr ⟨q1, e⟩
  ·exact .inl ⟨q1, q2, e, q3⟩
 ·rintro (⟨q1, q2, q3, q4⟩ | ⟨q1, e⟩)
  ·exact ⟨q1, q2, q4⟩
  ·exact ⟨q1, by rw [e]; exact hb,by omega⟩
 ·by_cases e : (j:Int)+1=u
  ·exact .inr ⟨q1, e⟩
  ·exact .inl ⟨q1, q2, q3, e⟩
 ·rintro (⟨q1, q2, q3, q4⟩ | ⟨q1, e⟩)
  ·exact ⟨q1, q2, q3⟩
  ·exact ⟨q1, by rw [e]; exact hu,by omega⟩
theorem inv_drop {l xs hs : List Int} {b u nx c d : Int} (h : SInv l (xs ++ [b, u]) nx hs) (hcd : (c=b∧d=u) ∨ (c=u∧d=b)) (hd : rd l (d - 1)=c) (hf : freeW l (xs ++ [b, u]) nx d) : SInv l (xs ++ [c]) nx (hs.set (d.toNat - 1) c):=by
 have hgd : ∀ j : Nat, gone (xs ++ [c]) nx j ↔ gone (xs ++ [b, u]) nx j ∨ ((j:Int)+1≤nx∧(j:Int)+1=d):=by
  intro j
  rcases hcd with ⟨rfl, rfl⟩ | ⟨rfl, rfl⟩
  ·exact (gone_drop h.srt j).2
  ·exact (gone_drop h.srt j).1
 have hmd := h.mem d (by rcases hcd with ⟨rfl, rfl⟩ | ⟨rfl, rfl⟩ <;> simp)
 have hmc := h.mem c (by rcases hcd with ⟨rfl, rfl⟩ | ⟨rfl, rfl⟩ <;> simp)
 have hn := h.n1
 have hsub : (xs ++ [c]).Sublist (xs ++ [b, u]):=by
  refine List.Sublist.append (List.Sublist.refl _) ?_
  rcases hcd with ⟨rfl, rfl⟩ | ⟨rfl, rfl⟩
  ·exact List.Sublist.cons_cons _ (List.nil_sublist _)
  ·exact List.Sublist.cons _ (List.Sublist.refl _)
 have hfree : ∀ x, x≠c→(freeW l (xs ++ [c]) nx x ↔ freeW l (xs ++ [b, u]) nx x):=by
  intro x hx
  refine ⟨fun q j hj e => ?_, fun q j hj e => (hgd j).mpr (.inl (q j hj e))⟩
  rcases (hgd j).mp (q j hj e) with g | ⟨_, e2⟩
  ·exact g
  ·exfalso
   have : rd l (j:Int)=c := by rw [← hd]; congr 1; omega
   exact hx (by rw [← e, this])
 refine ⟨by rw [List.length_set]; exact h.len, h.n0, hn, h.srt.sublist hsub, fun x hx => h.mem x (hsub.subset hx), ?_, ?_, ?_⟩
 ·intro j hj
  have hv := h.val j hj
  have hlh := h.len
  by_cases e : (j:Int)+1=d
  ·have e2 : d.toNat - 1=j := by omega
   have hr : rd (hs.set (d.toNat - 1) c) (j:Int)=c:=by
    rw [e2]
    simp [rd, List.getD_eq_getElem?_getD, show j<hs.length by omega]
   have hlj : rd l (j:Int)=c := by rw [← hd]; congr 1; omega
   refine ⟨fun _=>⟨by rw [hr, hlj], by rw [hlj]; omega⟩, fun g=>absurd ((hgd j).mpr (.inr ⟨by omega, e⟩)) g⟩
  ·have hr : rd (hs.set (d.toNat - 1) c) (j:Int)=rd hs (j:Int):=by
    simp only [rd, List.getD_eq_getElem?_getD, Int.toNat_natCast]
    rw [List.getElem?_set_ne (by omega)]
   rw [hr]
   refine ⟨fun g=>?_, fun g=>hv.2 (fun q=>g ((hgd j).mpr (.inl q)))⟩
   rcases (hgd j).mp g with g | ⟨_, e2⟩
   ·exact hv.1 g
   ·exact absurd e2 e
 ·intro i hi hg j hj e
  rcases (hgd i).mp hg with g | ⟨_, e2⟩
  ·exact (hgd j).mpr (.inl (h.shut i hi g j hj e))
  ·exact (hgd j).mpr (.inl (hf j hj (by rw [e, e2])))
 ·intro p a a' q he hq
  -- the pair lies within xs
  obtain ⟨q', z, rfl⟩ : ∃ q' z, q=q' ++ [z] := ⟨q.dropLast, q.getLast hq, (List.dropLast_concat_getLast hq).symm⟩
  have he2 : xs ++ [c]=(p ++ a :: a' :: q') ++ [z] := by rw [he]; simp
  obtain ⟨hx, hz⟩:=List.append_inj' he2 rfl
  have hw := h.wait p a a' (q' ++ [b, u]) (by rw [hx]; simp) (by simp)
  have hc : c ∉ xs:=by
   have h1 := h.srt
   rw [List.pairwise_append] at h1
   intro q
   have := h1.2.2 c q b (by simp)
   have := h1.2.2 c q u (by simp)
   rcases hcd with ⟨rfl, rfl⟩ | ⟨rfl, rfl⟩ <;> omega
  have ha : a≠c := fun e=>hc (by rw [hx, ← e]; simp)
  have ha' : a'≠c := fun e=>hc (by rw [hx, ← e]; simp)
  rintro (⟨r1, r2⟩ | ⟨r1, r2⟩)
  ·exact hw (.inl ⟨r1, (hfree a ha).mp r2⟩)
  ·exact hw (.inr ⟨r1, (hfree a' ha').mp r2⟩)
theorem inv_push {l ws hs : List Int} {nx : Int} (h : SInv l ws nx hs) (hn : nx<l.length) (hr : ∀ xs b u, ws=xs ++ [b, u]→¬ redW l ws nx b u) : SInv l (ws ++ [nx+1]) (nx+1) hs:=by
 have hg : ∀ j : Nat, gone (ws ++ [nx+1]) (nx+1) j ↔ gone ws nx j:=by
  intro j
  unfold gone
  simp only [List.mem_append, List.mem_singleton, not_or]
  exact ⟨fun ⟨q1, q2, q3⟩ => ⟨by omega, q2⟩, fun ⟨q1, q2⟩ => ⟨by omega, q2,by omega⟩⟩
 have hfree : ∀ x, freeW l (ws ++ [nx+1]) (nx+1) x ↔ freeW l ws nx x := fun x =>
  ⟨fun q j hj e => (hg j).mp (q j hj e), fun q j hj e => (hg j).mpr (q j hj e)⟩
 refine ⟨h.len, by have := h.n0; omega,by omega, ?_, ?_, ?_, ?_, ?_⟩
 ·rw [List.pairwise_append]
  exact ⟨h.srt, List.pairwise_singleton .., fun x hx y hy => by simp only [List.mem_singleton] at hy; have := (h.mem x hx).2; omega⟩
 ·intro x hx
  simp only [List.mem_append, List.mem_singleton] at hx
  have := h.n0
  rcases hx with hx | rfl
  ·have := h.mem x hx; omega
  ·omega
 ·intro j hj
  rw [hg j]
  exact h.val j hj
 ·intro i hi gi
  exact (hfree _).mpr (h.shut i hi ((hg i).mp gi))
 ·intro p a b q he hq
  obtain ⟨q', z, rfl⟩ : ∃ q' z, q=q' ++ [z] := ⟨q.dropLast, q.getLast hq, (List.dropLast_concat_getLast hq).symm⟩
  have he2 : ws ++ [nx+1]=(p ++ a :: b :: q') ++ [z] := by rw [he]; simp
  obtain ⟨hx, hz⟩:=List.append_inj' he2 rfl
  have hw : ¬ redW l ws nx a b:=by
   by_cases c : q'=[]
   ·subst c
    exact hr p a b hx
   ·exact h.wait p a b q' hx c
  rintro (⟨r1, r2⟩ | ⟨r1, r2⟩)
  ·exact hw (.inl ⟨r1, (hfree a).mp r2⟩)
  ·exact hw (.inr ⟨r1, (hfree b).mp r2⟩)
theorem max_of (f : Int→Nat) : ∀ (ws : List Int), ws≠[]→∃ w ∈ ws, ∀ x ∈ ws, f x≤f w
 | [], h => absurd rfl h
 | [a], _ => ⟨a, by simp, fun x hx => by simp only [List.mem_singleton] at hx; rw [hx]; exact Nat.le_refl _⟩
 | a :: b :: r, _ => by
  obtain ⟨w, hw, hm⟩:=max_of f (b :: r) (by simp)
  by_cases c : f w≤f a
  ·refine ⟨a, by simp, fun x hx => ?_⟩
   rcases List.mem_cons.1 hx with rfl | hx
   ·exact Nat.le_refl _
   ·exact Nat.le_trans (hm x hx) c
  ·refine ⟨w, by simp [hw], fun x hx => ?_⟩
   rcases List.mem_cons.1 hx with rfl | hx
   ·omega
   ·exact hm x hx
theorem flat_between {l : List Int} (ht : treeOk l=true) (hf : Flat l) {w h x : Int} (hw : 1≤w∧w≤l.length) (hh : rd l (w - 1)=h) (h1 : 1≤h∧h≤l.length) (hx : (w≤x∧x<h) ∨ (h<x∧x≤w)) : ∃ k d, 1≤k∧k≤d∧Deep l d x∧up l k x=h:=by
 have hu : ∀ y : Nat, y<l.length→(undB l y (h - 1).toNat=true ↔ ∃ k d, Deep l d ((y:Int)+1)∧k≤d∧up l k ((y:Int)+1)=h):=by
  intro y hy
  obtain ⟨d, _, hd⟩:=tree_deep ht (w := (y:Int)+1) (by omega) (by omega)
  rw [undB_iff ht hy hd]
  have e : (((h - 1).toNat:Nat):Int)+1=h := by omega
  rw [e]
  exact ⟨fun ⟨k, q1, q2⟩ => ⟨k, d, hd, q1, q2⟩, fun ⟨k, d', q0, q1, q2⟩ => ⟨k, by rw [deep_unique l _ _ _ hd q0]; exact q1, q2⟩⟩
 have uw : undB l (w - 1).toNat (h - 1).toNat=true:=by
  rw [hu _ (by omega)]
  have e : (((w - 1).toNat:Nat):Int)+1=w := by omega
  rw [e]
  obtain ⟨d, _, hd⟩:=tree_deep ht hw.1 hw.2
  cases d with
  | zero => exact absurd (show rd l (w - 1)=0 from hd) (by omega)
  | succ d => exact ⟨1, d+1, hd,by omega, hh⟩
 have uh : undB l (h - 1).toNat (h - 1).toNat=true := undB_self _
 have ux : undB l (x - 1).toNat (h - 1).toNat=true:=by
  by_cases c : x=w
  ·rw [c]; exact uw
  ·rcases hx with hx | hx
   ·exact hf (h - 1).toNat (by omega) (w - 1).toNat (x - 1).toNat (h - 1).toNat (by omega) (by omega) (by omega) uw uh
   ·exact hf (h - 1).toNat (by omega) (h - 1).toNat (x - 1).toNat (w - 1).toNat (by omega) (by omega) (by omega) uh uw
 rw [hu _ (by omega)] at ux
 have e : (((x - 1).toNat:Nat):Int)+1=x := by omega
 rw [e] at ux
 obtain ⟨k, d, q1, q2, q⟩:=ux
 cases k with
 | zero => exact absurd (show x=h from q) (by omega)
 | succ k => exact ⟨k+1, d,by omega, q2, q1, q⟩
def depF (l : List Int) : Nat→Int→Nat
 | 0, _ => 0
 | m+1, x => if rd l (x - 1)=0 then 0 else depF l m (rd l (x - 1))+1
theorem depF_eq {l : List Int} : ∀ (d m:Nat) (x:Int), Deep l d x→d≤m→depF l m x=d
 | 0, 0, _, _, _ => rfl
 | 0, m+1, x, h, _ => by unfold depF; exact if_pos (show rd l (x - 1)=0 from h)
 | d+1, 0, _, _, hm => by omega
 | d+1, m+1, x, h, hm => by
  obtain ⟨h1, _, h3⟩:=h
  unfold depF
  rw [if_neg (by omega), depF_eq d m _ h3 (by omega)]
theorem inv_go {l ws hs : List Int} (ht : treeOk l=true) (hf : Flat l) (h : SInv l ws l.length hs) (h2 : 2≤ws.length) : ∃ xs b u, ws=xs ++ [b, u]∧redW l ws l.length b u:=by
 have hlen := treeOk_len ht
 have hrng : ∀ x ∈ ws, 1≤x∧x≤l.length := h.mem
 have hdep : ∀ x, 1≤x∧x≤(l.length:Int)→∃ d, Deep l d x∧depF l l.length x=d:=by
  intro x hx
  obtain ⟨d, h1, h2⟩:=tree_deep ht hx.1 hx.2
  exact ⟨d, h2, depF_eq d _ x h2 (by omega)⟩
 obtain ⟨w, hw, hmax⟩:=max_of (depF l l.length) ws (by rintro rfl; simp at h2)
 obtain ⟨d, hd, hdw⟩:=hdep w (hrng w hw)
 have hd0 : d≠0:=by
  rintro rfl
  match ws, h2, h.srt, hrng, hmax with
  | a :: b :: r, _, hs, hr, hm =>
   have hab : a<b := by have := List.rel_of_pairwise_cons hs (a' := b) (by simp); exact this
   have z : ∀ x ∈ a :: b :: r, rd l (x - 1)=0:=by
    intro x hx
    obtain ⟨e, h1, h2⟩:=hdep x (hr x hx)
    have := hm x hx
    have e0 : e=0 := by omega
    rw [e0] at h1
    exact h1
   have ra := hr a (by simp)
   have rb := hr b (by simp)
   have := zero_unique ht (i := (a - 1).toNat) (j := (b - 1).toNat) (by omega) (by omega) (by rw [show (((a - 1).toNat:Nat):Int)=a - 1 by omega]; exact z a (by simp)) (by rw [show (((b - 1).toNat:Nat):Int)=b - 1 by omega]; exact z b (by simp))
   omega
 obtain ⟨d, rfl⟩ : ∃ e, d=e+1 := ⟨d - 1,by omega⟩
 obtain ⟨h1, hn, hdh⟩:=hd
 generalize hh : rd l (w - 1)=x at *
 have rw' := hrng w hw
 have hxw : x ∈ ws:=by
  by_cases c : x ∈ ws
  ·exact c
  ·exfalso
   have g : gone ws l.length (x - 1).toNat := ⟨by omega, by rw [show (((x - 1).toNat:Nat):Int)+1=x by omega]; exact c⟩
   have := h.shut (x - 1).toNat (by omega) g (w - 1).toNat (by omega) (by rw [show (((w - 1).toNat:Nat):Int)=w - 1 by omega, hh]; omega)
   have := this.2
   rw [show (((w - 1).toNat:Nat):Int)+1=w by omega] at this
   exact this hw
 have hwx : w≠x := fun e=>by
  have := deep_unique l _ _ _ hdh (show Deep l (d+1) x from by rw [← e]; exact ⟨by rw [hh]; omega, by rw [hh]; omega, by rw [hh]; exact hdh⟩)
  omega
 -- a word of the stack that lies between w and its head
 have hgood : ∀ y ∈ ws, (w≤y∧y<x) ∨ (x<y∧y≤w)→rd l (y - 1)=x∧freeW l ws l.length y:=by
  intro y hy hb
  obtain ⟨k, e, k1, ke, hde, hu⟩:=flat_between ht hf rw' hh ⟨h1, hn⟩ hb
  obtain ⟨e', hde', hdy⟩:=hdep y (hrng y hy)
  have he := deep_unique l _ _ _ hde hde'
  have hm := hmax y hy
  have hx2 := deep_up l k (e - k) y (by rw [show e - k+k=e by omega]; exact hde)
  rw [hu] at hx2
  have := deep_unique l _ _ _ hx2 hdh
  obtain rfl : k=1 := by omega
  refine ⟨hu, fun j hj hr => ⟨by omega, fun q=>?_⟩⟩
  obtain ⟨e2, hde2, hdj⟩:=hdep ((j:Int)+1) (by omega)
  have hjd : Deep l (e+1) ((j:Int)+1):=by
   have ry := hrng y hy
   refine ⟨?_, ?_, ?_⟩ <;> rw [show (j:Int)+1 - 1=(j:Int) by omega, hr]
   ·omega
   ·omega
   ·exact hde
  have := deep_unique l _ _ _ hjd hde2
  have := hmax _ q
  omega
 obtain ⟨p, q, rfl⟩:=List.append_of_mem hxw
 have hs := h.srt
 rw [List.pairwise_append] at hs
 obtain ⟨hs1, hs2, hs3⟩:=hs
 by_cases c : w<x
 ·have hwp : w ∈ p:=by
   rcases List.mem_append.1 hw with q1 | q1
   ·exact q1
   ·rcases List.mem_cons.1 q1 with q2 | q2
    ·omega
    ·have := List.rel_of_pairwise_cons hs2 q2; omega
  obtain ⟨xs, a, rfl⟩ : ∃ xs a, p=xs ++ [a] := ⟨p.dropLast, p.getLast (List.ne_nil_of_mem hwp), (List.dropLast_concat_getLast _).symm⟩
  have ha : w≤a:=by
   rcases List.mem_append.1 hwp with q1 | q1
   ·rw [List.pairwise_append] at hs1
    have := hs1.2.2 w q1 a (by simp)
    omega
   ·simp only [List.mem_singleton] at q1; omega
  have ha2 := hs3 a (by simp) x (by simp)
  obtain ⟨g1, g2⟩:=hgood a (by simp) (.inl ⟨ha, ha2⟩)
  have hr : redW l (xs ++ [a] ++ x :: q) l.length a x := .inl ⟨g1, g2⟩
  by_cases e : q=[]
  ·subst e
   exact ⟨xs, a, x, by simp, hr⟩
  ·exact absurd hr (h.wait xs a x q (by simp) e)
 ·have hwq : w ∈ q:=by
   rcases List.mem_append.1 hw with q1 | q1
   ·have := hs3 w q1 x (by simp); omega
   ·rcases List.mem_cons.1 q1 with q2 | q2
    ·omega
    ·exact q2
  cases q with
  | nil => simp at hwq
  | cons a ys =>
   have hxa : x<a := List.rel_of_pairwise_cons hs2 (by simp)
   have haw : a≤w:=by
    rcases List.mem_cons.1 hwq with q2 | q2
    ·omega
    ·have := List.rel_of_pairwise_cons (List.Pairwise.of_cons hs2) q2; omega
   obtain ⟨g1, g2⟩:=hgood a (by simp) (.inr ⟨hxa, haw⟩)
   have hr : redW l (p ++ x :: a :: ys) l.length x a := .inr ⟨g1, g2⟩
   by_cases e : ys=[]
   ·subst e
    exact ⟨p, x, a, rfl, hr⟩
   ·exact absurd hr (h.wait p x a ys rfl e)
theorem inv_round {l ws hs : List Int} {nx : Int} (ht : treeOk l=true) (hf : Flat l) (h : SInv l ws nx hs) (hr : 2 * nx - ws.length<2 * l.length - 1) :
  (sm_mv (sm_rule l ws hs) ws nx hs).1=true∧SInv l (sm_mv (sm_rule l ws hs) ws nx hs).2.1 (sm_mv (sm_rule l ws hs) ws nx hs).2.2.1 (sm_mv (sm_rule l ws hs) ws nx hs).2.2.2 ∧
   2 * (sm_mv (sm_rule l ws hs) ws nx hs).2.2.1 - ((sm_mv (sm_rule l ws hs) ws nx hs).2.1.length:Int)=2 * nx - ws.length+1∧(sm_mv (sm_rule l ws hs) ws nx hs).2.1≠[]:=by
 have push : (∀ xs b u, ws=xs ++ [b, u]→¬ redW l ws nx b u)→sm_rule l ws hs=83→(sm_mv 83 ws nx hs).1=true∧SInv l (sm_mv 83 ws nx hs).2.1 (sm_mv 83 ws nx hs).2.2.1 (sm_mv 83 ws nx hs).2.2.2 ∧
   2 * (sm_mv 83 ws nx hs).2.2.1 - ((sm_mv 83 ws nx hs).2.1.length:Int)=2 * nx - ws.length+1∧(sm_mv 83 ws nx hs).2.1≠[]:=by
  intro hno _
  have hn : nx<l.length:=by
   by_cases c : nx<l.length
   ·exact c
   ·exfalso
    have hn1 := h.n1
    obtain rfl : nx=l.length := by omega
    obtain ⟨xs, b, u, e, q⟩:=inv_go ht hf h (by omega)
    exact hno xs b u e q
  have e : sm_mv 83 ws nx hs=(true, ws ++ [nx+1], nx+1, hs):=by
   unfold sm_mv
   rw [if_pos rfl, if_neg (by rw [h.len]; omega)]
  rw [e]
  refine ⟨rfl, inv_push h hn hno, ?_, by simp⟩
  simp
  omega
 by_cases c : ws.length<2
 ·have e : sm_rule l ws hs=83 := by unfold sm_rule; rw [if_pos c]
  rw [e]
  refine push (fun xs b u q => ?_) e
  rw [q] at c
  simp at c
  omega
 ·obtain ⟨xs, b, u, rfl⟩:=sm_two_of c
  have er := sm_rule_two l xs b u hs
  by_cases c1 : rd l (b - 1)=u∧sm_leftN l hs b l.length=0
  ·rw [if_pos c1] at er
   rw [er, sm_mv_two 76 xs b u nx hs (by omega) (.inl rfl), if_pos rfl]
   refine ⟨rfl, inv_drop h (.inr ⟨rfl, rfl⟩) c1.1 ((left_free h b).mp c1.2), ?_, by simp⟩
   simp
   omega
  ·rw [if_neg c1] at er
   by_cases c2 : rd l (u - 1)=b∧sm_leftN l hs u l.length=0
   ·rw [if_pos c2] at er
    rw [er, sm_mv_two 82 xs b u nx hs (by omega) (.inr rfl), if_neg (by omega)]
    refine ⟨rfl, inv_drop h (.inl ⟨rfl, rfl⟩) c2.1 ((left_free h u).mp c2.2), ?_, by simp⟩
    simp
    omega
   ·rw [if_neg c2] at er
    rw [er]
    refine push (fun xs' b' u' q => ?_) er
    obtain ⟨-, q2⟩:=List.append_inj' q rfl
    simp only [List.cons.injEq, and_true] at q2
    obtain ⟨rfl, rfl⟩:=q2
    rintro (⟨r1, r2⟩ | ⟨r1, r2⟩)
    ·exact c1 ⟨r1, (left_free h b).mpr r2⟩
    ·exact c2 ⟨r1, (left_free h u).mpr r2⟩
theorem tree_zero {l : List Int} (ht : treeOk l=true) : ∃ r : Nat, r<l.length∧rd l (r:Int)=0:=by
 have hlen := treeOk_len ht
 obtain ⟨d, _, hd⟩:=tree_deep ht (w := 1) (by omega) (by omega)
 have h1 := deep_top d 1 hd
 have h2 := up_range l d 0 1 (by simpa using hd) (by omega)
 refine ⟨(up l d 1 - 1).toNat,by omega, ?_⟩
 rw [show (((up l d 1 - 1).toNat:Nat):Int)=up l d 1 - 1 by omega]
 exact h1
theorem rd_ext {a b : List Int} (h : a.length=b.length) (k : ∀ j : Nat, j<a.length→rd a (j:Int)=rd b (j:Int)) : a=b :=
 List.ext_getElem h fun i h1 h2 => by have := k i h1; simpa [rd, List.getD_eq_getElem?_getD, h1, h2] using this
theorem told_steps {l : List Int} (ht : treeOk l=true) (hf : Flat l) : ∀ (k:Nat) (ws : List Int) (nx:Int) (hs : List Int), SInv l ws nx hs→2 * nx - ws.length+k=2 * l.length - 1→(ws=[]→nx=0) →
  ∃ w, sm_steps (sm_told l k ws nx hs) ws nx hs=some ([w], (l.length:Int), l)
 | 0, ws, nx, hs, h, hk, h0 => by
  have hlen := treeOk_len ht
  have hn := h.n1
  have hnx : nx=l.length∧ws.length=1:=by
   by_cases c : ws=[]
   ·have := h0 c; subst c; simp at hk; omega
   ·have : 0<ws.length := List.length_pos_iff.2 c
    omega
  obtain ⟨rfl, h1⟩:=hnx
  obtain ⟨w, rfl⟩:=List.length_eq_one_iff.1 h1
  refine ⟨w, ?_⟩
  have hw := h.mem w (by simp)
  have e : hs=l:=by
   refine rd_ext h.len (fun j hj => ?_)
   have hj : j<l.length := by have := h.len; omega
   have hv := h.val j hj
   by_cases g : gone [w] (l.length:Int) j
   ·exact (hv.1 g).1
   ·rw [hv.2 g]
    obtain ⟨r, hr, hr0⟩:=tree_zero ht
    by_cases g2 : gone [w] (l.length:Int) r
    ·exact absurd hr0 ((h.val r hr).1 g2).2
    ·have e1 : (r:Int)+1=w:=by
      by_cases q : (r:Int)+1=w
      ·exact q
      ·exact absurd ⟨by omega, by simpa using q⟩ g2
     have e2 : (j:Int)+1=w:=by
      by_cases q : (j:Int)+1=w
      ·exact q
      ·exact absurd ⟨by omega, by simpa using q⟩ g
     obtain rfl : j=r := by omega
     exact hr0.symm
  rw [e]
  rfl
 | k+1, ws, nx, hs, h, hk, h0 => by
  obtain ⟨r1, r2, r3, r4⟩:=inv_round ht hf h (by omega)
  obtain ⟨w, e⟩:=told_steps ht hf k _ _ _ r2 (by rw [r3]; omega) (fun q=>absurd q r4)
  refine ⟨w, ?_⟩
  show sm_steps (sm_rule l ws hs :: _) ws nx hs=_
  unfold sm_steps
  rw [if_pos r1]
  exact e
theorem bytesOf_append (s t : ByteArray) : bytesOf (s ++ t)=bytesOf s ++ bytesOf t:=by
 unfold bytesOf
 rw [ByteArray.data_append]
 simp
theorem bytes_addm : ∀ (ms : List Int) (s : ByteArray), (∀ m ∈ ms, m=83 ∨ m=76 ∨ m=82)→bytesOf (sm_addm s ms)=bytesOf s ++ ms
 | [], s, _ => by simp [sm_addm]
 | m :: ms, s, h => by
  show bytesOf (sm_addm (s ++ Utf8.encode m) ms)=_
  rw [bytes_addm ms _ (fun x hx => h x (by simp [hx])), bytesOf_append, sm_code_one (h m (by simp))]
  have : bytesOf ⟨#[m.toNat.toUInt8]⟩=[m]:=by
   rcases h m (by simp) with rfl | rfl | rfl <;> rfl
  rw [this]
  simp
theorem told_codes (l : List Int) : ∀ (k:Nat) (ws : List Int) (nx:Int) (hs : List Int), (∀ m ∈ sm_told l k ws nx hs, m=83 ∨ m=76 ∨ m=82)∧(sm_told l k ws nx hs).length=k
 | 0, ws, nx, hs => ⟨fun m hm => by simp [sm_told] at hm, rfl⟩
 | k+1, ws, nx, hs => by
  obtain ⟨h1, h2⟩:=told_codes l k (sm_mv (sm_rule l ws hs) ws nx hs).2.1 (sm_mv (sm_rule l ws hs) ws nx hs).2.2.1 (sm_mv (sm_rule l ws hs) ws nx hs).2.2.2
  refine ⟨fun m hm => ?_, by rw [sm_told, List.length_cons, h2]⟩
  rw [sm_told] at hm
  rcases List.mem_cons.1 hm with rfl | hm
  ·exact sm_rule_in l ws hs
  ·exact h1 m hm
theorem run_told {l : List Int} (ht : treeOk l=true) (hf : Flat l) : sm_runM (l.length:Int) (sm_addm ⟨#[]⟩ (sm_told l (2 * l.length - 1) [] 0 (List.replicate l.length 0)))=(l, true):=by
 have hlen := treeOk_len ht
 have h0 : SInv l [] 0 (List.replicate l.length 0):=by
  have hg : ∀ j : Nat, ¬ gone [] 0 j := fun j q => by have := q.1; omega
  refine ⟨List.length_replicate ..,by omega,by omega, List.Pairwise.nil, by simp, fun j hj => ⟨fun q=>absurd q (hg j), fun _=>?_⟩, fun i _ q => absurd q (hg i), fun xs a b ys q => by simp at q⟩
  simp [rd, List.getD_eq_getElem?_getD, List.getElem?_replicate, hj]
 obtain ⟨w, e⟩:=told_steps ht hf (2 * l.length - 1) [] 0 (List.replicate l.length 0) h0 (by simp; omega) (fun _=>rfl)
 unfold sm_runM sm_ranL
 rw [if_neg (by omega), Int.toNat_natCast, bytes_addm _ _ (told_codes l _ _ _ _).1]
 have eb : bytesOf ⟨#[]⟩=[] := rfl
 rw [eb, List.nil_append, e]
 simp
def Reach (hs : List Int) (T : Int→Prop) : Nat→Int→Prop
 | 0, x => T x
 | k+1, x => T x ∨ (rd hs (x - 1)≠0∧Reach hs T k (rd hs (x - 1)))
def To (hs : List Int) (T : Int→Prop) (x:Int) : Prop := ∃ k, Reach hs T k x
theorem To.here {hs : List Int} {T : Int→Prop} {x : Int} (h : T x) : To hs T x := ⟨0, h⟩
theorem To.step {hs : List Int} {T : Int→Prop} {x : Int} (h : rd hs (x - 1)≠0) (k : To hs T (rd hs (x - 1))) : To hs T x:=by
 obtain ⟨k, q⟩:=k
 exact ⟨k+1, .inr ⟨h, q⟩⟩
def Ext (hs hs' : List Int) : Prop := ∀ j : Int, rd hs j≠0→rd hs' j=rd hs j
theorem reach_mono {hs hs' : List Int} {T T' : Int→Prop} (he : Ext hs hs') (ht : ∀ x, T x→To hs' T' x) : ∀ (k:Nat) (x:Int), Reach hs T k x→To hs' T' x
 | 0, x, h => ht x h
 | k+1, x, h => by
  rcases h with h | ⟨h1, h2⟩
  ·exact ht x h
  ·have := reach_mono he ht k _ h2
   rw [← he _ h1] at this
   exact To.step (by rw [he _ h1]; exact h1) this
theorem To.mono {hs hs' : List Int} {T T' : Int→Prop} {x : Int} (h : To hs T x) (he : Ext hs hs') (ht : ∀ x, T x→To hs' T' x) : To hs' T' x:=by
 obtain ⟨k, q⟩:=h
 exact reach_mono he ht k x q
theorem Ext.refl (hs : List Int) : Ext hs hs := fun _ _ => rfl
theorem ext_set {hs : List Int} {i : Nat} (v:Int) (h : rd hs (i:Int)=0) : Ext hs (hs.set i v):=by
 intro j hj
 unfold rd at *
 by_cases e : i=j.toNat
 ·rw [← e] at hj
  exact absurd (by simpa using h) hj
 ·rw [List.getD_eq_getElem?_getD, List.getElem?_set_ne e, ← List.getD_eq_getElem?_getD]
theorem rd_set_self {hs : List Int} {i : Nat} (v:Int) (h : i<hs.length) : rd (hs.set i v) (i:Int)=v:=by
 simp [rd, List.getD_eq_getElem?_getD, h]
theorem rd_set_ne {hs : List Int} {i j : Nat} (v:Int) (h : i≠j) : rd (hs.set i v) (j:Int)=rd hs (j:Int):=by
 simp [rd, List.getD_eq_getElem?_getD, List.getElem?_set_ne h]
def Gap (hs : List Int) (a b:Int) : Prop := ∀ x, a<x→x<b→To hs (fun z=>z=a ∨ z=b) x
theorem Gap.ext {hs hs' : List Int} {a b : Int} (h : Gap hs a b) (he : Ext hs hs') : Gap hs' a b := fun x h1 h2 => (h x h1 h2).mono he (fun _ q => To.here q)
theorem Gap.join {hs hs' : List Int} {a u b : Int} (h1 : Gap hs a u) (h2 : Gap hs u b) (he : Ext hs hs') (hn : rd hs' (u - 1)≠0) (hu : rd hs' (u - 1)=a ∨ rd hs' (u - 1)=b) : Gap hs' a b:=by
 have ht : To hs' (fun z=>z=a ∨ z=b) u := To.step hn (To.here hu)
 intro x q1 q2
 rcases Int.lt_trichotomy x u with q | q | q
 ·exact (h1 x q1 q).mono he (fun z hz => by
   rcases hz with rfl | rfl
   ·exact To.here (.inl rfl)
   ·exact ht)
 ·subst q; exact ht
 ·exact (h2 x q q2).mono he (fun z hz => by
   rcases hz with rfl | rfl
   ·exact ht
   ·exact To.here (.inr rfl))
def Gaps (hs : List Int) : Int→List Int→Int→Prop
 | a, [], q => a<q∧Gap hs a q
 | a, w :: ws, q => a<w∧Gap hs a w∧(rd hs (w - 1)=a ∨ rd hs (w - 1)=0)∧Gaps hs w ws q
theorem gaps_snoc (hs : List Int) (u q:Int) : ∀ (xs : List Int) (a:Int), Gaps hs a (xs ++ [u]) q ↔ Gaps hs a xs u∧(rd hs (u - 1)=xs.getLastD a ∨ rd hs (u - 1)=0)∧u<q∧Gap hs u q
 | [], a => by
  simp only [List.nil_append, Gaps, List.getLastD_nil]
  constructor
  ·rintro ⟨h1, h2, h3, h4, h5⟩; exact ⟨⟨h1, h2⟩, h3, h4, h5⟩
  ·rintro ⟨⟨h1, h2⟩, h3, h4, h5⟩; exact ⟨h1, h2, h3, h4, h5⟩
 | w :: ws, a => by
  simp only [List.cons_append, Gaps, List.getLastD_cons]
  rw [gaps_snoc hs u q ws w]
  constructor
  ·rintro ⟨h1, h2, h3, h4, h5, h6, h7⟩; exact ⟨⟨h1, h2, h3, h4⟩, h5, h6, h7⟩
  ·rintro ⟨⟨h1, h2, h3, h4⟩, h5, h6, h7⟩; exact ⟨h1, h2, h3, h4, h5, h6, h7⟩
theorem gaps_lt (hs : List Int) (q:Int) : ∀ (ws : List Int) (a:Int), Gaps hs a ws q→a<q∧∀ x ∈ ws, a<x∧x<q
 | [], a, h => ⟨h.1, fun x hx => by cases hx⟩
 | w :: ws, a, h => by
  obtain ⟨h1, h2, h3, h4⟩:=h
  obtain ⟨k1, k2⟩:=gaps_lt hs q ws w h4
  refine ⟨by omega, fun x hx => ?_⟩
  rcases List.mem_cons.1 hx with rfl | hx
  ·omega
  ·have := k2 x hx; omega
theorem gaps_ext {hs hs' : List Int} (he : Ext hs hs') (q:Int) : ∀ (ws : List Int) (a:Int), Gaps hs a ws q→(∀ w ∈ ws, rd hs (w - 1)=0→rd hs' (w - 1)=0)→Gaps hs' a ws q
 | [], a, h, _ => ⟨h.1, h.2.ext he⟩
 | w :: ws, a, h, hz => by
  obtain ⟨h1, h2, h3, h4⟩:=h
  refine ⟨h1, h2.ext he, ?_, gaps_ext he q ws w h4 (fun x hx => hz x (by simp [hx]))⟩
  by_cases c : rd hs (w - 1)=0
  ·exact .inr (hz w (by simp) c)
  ·rw [he _ c]; exact h3
theorem gaps_join {hs hs' : List Int} (he : Ext hs hs') {u q : Int} (hg : Gap hs u q) (hq : u<q) (hn : rd hs' (u - 1)≠0) : ∀ (ws : List Int) (a:Int), Gaps hs a ws u→(rd hs' (u - 1)=ws.getLastD a ∨ rd hs' (u - 1)=q)→(∀ w ∈ ws, rd hs (w - 1)=0→rd hs' (w - 1)=0)→Gaps hs' a ws q
 | [], a, h, hu, _ => ⟨by have := h.1; omega, h.2.join hg he hn hu⟩
 | w :: ws, a, h, hu, hz => by
  obtain ⟨h1, h2, h3, h4⟩:=h
  rw [List.getLastD_cons] at hu
  refine ⟨h1, h2.ext he, ?_, gaps_join he hg hq hn ws w h4 hu (fun x hx => hz x (by simp [hx]))⟩
  by_cases c : rd hs (w - 1)=0
  ·exact .inr (hz w (by simp) c)
  ·rw [he _ c]; exact h3
def Cov (hs : List Int) (x:Int) : Prop := rd hs (x - 1)≠0→∀ y, ((x<y∧y<rd hs (x - 1)) ∨ (rd hs (x - 1)<y∧y<x))→To hs (fun z=>z=rd hs (x - 1)) y
structure EInv (n:Nat) (ws : List Int) (nx:Int) (hs : List Int) : Prop where
 len : hs.length=n
 n0 : 0≤nx
 n1 : nx≤n
 gaps : Gaps hs 0 ws (nx+1)
 rest : ∀ j : Nat, nx≤j→rd hs (j:Int)=0
 rng : ∀ j : Nat, 0≤rd hs (j:Int)∧rd hs (j:Int)≤n
 cov : ∀ x : Int, 1≤x→x≤n→Cov hs x
theorem Cov.ext {hs hs' : List Int} {x : Int} (h : Cov hs x) (he : Ext hs hs') (hn : rd hs (x - 1)≠0) : Cov hs' x:=by
 intro _ y hy
 rw [he _ hn] at hy ⊢
 exact (h hn y hy).mono he (fun _ q => To.here q)
theorem last_of_gaps {hs : List Int} {xs : List Int} {u : Int} (h : Gaps hs 0 xs u) (c : rd hs (u - 1)=xs.getLastD 0 ∨ rd hs (u - 1)=0) (hn : rd hs (u - 1)≠0) : rd hs (u - 1)=xs.getLastD 0:=by
 rcases c with c | c
 ·exact c
 ·exact absurd c hn
theorem einv_push {n : Nat} {ws : List Int} {nx : Int} {hs : List Int} (h : EInv n ws nx hs) (hn : nx<n) (v:Int) (hv : v=0 ∨ (v=ws.getLastD 0∧1≤v)) : EInv n (ws ++ [nx+1]) (nx+1) (hs.set nx.toNat v):=by
 obtain ⟨l, n0, n1, g, re, rg, cv⟩:=h
 have hz : rd hs ((nx.toNat:Nat):Int)=0 := re nx.toNat (by omega)
 have he := ext_set v hz
 have hl := gaps_lt hs _ ws 0 g
 have hself : rd (hs.set nx.toNat v) (nx+1 - 1)=v:=by
  have := rd_set_self (hs := hs) (i := nx.toNat) v (by omega)
  rw [show ((nx.toNat:Nat):Int)=nx+1 - 1 by omega] at this
  exact this
 have hother : ∀ w : Int, 1≤w→w≠nx+1→rd (hs.set nx.toNat v) (w - 1)=rd hs (w - 1):=by
  intro w h1 h2
  have := rd_set_ne (hs := hs) (i := nx.toNat) (j := (w - 1).toNat) v (by omega)
  rw [show (((w - 1).toNat:Nat):Int)=w - 1 by omega] at this
  exact this
 have g2 : Gaps (hs.set nx.toNat v) 0 ws (nx+1) := gaps_ext he _ ws 0 g (fun w hw hw0 => by rw [hother w (by have := hl.2 w hw; omega) (by have := hl.2 w hw; omega)]; exact hw0)
 have vr : 0≤v∧v≤n:=by
  rcases hv with rfl | ⟨h1, h2⟩
  ·omega
  ·by_cases c : ws=[]
   ·subst c; simp at h1; omega
   ·have : ws.getLastD 0 ∈ ws:=by
     rw [List.getLastD_eq_getLast?, List.getLast?_eq_some_getLast c]
     exact List.getLast_mem c
    have := hl.2 _ this
    omega
 refine ⟨by simp [l],by omega,by omega, (gaps_snoc _ _ _ _ _).2 ⟨g2, ?_,by omega, fun x q1 q2 => by omega⟩, ?_, ?_, ?_⟩
 ·rw [hself]
  rcases hv with rfl | ⟨h1, h2⟩
  ·exact .inr rfl
  ·exact .inl h1
 ·intro j hj
  rw [rd_set_ne v (by omega)]
  exact re j (by omega)
 ·intro j
  by_cases e : nx.toNat=j
  ·subst e
   rw [rd_set_self v (by omega)]
   exact vr
  ·rw [rd_set_ne v e]; exact rg j
 ·intro x h1 h2
  by_cases e : x=nx+1
  ·subst e
   intro hne y hy
   rw [hself] at hne hy ⊢
   rcases hv with rfl | ⟨h3, h4⟩
   ·exact absurd rfl hne
   ·by_cases c : ws=[]
    ·subst c; simp at h3; omega
    ·obtain ⟨xs, u, rfl⟩ : ∃ xs u, ws=xs ++ [u] := ⟨_, _, (List.dropLast_concat_getLast c).symm⟩
     simp only [List.getLastD_concat] at h3
     subst h3
     obtain ⟨q1, q2, q3, q4⟩:=(gaps_snoc _ _ _ _ _).1 g
     refine (q4 y (by omega) (by omega)).mono he (fun z hz => ?_)
     rcases hz with rfl | rfl
     ·exact To.here rfl
     ·exact To.step (by rw [hself]; exact hne) (To.here hself)
  ·by_cases c : rd hs (x - 1)=0
   ·intro hne
    rw [hother x h1 e] at hne
    exact absurd c hne
   ·exact (cv x h1 h2).ext he c
theorem einv_left {n : Nat} {xs : List Int} {u nx : Int} {hs : List Int} (h : EInv n (xs ++ [u]) nx hs) (hn : nx<n) (hu : rd hs (u - 1)=0) : EInv n xs nx (hs.set (u.toNat - 1) (nx+1)):=by
 obtain ⟨l, n0, n1, g, re, rg, cv⟩:=h
 obtain ⟨q1, q2, q3, q4⟩:=(gaps_snoc _ _ _ _ _).1 g
 have hl := gaps_lt hs _ xs 0 q1
 have hz : rd hs ((u.toNat - 1:Nat):Int)=0 := by rw [show ((u.toNat - 1:Nat):Int)=u - 1 by omega]; exact hu
 have he := ext_set (nx+1) hz
 have hself : rd (hs.set (u.toNat - 1) (nx+1)) (u - 1)=nx+1:=by
  have := rd_set_self (hs := hs) (i := u.toNat - 1) (nx+1) (by omega)
  rw [show ((u.toNat - 1:Nat):Int)=u - 1 by omega] at this
  exact this
 have hother : ∀ w : Int, 1≤w→w≠u→rd (hs.set (u.toNat - 1) (nx+1)) (w - 1)=rd hs (w - 1):=by
  intro w h1 h2
  have := rd_set_ne (hs := hs) (i := u.toNat - 1) (j := (w - 1).toNat) (nx+1) (by omega)
  rw [show (((w - 1).toNat:Nat):Int)=w - 1 by omega] at this
  exact this
 refine ⟨by simp [l], n0, n1, gaps_join he q4 q3 (by rw [hself]; omega) xs 0 q1 (.inr hself) (fun w hw hw0 => by rw [hother w (by have := hl.2 w hw; omega) (by have := hl.2 w hw; omega)]; exact hw0), ?_, ?_, ?_⟩
 ·intro j hj
  rw [rd_set_ne _ (by omega)]
  exact re j hj
 ·intro j
  by_cases e : u.toNat - 1=j
  ·subst e
   rw [rd_set_self _ (by omega)]
   omega
  ·rw [rd_set_ne _ e]; exact rg j
 ·intro x h1 h2
  by_cases e : x=u
  ·subst e
   intro hne y hy
   rw [hself] at hy ⊢
   refine (q4 y (by omega) (by omega)).mono he (fun z hz => ?_)
   rcases hz with rfl | rfl
   ·exact To.step (by rw [hself]; omega) (To.here hself)
   ·exact To.here rfl
  ·by_cases c : rd hs (x - 1)=0
   ·intro hne
    rw [hother x h1 e] at hne
    exact absurd c hne
   ·exact (cv x h1 h2).ext he c
theorem einv_drop {n : Nat} {xs : List Int} {u nx : Int} {hs : List Int} (h : EInv n (xs ++ [u]) nx hs) (hu : rd hs (u - 1)≠0) : EInv n xs nx hs:=by
 obtain ⟨l, n0, n1, g, re, rg, cv⟩:=h
 obtain ⟨q1, q2, q3, q4⟩:=(gaps_snoc _ _ _ _ _).1 g
 exact ⟨l, n0, n1, gaps_join (Ext.refl hs) q4 q3 hu xs 0 q1 (.inl (last_of_gaps q1 q2 hu)) (fun w hw hw0 => hw0), re, rg, cv⟩
theorem einv_eg {n : Nat} {ws : List Int} {nx : Int} {hs : List Int} (m:Int) (h : EInv n ws nx hs) : EInv n (sm_eg m ws nx hs).2.1 (sm_eg m ws nx hs).2.2.1 (sm_eg m ws nx hs).2.2.2:=by
 have hl := h.len
 by_cases h1 : m=83
 ·unfold sm_eg
  rw [if_pos h1]
  split
  ·exact h
  ·have h2 := h.n1
   have := einv_push h (by omega) 0 (.inl rfl)
   have e : hs.set nx.toNat 0=hs:=by
    have hr := h.rest nx.toNat (by have := h.n0; omega)
    have hlt : nx.toNat<hs.length := by have := h.n0; omega
    refine List.ext_getElem (by simp) (fun i h1 h2 => ?_)
    rw [List.getElem_set]
    split
    ·rename_i q
     subst q
     unfold rd at hr
     rw [Int.toNat_natCast] at hr
     simpa [List.getD_eq_getElem?_getD, hlt] using hr.symm
    ·rfl
   rw [e] at this
   exact this
 ·by_cases h2 : ws=[]
  ·unfold sm_eg
   rw [if_neg h1, if_pos h2]
   exact h
  ·obtain ⟨xs, u, rfl⟩ : ∃ xs u, ws=xs ++ [u] := ⟨_, _, (List.dropLast_concat_getLast h2).symm⟩
   have hu := (gaps_lt hs _ _ 0 h.gaps).2 u (by simp)
   rw [sm_eg_one m xs u nx hs h1]
   split
   ·rename_i q
    exact einv_left h (by have := q.2.1; rw [hl] at this; exact this) q.2.2
   ·split
    ·rename_i q
     have := einv_push h (by omega) u (.inr ⟨by simp,by omega⟩)
     simpa using this
    ·split
     ·rename_i q
      exact einv_drop h q.2
     ·exact h
theorem einv_steps {n : Nat} : ∀ (ms ws : List Int) (nx:Int) (hs : List Int) (r : List Int × Int × List Int), EInv n ws nx hs→sm_esteps ms ws nx hs=some r→EInv n r.1 r.2.1 r.2.2
 | [], ws, nx, hs, r, h, e => by
  simp only [sm_esteps, Option.some.injEq] at e
  subst e
  exact h
 | m :: ms, ws, nx, hs, r, h, e => by
  unfold sm_esteps at e
  split at e
  ·exact einv_steps ms _ _ _ r (einv_eg m h) e
  ·cases e
theorem einv_start (n:Nat) : EInv n [] 0 (List.replicate n 0):=by
 have hr : ∀ j : Int, rd (List.replicate n (0:Int)) j=0:=by
  intro j
  simp only [rd, List.getD_eq_getElem?_getD, List.getElem?_replicate]
  split <;> rfl
 exact ⟨by simp, Int.le_refl _,by omega, ⟨by omega, fun x h1 h2 => by omega⟩, fun j _ => hr j, fun j=>by rw [hr]; omega, fun x _ _ q => absurd (hr _) q⟩
theorem up_of_reach {l : List Int} {h : Int} : ∀ (d k:Nat) (x:Int), Deep l d x→Reach l (fun z=>z=h) k x→∃ i, i≤d∧up l i x=h
 | d, 0, x, hd, hr => ⟨0,by omega, hr⟩
 | 0, k+1, x, hd, hr => by
  rcases hr with hr | ⟨h1, h2⟩
  ·exact ⟨0, Nat.le_refl _, hr⟩
  ·exact absurd hd h1
 | d+1, k+1, x, hd, hr => by
  rcases hr with hr | ⟨h1, h2⟩
  ·exact ⟨0,by omega, hr⟩
  ·obtain ⟨i, h3, h4⟩:=up_of_reach d k _ hd.2.2 h2
   exact ⟨i+1,by omega, h4⟩
theorem deep_of_reach {l : List Int} (hr : ∀ j : Nat, 0≤rd l (j:Int)∧rd l (j:Int)≤l.length) {T : Int→Prop} (hT : ∀ x, T x→∃ d, Deep l d x) : ∀ (k:Nat) (x:Int), 1≤x→Reach l T k x→∃ d, Deep l d x
 | 0, x, _, h => hT x h
 | k+1, x, h1, h => by
  rcases h with h | ⟨h2, h3⟩
  ·exact hT x h
  ·have hj := hr (x - 1).toNat
   rw [show (((x - 1).toNat:Nat):Int)=x - 1 by omega] at hj
   obtain ⟨d, hd⟩:=deep_of_reach hr hT k _ (by omega) h3
   exact ⟨d+1,by omega, hj.2, hd⟩
theorem deep_small {l : List Int} {d : Nat} {x : Int} (hx : 1≤x∧x≤l.length) (hd : Deep l d x) : d<l.length:=by
 have hnd : ((List.range (d+1)).map (fun i=>up l i x)).Nodup:=by
  rw [List.Nodup, List.pairwise_map]
  refine List.Pairwise.imp_of_mem ?_ (List.pairwise_lt_range)
  intro a b ha hb hab e
  rw [List.mem_range] at ha hb
  have h1 := deep_up l a (d - a) x (by rw [show d - a+a=d by omega]; exact hd)
  have h2 := deep_up l b (d - b) x (by rw [show d - b+b=d by omega]; exact hd)
  rw [e] at h1
  have := deep_unique l _ _ _ h1 h2
  omega
 have := nodup_le l.length _ hnd (fun y hy => by
  obtain ⟨i, hi, rfl⟩:=List.mem_map.1 hy
  rw [List.mem_range] at hi
  exact up_range l i (d - i) x (by rw [show d - i+i=d by omega]; exact hd) hx)
 simp at this
 omega
theorem walk_of_deep (l : List Int) : ∀ (d m:Nat) (w:Int), (1≤w∧w≤l.length)→Deep l d w→d<m→walkOk l m w=true
 | _, 0, _, _, _, h => by omega
 | 0, m+1, w, hw, hd, _ => by
  have hd : rd l (w - 1)=0 := hd
  unfold walkOk
  rw [if_neg (by omega), hd]
  cases m <;> simp [walkOk]
 | d+1, m+1, w, hw, hd, h => by
  unfold walkOk
  have := walk_of_deep l d m _ ⟨hd.1, hd.2.1⟩ hd.2.2 (by omega)
  have h1 := hd.1
  have h2 := hd.2.1
  rw [if_neg (by omega), this]
  simp; omega
theorem flat_of_cov {l : List Int} (ht : treeOk l=true) (hc : ∀ x : Int, 1≤x→x≤l.length→Cov l x) : Flat l:=by
 intro w hw a b c hab hbc hcl ha hcc
 obtain ⟨da, hda⟩:=(tree_deep ht (w := (a:Int)+1) (by omega) (by omega))
 obtain ⟨db, hdb⟩:=(tree_deep ht (w := (b:Int)+1) (by omega) (by omega))
 obtain ⟨dc, hdc⟩:=(tree_deep ht (w := (c:Int)+1) (by omega) (by omega))
 rw [undB_iff ht (by omega) hda.2] at ha
 rw [undB_iff ht hcl hdc.2] at hcc
 rw [undB_iff ht (by omega) hdb.2]
 have fin : To l (fun z=>z=(w:Int)+1) ((b:Int)+1)→∃ k, k≤db∧up l k ((b:Int)+1)=(w:Int)+1 := fun ⟨k, hk⟩ => up_of_reach db k _ hdb.2 hk
 apply fin
 -- a word that goes up to w on one side of b, w on the other: b is under w
 have key : ∀ (k d:Nat) (x:Int), (1≤x∧x≤l.length)→Deep l d x→k≤d→up l k x=(w:Int)+1→((x<(b:Int)+1∧(b:Int)+1≤(w:Int)+1) ∨ ((w:Int)+1≤(b:Int)+1∧(b:Int)+1<x))→To l (fun z=>z=(w:Int)+1) ((b:Int)+1):=by
  intro k
  induction k with
  | zero =>
   intro d x hx hd hk hu hs
   have hu : x=(w:Int)+1 := hu
   omega
  | succ k ih =>
   intro d x hx hd hk hu hs
   obtain ⟨d', rfl⟩ : ∃ d', d=d'+1 := ⟨d - 1,by omega⟩
   have hu : up l k (rd l (x - 1))=(w:Int)+1 := hu
   obtain ⟨g1, g2, g3⟩:=hd
   have hne : rd l (x - 1)≠0 := by omega
   -- the head leads to w
   have hw2 : ∀ z, z=rd l (x - 1)→To l (fun z=>z=(w:Int)+1) z:=by
    rintro z rfl
    have : ∀ (k d:Nat) (x:Int), Deep l d x→k≤d→up l k x=(w:Int)+1→To l (fun z=>z=(w:Int)+1) x:=by
     intro k
     induction k with
     | zero => intro d x _ _ hu; exact To.here hu
     | succ k ih =>
      intro d x hd hk hu
      obtain ⟨d', rfl⟩ : ∃ d', d=d'+1 := ⟨d - 1,by omega⟩
      exact To.step (by have := hd.1; omega) (ih d' _ hd.2.2 (by omega) hu)
    exact this k d' _ g3 (by omega) hu
   by_cases e : (b:Int)+1=rd l (x - 1)
   ·exact hw2 _ e
   ·by_cases side : (x<(b:Int)+1∧(b:Int)+1<rd l (x - 1)) ∨ (rd l (x - 1)<(b:Int)+1∧(b:Int)+1<x)
    ·exact (hc x hx.1 hx.2 hne _ side).mono (Ext.refl l) hw2
    ·exact ih d' _ ⟨g1, g2⟩ g3 (by omega) hu (by omega)
 obtain ⟨ka, q1, q2⟩:=ha
 obtain ⟨kc, q3, q4⟩:=hcc
 by_cases e : (b:Int)≤w
 ·exact key ka da _ ⟨by omega,by omega⟩ hda.2 q1 q2 (.inl ⟨by omega,by omega⟩)
 ·exact key kc dc _ ⟨by omega,by omega⟩ hdc.2 q3 q4 (.inr ⟨by omega,by omega⟩)
theorem zeros_mono (hs : List Int) : ∀ (d k:Nat), sm_zeros hs k≤sm_zeros hs (k+d)
 | 0, k => Int.le_refl _
 | d+1, k => by
  have := zeros_mono hs d k
  rw [← Nat.add_assoc, sm_zeros_succ]
  split <;> omega
theorem zeros_one {hs : List Int} {n i j : Nat} (h : sm_zeros hs n=1) (hi : i<n) (hj : j<n) (e1 : rd hs i=0) (e2 : rd hs j=0) : i=j:=by
 have key : ∀ a b : Nat, a<b→b<n→rd hs a=0→rd hs b=0→False:=by
  intro a b hab hb ha0 hb0
  have h1 := zeros_mono hs (n - (b+1)) (b+1)
  rw [show b+1+(n - (b+1))=n by omega, sm_zeros_succ, if_pos hb0] at h1
  have h2 := zeros_mono hs (b - (a+1)) (a+1)
  rw [show a+1+(b - (a+1))=b by omega, sm_zeros_succ, if_pos ha0] at h2
  have := (sm_zeros_le hs a).1
  omega
 rcases Nat.lt_trichotomy i j with q | q | q
 ·exact (key i j q hj e1 e2).elim
 ·exact q
 ·exact (key j i q hi e2 e1).elim
theorem zeros_has {hs : List Int} : ∀ {n : Nat}, sm_zeros hs n=1→∃ j : Nat, j<n∧rd hs j=0
 | 0, h => by simp [sm_zeros] at h
 | n+1, h => by
  rw [sm_zeros_succ] at h
  by_cases c : rd hs n=0
  ·exact ⟨n,by omega, c⟩
  ·rw [if_neg c] at h
   obtain ⟨j, h1, h2⟩:=zeros_has (hs := hs) (n := n) (by omega)
   exact ⟨j,by omega, h2⟩
theorem zeros_count (hs : List Int) : ∀ k, k≤hs.length→sm_zeros hs k=((hs.take k).count 0:Nat)
 | 0, _ => by simp [sm_zeros]
 | k+1, h => by
  rw [sm_zeros_succ, zeros_count hs k (by omega), List.take_succ_eq_append_getElem (by omega), List.count_append]
  have e : rd hs (k:Int)=hs[k] := by simp [rd, List.getD_eq_getElem?_getD, List.getElem?_eq_getElem (show k<hs.length by omega)]
  rw [e]
  by_cases c : hs[k]=0
  ·rw [if_pos c, c]; simp
  ·have h0 : List.count 0 [hs[k]]=0 := List.count_eq_zero_of_not_mem (by simpa using fun q : (0:Int)=hs[k] => c q.symm)
   rw [if_neg c, h0]; simp
theorem reach_in {hs : List Int} {n : Nat} (hr : ∀ j : Nat, 0≤rd hs (j:Int)∧rd hs (j:Int)≤n) {T : Int→Prop} : ∀ (k:Nat) (x:Int), 1≤x→x≤n→Reach hs T k x→Reach hs (fun z=>T z∧1≤z∧z≤n) k x
 | 0, x, h1, h2, h => ⟨h, h1, h2⟩
 | k+1, x, h1, h2, h => by
  rcases h with h | ⟨h3, h4⟩
  ·exact .inl ⟨h, h1, h2⟩
  ·have hj := hr (x - 1).toNat
   rw [show (((x - 1).toNat:Nat):Int)=x - 1 by omega] at hj
   exact .inr ⟨h3, reach_in hr k _ (by omega) hj.2 h4⟩
theorem gaps_stack {hs : List Int} {T : Int→Prop} {n : Nat} {q : Int} (hz : ∀ w : Int, 1≤w→w≤n→rd hs (w - 1)=0→T w) : ∀ (ws : List Int) (a:Int), Gaps hs a ws q→(a=0 ∨ To hs T a)→(∀ w ∈ ws, 1≤w∧w≤n)→∀ w ∈ ws, To hs T w
 | [], a, _, _, _, w, hw => by cases hw
 | v :: ws, a, h, ha, hm, w, hw => by
  obtain ⟨h1, h2, h3, h4⟩:=h
  have hv : To hs T v:=by
   by_cases c : rd hs (v - 1)=0
   ·exact To.here (hz v (hm v (by simp)).1 (hm v (by simp)).2 c)
   ·rcases h3 with h3 | h3
    ·rcases ha with ha | ha
     ·rw [ha] at h3; exact absurd h3 c
     ·exact To.step c (by rw [h3]; exact ha)
    ·exact absurd h3 c
  rcases List.mem_cons.1 hw with rfl | hw
  ·exact hv
  ·exact gaps_stack hz ws v h4 (.inr hv) (fun w hw => hm w (by simp [hw])) w hw
theorem gaps_find {hs : List Int} {q x : Int} : ∀ (ws : List Int) (a:Int), Gaps hs a ws q→a<x→x<q→x ∈ ws ∨ ∃ a' b', a'<x∧x<b'∧Gap hs a' b'∧(a'=a ∨ a' ∈ ws)∧(b' ∈ ws ∨ b'=q)
 | [], a, h, h1, h2 => .inr ⟨a, q, h1, h2, h.2, .inl rfl, .inr rfl⟩
 | v :: ws, a, h, h1, h2 => by
  obtain ⟨g1, g2, g3, g4⟩:=h
  rcases Int.lt_trichotomy x v with c | c | c
  ·exact .inr ⟨a, v, h1, c, g2, .inl rfl, .inl (by simp)⟩
  ·exact .inl (by simp [c])
  ·rcases gaps_find ws v g4 c h2 with r | ⟨a', b', r1, r2, r3, r4, r5⟩
   ·exact .inl (by simp [r])
   ·refine .inr ⟨a', b', r1, r2, r3, .inr ?_, ?_⟩
    ·rcases r4 with rfl | r4
     ·simp
     ·simp [r4]
    ·rcases r5 with r5 | r5
     ·exact .inl (by simp [r5])
     ·exact .inr r5
theorem einv_end {n : Nat} {ws : List Int} {hs : List Int} (h : EInv n ws n hs) (h1 : 1≤n) (h8 : n≤8) (hz : sm_zeros hs n=1) : treeOk hs=true∧Flat hs:=by
 obtain ⟨l, n0, n1, g, re, rg, cv⟩:=h
 obtain ⟨j0, hj0, e0⟩:=zeros_has hz
 have hun : ∀ w : Int, 1≤w→w≤n→rd hs (w - 1)=0→w=(j0:Int)+1:=by
  intro w w1 w2 e
  have := zeros_one hz (i := (w - 1).toNat) (j := j0) (by omega) hj0 (by rw [show (((w - 1).toNat:Nat):Int)=w - 1 by omega]; exact e) e0
  omega
 have hl := gaps_lt hs _ ws 0 g
 have hst := gaps_stack (T := fun z=>z=(j0:Int)+1) hun ws 0 g (.inl rfl) (fun w hw => by have := hl.2 w hw; omega)
 have hto : ∀ x : Int, 1≤x→x≤n→To hs (fun z=>z=(j0:Int)+1) x:=by
  intro x x1 x2
  rcases gaps_find ws 0 g (x := x) (by omega) (by omega) with r | ⟨a', b', r1, r2, r3, r4, r5⟩
  ·exact hst x r
  ·obtain ⟨k, hk⟩:=r3 x r1 r2
   have hk2 := reach_in rg k x x1 x2 hk
   refine To.mono ⟨k, hk2⟩ (Ext.refl hs) (fun z hz => ?_)
   obtain ⟨hz1, hz2, hz3⟩:=hz
   rcases hz1 with rfl | rfl
   ·rcases r4 with rfl | r4
    ·omega
    ·exact hst _ r4
   ·rcases r5 with r5 | r5
    ·exact hst _ r5
    ·omega
 have hde : ∀ x : Int, 1≤x→x≤n→∃ d, Deep hs d x:=by
  intro x x1 x2
  obtain ⟨k, hk⟩:=hto x x1 x2
  refine deep_of_reach (by rw [l]; exact rg) (fun z hz => ?_) k x x1 hk
  subst hz
  exact ⟨0, by show rd hs _=0; rw [Int.add_sub_cancel]; exact e0⟩
 have ht : treeOk hs=true:=by
  unfold treeOk
  simp only [Bool.and_eq_true, decide_eq_true_eq, List.all_eq_true, List.mem_range]
  refine ⟨⟨by omega, fun i hi => ?_⟩, ?_⟩
  ·unfold okAt
   simp only [Bool.and_eq_true, decide_eq_true_eq]
   obtain ⟨d, hd⟩:=hde ((i:Int)+1) (by omega) (by omega)
   refine ⟨by rw [l]; exact rg i, walk_of_deep hs d _ _ ⟨by omega,by omega⟩ hd (deep_small ⟨by omega,by omega⟩ hd)⟩
  ·have := zeros_count hs n (by omega)
   rw [hz, List.take_of_length_le (by omega)] at this
   omega
 exact ⟨ht, flat_of_cov ht (fun x x1 x2 => cv x x1 (by omega))⟩
theorem runE_flat {n : Int} {s : ByteArray} {hs : List Int} (h : sm_runE n s=(hs, true)) : treeOk hs=true∧Flat hs∧(hs.length:Int)=n:=by
 unfold sm_runE at h
 split at h
 ·cases h
 ·rename_i hn
  split at h
  ·cases h
  ·rename_i r hr
   have hi := einv_steps _ _ _ _ r (einv_start n.toNat) hr
   unfold sm_eend at h
   split at h
   ·cases h
   ·rename_i hc
    simp only [not_or, Decidable.not_not, Int.not_lt] at hc
    obtain ⟨c1, c2⟩:=hc
    simp only [Prod.mk.injEq, and_true] at h
    subst h
    have hnx : r.2.1=(n.toNat:Int) := by have := hi.n1; omega
    rw [hnx] at hi
    obtain ⟨t1, t2⟩:=einv_end hi (by omega) (by omega) c2
    exact ⟨t1, t2, by rw [hi.len]; omega⟩
theorem no_cyc {l : List Int} {p q : Int} {a b d d' : Nat} (h1 : Deep l d p) (h2 : a≤d) (h3 : 1≤a) (e1 : up l a p=q) (h4 : Deep l d' q) (h5 : b≤d') (e2 : up l b q=p) : False:=by
 have g1 := deep_up l a (d - a) p (by rw [show d - a+a=d by omega]; exact h1)
 rw [e1] at g1
 have g2 := deep_up l b (d' - b) q (by rw [show d' - b+b=d' by omega]; exact h4)
 rw [e2] at g2
 have := deep_unique l _ _ _ g1 h4
 have := deep_unique l _ _ _ g2 h1
 omega
def Sub (l : List Int) (x h:Int) : Prop := ∃ k d, 1≤k∧k≤d∧Deep l d x∧up l k x=h
theorem Sub.not {l : List Int} {x h : Int} (h1 : Sub l x h) (h2 : Sub l h x) : False:=by
 obtain ⟨k, d, a1, a2, a3, a4⟩:=h1
 obtain ⟨k', d', b1, b2, b3, b4⟩:=h2
 exact no_cyc a3 a2 a1 a4 b3 b2 b4
theorem sub_head {l : List Int} (ht : treeOk l=true) {x : Int} (hx : 1≤x∧x≤l.length) (hn : rd l (x - 1)≠0) : Sub l x (rd l (x - 1)):=by
 obtain ⟨d, _, hd⟩:=tree_deep ht hx.1 hx.2
 cases d with
 | zero => exact absurd hd hn
 | succ d => exact ⟨1, d+1, Nat.le_refl _,by omega, hd, rfl⟩
theorem sub_between {l : List Int} (ht : treeOk l=true) (hf : Flat l) {w x : Int} (hw : 1≤w∧w≤l.length) (hn : rd l (w - 1)≠0) (hx : (w≤x∧x<rd l (w - 1)) ∨ (rd l (w - 1)<x∧x≤w)) : Sub l x (rd l (w - 1)):=by
 have hr := treeOk_rd ht (j := (w - 1).toNat) (by omega)
 rw [show (((w - 1).toNat:Nat):Int)=w - 1 by omega] at hr
 exact flat_between ht hf hw rfl ⟨by omega, hr.2⟩ hx
theorem sub_up {l : List Int} {x h : Int} (hs : Sub l x h) (hn : rd l (x - 1)≠h) : Sub l (rd l (x - 1)) h:=by
 obtain ⟨k, d, a1, a2, a3, a4⟩:=hs
 obtain ⟨d', rfl⟩ : ∃ d', d=d'+1 := ⟨d - 1,by omega⟩
 obtain ⟨k', rfl⟩ : ∃ k', k=k'+1 := ⟨k - 1,by omega⟩
 have a4 : up l k' (rd l (x - 1))=h := a4
 by_cases e : k'=0
 ·subst e; exact absurd a4 hn
 ·exact ⟨k', d',by omega,by omega, a3.2.2, a4⟩
theorem sub_ne {l : List Int} {x h : Int} (hs : Sub l x h) : rd l (x - 1)≠0:=by
 obtain ⟨k, d, a1, a2, a3, a4⟩:=hs
 obtain ⟨d', rfl⟩ : ∃ d', d=d'+1 := ⟨d - 1,by omega⟩
 have := a3.1
 omega
theorem nocross {l : List Int} (ht : treeOk l=true) (hf : Flat l) {x y : Int} (hx : 1≤x∧x≤l.length) (hy : 1≤y∧y≤l.length) (hn : rd l (x - 1)≠0) (hb : (x<y∧y<rd l (x - 1)) ∨ (rd l (x - 1)<y∧y<x)) :
  rd l (y - 1)≠0∧((x<y→x≤rd l (y - 1)∧rd l (y - 1)≤rd l (x - 1))∧(y<x→rd l (x - 1)≤rd l (y - 1)∧rd l (y - 1)≤x)):=by
 have h1 := sub_between ht hf hx hn (by omega : (x≤y∧y<rd l (x - 1)) ∨ (rd l (x - 1)<y∧y≤x))
 have h2 := sub_ne h1
 have hxs := sub_head ht hx hn
 by_cases e : rd l (y - 1)=rd l (x - 1)
 ·rw [e]; exact ⟨hn,by omega,by omega⟩
 ·have h3 := sub_up h1 e
  -- nothing outside
  have out : ∀ z, Sub l z (rd l (y - 1))→(z=x ∨ z=rd l (x - 1))→False:=by
   intro z hz hzz
   rcases hzz with rfl | rfl
   ·exact Sub.not h3 (sub_up hz (fun q=>e q.symm))
   ·exact Sub.not h3 hz
  have cov : ∀ z, ((y<z∧z<rd l (y - 1)) ∨ (rd l (y - 1)<z∧z<y))→(z=x ∨ z=rd l (x - 1))→False := fun z hz hzz => out z (sub_between ht hf hy h2 (by omega)) hzz
  refine ⟨h2, fun q=>⟨?_, ?_⟩, fun q=>⟨?_, ?_⟩⟩
  ·apply Decidable.byContradiction; intro c
   exact cov x (by omega) (.inl rfl)
  ·apply Decidable.byContradiction; intro c
   exact cov _ (by omega) (.inr rfl)
  ·apply Decidable.byContradiction; intro c
   exact cov _ (by omega) (.inr rfl)
  ·apply Decidable.byContradiction; intro c
   exact cov x (by omega) (.inl rfl)
structure OInv (l ws : List Int) (nx:Int) (hs : List Int) : Prop where
 len : hs.length=l.length
 n0 : 0≤nx
 n1 : nx≤l.length
 srt : ws.Pairwise (·<·)
 mem : ∀ x ∈ ws, 1≤x∧x≤nx
 val : ∀ x : Int, 1≤x→x≤l.length→((x≤nx∧(rd l (x - 1)<x ∨ x ∉ ws))→rd hs (x - 1)=rd l (x - 1))∧(¬ (x≤nx∧(rd l (x - 1)<x ∨ x ∉ ws))→rd hs (x - 1)=0)
 shut : ∀ x : Int, 1≤x→x≤nx→x ∉ ws→(∀ y : Int, nx<y→y≤l.length→rd l (y - 1)≠x)∧rd l (x - 1)≤nx+1
 pend : ∀ x ∈ ws, x<rd l (x - 1)→nx<rd l (x - 1)
theorem rd_setw {hs : List Int} {u v : Int} (h1 : 1≤u∧u≤hs.length) (i:Nat) (hi : (i:Int)=u - 1) : rd (hs.set i v) (u - 1)=v∧∀ x : Int, 1≤x→x≠u→rd (hs.set i v) (x - 1)=rd hs (x - 1):=by
 refine ⟨?_, fun x x1 x2 => ?_⟩
 ·rw [← hi]; exact rd_set_self v (by omega)
 ·have := rd_set_ne (hs := hs) (i := i) (j := (x - 1).toNat) v (by omega)
  rw [show (((x - 1).toNat:Nat):Int)=x - 1 by omega] at this
  exact this
theorem snoc_lt {xs : List Int} {u : Int} (h : (xs ++ [u]).Pairwise (·<·)) : xs.Pairwise (·<·)∧(∀ x ∈ xs, x<u)∧u ∉ xs:=by
 rw [List.pairwise_append] at h
 exact ⟨h.1, fun x hx => h.2.2 x hx u (by simp), fun q=>by have := h.2.2 u q u (by simp); omega⟩
theorem o_left {l xs hs : List Int} {u nx : Int} (ht : treeOk l=true) (hf : Flat l) (h : OInv l (xs ++ [u]) nx hs) (hn : nx<l.length) (hu : rd l (u - 1)=nx+1) : rd hs (u - 1)=0∧OInv l xs nx (hs.set (u.toNat - 1) (nx+1)):=by
 obtain ⟨le, n0, n1, sr, me, va, sh, pe⟩:=h
 obtain ⟨s1, s2, s3⟩:=snoc_lt sr
 have hm := me u (by simp)
 obtain ⟨r1, r2⟩:=rd_setw (hs := hs) (u := u) (v := nx+1) ⟨hm.1,by omega⟩ (u.toNat - 1) (by omega)
 have hsub := sub_head ht (x := u) ⟨hm.1,by omega⟩ (by omega)
 rw [hu] at hsub
 refine ⟨(va u hm.1 (by omega)).2 (fun q=>?_), by simpa using le, n0, n1, s1, fun x hx => me x (by simp [hx]), fun x x1 x2 => ?_, fun x x1 x2 x3 => ?_, fun x hx => pe x (by simp [hx])⟩
 ·rcases q.2 with q | q
  ·omega
  ·exact q (by simp)
 ·by_cases e : x=u
  ·subst e
   rw [r1]
   exact ⟨fun _=>hu.symm, fun q=>absurd ⟨hm.2, .inr s3⟩ q⟩
  ·rw [r2 x x1 e]
   have := va x x1 x2
   simpa [e] using this
 ·by_cases e : x=u
  ·subst e
   refine ⟨fun y y1 y2 y3 => ?_,by omega⟩
   have hy := sub_between ht hf (w := y) (x := nx+1) ⟨by omega, y2⟩ (by omega) (.inr ⟨by omega,by omega⟩)
   rw [y3] at hy
   exact Sub.not hsub hy
  ·exact sh x x1 x2 (by simp [x3, e])
theorem o_right {l xs hs : List Int} {u nx : Int} (ht : treeOk l=true) (hf : Flat l) (h : OInv l (xs ++ [u]) nx hs) (hn : nx<l.length) (hu : rd l (u - 1)≠nx+1) (hx : rd l nx=u) : OInv l (xs ++ [u, nx+1]) (nx+1) (hs.set nx.toNat u):=by
 obtain ⟨le, n0, n1, sr, me, va, sh, pe⟩:=h
 obtain ⟨s1, s2, s3⟩:=snoc_lt sr
 have hm := me u (by simp)
 have hx' : rd l (nx+1 - 1)=u := by rw [Int.add_sub_cancel]; exact hx
 obtain ⟨r1, r2⟩:=rd_setw (hs := hs) (u := nx+1) (v := u) ⟨by omega,by omega⟩ nx.toNat (by omega)
 have hsub := sub_head ht (x := nx+1) ⟨by omega,by omega⟩ (by omega)
 rw [hx'] at hsub
 have hmem : ∀ x, x ∈ xs ++ [u, nx+1] ↔ x ∈ xs ++ [u] ∨ x=nx+1 := by intro x; simp [or_assoc]
 refine ⟨by simpa using le,by omega,by omega, ?_, fun x hx => ?_, fun x x1 x2 => ?_, fun x x1 x2 x3 => ?_, fun x hx hl => ?_⟩
 ·rw [show xs ++ [u, nx+1]=(xs ++ [u]) ++ [nx+1] by simp, List.pairwise_append]
  exact ⟨sr, by simp, fun a ha b hb => by have := me a ha; simp at hb; omega⟩
 ·rcases (hmem x).1 hx with q | rfl
  ·have := me x q; omega
  ·omega
 ·by_cases e : x=nx+1
  ·subst e
   rw [r1]
   exact ⟨fun _=>hx'.symm, fun q=>absurd ⟨Int.le_refl _, .inl (by omega)⟩ q⟩
  ·rw [r2 x x1 e]
   have := va x x1 x2
   have k1 : (x≤nx+1∧(rd l (x - 1)<x ∨ x ∉ xs ++ [u, nx+1])) ↔ (x≤nx∧(rd l (x - 1)<x ∨ x ∉ xs ++ [u])):=by
    rw [hmem]
    constructor
    ·rintro ⟨q1, q2⟩; exact ⟨by omega, q2.imp id (fun q q3 => q (.inl q3))⟩
    ·rintro ⟨q1, q2⟩; exact ⟨by omega, q2.imp id (fun q q3 => q3.elim q e)⟩
   rw [k1]
   exact this
 ·rw [hmem, not_or] at x3
  have := sh x x1 (by omega) x3.1
  exact ⟨fun y y1 y2 => this.1 y (by omega) y2,by omega⟩
 ·rcases (hmem x).1 hx with q | rfl
  ·have h1 := pe x q hl
   have h2 := me x q
   by_cases c : rd l (x - 1)=nx+1
   ·exfalso
    have hxu : x≠u := fun e=>hu (e ▸ c)
    have hlt : x<u:=by
     simp only [List.mem_append, List.mem_singleton] at q
     rcases q with q | q
     ·exact s2 x q
     ·exact absurd q hxu
    have := sub_between ht hf (w := x) (x := u) ⟨h2.1,by omega⟩ (by omega) (.inl ⟨by omega,by omega⟩)
    rw [c] at this
    exact Sub.not hsub this
   ·omega
  ·omega
theorem o_drop {l xs hs : List Int} {u nx : Int} (ht : treeOk l=true) (hf : Flat l) (h : OInv l (xs ++ [u]) nx hs) (hn : nx<l.length) (hu : rd l (u - 1)≠nx+1) (hx : rd l nx≠u) (ha : xs.any (sm_nextTo l (nx+1))=true) : rd hs (u - 1)≠0∧OInv l xs nx hs:=by
 obtain ⟨le, n0, n1, sr, me, va, sh, pe⟩:=h
 obtain ⟨s1, s2, s3⟩:=snoc_lt sr
 have hm := me u (by simp)
 obtain ⟨x, hxm, hxl⟩:=List.any_eq_true.1 ha
 have hxr := me x (by simp [hxm])
 have hxu := s2 x hxm
 unfold sm_nextTo at hxl
 rw [Int.add_sub_cancel] at hxl
 simp only [Bool.or_eq_true, beq_iff_eq] at hxl
 -- u is under one end of the arc, its head is inside
 have hin : rd l (u - 1)≠0∧x≤rd l (u - 1)∧rd l (u - 1)≤nx+1∧(∀ y : Int, nx+1<y→y≤l.length→rd l (y - 1)≠u):=by
  rcases hxl with q | q
  ·have q' : rd l (nx+1 - 1)=x := by rw [Int.add_sub_cancel]; exact q
   have := nocross ht hf (x := nx+1) (y := u) ⟨by omega,by omega⟩ ⟨by omega,by omega⟩ (by omega) (by omega)
   have h2 := this.2.2 (by omega)
   refine ⟨this.1,by omega,by omega, fun y y1 y2 y3 => ?_⟩
   have := nocross ht hf (x := y) (y := nx+1) ⟨by omega,by omega⟩ ⟨by omega,by omega⟩ (by omega) (by omega)
   have := this.2.2 (by omega)
   omega
  ·have := nocross ht hf (x := x) (y := u) ⟨by omega,by omega⟩ ⟨by omega,by omega⟩ (by omega) (by omega)
   have h2 := this.2.1 (by omega)
   refine ⟨this.1,by omega,by omega, fun y y1 y2 y3 => ?_⟩
   have k1 := sub_between ht hf (w := x) (x := u) ⟨by omega,by omega⟩ (by omega) (.inl ⟨by omega,by omega⟩)
   have k2 := sub_between ht hf (w := y) (x := nx+1) ⟨by omega,by omega⟩ (by omega) (.inr ⟨by omega,by omega⟩)
   rw [q] at k1
   rw [y3] at k2
   exact Sub.not k1 k2
 obtain ⟨h1, h2, h3, h4⟩:=hin
 have hne := treeOk_ne ht (j := (u - 1).toNat) (by omega)
 rw [show (((u - 1).toNat:Nat):Int)=u - 1 by omega] at hne
 have hlt : rd l (u - 1)<u:=by
  apply Decidable.byContradiction; intro c
  have := pe u (by simp) (by omega)
  omega
 have hv := (va u hm.1 (by omega)).1 ⟨hm.2, .inl hlt⟩
 refine ⟨by rw [hv]; exact h1, le, n0, n1, s1, fun x hx => me x (by simp [hx]), fun x x1 x2 => ?_, fun x x1 x2 x3 => ?_, fun x hx => pe x (by simp [hx])⟩
 ·by_cases e : x=u
  ·subst e
   exact ⟨fun _=>hv, fun q=>absurd ⟨hm.2, .inl hlt⟩ q⟩
  ·have := va x x1 x2
   simpa [e] using this
 ·by_cases e : x=u
  ·subst e
   refine ⟨fun y y1 y2 => ?_,by omega⟩
   by_cases e2 : y=nx+1
   ·subst e2
    rw [Int.add_sub_cancel]
    exact hx
   ·exact h4 y (by omega) y2
  ·exact sh x x1 x2 (by simp [x3, e])
theorem o_shift {l ws hs : List Int} {nx : Int} (ht : treeOk l=true) (h : OInv l ws nx hs) (hn : nx<l.length) (hno : ∀ x ∈ ws, rd l nx≠x∧rd l (x - 1)≠nx+1) : OInv l (ws ++ [nx+1]) (nx+1) hs:=by
 obtain ⟨le, n0, n1, sr, me, va, sh, pe⟩:=h
 have hz := (va (nx+1) (by omega) (by omega)).2 (fun q=>by omega)
 have hr := treeOk_rd ht (j := nx.toNat) (by omega)
 rw [show ((nx.toNat:Nat):Int)=nx by omega] at hr
 refine ⟨le,by omega,by omega, ?_, fun x hx => ?_, fun x x1 x2 => ?_, fun x x1 x2 x3 => ?_, fun x hx hl => ?_⟩
 ·rw [List.pairwise_append]
  exact ⟨sr, by simp, fun a ha b hb => by have := me a ha; simp at hb; omega⟩
 ·simp only [List.mem_append, List.mem_singleton] at hx
  rcases hx with q | rfl
  ·have := me x q; omega
  ·omega
 ·by_cases e : x=nx+1
  ·subst e
   refine ⟨fun q=>?_, fun _=>hz⟩
   rw [hz, Int.add_sub_cancel]
   rcases q.2 with q | q
   ·rw [Int.add_sub_cancel] at q
    by_cases c : rd l nx=0
    ·exact c.symm
    ·exfalso
     by_cases m : rd l nx ∈ ws
     ·exact (hno _ m).1 rfl
     ·exact (sh _ (by omega) (by omega) m).1 (nx+1) (by omega) (by omega) (by rw [Int.add_sub_cancel])
   ·exact absurd (by simp) q
  ·have := va x x1 x2
   have k1 : (x≤nx+1∧(rd l (x - 1)<x ∨ x ∉ ws ++ [nx+1])) ↔ (x≤nx∧(rd l (x - 1)<x ∨ x ∉ ws)):=by
    simp only [List.mem_append, List.mem_singleton, e, or_false]
    constructor
    ·rintro ⟨q1, q2⟩; exact ⟨by omega, q2⟩
    ·rintro ⟨q1, q2⟩; exact ⟨by omega, q2⟩
   rw [k1]
   exact this
 ·simp only [List.mem_append, List.mem_singleton, not_or] at x3
  have := sh x x1 (by omega) x3.1
  exact ⟨fun y y1 y2 => this.1 y (by omega) y2,by omega⟩
 ·simp only [List.mem_append, List.mem_singleton] at hx
  rcases hx with q | rfl
  ·have h1 := pe x q hl
   have := (hno x q).2
   omega
  ·omega
theorem o_start {l : List Int} : OInv l [] 0 (List.replicate l.length 0):=by
 have hr : ∀ j : Int, rd (List.replicate l.length (0:Int)) j=0:=by
  intro j
  simp only [rd, List.getD_eq_getElem?_getD, List.getElem?_replicate]
  split <;> rfl
 exact ⟨by simp, Int.le_refl _,by omega, by simp, by simp, fun x x1 x2 => ⟨fun q=>by omega, fun _=>hr _⟩, fun x x1 x2 => by omega, by simp⟩
theorem o_end {l ws hs : List Int} (ht : treeOk l=true) (h : OInv l ws l.length hs) : hs=l:=by
 refine rd_ext h.len (fun j hj => ?_)
 rw [h.len] at hj
 have hv := h.val ((j:Int)+1) (by omega) (by omega)
 rw [Int.add_sub_cancel] at hv
 refine hv.1 ⟨by omega, ?_⟩
 by_cases c : rd l (j:Int)<(j:Int)+1
 ·exact .inl c
 ·refine .inr (fun q=>?_)
  have h1 := treeOk_ne ht hj
  have h2 := treeOk_rd ht hj
  have := h.pend _ q (by rw [Int.add_sub_cancel]; omega)
  rw [Int.add_sub_cancel] at this
  omega
theorem o_step {l ws hs : List Int} {nx : Int} (ht : treeOk l=true) (hf : Flat l) (h : OInv l ws nx hs) (hn : nx<l.length) :
  (sm_eg (sm_erule l ws nx) ws nx hs).1=true∧OInv l (sm_eg (sm_erule l ws nx) ws nx hs).2.1 (sm_eg (sm_erule l ws nx) ws nx hs).2.2.1 (sm_eg (sm_erule l ws nx) ws nx hs).2.2.2 ∧
   2 * ((l.length:Int) - (sm_eg (sm_erule l ws nx) ws nx hs).2.2.1)+(sm_eg (sm_erule l ws nx) ws nx hs).2.1.length+1=2 * ((l.length:Int) - nx)+ws.length:=by
 have hle := h.len
 have shift : ∀ e : sm_erule l ws nx=83, (∀ x ∈ ws, rd l nx≠x∧rd l (x - 1)≠nx+1)→_ := fun e hno => by
  have k : sm_eg (sm_erule l ws nx) ws nx hs=(true, ws ++ [nx+1], nx+1, hs) := by rw [e]; unfold sm_eg; rw [if_pos rfl, if_neg (by omega)]
  have := o_shift ht h hn hno
  show (sm_eg (sm_erule l ws nx) ws nx hs).1=true∧OInv l (sm_eg (sm_erule l ws nx) ws nx hs).2.1 (sm_eg (sm_erule l ws nx) ws nx hs).2.2.1 (sm_eg (sm_erule l ws nx) ws nx hs).2.2.2∧2 * ((l.length:Int) - (sm_eg (sm_erule l ws nx) ws nx hs).2.2.1)+(sm_eg (sm_erule l ws nx) ws nx hs).2.1.length+1=2 * ((l.length:Int) - nx)+ws.length
  rw [k]
  exact ⟨rfl, this, by simp; omega⟩
 by_cases hw : ws=[]
 ·exact shift (by unfold sm_erule; rw [if_pos hw]) (by simp [hw])
 ·obtain ⟨xs, u, rfl⟩ : ∃ xs u, ws=xs ++ [u] := ⟨_, _, (List.dropLast_concat_getLast hw).symm⟩
  have e := sm_erule_one l xs u nx
  by_cases c1 : rd l (u - 1)=nx+1
  ·rw [if_pos c1] at e
   obtain ⟨k1, k2⟩:=o_left ht hf h hn c1
   rw [e, sm_eg_one 76 xs u nx hs (by decide), if_pos ⟨rfl,by omega, k1⟩]
   exact ⟨rfl, k2, by simp; omega⟩
  ·rw [if_neg c1] at e
   by_cases c2 : rd l nx=u
   ·rw [if_pos c2] at e
    have k := o_right ht hf h hn c1 c2
    rw [e, sm_eg_one 82 xs u nx hs (by decide), if_neg (fun q=>absurd q.1 (by decide)), if_pos ⟨rfl,by omega⟩]
    exact ⟨rfl, k, by simp; omega⟩
   ·rw [if_neg c2] at e
    by_cases c3 : xs.any (sm_nextTo l (nx+1))=true
    ·rw [if_pos c3] at e
     obtain ⟨k1, k2⟩:=o_drop ht hf h hn c1 c2 c3
     rw [e, sm_eg_one 68 xs u nx hs (by decide), if_neg (fun q=>absurd q.1 (by decide)), if_neg (fun q=>absurd q.1 (by decide)), if_pos ⟨rfl, k1⟩]
     exact ⟨rfl, k2, by simp; omega⟩
    ·rw [if_neg c3] at e
     refine shift e (fun x hx => ?_)
     simp only [List.mem_append, List.mem_singleton] at hx
     rcases hx with hx | rfl
     ·have : ¬ sm_nextTo l (nx+1) x=true := fun q=>c3 (List.any_eq_true.2 ⟨x, hx, q⟩)
      unfold sm_nextTo at this
      rw [Int.add_sub_cancel] at this
      simp only [Bool.or_eq_true, beq_iff_eq, not_or] at this
      exact ⟨fun q=>this.1 q, fun q=>this.2 q⟩
     ·exact ⟨fun q=>c2 q, c1⟩
theorem o_loop {l : List Int} (ht : treeOk l=true) (hf : Flat l) : ∀ (k:Nat) (ws : List Int) (nx:Int) (hs : List Int), OInv l ws nx hs→2 * ((l.length:Int) - nx)+ws.length<k →
  ∃ ms ws', sm_eloop l k ws nx hs=some (ms, true)∧(∀ m ∈ ms, m=83 ∨ m=76 ∨ m=82 ∨ m=68)∧ms.length<k∧sm_esteps ms ws nx hs=some (ws', (l.length:Int), l)
 | 0, ws, nx, hs, h, hk => by have := h.n1; omega
 | k+1, ws, nx, hs, h, hk => by
  by_cases hn : nx<l.length
  ·obtain ⟨h1, h2, h3⟩:=o_step ht hf h hn
   obtain ⟨ms, ws', g1, g2, g3, g4⟩:=o_loop ht hf k _ _ _ h2 (by omega)
   refine ⟨sm_erule l ws nx :: ms, ws', ?_, ?_, by simp; omega, ?_⟩
   ·unfold sm_eloop
    rw [if_pos hn, if_pos h1, g1]
    rfl
   ·intro m hm
    rcases List.mem_cons.1 hm with rfl | hm
    ·exact sm_erule_in l ws nx
    ·exact g2 m hm
   ·unfold sm_esteps
    rw [if_pos h1]
    exact g4
  ·have e : nx=l.length := by have := h.n1; omega
   subst e
   have e2 := o_end ht h
   subst e2
   refine ⟨[], ws, ?_, by simp, by simp, rfl⟩
   unfold sm_eloop
   rw [if_neg hn]
theorem bytes_addm4 : ∀ (ms : List Int) (s : ByteArray), (∀ m ∈ ms, m=83 ∨ m=76 ∨ m=82 ∨ m=68)→bytesOf (sm_addm s ms)=bytesOf s ++ ms
 | [], s, _ => by simp [sm_addm]
 | m :: ms, s, h => by
  have h1 := h m (by simp)
  have e : bytesOf (Utf8.encode m)=[m]:=by
   rcases h1 with rfl | rfl | rfl | rfl <;> rfl
  show bytesOf (sm_addm (s ++ Utf8.encode m) ms)=_
  rw [bytes_addm4 ms _ (fun m hm => h m (by simp [hm])), bytesOf_append, e]
  simp
theorem zeros_tree {l : List Int} (ht : treeOk l=true) : sm_zeros l l.length=1:=by
 rw [zeros_count l _ (Nat.le_refl _), List.take_length]
 unfold treeOk at ht
 simp only [Bool.and_eq_true, decide_eq_true_eq] at ht
 omega
theorem eager_told {l : List Int} (ht : treeOk l=true) (hf : Flat l) : ∃ ms, sm_eloop l 40 [] 0 (List.replicate l.length 0)=some (ms, true)∧(sm_etext (ms, true)).size≤40∧sm_runE (l.length:Int) (sm_etext (ms, true))=(l, true):=by
 have hn := treeOk_len ht
 obtain ⟨ms, ws', h1, h2, h3, h4⟩:=o_loop ht hf 40 [] 0 _ o_start (by simp; omega)
 have hb : bytesOf (sm_etext (ms, true))=ms:=by
  unfold sm_etext
  rw [if_pos rfl, bytes_addm4 ms _ h2]
  rfl
 refine ⟨ms, h1, by rw [← bytesOf_length, hb]; omega, ?_⟩
 unfold sm_runE
 rw [if_neg (by omega), hb, Int.toNat_natCast, h4]
 show sm_eend l.length (ws', (l.length:Int), l)=_
 unfold sm_eend
 rw [if_neg]
 rintro (q | q)
 ·exact absurd q (Int.lt_irrefl _)
 ·exact q (zeros_tree ht)
def mp (hs : List Int) : List Int := hs.map (fun h=>if h=0 then -1 else h)
theorem mp_len (hs : List Int) : (mp hs).length=hs.length := by simp [mp]
theorem mp_rd (hs : List Int) {j : Int} (h : j.toNat<hs.length) : rd (mp hs) j=if rd hs j=0 then -1 else rd hs j:=by
 simp [mp, rd, List.getD_eq_getElem?_getD, h]
theorem mp_set (hs : List Int) (i:Nat) {v : Int} (hv : v≠0) : mp (hs.set i v)=(mp hs).set i v:=by
 unfold mp
 rw [List.map_set, if_neg hv]
def both (r : Bool × List Int × Int × List Int) : Bool × List Int × Int × List Int := (r.1, r.2.1, r.2.2.1+1, mp r.2.2.2)
theorem sp_eg {n : Nat} {ws : List Int} {nx : Int} {hs : List Int} (h : EInv n ws nx hs) (m:Int) : ss_sp m ws (nx+1) (mp hs)=both (sm_eg m ws nx hs):=by
 have hl := h.len
 have hn := h.n1
 have h0 := h.n0
 by_cases h1 : m=83
 ·subst h1
  by_cases c : nx=hs.length
  ·have e : sm_eg 83 ws nx hs=(false, ws, nx, hs) := by unfold sm_eg; rw [if_pos rfl, if_pos c]
   rw [e]
   unfold ss_sp
   rw [mp_len, if_neg (fun q=>by omega), if_neg (fun q=>absurd q.1 (by decide)), if_neg (fun q=>absurd q.1 (by decide)), if_neg (fun q=>absurd q.1 (by decide))]
   rfl
  ·have e : sm_eg 83 ws nx hs=(true, ws ++ [nx+1], nx+1, hs) := by unfold sm_eg; rw [if_pos rfl, if_neg c]
   rw [e]
   unfold ss_sp
   rw [mp_len, if_pos ⟨rfl,by omega⟩]
   rfl
 ·by_cases h2 : ws=[]
  ·subst h2
   have e : sm_eg m [] nx hs=(false, [], nx, hs) := by unfold sm_eg; rw [if_neg h1, if_pos rfl]
   rw [e, ss_sp_nil, if_neg (fun q=>h1 q.1)]
   rfl
  ·obtain ⟨xs, u, rfl⟩ : ∃ xs u, ws=xs ++ [u] := ⟨_, _, (List.dropLast_concat_getLast h2).symm⟩
   have hu := (gaps_lt hs _ _ 0 h.gaps).2 u (by simp)
   have hr := h.rng (u - 1).toNat
   rw [show (((u - 1).toNat:Nat):Int)=u - 1 by omega] at hr
   have hm := mp_rd hs (j := u - 1) (by omega)
   rw [sm_eg_one m xs u nx hs h1, ss_sp_one, if_neg (fun q=>h1 q.1), mp_len]
   by_cases c1 : m=76∧nx<hs.length∧rd hs (u - 1)=0
   ·rw [if_pos c1, if_pos ⟨c1.1,by omega, by rw [hm, if_pos c1.2.2]; decide⟩]
    show _=(true, xs, nx+1, mp (hs.set (u.toNat - 1) (nx+1)))
    rw [mp_set _ _ (by omega)]
   ·rw [if_neg c1, if_neg (fun q=>c1 ⟨q.1,by omega, by
     have q3 := q.2.2
     rw [hm] at q3
     split at q3
     ·assumption
     ·omega⟩)]
    by_cases c2 : m=82∧nx<hs.length
    ·rw [if_pos c2, if_pos ⟨c2.1,by omega⟩]
     show _=(true, xs ++ [u, nx+1], nx+1+1, mp (hs.set nx.toNat u))
     rw [mp_set _ _ (by omega), show (nx+1).toNat - 1=nx.toNat by omega]
    ·rw [if_neg c2, if_neg (fun q=>c2 ⟨q.1,by omega⟩)]
     by_cases c3 : m=68∧rd hs (u - 1)≠0
     ·rw [if_pos c3, if_pos ⟨c3.1, by rw [hm, if_neg c3.2]; omega⟩]
      rfl
     ·rw [if_neg c3, if_neg (fun q=>c3 ⟨q.1, fun q2=>by
       have q3 := q.2
       rw [hm, if_pos q2] at q3
       omega⟩)]
      rfl
theorem ssteps_eq {n : Nat} : ∀ (ms ws : List Int) (nx:Int) (hs : List Int), EInv n ws nx hs→ss_ssteps ms ws (nx+1) (mp hs)=(sm_esteps ms ws nx hs).map (fun r=>(r.1, r.2.1+1, mp r.2.2))
 | [], ws, nx, hs, _ => rfl
 | m :: ms, ws, nx, hs, h => by
  unfold ss_ssteps sm_esteps
  rw [sp_eg h m]
  show (if (sm_eg m ws nx hs).1=true then ss_ssteps ms (sm_eg m ws nx hs).2.1 ((sm_eg m ws nx hs).2.2.1+1) (mp (sm_eg m ws nx hs).2.2.2) else none)=_
  by_cases c : (sm_eg m ws nx hs).1=true
  ·rw [if_pos c, if_pos c]
   exact ssteps_eq ms _ _ _ (einv_eg m h)
  ·rw [if_neg c, if_neg c]; rfl
theorem negs_eq {n : Nat} {hs : List Int} (hl : hs.length=n) (hr : ∀ j : Nat, 0≤rd hs (j:Int)∧rd hs (j:Int)≤n) : ∀ k, k≤n→ss_negs (mp hs) k=sm_zeros hs k
 | 0, _ => rfl
 | k+1, h => by
  rw [ss_negs_succ, sm_zeros_succ, negs_eq hl hr k (by omega), mp_rd hs (j := (k:Int)) (by omega)]
  have := hr k
  by_cases c : rd hs (k:Int)=0
  ·rw [if_pos c, if_pos c, if_pos (by decide)]
  ·rw [if_neg c, if_neg c, if_neg (by omega)]
theorem fix_eq {n : Nat} {hs : List Int} (hl : hs.length=n) (hr : ∀ j : Nat, 0≤rd hs (j:Int)∧rd hs (j:Int)≤n) : ss_fixK (mp hs) n=hs:=by
 have key : ∀ k, k≤n→∀ j : Nat, j<k→rd (ss_fixK (mp hs) k) (j:Int)=rd hs (j:Int):=by
  intro k
  induction k with
  | zero => intro _ j hj; omega
  | succ k ih =>
   intro hk j hj
   have hm := mp_rd hs (j := (k:Int)) (by omega)
   have hrk := hr k
   have hlen := ss_fixK_len (mp hs) k
   rw [mp_len] at hlen
   unfold ss_fixK
   by_cases c : rd hs (k:Int)=0
   ·rw [if_pos (by rw [hm, if_pos c]; decide)]
    by_cases e : k=j
    ·subst e; rw [rd_set_self 0 (by omega), c]
    ·rw [rd_set_ne 0 e]; exact ih (by omega) j (by omega)
   ·rw [if_neg (by rw [hm, if_neg c]; omega)]
    by_cases e : k=j
    ·subst e
     rw [ss_fixK_rd (mp hs) k k (Nat.le_refl _), hm, if_neg c]
    ·exact ih (by omega) j (by omega)
 have hlen := ss_fixK_len (mp hs) n
 rw [mp_len] at hlen
 exact rd_ext hlen (fun j hj => key n (Nat.le_refl _) j (by omega))
theorem srunE_eq (n:Int) (s : ByteArray) : ss_srunE n s=sm_runE n s:=by
 unfold ss_srunE sm_runE
 by_cases c : n<1 ∨ 8<n
 ·rw [if_pos c, if_pos c]
 ·rw [if_neg c, if_neg c]
  have hr : List.replicate n.toNat (-1:Int)=mp (List.replicate n.toNat 0) := by simp [mp]
  have h := ssteps_eq (bytesOf s) [] 0 (List.replicate n.toNat 0) (einv_start n.toNat)
  rw [hr, show (1:Int)=0+1 from rfl, h]
  cases e : sm_esteps (bytesOf s) [] 0 (List.replicate n.toNat 0) with
  | none => rfl
  | some r =>
   have hi := einv_steps _ _ _ _ r (einv_start n.toNat) e
   show ss_send n.toNat (r.1, r.2.1+1, mp r.2.2)=sm_eend n.toNat r
   unfold ss_send sm_eend
   show (if ss_negs (mp r.2.2) n.toNat≠1 ∨ r.2.1+1≤(n.toNat:Int) then _ else (ss_fixK (mp r.2.2) n.toNat, true))=_
   rw [negs_eq hi.len hi.rng _ (Nat.le_refl _), fix_eq hi.len hi.rng]
   by_cases c2 : r.2.1<(n.toNat:Int) ∨ sm_zeros r.2.2 n.toNat≠1
   ·rw [if_pos c2, if_pos (c2.symm.imp id (fun q=>by omega))]
   ·rw [if_neg c2, if_neg (fun q=>c2 (q.symm.imp (fun q=>by omega) id))]
theorem rule_eq (l ws : List Int) (nx:Int) : ss_srule l ws (nx+1)=sm_erule l ws nx:=by
 unfold ss_srule sm_erule
 rw [Int.add_sub_cancel]
 rfl
theorem sloop_eq {l : List Int} {n : Nat} (hl : l.length=n) : ∀ (k:Nat) (ws : List Int) (nx:Int) (hs : List Int), EInv n ws nx hs→ss_sloop l k ws (nx+1) (mp hs)=sm_eloop l k ws nx hs
 | 0, _, _, _, _ => rfl
 | k+1, ws, nx, hs, h => by
  unfold ss_sloop sm_eloop
  rw [rule_eq, sp_eg h]
  by_cases c : nx<(l.length:Int)
  ·rw [if_pos c, if_pos (show nx+1≤(l.length:Int) by omega)]
   show (if (sm_eg (sm_erule l ws nx) ws nx hs).1=true then (ss_sloop l k (sm_eg (sm_erule l ws nx) ws nx hs).2.1 ((sm_eg (sm_erule l ws nx) ws nx hs).2.2.1+1) (mp (sm_eg (sm_erule l ws nx) ws nx hs).2.2.2)).map _ else _)=_
   rw [sloop_eq hl k _ _ _ (einv_eg _ h)]
  ·rw [if_neg c, if_neg (show ¬ nx+1≤(l.length:Int) by omega)]
theorem sloop_start (l : List Int) (k:Nat) : ss_sloop l k [] 1 (List.replicate l.length (-1))=sm_eloop l k [] 0 (List.replicate l.length 0):=by
 have := sloop_eq (n := l.length) rfl k [] 0 _ (einv_start l.length)
 rw [show mp (List.replicate l.length 0)=List.replicate l.length (-1:Int) by simp [mp]] at this
 exact this
theorem adds_eq : ∀ (ms : List Int) (s t : ByteArray), (∀ m ∈ ms, m=83 ∨ m=76 ∨ m=82 ∨ m=68)→s=t→ss_adds s ms=sm_addm t ms
 | [], s, t, _, h => h
 | m :: ms, s, t, h, e => by
  have h1 := h m (by simp)
  have k : ss_byteS m=Utf8.encode m:=by
   rcases h1 with rfl | rfl | rfl | rfl <;> rfl
  show ss_adds (s ++ ss_byteS m) ms=sm_addm (t ++ Utf8.encode m) ms
  exact adds_eq ms _ _ (fun m hm => h m (by simp [hm])) (by rw [e, k])
theorem xor_small (a b:Int) (ha : 0≤a) (ha2 : a<4294967296) (hb : 0≤b) (hb2 : b<4294967296) : 0≤Go.bits .xor .i64 a b∧Go.bits .xor .i64 a b<4294967296:=by
 obtain ⟨x, rfl⟩ : ∃ x : Nat, a=x := ⟨a.toNat,by omega⟩
 obtain ⟨y, rfl⟩ : ∃ y : Nat, b=y := ⟨b.toNat,by omega⟩
 have h := Nat.xor_lt_two_pow (n := 32) (show x<2 ^ 32 by omega) (show y<2 ^ 32 by omega)
 have e : Go.bits .xor .i64 (x:Int) (y:Int)=((x ^^^ y:Nat):Int):=by
  have hx : x % 2 ^ 64=x := Nat.mod_eq_of_lt (by omega)
  have hy : y % 2 ^ 64=y := Nat.mod_eq_of_lt (by omega)
  have hv : (BitVec.ofNat 64 x ^^^ BitVec.ofNat 64 y).toNat=x ^^^ y := by rw [BitVec.toNat_xor, BitVec.toNat_ofNat, BitVec.toNat_ofNat, hx, hy]
  simp only [Go.bits, BitVec.ofInt_natCast, IntKind.bits]
  rw [i64_w]
  show wrap64 (((BitVec.ofNat 64 x ^^^ BitVec.ofNat 64 y).toNat:Nat):Int)=_
  rw [hv]
  exact wrap_id (n := ((x ^^^ y:Nat):Int)) (by omega) (by omega)
 rw [e]
 omega
structure Bytes (b : List Int) : Prop where
 small : ∀ x ∈ b, 0≤x∧x≤255
 len : b.length≤2000
theorem Bytes.rd_le {b : List Int} (h : Bytes b) (i:Int) : 0≤rd b i∧rd b i≤255:=by
 unfold rd
 by_cases hi : i.toNat<b.length
 ·have e : b.getD i.toNat 0=b[i.toNat] := by simp [hi]
  rw [e]; exact h.small _ (List.getElem_mem hi)
 ·have e : b.getD i.toNat 0=0 := by simp [Nat.le_of_not_lt hi]
  rw [e]; omega
theorem pick_ev {b : List Int} (hb : Bytes b) (p n:Int) (h0 : 0≤p) (h1 : p≤1000000) (hn : 1≤n) (hn2 : n≤1000000) :
  ∃ v, 0≤v∧v<n∧Ev (fun k=>spec_l20Rd_pick.f k b p n) (v, p+1):=by
 unfold spec_l20Rd_pick.f
 have hl := hb.len
 rw [wrap_id (n := p+1) (by omega) (by omega)]
 by_cases hz : b.length=0
 ·refine ⟨0,by omega,by omega, Ev.neg (by omega) (Ev.step (fun k=>spec_l20Rd_pick.j0.eq_2 ..) (Ev.pos (by rw [hz]; rfl) (Ev.ret rfl)))⟩
 ·by_cases hp : p<b.length
  ·have hr := hb.rd_le p
   refine ⟨Int.tmod (rd b p) n, Int.tmod_nonneg _ hr.1, Int.tmod_lt_of_pos _ (by omega), ?_⟩
   refine Ev.neg (by omega) (Ev.step (fun k=>spec_l20Rd_pick.j0.eq_2 ..) (Ev.neg (by simp; intro e; simp [e] at hz) ?_))
   rw [wrap_id (n := p+1 - 1) (by omega) (by omega), show p+1 - 1=p by omega, wrap_id (n := rd b p) (by omega) (by omega)]
   exact Ev.pos hp (Ev.pos h0 (Ev.neg (by omega) (Ev.ret rfl)))
  ·have e0 : wrap64 (p+1 - 1)=p := by rw [wrap_id (by omega) (by omega)]; omega
   have hm1 : 0≤Int.tmod p (b.length:Int)∧Int.tmod p (b.length:Int)<b.length := ⟨Int.tmod_nonneg _ h0, Int.tmod_lt_of_pos _ (by omega)⟩
   have e1 : wrap64 (wrap64 (p * 7)+3)=p * 7+3 := by rw [wrap_id (n := p * 7) (by omega) (by omega), wrap_id (by omega) (by omega)]
   have hm2 : 0≤Int.tmod (p * 7+3) (b.length:Int)∧Int.tmod (p * 7+3) (b.length:Int)<b.length := ⟨Int.tmod_nonneg _ (by omega), Int.tmod_lt_of_pos _ (by omega)⟩
   have hr1 := hb.rd_le (Int.tmod p (b.length:Int))
   have hr2 := hb.rd_le (Int.tmod (p * 7+3) (b.length:Int))
   have hd : 0≤Int.tdiv p (b.length:Int)∧Int.tdiv p (b.length:Int)≤p:=by
    rw [Int.tdiv_eq_ediv_of_nonneg h0]
    exact ⟨Int.ediv_nonneg h0 (by omega), Int.ediv_le_self _ h0⟩
   obtain ⟨u1, hu1⟩ : ∃ u, u=rd b (Int.tmod p (b.length:Int)) := ⟨_, rfl⟩
   obtain ⟨u2, hu2⟩ : ∃ u, u=rd b (Int.tmod (p * 7+3) (b.length:Int)) := ⟨_, rfl⟩
   obtain ⟨q, hq⟩ : ∃ u, u=Int.tdiv p (b.length:Int) := ⟨_, rfl⟩
   rw [← hu1] at hr1
   rw [← hu2] at hr2
   rw [← hq] at hd
   obtain ⟨x, hx⟩ : ∃ x, x=wrap64 (wrap64 (wrap64 (wrap64 (wrap64 u1 * 131)+wrap64 (wrap64 u2 * 1117))+wrap64 (p * 29))+wrap64 (wrap64 q * 53)) := ⟨_, rfl⟩
   have hxb : 0≤x∧x<4294967296:=by
    rw [hx, wrap_id (n := u1) (by omega) (by omega), wrap_id (n := u2) (by omega) (by omega), wrap_id (n := u1 * 131) (by omega) (by omega), wrap_id (n := u2 * 1117) (by omega) (by omega), wrap_id (n := u1 * 131+_) (by omega) (by omega), wrap_id (n := p * 29) (by omega) (by omega), wrap_id (n := q) (by omega) (by omega), wrap_id (n := q * 53) (by omega) (by omega), wrap_id (n := u1 * 131+u2 * 1117+p * 29) (by omega) (by omega), wrap_id (by omega) (by omega)]
    omega
   have hy : 0≤wrap64 (Int.tdiv x 64)∧wrap64 (Int.tdiv x 64)<4294967296:=by
    rw [Int.tdiv_eq_ediv_of_nonneg hxb.1, wrap_id (by omega) (by omega)]
    omega
   have hz2 := xor_small x (wrap64 (Int.tdiv x 64)) hxb.1 hxb.2 hy.1 hy.2
   refine ⟨Int.tmod (Go.bits .xor .i64 x (wrap64 (Int.tdiv x 64))) n, Int.tmod_nonneg _ hz2.1, Int.tmod_lt_of_pos _ (by omega), ?_⟩
   refine Ev.neg (by omega) (Ev.step (fun k=>spec_l20Rd_pick.j0.eq_2 ..) (Ev.neg (by simp; intro e; simp [e] at hz) ?_))
   rw [e0, e1, ← hu1, ← hu2, ← hq, ← hx]
   exact Ev.neg hp (Ev.neg (by omega) (Ev.pos hm1.1 (Ev.pos hm1.2 (Ev.pos hm2.1 (Ev.pos hm2.2 (Ev.neg (by omega) (Ev.ret rfl)))))))
theorem l20Open_ev (l : List Int) (hb : ∀ x ∈ l, (Lit.int .u8 x).wf=true) : ∃ b, Bytes b∧spec_l20Open.f l=some (b, 0):=by
 have hs : ∀ x ∈ l, 0≤x∧x≤255:=by
  intro x hx
  have := hb x hx
  simp [Lit.wf, IntKind.min, IntKind.max, IntKind.signed, IntKind.bits] at this
  omega
 unfold spec_l20Open.f
 by_cases h : (l.length:Int) > 2000
 ·rw [if_pos h, if_pos (by omega)]
  exact ⟨l.take 2000, ⟨fun x hx => hs x (List.mem_of_mem_take hx), by simp; omega⟩, rfl⟩
 ·rw [if_neg h]
  exact ⟨l, ⟨hs,by omega⟩, rfl⟩
theorem l1In_eq (a b c:Int) : spec_l1In.f a b c=some (decide (b≤a∧a≤c)):=by
 unfold spec_l1In.f
 split
 ·rename_i h; congr 1; rw [decide_eq_decide]; omega
 ·rename_i h; congr 1; symm; rw [decide_eq_false_iff_not]; omega
theorem spec_walk (l : List Int) (r j:Nat) (hl : l.length≤8) (hj : j<l.length) (_ : r≤8)
  (next : Ev (fun k=>spec_TreeOk.l0 k l (l.length:Int) (r:Int) ((j+1:Nat):Int)) (restOk l r (j+1)))
  (d:Nat) : ∀ (s:Nat) (a:Int), s+d=l.length→0≤a→a≤l.length →
  Ev (fun k=>spec_TreeOk.l1 k l (l.length:Int) (r:Int) (j:Int) a (s:Int)) (walkOk l d a && restOk l r (j+1)):=by
 induction d with
 | zero =>
  intro s a hs h0 h1
  refine Ev.step (fun k=>spec_TreeOk.l1.eq_2 ..) ?_
  refine Ev.ite (fun ha=>?_) (fun ha=>?_)
  ·rw [decide_eq_false (by omega)]
   refine Ev.step (fun k=>spec_TreeOk.j4.eq_2 ..) ?_
   refine Ev.neg (by simp) (Ev.pos ha (Ev.ret ?_))
   simp [walkOk, show ¬ a≤0 by omega]
  ·refine Ev.step (fun k=>spec_TreeOk.j4.eq_2 ..) ?_
   refine Ev.neg (by simp) (Ev.neg ha ?_)
   rw [wrap_add1 (by omega)]
   exact Ev.eq next (by simp [walkOk, show a≤0 by omega])
 | succ d ih =>
  intro s a hs h0 h1
  refine Ev.step (fun k=>spec_TreeOk.l1.eq_2 ..) ?_
  refine Ev.ite (fun ha=>?_) (fun ha=>?_)
  ·rw [decide_eq_true (by omega)]
   refine Ev.step (fun k=>spec_TreeOk.j4.eq_2 ..) ?_
   refine Ev.pos rfl ?_
   rw [wrap_id (by omega) (by omega)]
   refine Ev.pos (by omega) (Ev.pos (by omega) (Ev.bind0 (l1In_eq ..) ?_))
   refine Ev.ite (fun hc=>?_) (fun hc=>?_)
   ·have hc' := of_decide_eq_true hc
    rw [wrap_add1 (by omega)]
    refine Ev.eq (ih (s+1) (rd l (a - 1)) (by omega) hc'.1 hc'.2) ?_
    simp [walkOk, show ¬ a≤0 by omega, hc'.1, hc'.2]
   ·refine Ev.ret ?_
    have hc' : ¬ (0≤rd l (a - 1)∧rd l (a - 1)≤(l.length:Int)) := by simpa using hc
    simp [walkOk, show ¬ a≤0 by omega, decide_eq_false hc']
  ·refine Ev.step (fun k=>spec_TreeOk.j4.eq_2 ..) ?_
   refine Ev.neg (by simp) (Ev.neg ha ?_)
   rw [wrap_add1 (by omega)]
   exact Ev.eq next (by simp [walkOk, show a≤0 by omega])
theorem spec_TreeOk_l0 (l : List Int) (hl : l.length≤8) (d:Nat) : ∀ (r j:Nat), j+d=l.length→r≤j →
  Ev (fun k=>spec_TreeOk.l0 k l (l.length:Int) (r:Int) (j:Int)) (restOk l r j):=by
 induction d with
 | zero =>
  intro r j hj hr
  refine Ev.step (fun k=>spec_TreeOk.l0.eq_2 ..) ?_
  exact Ev.neg (by omega) (Ev.ret (restOk_end l r j (by omega)).symm)
 | succ d ih =>
  intro r j hj hr
  refine Ev.step (fun k=>spec_TreeOk.l0.eq_2 ..) ?_
  refine Ev.pos (by omega) (Ev.pos (by omega) (Ev.pos (by omega) (Ev.bind0 (l1In_eq ..) ?_)))
  refine Ev.ite (fun hc=>?_) (fun hc=>?_)
  ·have hc' := of_decide_eq_true hc
   refine Ev.step (fun k=>spec_TreeOk.j1.eq_2 ..) ?_
   rw [wrap_add1 (by omega)]
   refine Ev.ite (fun he=>?_) (fun he=>?_)
   ·refine Ev.ret (restOk_bad l r j (by omega) ?_).symm
    have he' : rd l (j:Int)=((j+1:Nat):Int) := by simpa using he
    unfold okAt
    rw [walkOk_self l ((j:Int)+1) (by omega) (by rw [show (j:Int)+1 - 1=(j:Int) by omega, he']; omega), Bool.and_false]
   ·have hfin : ∀ (r':Nat), r'=r+(if rd l j=0 then 1 else 0)→Ev (fun k=>spec_TreeOk.l1 k l (l.length:Int) (r':Int) (j:Int) ((j+1:Nat):Int) 0) (restOk l r j):=by
     intro r' hr'
     have hr8 : r'≤j+1 := by subst hr'; split <;> omega
     refine Ev.eq (spec_walk l r' j hl (by omega) (by omega) (ih r' (j+1) (by omega) hr8) l.length 0 ((j+1:Nat):Int) (by omega) (by omega) (by omega)) ?_
     by_cases hw : walkOk l l.length ((j:Int)+1)=true
     ·rw [restOk_good l r j (by omega) (by unfold okAt; rw [hw, decide_eq_true hc']; rfl), ← hr', show ((j+1:Nat):Int)=(j:Int)+1 by omega, hw]; rfl
     ·have hw' : walkOk l l.length ((j:Int)+1)=false := by simpa using hw
      rw [restOk_bad l r j (by omega) (by unfold okAt; rw [hw']; simp), show ((j+1:Nat):Int)=(j:Int)+1 by omega, hw']; rfl
    refine Ev.pos (by omega) (Ev.pos (by omega) (Ev.ite (fun hz=>?_) (fun hz=>?_)))
    ·rw [wrap_add1 (by omega)]
     refine Ev.step (fun k=>spec_TreeOk.j2.eq_2 ..) ?_
     rw [wrap_add1 (by omega)]
     exact hfin (r+1) (by rw [if_pos hz])
    ·refine Ev.step (fun k=>spec_TreeOk.j2.eq_2 ..) ?_
     rw [wrap_add1 (by omega)]
     exact hfin r (by rw [if_neg hz]; rfl)
  ·refine Ev.step (fun k=>spec_TreeOk.j1.eq_2 ..) ?_
   refine Ev.pos rfl (Ev.ret (restOk_bad l r j (by omega) ?_).symm)
   have hc' : ¬ (0≤rd l (j:Int)∧rd l (j:Int)≤(l.length:Int)) := by simpa using hc
   unfold okAt
   rw [decide_eq_false hc']; rfl
theorem spec_TreeOk_ev (l : List Int) : Ev (fun k=>spec_TreeOk.f k l) (treeOk l):=by
 unfold spec_TreeOk.f
 refine Ev.bind0 (l1In_eq ..) ?_
 refine Ev.ite (fun hc=>?_) (fun hc=>?_)
 ·have hc' := of_decide_eq_true hc
  exact Ev.eq (spec_TreeOk_l0 l (by omega) l.length 0 0 (by omega) (by omega)) (restOk_zero l (by omega))
 ·refine Ev.ret ?_
  have hc' : ¬ (1≤(l.length:Int)∧(l.length:Int)≤8) := by simpa using hc
  unfold treeOk
  rw [decide_eq_false (by omega)]; rfl
theorem or_small (a b:Int) (ha : 1≤a) (ha2 : a<256) (hb : 0≤b) (hb2 : b<256) : 1≤Go.bits .or .i64 a b∧Go.bits .or .i64 a b<256:=by
 obtain ⟨x, rfl⟩ : ∃ x : Nat, a=x := ⟨a.toNat,by omega⟩
 obtain ⟨y, rfl⟩ : ∃ y : Nat, b=y := ⟨b.toNat,by omega⟩
 have h := Nat.or_lt_two_pow (n := 8) (show x<2 ^ 8 by omega) (show y<2 ^ 8 by omega)
 have h2 : x≤x ||| y := Nat.left_le_or
 have e : Go.bits .or .i64 (x:Int) (y:Int)=((x ||| y:Nat):Int):=by
  have hx : x % 2 ^ 64=x := Nat.mod_eq_of_lt (by omega)
  have hy : y % 2 ^ 64=y := Nat.mod_eq_of_lt (by omega)
  have hv : (BitVec.ofNat 64 x ||| BitVec.ofNat 64 y).toNat=x ||| y := by rw [BitVec.toNat_or, BitVec.toNat_ofNat, BitVec.toNat_ofNat, hx, hy]
  simp only [Go.bits, BitVec.ofInt_natCast, IntKind.bits]
  rw [i64_w]
  show wrap64 (((BitVec.ofNat 64 x ||| BitVec.ofNat 64 y).toNat:Nat):Int)=_
  rw [hv]
  exact wrap_id (n := ((x ||| y:Nat):Int)) (by omega) (by omega)
 rw [e]
 omega
theorem shl_small : ∀ w : Int, 1≤w→w≤8→0≤wrap64 (w - 1)∧1≤shl .i64 1 (wrap64 (w - 1))∧shl .i64 1 (wrap64 (w - 1))<256:=by
 intro w h1 h2
 have h : w=1 ∨ w=2 ∨ w=3 ∨ w=4 ∨ w=5 ∨ w=6 ∨ w=7 ∨ w=8 := by omega
 rcases h with rfl | rfl | rfl | rfl | rfl | rfl | rfl | rfl <;> decide +kernel
theorem yield_l0 {l : List Int} (hl : l.length≤8) (w:Int) (ih : ∀ i : Nat, i<l.length→rd l i=w→∃ v, 1≤v∧v<256∧Ev (fun k=>spec_l2Yield.f k l ((i:Int)+1)) v) :
  ∀ (d j:Nat) (x:Int), j+d=l.length→1≤x→x<256→∃ v, 1≤v∧v<256∧Ev (fun k=>spec_l2Yield.l0 k l w x (j:Int)) v
 | 0, j, x, hj, h1, h2 => ⟨x, h1, h2, Ev.step (fun k=>spec_l2Yield.l0.eq_2 ..) (Ev.neg (by omega) (Ev.ret rfl))⟩
 | d+1, j, x, hj, h1, h2 => by
  have e : wrap64 ((j:Int)+1)=((j+1:Nat):Int) := wrap_add1 (by omega)
  by_cases c : rd l (j:Int)=w
  ·obtain ⟨u, u1, u2, hu⟩:=ih j (by omega) c
   have hor := or_small x u h1 h2 (by omega) u2
   obtain ⟨v, v1, v2, hv⟩:=yield_l0 hl w ih d (j+1) _ (by omega) hor.1 hor.2
   refine ⟨v, v1, v2, Ev.step (fun k=>spec_l2Yield.l0.eq_2 ..) (Ev.pos (by omega) (Ev.pos (by omega) (Ev.pos c (Ev.bind (by rw [e]; push_cast; exact hu) ?_))))⟩
   rw [e]
   exact hv
  ·obtain ⟨v, v1, v2, hv⟩:=yield_l0 hl w ih d (j+1) x (by omega) h1 h2
   refine ⟨v, v1, v2, Ev.step (fun k=>spec_l2Yield.l0.eq_2 ..) (Ev.pos (by omega) (Ev.pos (by omega) (Ev.neg c ?_)))⟩
   rw [e]
   exact hv
theorem yield_ev {l : List Int} (ht : treeOk l=true) : ∀ (m e:Nat) (w:Int), (1≤w∧w≤l.length)→Deep l e w→l.length≤e+m→∃ v, 1≤v∧v<256∧Ev (fun k=>spec_l2Yield.f k l w) v
 | 0, e, w, hw, hd, hm => by have := deep_lt ht hw.1 hw.2 hd; omega
 | m+1, e, w, hw, hd, hm => by
  have hn := treeOk_len ht
  obtain ⟨s0, s1, s2⟩:=shl_small w hw.1 (by omega)
  obtain ⟨v, v1, v2, hv⟩:=yield_l0 (by omega) w (fun i hi hk => yield_ev ht m (e+1) _ ⟨by omega,by omega⟩ ⟨by rw [Int.add_sub_cancel, hk]; exact hw.1, by rw [Int.add_sub_cancel, hk]; exact hw.2, by rw [Int.add_sub_cancel, hk]; exact hd⟩ (by omega)) l.length 0 _ (by omega) s1 s2
  exact ⟨v, v1, v2, Ev.step (fun k=>spec_l2Yield.f.eq_2 ..) (Ev.pos s0 hv)⟩
theorem row_ev : ∀ (s:Nat) (x:Int), 1≤x→x≤s→x<256→∃ t, Ev (fun k=>spec_l3Row.l0 k x) t
 | 0, x, h1, h2, _ => by omega
 | s+1, x, h1, h2, h3 => by
  by_cases c : Int.tmod x 2=0
  ·have hx : Int.tdiv x 2=x / 2 := Int.tdiv_eq_ediv_of_nonneg (by omega)
   have hm : Int.tmod x 2=x % 2 := Int.tmod_eq_emod_of_nonneg (by omega)
   obtain ⟨t, ht⟩:=row_ev s (x / 2) (by omega) (by omega) (by omega)
   refine ⟨t, Ev.step (fun k=>spec_l3Row.l0.eq_2 ..) (Ev.pos c ?_)⟩
   rw [hx, wrap_id (by omega) (by omega)]
   exact ht
  ·exact ⟨_, Ev.step (fun k=>spec_l3Row.l0.eq_2 ..) (Ev.neg c (Ev.ret rfl))⟩
theorem sflat_j1_false (l : List Int) (w:Int) : Ev (fun k=>spec_FlatOk.j1 k l w false) (treeOk l) :=
 Ev.step (fun k=>spec_FlatOk.j1.eq_2 ..) (Ev.neg (by decide) (Ev.bind (spec_TreeOk_ev l) (Ev.ret rfl)))
theorem sflat_l0 {l : List Int} (ht : treeOk l=true) : ∀ (d:Nat) (w:Int), 1≤w→w+d=l.length+1→∃ t, Ev (fun k=>spec_FlatOk.l0 k l w) t
 | 0, w, h1, h2 => ⟨treeOk l, Ev.step (fun k=>spec_FlatOk.l0.eq_2 ..) (Ev.neg (by omega) (sflat_j1_false l w))⟩
 | d+1, w, h1, h2 => by
  have hn := treeOk_len ht
  obtain ⟨e, _, he⟩:=tree_deep ht h1 (by omega)
  obtain ⟨v, v1, v2, hv⟩:=yield_ev ht l.length e w ⟨h1,by omega⟩ he (by omega)
  obtain ⟨t, hr⟩:=row_ev v.toNat v v1 (by omega) v2
  obtain ⟨t2, h3⟩:=sflat_l0 ht d (w+1) (by omega) (by omega)
  have e1 : wrap64 (w+1)=w+1 := wrap_id (by omega) (by omega)
  have hrow : Ev (fun k=>spec_l3Row.f k v) t := by unfold spec_l3Row.f; exact hr
  cases t with
  | true =>
   refine ⟨t2, Ev.step (fun k=>spec_FlatOk.l0.eq_2 ..) (Ev.pos (by omega) (Ev.bind (spec_TreeOk_ev l) (Ev.step (fun k=>spec_FlatOk.j1.eq_2 ..) (Ev.pos ht (Ev.bind hv (Ev.bind hrow (Ev.pos rfl ?_)))))))⟩
   rw [e1]
   exact h3
  | false => exact ⟨false, Ev.step (fun k=>spec_FlatOk.l0.eq_2 ..) (Ev.pos (by omega) (Ev.bind (spec_TreeOk_ev l) (Ev.step (fun k=>spec_FlatOk.j1.eq_2 ..) (Ev.pos ht (Ev.bind hv (Ev.bind hrow (Ev.neg (by decide) (Ev.ret rfl))))))))⟩
theorem spec_FlatOk_ends (l : List Int) : ∃ t, Ev (fun k=>spec_FlatOk.f k l) t∧(t=true→treeOk l=true):=by
 unfold spec_FlatOk.f
 by_cases ht : treeOk l=true
 ·obtain ⟨t, h⟩:=sflat_l0 ht l.length 1 (by omega) (by omega)
  exact ⟨t, h, fun _=>ht⟩
 ·have hf : treeOk l=false := by simpa using ht
  have h := sflat_j1_false l 1
  rw [hf] at h
  refine ⟨false, Ev.step (fun k=>spec_FlatOk.l0.eq_2 ..) (Ev.ite (fun _=>Ev.bind (spec_TreeOk_ev l) (by rw [hf]; exact h)) (fun _=>h)), fun q=>by cases q⟩
theorem odd_ev {b : List Int} (hb : Bytes b) (p n:Int) (h0 : 0≤p) (h1 : p≤1000000) (hn : 1≤n) (hn2 : n≤1000000) :
  ∃ v, Ev (fun k=>spec_l20Rd_odd.f k b p n) (v, p+1):=by
 obtain ⟨v, _, _, hv⟩:=pick_ev hb p n h0 h1 hn hn2
 unfold spec_l20Rd_odd.f
 exact ⟨_, Ev.pos (by omega) (Ev.bind hv (Ev.ret rfl))⟩
theorem odd_evG {b : List Int} (hb : Bytes b) (p n:Int) (h0 : 0≤p) (h1 : p≤1000000) (hn : 0≤n) (hn2 : n≤1000000) :
  ∃ v q, Ev (fun k=>spec_l20Rd_odd.f k b p n) (v, q)∧p≤q∧q≤p+1:=by
 by_cases h : 1≤n
 ·obtain ⟨v, hv⟩:=odd_ev hb p n h0 h1 h hn2
  exact ⟨v, p+1, hv,by omega,by omega⟩
 ·unfold spec_l20Rd_odd.f
  exact ⟨false, p, Ev.neg (by omega) (Ev.ret rfl),by omega,by omega⟩
def Within (n:Int) (l : List Int) : Prop := ∀ x ∈ l, 1≤x∧x≤n
theorem Within.get {n : Int} {l : List Int} (h : Within n l) {i : Int} (h0 : 0≤i) (h1 : i<l.length) : 1≤rd l i∧rd l i≤n:=by
 have e : rd l i=l[i.toNat]'(by omega) := by unfold rd; simp [show i.toNat<l.length by omega]
 rw [e]; exact h _ (List.getElem_mem _)
theorem order_next (x5 : List Int) (m x7:Int) (h7 : 1≤x7) (hw : Within (x7 - 1) x5) (h0 : 0≤m) (h1 : m≤x5.length) :
  Within x7 (([] ++ x5.take m.toNat ++ [x7]) ++ x5.drop m.toNat)∧(([] ++ x5.take m.toNat ++ [x7]) ++ x5.drop m.toNat).length=x5.length+1:=by
 constructor
 ·intro x hx
  simp only [List.nil_append, List.append_assoc, List.mem_append, List.mem_singleton] at hx
  rcases hx with hx | hx | hx
  ·have := hw x (List.mem_of_mem_take hx); omega
  ·omega
  ·have := hw x (List.mem_of_mem_drop hx); omega
 ·simp; omega
theorem order_l0 {b : List Int} (hb : Bytes b) (n keep:Int) (hn : n≤100) (d:Nat) : ∀ (x5 : List Int) (x7 p:Int), x7+d=n+1→1≤x7→(x5.length:Int)=x7 - 1→Within (x7 - 1) x5→0≤p→p≤1000+2 * x7 →
  ∃ r p', Ev (fun k=>spec_l20Order.l0 k n x5 keep x7 b p) (r, p')∧(r.length:Int)=n∧Within n r∧p≤p'∧p'≤p+2 * d:=by
 induction d with
 | zero =>
  intro x5 x7 p h7 h1 hl hw hp hp2
  refine ⟨x5, p, Ev.step (fun k=>spec_l20Order.l0.eq_2 ..) (Ev.neg (by omega) (Ev.ret rfl)),by omega, ?_,by omega,by omega⟩
  intro x hx
  have := hw x hx
  omega
 | succ d ih =>
  intro x5 x7 p h7 h1 hl hw hp hp2
  have put : ∀ (m p':Int), 0≤m→m≤x5.length→p≤p'→p'≤p+2→∃ r p'', Ev (fun k=>spec_l20Order.l0 k n (([] ++ x5.take m.toNat ++ [x7]) ++ x5.drop m.toNat) keep (x7+1) b p') (r, p'')∧(r.length:Int)=n∧Within n r∧p≤p''∧p''≤p+2 * ((d+1:Nat):Int):=by
   intro m p' hm0 hm1 hpp hpp2
   obtain ⟨hw', hl'⟩:=order_next x5 m x7 h1 hw hm0 hm1
   obtain ⟨r, p'', h1, h2, h3, h4, h5⟩:=ih (([] ++ x5.take m.toNat ++ [x7]) ++ x5.drop m.toNat) (x7+1) p' (by omega) (by omega) (by omega) (by rw [show x7+1 - 1=x7 by omega]; exact hw') (by omega) (by omega)
   exact ⟨r, p'', h1, h2, h3,by omega,by omega⟩
  have hlen : ∀ m : Int, 0≤m→m≤x5.length→(x5.take m.toNat).length≤200∧(x5.drop m.toNat).length≤200:=by
   intro m _ _; simp; omega
  by_cases hk : keep=0
  ·obtain ⟨v, hv0, hv1, hv⟩:=pick_ev hb p x7 hp (by omega) h1 (by omega)
   obtain ⟨r, p'', h, hrest⟩:=put v (p+1) hv0 (by omega) (by omega) (by omega)
   have hlen' := hlen v hv0 (by omega)
   refine ⟨r, p'', Ev.step (fun k=>spec_l20Order.l0.eq_2 ..) (Ev.pos (by omega) (Ev.pos hk (Ev.bind hv ?_))), hrest⟩
   simp only [Option.bind_some]
   rw [wrap_id (n := x7+1) (by omega) (by omega)]
   refine Ev.pos hv0 (Ev.pos (show v≤x5.length by omega) (Ev.pos ?_ (Ev.pos ?_ (Ev.pos ?_ h))))
   ·simp only [List.length_nil]; omega
   ·simp only [List.length_append, List.length_nil]; omega
   ·simp only [List.length_append, List.length_nil, List.length_singleton]; omega
  ·obtain ⟨u, hu0, hu1, hu⟩:=pick_ev hb p 3 hp (by omega) (by omega) (by omega)
   by_cases hu3 : u=0
   ·obtain ⟨v, hv0, hv1, hv⟩:=pick_ev hb (p+1) x7 (by omega) (by omega) h1 (by omega)
    obtain ⟨r, p'', h, hrest⟩:=put v (p+1+1) hv0 (by omega) (by omega) (by omega)
    have hlen' := hlen v hv0 (by omega)
    refine ⟨r, p'', Ev.step (fun k=>spec_l20Order.l0.eq_2 ..) (Ev.pos (by omega) (Ev.neg hk (Ev.bind hu (Ev.pos hu3 (Ev.bind hv ?_))))), hrest⟩
    simp only [Option.bind_some]
    rw [wrap_id (n := x7+1) (by omega) (by omega)]
    refine Ev.pos hv0 (Ev.pos (show v≤x5.length by omega) (Ev.pos ?_ (Ev.pos ?_ (Ev.pos ?_ h))))
    ·simp only [List.length_nil]; omega
    ·simp only [List.length_append, List.length_nil]; omega
    ·simp only [List.length_append, List.length_nil, List.length_singleton]; omega
   ·obtain ⟨r, p'', h, hrest⟩:=put (x5.length:Int) (p+1) (by omega) (by omega) (by omega) (by omega)
    have hlen' := hlen (x5.length:Int) (by omega) (by omega)
    refine ⟨r, p'', Ev.step (fun k=>spec_l20Order.l0.eq_2 ..) (Ev.pos (by omega) (Ev.neg hk (Ev.bind hu (Ev.neg hu3 ?_)))), hrest⟩
    simp only [Option.bind_some]
    rw [wrap_id (n := x7+1) (by omega) (by omega)]
    refine Ev.pos (by omega) (Ev.pos (by omega) (Ev.pos ?_ (Ev.pos ?_ (Ev.pos ?_ h))))
    ·simp only [List.length_nil]; omega
    ·simp only [List.length_append, List.length_nil]; omega
    ·simp only [List.length_append, List.length_nil, List.length_singleton]; omega
theorem order_ev {b : List Int} (hb : Bytes b) (p n:Int) (hp : 0≤p) (hp2 : p≤1000) (h0 : 0≤n) (hn : n≤100) :
  ∃ r p', Ev (fun k=>spec_l20Order.f k b p n) (r, p')∧(r.length:Int)=n∧Within n r∧p≤p'∧p'≤p+1+2 * n:=by
 obtain ⟨v, hv0, hv1, hv⟩:=pick_ev hb p 2 hp (by omega) (by omega) (by omega)
 obtain ⟨r, p', h, h1, h2, h3, h4⟩:=order_l0 hb n v hn n.toNat [] 1 (p+1) (by omega) (by omega) (by simp) (by intro x hx; simp at hx) (by omega) (by omega)
 unfold spec_l20Order.f
 exact ⟨r, p', Ev.bind hv h, h1, h2,by omega,by omega⟩
theorem tree_l0 {b : List Int} (hb : Bytes b) (n many near:Int) (ord : List Int) (hm : 1≤many) (hm2 : many≤8) (hn : 0≤n) (hn2 : n≤1000) (hol : (ord.length:Int)=many) (how : Within many ord) (d:Nat) :
  ∀ (heads : List Int) (x9 p:Int), x9+d=many→1≤x9→(heads.length:Int)=many→0≤p→p≤1500+2 * x9 →
  ∃ r p', Ev (fun k=>spec_l20Tree.l0 k n many ord heads near x9 b p) (r, p')∧r.length≤9∧p≤p'∧p'≤p+2 * d+3:=by
 induction d with
 | zero =>
  intro heads x9 p h9 h1 hl hp hp2
  obtain ⟨o, q, ho, hq1, hq2⟩:=odd_evG hb p n hp (by omega) hn (by omega)
  by_cases ho1 : o=true
  ·obtain ⟨u, hu0, hu1, hu⟩:=pick_ev hb (q) 4 (by omega) (by omega) (by omega) (by omega)
   by_cases e0 : u=0
   ·exact ⟨[], q+1, Ev.step (fun k=>spec_l20Tree.l0.eq_2 ..) (Ev.neg (by omega) (Ev.bind ho (Ev.pos ho1 (Ev.bind hu (Ev.pos e0 (Ev.ret rfl)))))), by simp,by omega,by omega⟩
   ·by_cases e1 : u=1
    ·exact ⟨[2, 1, 0], q+1, Ev.step (fun k=>spec_l20Tree.l0.eq_2 ..) (Ev.neg (by omega) (Ev.bind ho (Ev.pos ho1 (Ev.bind hu (Ev.neg e0 (Ev.pos e1 (Ev.ret rfl))))))), by simp,by omega,by omega⟩
    ·by_cases e2 : u=2
     ·obtain ⟨v, hv0, hv1, hv⟩:=pick_ev hb (q+1) many (by omega) (by omega) (by omega) (by omega)
      refine ⟨heads.set v.toNat 0 ++ [0], q+1+1, Ev.step (fun k=>spec_l20Tree.l0.eq_2 ..) (Ev.neg (by omega) (Ev.bind ho (Ev.pos ho1 (Ev.bind hu (Ev.neg e0 (Ev.neg e1 (Ev.pos e2 (Ev.bind hv (Ev.pos hv0 (Ev.pos (by omega) ?_)))))))))), by simp; omega,by omega,by omega⟩
      simp only [Option.bind_some]
      exact Ev.pos (by rw [List.length_set]; omega) (Ev.ret rfl)
     ·obtain ⟨v, hv0, hv1, hv⟩:=pick_ev hb (q+1) 3 (by omega) (by omega) (by omega) (by omega)
      refine ⟨heads.set 0 (rd [1, wrap64 (many+1), -1] v), q+1+1, Ev.step (fun k=>spec_l20Tree.l0.eq_2 ..) (Ev.neg (by omega) (Ev.bind ho (Ev.pos ho1 (Ev.bind hu (Ev.neg e0 (Ev.neg e1 (Ev.neg e2 ?_))))))), by simp; omega,by omega,by omega⟩
      simp only [Option.bind_some]
      exact Ev.bind hv (Ev.pos hv0 (Ev.pos (show v<(3:Int) by omega) (Ev.pos (by omega) (Ev.ret rfl))))
  ·exact ⟨heads, q, Ev.step (fun k=>spec_l20Tree.l0.eq_2 ..) (Ev.neg (by omega) (Ev.bind ho (Ev.neg ho1 (Ev.ret rfl)))),by omega,by omega,by omega⟩
 | succ d ih =>
  intro heads x9 p h9 h1 hl hp hp2
  obtain ⟨v, hv0, hv1, hv⟩:=pick_ev hb p x9 hp (by omega) h1 (by omega)
  have hr9 := how.get (i := x9) (by omega) (by omega)
  have next : ∀ (y p':Int), p≤p'→p'≤p+2→∃ r p'', Ev (fun k=>spec_l20Tree.l0 k n many ord (heads.set (rd ord x9 - 1).toNat y) near (x9+1) b p') (r, p'')∧r.length≤9∧p≤p''∧p''≤p+2 * ((d+1:Nat):Int)+3:=by
   intro y p' hpp hpp2
   obtain ⟨r, p'', h1, h2, h3, h4⟩:=ih (heads.set (rd ord x9 - 1).toNat y) (x9+1) p' (by omega) (by omega) (by simpa using hl) (by omega) (by omega)
   exact ⟨r, p'', h1, h2,by omega,by omega⟩
  have e1 : wrap64 (x9+1)=x9+1 := wrap_id (by omega) (by omega)
  have e2 : wrap64 (x9 - 1)=x9 - 1 := wrap_id (by omega) (by omega)
  have e3 : wrap64 (rd ord x9 - 1)=rd ord x9 - 1 := wrap_id (by omega) (by omega)
  by_cases hnr : near=1
  ·obtain ⟨u, hu0, hu1, hu⟩:=pick_ev hb (p+1) 2 (by omega) (by omega) (by omega) (by omega)
   by_cases hu2 : u=0
   ·obtain ⟨r, p'', h, hrest⟩:=next (rd ord (x9 - 1)) (p+1+1) (by omega) (by omega)
    refine ⟨r, p'', Ev.step (fun k=>spec_l20Tree.l0.eq_2 ..) ?_, hrest⟩
    rw [e1, e2, e3]
    exact Ev.pos (by omega) (Ev.bind hv (Ev.pos hnr (Ev.bind hu (Ev.pos hu2 (Ev.pos (by omega) (Ev.pos (by omega) (Ev.pos (by omega) (Ev.pos (by omega) (Ev.pos (by omega) (Ev.pos (by omega) h))))))))))
   ·obtain ⟨r, p'', h, hrest⟩:=next (rd ord v) (p+1+1) (by omega) (by omega)
    refine ⟨r, p'', Ev.step (fun k=>spec_l20Tree.l0.eq_2 ..) ?_, hrest⟩
    rw [e1, e2, e3]
    exact Ev.pos (by omega) (Ev.bind hv (Ev.pos hnr (Ev.bind hu (Ev.neg hu2 (Ev.pos (by omega) (Ev.pos (by omega) (Ev.pos (by omega) (Ev.pos (by omega) (Ev.pos (by omega) (Ev.pos (by omega) h))))))))))
  ·obtain ⟨r, p'', h, hrest⟩:=next (rd ord v) (p+1) (by omega) (by omega)
   refine ⟨r, p'', Ev.step (fun k=>spec_l20Tree.l0.eq_2 ..) ?_, hrest⟩
   rw [e1, e2, e3]
   exact Ev.pos (by omega) (Ev.bind hv (Ev.neg hnr (Ev.pos (by omega) (Ev.pos (by omega) (Ev.pos (by omega) (Ev.pos (by omega) (Ev.pos (by omega) (Ev.pos (by omega) h))))))))
theorem tree_ev {b : List Int} (hb : Bytes b) (p n:Int) (hp : 0≤p) (hp2 : p≤500) (hn : 0≤n) (hn2 : n≤1000) :
  ∃ r p', Ev (fun k=>spec_l20Tree.f k b p n) (r, p')∧r.length≤9∧p≤p'∧p'≤p+60:=by
 obtain ⟨v, hv0, hv1, hv⟩:=pick_ev hb p 7 hp (by omega) (by omega) (by omega)
 have e : wrap64 (1+v)=1+v := wrap_id (by omega) (by omega)
 obtain ⟨o, p1, ho, hol, how,hp1,hp1'⟩:=order_ev hb (p+1) (1+v) (by omega) (by omega) (by omega) (by omega)
 obtain ⟨u, hu0, hu1, hu⟩:=pick_ev hb p1 2 (by omega) (by omega) (by omega) (by omega)
 obtain ⟨r, p', h, h1, h2, h3⟩:=tree_l0 hb n (1+v) u o (by omega) (by omega) hn hn2 hol how v.toNat (List.replicate (1+v).toNat 0) 1 (p1+1) (by omega) (by omega) (by simp; omega) (by omega) (by omega)
 unfold spec_l20Tree.f
 refine ⟨r, p', Ev.bind hv ?_, h1,by omega,by omega⟩
 rw [e]
 exact Ev.bind ho (Ev.pos (by omega) (Ev.pos (by omega) (Ev.bind hu h)))
theorem fill_ev {b : List Int} (hb : Bytes b) (n:Nat) (hn : n≤8) (s:Nat) : ∀ (heads : List Int) (lo hi hd p:Int), heads.length=n→1≤lo→lo≤hi→hi≤n→hi - lo+1≤s→0≤p→p+2 * (hi - lo+1)≤5001 →
  ∃ r p', Ev (fun k=>spec_l20Fill.f k b p heads lo hi hd) (p', r)∧r.length=n∧p≤p'∧p'≤p+2 * (hi - lo+1) - 1:=by
 induction s with
 | zero => intro heads lo hi hd p hl h1 h2 h3 h4; omega
 | succ s ih =>
  intro heads lo hi hd p hl h1 h2 h3 h4 hp hp2
  have right : ∀ (d:Nat) (root:Int), lo≤root→∀ (hs : List Int) (from_ q:Int), from_+d=hi+1→root<from_→hs.length=n→0≤q→q+2 * (hi+1 - from_)≤5000 →
    ∃ r p', Ev (fun k=>spec_l20Fill.l1 k hs hi root from_ b q) (p', r)∧r.length=n∧q≤p'∧p'≤q+2 * (hi+1 - from_):=by
   intro d
   induction d using Nat.strongRecOn with
   | _ d ihd =>
    intro root hroot hs from_ q hd2 hrf hhl hq hq2
    by_cases hf : from_≤hi
    ·have e1 : wrap64 (wrap64 (hi - from_)+1)=hi - from_+1 := by rw [wrap_id (n := hi - from_) (by omega) (by omega), wrap_id (by omega) (by omega)]
     obtain ⟨v, hv0, hv1, hv⟩:=pick_ev hb q (hi - from_+1) hq (by omega) (by omega) (by omega)
     have e2 : wrap64 (from_+v)=from_+v := wrap_id (by omega) (by omega)
     have e3 : wrap64 (from_+v+1)=from_+v+1 := wrap_id (by omega) (by omega)
     obtain ⟨r1, p1, hr1, hl1,hp1,hp1'⟩:=ih hs from_ (from_+v) root (q+1) hhl (by omega) (by omega) (by omega) (by omega) (by omega) (by omega)
     obtain ⟨r2, p2, hr2, hl2,hp2,hp2'⟩:=ihd (d - v.toNat - 1) (by omega) root hroot r1 (from_+v+1) p1 (by omega) (by omega) hl1 (by omega) (by omega)
     refine ⟨r2, p2, Ev.step (fun k=>spec_l20Fill.l1.eq_2 ..) (Ev.pos hf ?_), hl2,by omega,by omega⟩
     rw [e1]
     exact Ev.bind hv (by simp only []; rw [e2, e3]; exact Ev.bind hr1 hr2)
    ·exact ⟨hs, q, Ev.step (fun k=>spec_l20Fill.l1.eq_2 ..) (Ev.neg hf (Ev.ret rfl)), hhl,by omega,by omega⟩
  have left : ∀ (d:Nat) (root:Int), lo≤root→root≤hi→∀ (hs : List Int) (from_ q:Int), from_+d=root→lo≤from_→hs.length=n→0≤q→q+2 * (hi - from_)≤5000 →
    ∃ r p', Ev (fun k=>spec_l20Fill.l0 k hs hi root from_ b q) (p', r)∧r.length=n∧q≤p'∧p'≤q+2 * (hi - from_):=by
   intro d
   induction d using Nat.strongRecOn with
   | _ d ihd =>
    intro root hroot hroot2 hs from_ q hd2 hlf hhl hq hq2
    by_cases hf : from_<root
    ·have e1 : wrap64 (root - from_)=root - from_ := wrap_id (by omega) (by omega)
     obtain ⟨v, hv0, hv1, hv⟩:=pick_ev hb q (root - from_) hq (by omega) (by omega) (by omega)
     have e2 : wrap64 (from_+v)=from_+v := wrap_id (by omega) (by omega)
     have e3 : wrap64 (from_+v+1)=from_+v+1 := wrap_id (by omega) (by omega)
     obtain ⟨r1, p1, hr1, hl1,hp1,hp1'⟩:=ih hs from_ (from_+v) root (q+1) hhl (by omega) (by omega) (by omega) (by omega) (by omega) (by omega)
     obtain ⟨r2, p2, hr2, hl2,hp2,hp2'⟩:=ihd (d - v.toNat - 1) (by omega) root hroot hroot2 r1 (from_+v+1) p1 (by omega) (by omega) hl1 (by omega) (by omega)
     refine ⟨r2, p2, Ev.step (fun k=>spec_l20Fill.l0.eq_2 ..) (Ev.pos hf ?_), hl2,by omega,by omega⟩
     rw [e1]
     exact Ev.bind hv (by simp only []; rw [e2, e3]; exact Ev.bind hr1 hr2)
    ·obtain ⟨r1, p1, hr1, hl1,hp1,hp1'⟩:=right (hi - root).toNat root hroot hs (root+1) q (by omega) (by omega) hhl hq (by omega)
     refine ⟨r1, p1, Ev.step (fun k=>spec_l20Fill.l0.eq_2 ..) (Ev.neg hf ?_), hl1,by omega,by omega⟩
     rw [wrap_id (n := root+1) (by omega) (by omega)]
     exact hr1
  have e1 : wrap64 (wrap64 (hi - lo)+1)=hi - lo+1 := by rw [wrap_id (n := hi - lo) (by omega) (by omega), wrap_id (by omega) (by omega)]
  obtain ⟨v, hv0, hv1, hv⟩:=pick_ev hb p (hi - lo+1) hp (by omega) (by omega) (by omega)
  have e2 : wrap64 (lo+v)=lo+v := wrap_id (by omega) (by omega)
  have e3 : wrap64 (lo+v - 1)=lo+v - 1 := wrap_id (by omega) (by omega)
  obtain ⟨r1, p1, hr1, hl1,hp1,hp1'⟩:=left v.toNat (lo+v) (by omega) (by omega) (heads.set (lo+v - 1).toNat hd) lo (p+1) (by omega) (by omega) (by simpa using hl) (by omega) (by omega)
  refine ⟨r1, p1, Ev.step (fun k=>spec_l20Fill.f.eq_2 ..) (Ev.neg (by omega) ?_), hl1,by omega,by omega⟩
  rw [e1]
  exact Ev.bind hv (by simp only []; rw [e2, e3]; exact Ev.pos (by omega) (Ev.pos (by omega) hr1))
theorem flat_ev {b : List Int} (hb : Bytes b) (p n:Int) (hp : 0≤p) (hp2 : p≤200) (hn : 0≤n) (hn2 : n≤1000) :
  ∃ r p', Ev (fun k=>spec_l20Flat.f k b p n) (r, p')∧r.length≤9∧p≤p'∧p'≤p+100:=by
 obtain ⟨v, hv0, hv1, hv⟩:=pick_ev hb p 3 hp (by omega) (by omega) (by omega)
 unfold spec_l20Flat.f
 by_cases e : v=0
 ·obtain ⟨r, p', h, h1, h2, h3⟩:=tree_ev hb (p+1) n (by omega) (by omega) hn hn2
  exact ⟨r, p', Ev.bind hv (Ev.pos e (Ev.bind h (Ev.ret rfl))), h1,by omega,by omega⟩
 ·obtain ⟨u, hu0, hu1, hu⟩:=pick_ev hb (p+1) 7 (by omega) (by omega) (by omega) (by omega)
  have e1 : wrap64 (1+u)=1+u := wrap_id (by omega) (by omega)
  obtain ⟨r, p', h, h1, h2, h3⟩:=fill_ev hb (1+u).toNat (by omega) 8 (List.replicate (1+u).toNat 0) 1 (1+u) 0 (p+1+1) (by simp) (by omega) (by omega) (by omega) (by omega) (by omega) (by omega)
  refine ⟨r, p', Ev.bind hv (Ev.neg e (Ev.bind hu ?_)),by omega,by omega,by omega⟩
  simp only []
  rw [e1]
  exact Ev.pos (by omega) (Ev.pos (by omega) (Ev.bind h (Ev.ret rfl)))
theorem eg_size (m:Int) (ws : List Int) (nx:Int) (hs : List Int) (n:Int) (h : (sm_eg m ws nx hs).1=true) : 2 * (n - (sm_eg m ws nx hs).2.2.1)+(sm_eg m ws nx hs).2.1.length+1=2 * (n - nx)+ws.length:=by
 by_cases h1 : m=83
 ·unfold sm_eg at h ⊢
  rw [if_pos h1] at h ⊢
  split at h
  ·cases h
  ·rename_i c
   rw [if_neg c]
   simp; omega
 ·by_cases h2 : ws=[]
  ·unfold sm_eg at h
   rw [if_neg h1, if_pos h2] at h
   cases h
  ·obtain ⟨xs, u, rfl⟩ : ∃ xs u, ws=xs ++ [u] := ⟨_, _, (List.dropLast_concat_getLast h2).symm⟩
   rw [sm_eg_one m xs u nx hs h1] at h ⊢
   split
   ·simp; omega
   ·split
    ·simp; omega
    ·split
     ·simp; omega
     ·rename_i c1 c2 c3
      rw [if_neg c1, if_neg c2, if_neg c3] at h
      cases h
theorem eloop_ends {l : List Int} : ∀ (k:Nat) (ws : List Int) (nx:Int) (hs : List Int), EInv l.length ws nx hs→2 * ((l.length:Int) - nx)+ws.length<k →
  ∃ ms t, sm_eloop l k ws nx hs=some (ms, t)∧(∀ m ∈ ms, m=83 ∨ m=76 ∨ m=82 ∨ m=68)∧ms.length<k
 | 0, ws, nx, hs, h, hk => by have := h.n1; omega
 | k+1, ws, nx, hs, h, hk => by
  unfold sm_eloop
  by_cases hn : nx<(l.length:Int)
  ·rw [if_pos hn]
   by_cases c : (sm_eg (sm_erule l ws nx) ws nx hs).1=true
   ·rw [if_pos c]
    have := eg_size (sm_erule l ws nx) ws nx hs l.length c
    obtain ⟨ms, t, g1, g2, g3⟩:=eloop_ends k _ _ _ (einv_eg (sm_erule l ws nx) h) (by omega)
    rw [g1]
    refine ⟨sm_erule l ws nx :: ms, t, rfl, fun m hm => ?_, by simp; omega⟩
    rcases List.mem_cons.1 hm with rfl | hm
    ·exact sm_erule_in l ws nx
    ·exact g2 m hm
   ·rw [if_neg c]
    exact ⟨[], false, rfl, by simp, by simp⟩
  ·rw [if_neg hn]
   exact ⟨[], true, rfl, by simp, by simp⟩
theorem spec_EagerFor_ev (l : List Int) : ∃ s t, Ev (fun k=>spec_EagerFor.f k l) (s, t)∧s.size≤40:=by
 obtain ⟨t, h, ht⟩:=spec_FlatOk_ends l
 unfold spec_EagerFor.f
 by_cases c : t=true
 ·have hn := treeOk_len (ht c)
  obtain ⟨ms, r, g1, g2, g3⟩:=eloop_ends (l := l) 40 [] 0 _ (einv_start l.length) (by simp; omega)
  have g0 : (ss_sloop l 40 [] 1 (List.replicate l.length (-1))).map (fun r=>(ss_stext r, r.2))=some (ss_stext (ms, r), r) := by rw [sloop_start, g1]; rfl
  refine ⟨ss_stext (ms, r), r, Ev.bind h (Ev.pos c (Ev.pos hn ⟨0, fun _ _ => g0⟩)), ?_⟩
  ·unfold ss_stext
   cases r with
   | true =>
    rw [if_pos rfl, adds_eq ms ⟨#[]⟩ ⟨#[]⟩ g2 rfl, ← bytesOf_length, bytes_addm4 ms _ g2, List.length_append]
    show 0+ms.length≤40
    omega
   | false => rw [if_neg (show ¬ false=true by decide)]; show 0≤40; omega
 ·exact ⟨⟨#[]⟩, false, Ev.bind h (Ev.neg c (Ev.ret rfl)), by show 0≤40; omega⟩
theorem etry_ev {b : List Int} (hb : Bytes b) (kk:Int) (ws : List Int) (p:Int) (h0 : 0≤p) (h1 : p≤900000) : ∃ m p', Ev (fun k=>ss_etry (spec_l20Rd_pick.f k b) kk ws p) (m, p')∧p≤p'∧p'≤p+2:=by
 obtain ⟨v, v0, v1, hv⟩:=pick_ev hb p 6 h0 (by omega) (by omega) (by omega)
 unfold ss_etry
 by_cases c1 : ws=[]
 ·exact ⟨83, p+1, Ev.bind hv (Ev.pos ⟨v0, v1⟩ (Ev.pos c1 (Ev.ret rfl))),by omega,by omega⟩
 ·by_cases c2 : 20<kk
  ·exact ⟨82, p+1, Ev.bind hv (Ev.pos ⟨v0, v1⟩ (Ev.neg c1 (Ev.pos c2 (Ev.ret rfl)))),by omega,by omega⟩
  ·by_cases c3 : ss_emv v=83
   ·obtain ⟨u, u0, u1, hu⟩:=pick_ev hb (p+1) 2 (by omega) (by omega) (by omega) (by omega)
    exact ⟨_, p+1+1, Ev.bind hv (Ev.pos ⟨v0, v1⟩ (Ev.neg c1 (Ev.neg c2 (Ev.pos c3 (Ev.bind hu (Ev.ret rfl)))))),by omega,by omega⟩
   ·exact ⟨_, p+1, Ev.bind hv (Ev.pos ⟨v0, v1⟩ (Ev.neg c1 (Ev.neg c2 (Ev.neg c3 (Ev.ret rfl))))),by omega,by omega⟩
theorem byteS_size (m:Int) : (ss_byteS m).size=1 := rfl
theorem edraw_ev {b : List Int} (hb : Bytes b) (n:Int) : ∀ (q:Nat) (ws : List Int) (nt:Int) (hs : List Int) (out : ByteArray) (p:Int), 0≤p→p+2 * q≤900000 →
  ∃ r p', Ev (fun k=>ss_edraw (spec_l20Rd_pick.f k b) n q ws nt hs out p) (r, p')∧r.size≤out.size+q∧p≤p'∧p'≤p+2 * q
 | 0, ws, nt, hs, out, p, h0, h1 => ⟨out, p, Ev.ret rfl,by omega,by omega,by omega⟩
 | q+1, ws, nt, hs, out, p, h0, h1 => by
  unfold ss_edraw
  by_cases c : nt≤n
  ·obtain ⟨m, p1, hm, g1, g2⟩:=etry_ev hb (30 - ((q:Int)+1)) ws p h0 (by omega)
   by_cases c2 : (ss_sp m ws nt hs).1=true
   ·obtain ⟨r, p', hr, k1, k2, k3⟩:=edraw_ev hb n q (ss_sp m ws nt hs).2.1 (ss_sp m ws nt hs).2.2.1 (ss_sp m ws nt hs).2.2.2 (out ++ ss_byteS m) p1 (by omega) (by omega)
    refine ⟨r, p', Ev.pos c (Ev.bind hm (Ev.pos c2 hr)), ?_,by omega,by omega⟩
    rw [ByteArray.size_append, byteS_size] at k1
    omega
   ·obtain ⟨r, p', hr, k1, k2, k3⟩:=edraw_ev hb n q ws nt hs out p1 (by omega) (by omega)
    exact ⟨r, p', Ev.pos c (Ev.bind hm (Ev.neg c2 hr)),by omega,by omega,by omega⟩
  ·exact ⟨out, p, Ev.neg c (Ev.ret rfl),by omega,by omega,by omega⟩
theorem endRow : ∀ v : Int, 0≤v→v<4→(rdOf ByteArray.empty ([(⟨#[]⟩ : ByteArray), (⟨#[83]⟩ : ByteArray), (⟨#[68]⟩ : ByteArray), (⟨#[120]⟩ : ByteArray)] : List ByteArray) v).size≤4:=by
 intro v h0 h1
 have h : v=0 ∨ v=1 ∨ v=2 ∨ v=3 := by omega
 rcases h with rfl | rfl | rfl | rfl <;> decide
theorem end_j0 {b : List Int} (hb : Bytes b) (p:Int) (s : ByteArray) (t : Bool) (hp : 0≤p) (hp2 : p≤900000) (hs : s.size≤900000) (ht : t=true→1≤s.size) :
  ∃ r p', Ev (fun k=>ss_lEnd.j0 k s t b p) (r, p')∧r.size≤s.size+4:=by
 cases t with
 | false => exact ⟨s, p, Ev.step (fun k=>ss_lEnd.j0.eq_2 ..) (Ev.neg (by decide) (Ev.ret rfl)),by omega⟩
 | true =>
  have h := ht rfl
  obtain ⟨v, hv0, hv1, hv⟩:=pick_ev hb p (s.size:Int) hp (by omega) (by omega) (by omega)
  obtain ⟨u, hu0, hu1, hu⟩:=pick_ev hb (p+1) 4 (by omega) (by omega) (by omega) (by omega)
  have e : wrap64 (v+1)=v+1 := wrap_id (by omega) (by omega)
  have hr := endRow u hu0 (by omega)
  have z1 : (s.extract 0 v.toNat).size=v.toNat := by rw [ByteArray.size_extract]; omega
  have z2 : (s.extract (v+1).toNat s.size).size=s.size - (v+1).toNat := by rw [ByteArray.size_extract]; omega
  refine ⟨(((s.extract 0 v.toNat) ++ (rdOf ByteArray.empty ([(⟨#[]⟩ : ByteArray), (⟨#[83]⟩ : ByteArray), (⟨#[68]⟩ : ByteArray), (⟨#[120]⟩ : ByteArray)] : List ByteArray) u)) ++ (s.extract (v+1).toNat s.size)), p+1+1, Ev.step (fun k=>ss_lEnd.j0.eq_2 ..) (Ev.pos rfl (Ev.bind hv (Ev.pos hv0 (Ev.pos (by omega) (Ev.bind0 rfl (Ev.bind hu (Ev.pos hu0 (Ev.pos (show u<(4:Int) by omega) (Ev.pos (by simp only [z1]; omega) ?_))))))))), ?_⟩
  ·rw [e]
   refine Ev.pos (by omega) (Ev.pos (by omega) (Ev.pos (by simp only [ByteArray.size_append, z1, z2]; omega) (Ev.ret rfl)))
  ·rw [ByteArray.size_append, ByteArray.size_append, z1, z2]; omega
theorem l20Eager_ev {b : List Int} (hb : Bytes b) (p n:Int) (hp : 0≤p) (hp2 : p≤1000) (h1 : 1≤n) (h8 : n≤8) : ∃ r p', Ev (fun k=>spec_l20Eager.f k b p n) (r, p')∧r.size≤40:=by
 obtain ⟨R, P, hR, k1, k2, k3⟩:=edraw_ev hb n 30 [] 1 (List.replicate n.toNat (-1)) ⟨#[]⟩ p hp (by omega)
 have k1 : R.size≤0+30 := k1
 obtain ⟨v, hv⟩:=odd_ev hb P 8 (by omega) (by omega) (by omega) (by omega)
 have hend : ∃ r p', Ev (fun k=>ss_lEnd.f k b P R) (r, p')∧r.size≤R.size+4:=by
  unfold ss_lEnd.f
  cases v with
  | true =>
   obtain ⟨r, p', g1, g2⟩:=end_j0 hb (P+1) R (decide ((R.size:Int) > 0)) (by omega) (by omega) (by omega) (fun q=>by have := of_decide_eq_true q; omega)
   exact ⟨r, p', Ev.bind hv (Ev.pos rfl g1), g2⟩
  | false =>
   obtain ⟨r, p', g1, g2⟩:=end_j0 hb (P+1) R false (by omega) (by omega) (by omega) (fun q=>by cases q)
   exact ⟨r, p', Ev.bind hv (Ev.neg (show ¬ false=true by decide) g1), g2⟩
 obtain ⟨r, p', g1, g2⟩:=hend
 unfold spec_l20Eager.f
 exact ⟨r, p', Ev.pos ⟨h1, h8⟩ (Ev.bind hR g1),by omega⟩
theorem drawRunEager_ev {l : List Int} (hb : ∀ x ∈ l, (Lit.int .u8 x).wf=true) (hl : (l.length:Int)≤1048576) : ∃ w m, Ev (fun k=>spec_DrawRunEager.f k l) (w, m)∧m.size≤1000:=by
 obtain ⟨b, hB, hopen⟩:=l20Open_ev l hb
 obtain ⟨v, v0, v1, hv⟩:=pick_ev hB 0 8 (by omega) (by omega) (by omega) (by omega)
 obtain ⟨u, u0, u1, hu⟩:=pick_ev hB (0+1) 3 (by omega) (by omega) (by omega) (by omega)
 have e : wrap64 (1+v)=1+v := wrap_id (by omega) (by omega)
 unfold spec_DrawRunEager.f
 by_cases c : u=0
 ·obtain ⟨r, p', hr, h1, h2, h3⟩:=flat_ev hB (0+1+1) 0 (by omega) (by omega) (by omega) (by omega)
  obtain ⟨s, t, hs, s1⟩:=spec_EagerFor_ev r
  by_cases ct : t=true
  ·exact ⟨_, s, Ev.bind0 hopen (Ev.bind hv (Ev.bind hu (Ev.pos c (Ev.bind hr (Ev.bind hs (Ev.pos ct (Ev.ret rfl))))))),by omega⟩
  ·obtain ⟨x, x0, x1, hx⟩:=pick_ev hB p' 30 (by omega) (by omega) (by omega) (by omega)
   obtain ⟨y, q, hy, y1⟩:=l20Eager_ev hB (p'+1) (1+v) (by omega) (by omega) (by omega) (by omega)
   refine ⟨_, y, Ev.bind0 hopen (Ev.bind hv (Ev.bind hu (Ev.pos c (Ev.bind hr (Ev.bind hs (Ev.neg ct (Ev.bind hx (Ev.bind (by rw [e]; exact hy) (Ev.ret rfl))))))))),by omega⟩
 ·obtain ⟨x, x0, x1, hx⟩:=pick_ev hB (0+1+1) 30 (by omega) (by omega) (by omega) (by omega)
  obtain ⟨y, q, hy, y1⟩:=l20Eager_ev hB (0+1+1+1) (1+v) (by omega) (by omega) (by omega) (by omega)
  exact ⟨_, y, Ev.bind0 hopen (Ev.bind hv (Ev.bind hu (Ev.neg c (Ev.bind hx (Ev.bind (by rw [e]; exact hy) (Ev.ret rfl)))))),by omega⟩
theorem FnRunEager : laws_FnRunEager.Pure:=by
 intro l _ _ hb
 refine Ev.rounds (g := fun k=>laws_FnRunEager.f k l) ?_
 unfold laws_FnRunEager.f
 refine Ev.ite (fun h=>Ev.ret rfl) (fun h=>?_)
 obtain ⟨words, moves, hd, hsz⟩:=drawRunEager_ev hb (by omega)
 have hi : impl_RunEager.f words moves=some (sm_runE words moves) := by unfold impl_RunEager.f; rw [if_pos (by omega)]
 have hsp : spec_RunEager.f words moves=some (sm_runE words moves) := by unfold spec_RunEager.f; rw [if_pos (by omega), srunE_eq]
 obtain ⟨⟨hs, ok⟩, hrun⟩ : ∃ r, sm_runE words moves=r := ⟨_, rfl⟩
 rw [hrun] at hi hsp
 cases ok with
 | false =>
  have he : hs=[]:=by
   unfold sm_runE at hrun
   split at hrun
   ·simpa using hrun.symm
   ·split at hrun
    ·simpa using hrun.symm
    ·unfold sm_eend at hrun
     split at hrun
     ·simpa using hrun.symm
     ·simp at hrun
  subst he
  exact Ev.bind hd (Ev.bind0 hi (Ev.bind0 hsp (Ev.bind (sameInts_ev [] [] (by simp)) (Ev.pos (by simp) (Ev.step (fun k=>laws_FnRunEager.j0.eq_2 ..) (Ev.neg (show ¬ (false != false)=true by decide) (Ev.neg (show ¬ false=true by decide) (Ev.pos rfl (Ev.bind alive_ev (Ev.ret rfl))))))))))
 | true =>
  obtain ⟨hx, hf, hw⟩:=runE_flat hrun
  have hn := treeOk_len hx
  subst hw
  generalize hs=x at *
  obtain ⟨ms, g1, g2, g3⟩:=eager_told hx hf
  have hfb := (flatB_iff hx).mpr hf
  have hrs : impl_RunStack.f (x.length:Int) (sm_addm ⟨#[]⟩ (sm_told x (2 * x.length - 1) [] 0 (List.replicate x.length 0)))=some (x, true):=by
   unfold impl_RunStack.f
   have hsz : (sm_addm ⟨#[]⟩ (sm_told x (2 * x.length - 1) [] 0 (List.replicate x.length 0))).size≤1000000000:=by
    rw [← bytesOf_length, bytes_addm _ _ (told_codes x _ _ _ _).1, List.length_append, (told_codes x _ _ _ _).2]
    show 0+_≤_
    omega
   rw [if_pos hsz, run_told hx hf]
  have hmf : Ev (fun k=>impl_MovesFor.f k x) (sm_addm ⟨#[]⟩ (sm_told x (2 * x.length - 1) [] 0 (List.replicate x.length 0)), true):=by
   unfold impl_MovesFor.f
   exact Ev.bind (impl_FlatOk_ev x) (Ev.pos hfb (Ev.pos hn (Ev.ret rfl)))
  have hef : Ev (fun k=>impl_EagerFor.f k x) (sm_etext (ms, true), true):=by
   unfold impl_EagerFor.f
   exact Ev.bind (impl_FlatOk_ev x) (Ev.pos hfb (Ev.pos hn ⟨0, fun _ _ => by rw [g1]; rfl⟩))
  have hre : impl_RunEager.f (x.length:Int) (sm_etext (ms, true))=some (x, true) := by unfold impl_RunEager.f; rw [if_pos (by omega), g3]
  exact Ev.bind hd (Ev.bind0 hi (Ev.bind0 hsp (Ev.bind (sameInts_ev x x (by omega)) (Ev.pos (by simp) (Ev.step (fun k=>laws_FnRunEager.j0.eq_2 ..) (Ev.neg (show ¬ (true != true)=true by decide) (Ev.pos rfl (Ev.bind hef (Ev.bind0 hre (Ev.bind hmf (Ev.bind0 hrs (Ev.bind (impl_FlatOk_ev x) (Ev.pos hfb (Ev.pos rfl (Ev.pos rfl (Ev.bind (sameInts_ev x x (by omega)) (Ev.pos (by simp) (Ev.pos rfl (Ev.pos rfl (Ev.bind (sameInts_ev x x (by omega)) (Ev.ret (by simp))))))))))))))))))))))
end Go.Proofs.Ytbbhdgpiocojaaa.Pure
