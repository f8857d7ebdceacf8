/- The plain statement of FnExactDeskNew: the printed functions answer true for all arguments within the printed bounds; no other conditions. -/
import Derived.Test.YtpdnocpnibcicaaLGx4
import Derived.ChangeSlices
import Derived.SizedLaws
import Derived.Test.YtpdnocpnibcicaaVSized
namespace Go.Proofs.Ytpdnocpnibcicaa.Pure
open Go.RowKit Go.Proofs.Ytpdnocpnibcicaa.LG Go.Proofs.YtpdnocpnibcicaaV.PrintWords Go.Proofs.YtpdnocpnibcicaaV.PrintLast
set_option linter.unusedVariables false
set_option linter.unusedSimpArgs false

theorem Ev.ret {α : Type} {r r' : α} (h : r = r') : Ev (fun _ => some r) r' := ⟨0, fun _ _ => by rw [h]⟩
theorem Ev.pos {α : Type} {c : Prop} [Decidable c] {g f : Nat → Option α} {r : α} (h : c) (k : Ev g r) : Ev (fun n => if c then g n else f n) r := by
  simpa only [if_pos h] using k
theorem Ev.neg {α : Type} {c : Prop} [Decidable c] {g f : Nat → Option α} {r : α} (h : ¬ c) (k : Ev f r) : Ev (fun n => if c then g n else f n) r := by
  simpa only [if_neg h] using k
theorem Ev.ite {α : Type} {c : Prop} [Decidable c] {g f : Nat → Option α} {r : α} (h : c → Ev g r) (k : ¬ c → Ev f r) : Ev (fun n => if c then g n else f n) r := by
  by_cases hc : c
  · exact Ev.pos hc (h hc)
  · exact Ev.neg hc (k hc)
theorem Ev.bind0 {α β : Type} {o : Option α} {f : Nat → α → Option β} {a : α} {r : β} (h : o = some a) (k : Ev (fun n => f n a) r) : Ev (fun n => o.bind (f n)) r := by
  subst h; simpa only [Option.bind_some] using k
theorem Ev.eq {α : Type} {g : Nat → Option α} {r r' : α} (h : Ev g r) (e : r = r') : Ev g r' := e ▸ h
theorem wrap_id {n : Int} (h0 : -9223372036854775808 ≤ n) (h1 : n < 9223372036854775808) : wrap64 n = n := by
  unfold wrap64; omega
theorem wrap_add1 {n : Nat} (h : n < 1099511627776) : wrap64 ((n : Int) + 1) = ((n + 1 : Nat) : Int) := by
  unfold wrap64; omega
theorem rd_nat (l : List Int) (j : Nat) : rd l (j : Int) = l.getD j 0 := by simp [rd]

open Go.ChangeShapes Go.WideShapes in
/-- the printed row names this lemma so: it is the words' own -/
theorem _root_.Go.Proofs.Ytpdnocpnibcicaa.PrintWords.sized_ints {H : Type} {enc : TypeId × Value → H} {P : Program} {W : World} {base : Nat} {spare : Nat → Bool} {held : Bool} {t e : TypeId} {k : IntKind} {a : Option Addr} {len cap : Nat} {d : DataW H} {ps : List MemPlace} {ts : List TypeId} {ds : List (DataW H)} {j : Nat}
    (hsz : (DataW.weightsEach P ts ds).all (· ≤ reachBytes) = true) (ht : ts[j]? = some t) (hd : ds[j]? = some d) (hu : P.underlying t = some (.slice e)) (he : P.underlying e = some (.int k)) (hc : P.cellsOf e = 1) {B : Nat} (hB : P.bytesOf e = B)
    (h : DataW.Trod enc P W base spare held t (.slice a len cap) d ps) : len * B ≤ 140737488351232 :=
  Go.Proofs.YtpdnocpnibcicaaV.PrintWords.sized_ints hsz ht hd hu he hc hB h

/-- whether one comes from a word to 0 within so many steps, over numbers of words or 0 alone -/
def walkOk (l : List Int) : Nat → Int → Bool
  | 0, a => decide (a ≤ 0)
  | m + 1, a => if a ≤ 0 then true else decide (0 ≤ rd l (a - 1) ∧ rd l (a - 1) ≤ l.length) && walkOk l m (rd l (a - 1))
def okAt (l : List Int) (i : Nat) : Bool := decide (0 ≤ rd l i ∧ rd l i ≤ l.length) && walkOk l l.length ((i : Int) + 1)
def zerosFrom (l : List Int) (j : Nat) : Nat := (l.drop j).count 0
def treeOk (l : List Int) : Bool := decide (1 ≤ l.length ∧ l.length ≤ 8) && (List.range l.length).all (okAt l) && decide (l.count 0 = 1)

theorem walkOk_self (l : List Int) (a : Int) (ha : 0 < a) (h : rd l (a - 1) = a) : ∀ m, walkOk l m a = false
  | 0 => by simp [walkOk]; omega
  | m + 1 => by
    unfold walkOk
    rw [if_neg (by omega), h, walkOk_self l a ha h m, Bool.and_false]

theorem zerosFrom_succ (l : List Int) (j : Nat) (h : j < l.length) : zerosFrom l j = (if rd l j = 0 then 1 else 0) + zerosFrom l (j + 1) := by
  unfold zerosFrom
  rw [List.drop_eq_getElem_cons h, List.count_cons]
  have e : rd l j = l[j] := by simp [rd_nat, h]
  rw [e]
  by_cases e : l[j] = 0 <;> simp [e, Nat.add_comm]
theorem zerosFrom_le (l : List Int) (j : Nat) : zerosFrom l j ≤ l.length := by
  unfold zerosFrom
  exact Nat.le_trans List.count_le_length (by simp)

theorem all_from (p : Nat → Bool) (n j : Nat) (h : j < n) : ((List.range' j (n - j)).all p) = (p j && (List.range' (j + 1) (n - (j + 1))).all p) := by
  obtain ⟨d, hd⟩ : ∃ d, n - j = d + 1 := ⟨n - j - 1, by omega⟩
  rw [hd, List.range'_succ, List.all_cons, show n - (j + 1) = d by omega]

def restOk (l : List Int) (r : Nat) (j : Nat) : Bool := (List.range' j (l.length - j)).all (okAt l) && decide (r + zerosFrom l j = 1)
theorem restOk_end (l : List Int) (r : Nat) (j : Nat) (h : j = l.length) : restOk l r j = ((r : Int) == 1) := by
  subst h
  unfold restOk zerosFrom
  simp
  rw [Bool.eq_iff_iff]; simp; omega
theorem restOk_bad (l : List Int) (r : Nat) (j : Nat) (h : j < l.length) (hb : okAt l j = false) : restOk l r j = false := by
  unfold restOk
  rw [all_from _ _ _ h, hb]; rfl
theorem restOk_good (l : List Int) (r : Nat) (j : Nat) (h : j < l.length) (hb : okAt l j = true) : restOk l r j = restOk l (r + if rd l j = 0 then 1 else 0) (j + 1) := by
  unfold restOk
  rw [all_from _ _ _ h, hb, Bool.true_and, zerosFrom_succ l j h, Nat.add_assoc]
theorem restOk_zero (l : List Int) (h : 1 ≤ l.length ∧ l.length ≤ 8) : restOk l 0 0 = treeOk l := by
  unfold restOk treeOk zerosFrom
  rw [decide_eq_true h]
  simp [List.range_eq_range']

theorem l1In_eq (a b c : Int) : spec_l1In.f a b c = some (decide (b ≤ a ∧ a ≤ c)) := by
  unfold spec_l1In.f
  split
  · rename_i h; congr 1; rw [decide_eq_decide]; omega
  · rename_i h; congr 1; symm; rw [decide_eq_false_iff_not]; omega

/-- the inner walk of the reference -/
theorem spec_walk (l : List Int) (r j : Nat) (hl : l.length ≤ 8) (hj : j < l.length) (_ : r ≤ 8)
    (next : Ev (fun k => spec_TreeOk.l0 k l (l.length : Int) (r : Int) ((j + 1 : Nat) : Int)) (restOk l r (j + 1)))
    (d : Nat) : ∀ (s : Nat) (a : Int), s + d = l.length → 0 ≤ a → a ≤ l.length →
    Ev (fun k => spec_TreeOk.l1 k l (l.length : Int) (r : Int) (j : Int) a (s : Int)) (walkOk l d a && restOk l r (j + 1)) := by
  induction d with
  | zero =>
    intro s a hs h0 h1
    refine Ev.step (fun k => spec_TreeOk.l1.eq_2 ..) ?_
    refine Ev.ite (fun ha => ?_) (fun ha => ?_)
    · rw [decide_eq_false (by omega)]
      refine Ev.step (fun k => spec_TreeOk.j4.eq_2 ..) ?_
      refine Ev.neg (by simp) (Ev.pos ha (Ev.ret ?_))
      simp [walkOk, show ¬ a ≤ 0 by omega]
    · refine Ev.step (fun k => spec_TreeOk.j4.eq_2 ..) ?_
      refine Ev.neg (by simp) (Ev.neg ha ?_)
      rw [wrap_add1 (by omega)]
      exact Ev.eq next (by simp [walkOk, show a ≤ 0 by omega])
  | succ d ih =>
    intro s a hs h0 h1
    refine Ev.step (fun k => spec_TreeOk.l1.eq_2 ..) ?_
    refine Ev.ite (fun ha => ?_) (fun ha => ?_)
    · rw [decide_eq_true (by omega)]
      refine Ev.step (fun k => spec_TreeOk.j4.eq_2 ..) ?_
      refine Ev.pos rfl ?_
      rw [wrap_id (by omega) (by omega)]
      refine Ev.pos (by omega) (Ev.pos (by omega) (Ev.bind0 (l1In_eq ..) ?_))
      refine Ev.ite (fun hc => ?_) (fun hc => ?_)
      · have hc' := of_decide_eq_true hc
        rw [wrap_add1 (by omega)]
        refine Ev.eq (ih (s + 1) (rd l (a - 1)) (by omega) hc'.1 hc'.2) ?_
        simp [walkOk, show ¬ a ≤ 0 by omega, hc'.1, hc'.2]
      · refine Ev.ret ?_
        have hc' : ¬ (0 ≤ rd l (a - 1) ∧ rd l (a - 1) ≤ (l.length : Int)) := by simpa using hc
        simp [walkOk, show ¬ a ≤ 0 by omega, decide_eq_false hc']
    · refine Ev.step (fun k => spec_TreeOk.j4.eq_2 ..) ?_
      refine Ev.neg (by simp) (Ev.neg ha ?_)
      rw [wrap_add1 (by omega)]
      exact Ev.eq next (by simp [walkOk, show a ≤ 0 by omega])

theorem spec_TreeOk_l0 (l : List Int) (hl : l.length ≤ 8) (d : Nat) : ∀ (r j : Nat), j + d = l.length → r ≤ j →
    Ev (fun k => spec_TreeOk.l0 k l (l.length : Int) (r : Int) (j : Int)) (restOk l r j) := by
  induction d with
  | zero =>
    intro r j hj hr
    refine Ev.step (fun k => spec_TreeOk.l0.eq_2 ..) ?_
    exact Ev.neg (by omega) (Ev.ret (restOk_end l r j (by omega)).symm)
  | succ d ih =>
    intro r j hj hr
    refine Ev.step (fun k => spec_TreeOk.l0.eq_2 ..) ?_
    refine Ev.pos (by omega) (Ev.pos (by omega) (Ev.pos (by omega) (Ev.bind0 (l1In_eq ..) ?_)))
    refine Ev.ite (fun hc => ?_) (fun hc => ?_)
    · have hc' := of_decide_eq_true hc
      refine Ev.step (fun k => spec_TreeOk.j1.eq_2 ..) ?_
      rw [wrap_add1 (by omega)]
      refine Ev.ite (fun he => ?_) (fun he => ?_)
      · refine Ev.ret (restOk_bad l r j (by omega) ?_).symm
        have he' : rd l (j : Int) = ((j + 1 : Nat) : Int) := by simpa using he
        unfold okAt
        rw [walkOk_self l ((j : Int) + 1) (by omega) (by rw [show (j : Int) + 1 - 1 = (j : Int) by omega, he']; omega), Bool.and_false]
      · have hfin : ∀ (r' : Nat), r' = r + (if rd l j = 0 then 1 else 0) → Ev (fun k => spec_TreeOk.l1 k l (l.length : Int) (r' : Int) (j : Int) ((j + 1 : Nat) : Int) 0) (restOk l r j) := by
          intro r' hr'
          have hr8 : r' ≤ j + 1 := by subst hr'; split <;> omega
          refine Ev.eq (spec_walk l r' j hl (by omega) (by omega) (ih r' (j + 1) (by omega) hr8) l.length 0 ((j + 1 : Nat) : Int) (by omega) (by omega) (by omega)) ?_
          by_cases hw : walkOk l l.length ((j : Int) + 1) = true
          · rw [restOk_good l r j (by omega) (by unfold okAt; rw [hw, decide_eq_true hc']; rfl), ← hr', show ((j + 1 : Nat) : Int) = (j : Int) + 1 by omega, hw]; rfl
          · have hw' : walkOk l l.length ((j : Int) + 1) = false := by simpa using hw
            rw [restOk_bad l r j (by omega) (by unfold okAt; rw [hw']; simp), show ((j + 1 : Nat) : Int) = (j : Int) + 1 by omega, hw']; rfl
        refine Ev.pos (by omega) (Ev.pos (by omega) (Ev.ite (fun hz => ?_) (fun hz => ?_)))
        · rw [wrap_add1 (by omega)]
          refine Ev.step (fun k => spec_TreeOk.j2.eq_2 ..) ?_
          rw [wrap_add1 (by omega)]
          exact hfin (r + 1) (by rw [if_pos hz])
        · refine Ev.step (fun k => spec_TreeOk.j2.eq_2 ..) ?_
          rw [wrap_add1 (by omega)]
          exact hfin r (by rw [if_neg hz]; rfl)
    · refine Ev.step (fun k => spec_TreeOk.j1.eq_2 ..) ?_
      refine Ev.pos rfl (Ev.ret (restOk_bad l r j (by omega) ?_).symm)
      have hc' : ¬ (0 ≤ rd l (j : Int) ∧ rd l (j : Int) ≤ (l.length : Int)) := by simpa using hc
      unfold okAt
      rw [decide_eq_false hc']; rfl

theorem spec_TreeOk_ev (l : List Int) : Ev (fun k => spec_TreeOk.f k l) (treeOk l) := by
  unfold spec_TreeOk.f
  refine Ev.bind0 (l1In_eq ..) ?_
  refine Ev.ite (fun hc => ?_) (fun hc => ?_)
  · have hc' := of_decide_eq_true hc
    exact Ev.eq (spec_TreeOk_l0 l (by omega) l.length 0 0 (by omega) (by omega)) (restOk_zero l (by omega))
  · refine Ev.ret ?_
    have hc' : ¬ (1 ≤ (l.length : Int) ∧ (l.length : Int) ≤ 8) := by simpa using hc
    unfold treeOk
    rw [decide_eq_false (by omega)]; rfl

def deskNewOf (l : List Int) : List Int × List (List Int) × Bool := if treeOk l = true then (l, [], true) else ([], [], false)
theorem deskNewOf_len (l : List Int) : (deskNewOf l).1.length ≤ l.length := by
  unfold deskNewOf
  split <;> simp
theorem deskNewOf_rows (l : List Int) : (deskNewOf l).2.1 = [] := by
  unfold deskNewOf
  split <;> rfl

theorem spec_DeskNew_ev (l : List Int) (hl : l.length ≤ 1048576) : Ev (fun k => spec_DeskNew.f k l) (deskNewOf l) := by
  unfold spec_DeskNew.f deskNewOf
  refine Ev.bind (spec_TreeOk_ev l) (Ev.ite (fun h => ?_) (fun h => Ev.ret (by rw [if_neg h])))
  rw [if_pos h]
  exact Ev.bind0 rfl (Ev.pos (by simp; omega) (Ev.ret (by simp)))

def inRange (l : List Int) (i : Nat) : Bool := decide (0 ≤ rd l i ∧ rd l i ≤ l.length)
theorem mem_rd {l : List Int} {a : Int} (h0 : 0 ≤ a) (h1 : a < l.length) (h : (List.range l.length).all (inRange l) = true) : 0 ≤ rd l a ∧ rd l a ≤ l.length := by
  rw [List.all_eq_true] at h
  have := h a.toNat (by simp; omega)
  unfold inRange at this
  rw [show ((a.toNat : Nat) : Int) = a by omega] at this
  exact of_decide_eq_true this
/-- how many steps lead to 0, as the program counts them -/
def stepsOf (l : List Int) : Nat → Int → Nat → Int
  | 0, _, _ => -1
  | m + 1, w, i => if rd l (w - 1) = 0 then i else stepsOf l m (rd l (w - 1)) (i + 1)
theorem stepsOf_neg (l : List Int) (h : (List.range l.length).all (inRange l) = true) : ∀ (m : Nat) (w : Int) (i : Nat), 0 < w → w ≤ l.length → (decide (stepsOf l m w i < 0) = !walkOk l m w)
  | 0, w, i, h0, h1 => by simp [stepsOf, walkOk]; omega
  | m + 1, w, i, h0, h1 => by
    have hr := mem_rd (a := w - 1) (by omega) (by omega) h
    unfold stepsOf walkOk
    rw [if_neg (show ¬ w ≤ 0 by omega), decide_eq_true hr, Bool.true_and]
    by_cases e : rd l (w - 1) = 0
    · rw [if_pos e, e, decide_eq_false (by omega)]
      cases m <;> simp [walkOk]
    · rw [if_neg e]
      exact stepsOf_neg l h m _ _ (by omega) (by omega)

theorem impl_steps_l0 (l : List Int) (hl : l.length ≤ 8) (h : (List.range l.length).all (inRange l) = true) (d : Nat) : ∀ (w : Int) (j : Nat), j + d = l.length → 0 < w → w ≤ l.length →
    Ev (fun k => impl_steps.l0 k l w (l.length : Int) (j : Int)) (stepsOf l d w j) := by
  induction d with
  | zero =>
    intro w j hj h0 h1
    refine Ev.step (fun k => impl_steps.l0.eq_2 ..) ?_
    exact Ev.neg (by omega) (Ev.ret rfl)
  | succ d ih =>
    intro w j hj h0 h1
    have hr := mem_rd (a := w - 1) (by omega) (by omega) h
    refine Ev.step (fun k => impl_steps.l0.eq_2 ..) ?_
    rw [wrap_id (n := w - 1) (by omega) (by omega), wrap_add1 (by omega)]
    refine Ev.pos (by omega) (Ev.pos (by omega) (Ev.pos (by omega) (Ev.ite (fun e => ?_) (fun e => ?_))))
    · exact Ev.ret (by unfold stepsOf; rw [if_pos e])
    · exact Ev.eq (ih (rd l (w - 1)) (j + 1) (by omega) (by omega) (by omega)) (by rw [stepsOf, if_neg e])

theorem impl_steps_ev (l : List Int) (hl : l.length ≤ 8) (h : (List.range l.length).all (inRange l) = true) (w : Int) (h0 : 0 < w) (h1 : w ≤ l.length) :
    Ev (fun k => impl_steps.f k l w) (stepsOf l l.length w 0) := by
  unfold impl_steps.f
  exact impl_steps_l0 l hl h l.length w 0 (by omega) h0 h1

theorem impl_TreeOk_l1 (l : List Int) (hl : l.length ≤ 8) (h : (List.range l.length).all (inRange l) = true) (r : Nat) (d : Nat) : ∀ (j : Nat), j + d = l.length →
    Ev (fun k => impl_TreeOk.l1 k l (r : Int) (l.length : Int) (j : Int)) ((List.range' j (l.length - j)).all (fun i => walkOk l l.length ((i : Int) + 1)) && ((r : Int) == 1)) := by
  induction d with
  | zero =>
    intro j hj
    refine Ev.step (fun k => impl_TreeOk.l1.eq_2 ..) ?_
    exact Ev.neg (by omega) (Ev.ret (by rw [show l.length - j = 0 by omega]; rfl))
  | succ d ih =>
    intro j hj
    refine Ev.step (fun k => impl_TreeOk.l1.eq_2 ..) ?_
    rw [wrap_add1 (by omega)]
    refine Ev.pos (by omega) (Ev.bind (impl_steps_ev l hl h _ (by omega) (by omega)) ?_)
    have hs := stepsOf_neg l h l.length ((j + 1 : Nat) : Int) 0 (by omega) (by omega)
    refine Ev.ite (fun e => ?_) (fun e => ?_)
    · rw [decide_eq_true e] at hs
      refine Ev.ret ?_
      rw [all_from _ _ _ (by omega), show walkOk l l.length ((j : Int) + 1) = false by simpa using hs.symm]; rfl
    · rw [decide_eq_false e] at hs
      refine Ev.eq (ih (j + 1) (by omega)) ?_
      rw [all_from _ l.length j (by omega), show walkOk l l.length ((j : Int) + 1) = true by simpa using hs.symm, Bool.true_and]

theorem impl_TreeOk_l0 (l : List Int) (h1 : 1 ≤ l.length) (hl : l.length ≤ 8) (d : Nat) : ∀ (r j : Nat), j + d = l.length → r ≤ j → (∀ i, i < j → inRange l i = true) → r + zerosFrom l j = l.count 0 →
    Ev (fun k => impl_TreeOk.l0 k l (r : Int) l (l.length : Int) (j : Int)) (treeOk l) := by
  induction d with
  | zero =>
    intro r j hj hr hin hz
    have hall : (List.range l.length).all (inRange l) = true := by
      rw [List.all_eq_true]; intro i hi; exact hin i (by have := List.mem_range.mp hi; omega)
    refine Ev.step (fun k => impl_TreeOk.l0.eq_2 ..) ?_
    refine Ev.neg (by omega) (Ev.eq (impl_TreeOk_l1 l hl hall r l.length 0 (by omega)) ?_)
    have hz0 : zerosFrom l j = 0 := by unfold zerosFrom; rw [List.drop_eq_nil_of_le (by omega)]; rfl
    have hrc : r = l.count 0 := by omega
    unfold treeOk
    rw [decide_eq_true (show 1 ≤ l.length ∧ l.length ≤ 8 from ⟨h1, hl⟩), Bool.true_and, Nat.sub_zero, ← List.range_eq_range', hrc]
    congr 1
    · rw [Bool.eq_iff_iff, List.all_eq_true, List.all_eq_true]
      rw [List.all_eq_true] at hall
      constructor
      · intro hw i hi
        have := hall i hi
        unfold inRange at this
        unfold okAt; rw [this, hw i hi]; rfl
      · intro hw i hi
        have := hw i hi
        unfold okAt at this
        exact (Bool.and_eq_true_iff.mp this).2
    · rw [Bool.eq_iff_iff]; simp; omega
  | succ d ih =>
    intro r j hj hr hin hz
    refine Ev.step (fun k => impl_TreeOk.l0.eq_2 ..) ?_
    have hbad : ¬ (0 ≤ rd l (j : Int) ∧ rd l (j : Int) ≤ (l.length : Int)) → treeOk l = false := by
      intro hb
      unfold treeOk
      have : (List.range l.length).all (okAt l) = false := by
        rw [List.all_eq_false]
        exact ⟨j, by simp; omega, by unfold okAt; rw [decide_eq_false hb]; simp⟩
      rw [this]; simp
    refine Ev.pos (by omega) (Ev.pos (by omega) (Ev.pos (by omega) (Ev.ite (fun e => ?_) (fun e => ?_))))
    · refine Ev.step (fun k => impl_TreeOk.j2.eq_2 ..) (Ev.pos rfl (Ev.ret ?_))
      exact (hbad (by omega)).symm
    · refine Ev.step (fun k => impl_TreeOk.j2.eq_2 ..) (Ev.ite (fun e2 => ?_) (fun e2 => ?_))
      · have e2' := of_decide_eq_true e2
        exact Ev.ret (hbad (by omega)).symm
      · have e2' : ¬ rd l (j : Int) > (l.length : Int) := by simpa using e2
        have hin' : ∀ i, i < j + 1 → inRange l i = true := by
          intro i hi
          by_cases e' : i = j
          · subst e'; unfold inRange; exact decide_eq_true (by omega)
          · exact hin i (by omega)
        have hzs := zerosFrom_succ l j (by omega)
        rw [wrap_add1 (n := j) (by omega)]
        refine Ev.ite (fun e3 => ?_) (fun e3 => ?_)
        · rw [wrap_add1 (by omega)]
          rw [if_pos e3] at hzs
          exact ih (r + 1) (j + 1) (by omega) (by omega) hin' (by omega)
        · rw [if_neg e3] at hzs
          exact ih r (j + 1) (by omega) (by omega) hin' (by omega)

theorem impl_TreeOk_ev (l : List Int) : Ev (fun k => impl_TreeOk.f k l) (treeOk l) := by
  unfold impl_TreeOk.f
  have hbad : ¬ (1 ≤ l.length ∧ l.length ≤ 8) → treeOk l = false := by
    intro hb; unfold treeOk; rw [decide_eq_false hb]; rfl
  refine Ev.ite (fun e => ?_) (fun e => ?_)
  · refine Ev.step (fun k => impl_TreeOk.j0.eq_2 ..) (Ev.pos rfl (Ev.ret ?_))
    exact (hbad (by omega)).symm
  · refine Ev.step (fun k => impl_TreeOk.j0.eq_2 ..) (Ev.ite (fun e2 => ?_) (fun e2 => ?_))
    · have e2' := of_decide_eq_true e2
      exact Ev.ret (hbad (by omega)).symm
    · have e2' : ¬ (l.length : Int) > 8 := by simpa using e2
      exact impl_TreeOk_l0 l (by omega) (by omega) l.length 0 0 (by omega) (by omega) (fun i h => by omega) (by simp [zerosFrom])

theorem impl_own_some (l : List Int) (hl : l.length ≤ 1048576) : impl_own.f l = some l := by
  unfold impl_own.f slices_Clip_int_int.f
  simp
  omega
theorem impl_DeskNew_ev (l : List Int) (hl : l.length ≤ 1048576) : Ev (fun k => impl_DeskNew.f k l) (deskNewOf l) := by
  unfold impl_DeskNew.f deskNewOf
  refine Ev.bind (impl_TreeOk_ev l) (Ev.ite (fun h => ?_) (fun h => Ev.ret (by rw [if_neg h])))
  rw [if_pos h]
  exact Ev.bind0 (impl_own_some l hl) (Ev.ret rfl)

theorem toIntS_l0 (l : List Int) (hl : l.length ≤ 1099511627776) (d : Nat) : ∀ (j : Nat) (y : List Int), j + d = l.length → y.length = l.length → (∀ i, i < j → y[i]? = l[i]?) → Ev (fun k => laws_toIntS.l0 k l y (j : Int)) l := by
  induction d with
  | zero =>
    intro j y hj hy h
    refine Ev.step (fun k => laws_toIntS.l0.eq_2 ..) ?_
    refine Ev.neg (by omega) (Ev.ret ?_)
    apply List.ext_getElem?
    intro i
    by_cases hi : i < j
    · exact h i hi
    · rw [List.getElem?_eq_none (by omega), List.getElem?_eq_none (by omega)]
  | succ d ih =>
    intro j y hj hy h
    refine Ev.step (fun k => laws_toIntS.l0.eq_2 ..) ?_
    refine Ev.pos (by omega) (Ev.pos (by omega) (Ev.pos (by omega) ?_))
    rw [wrap_add1 (by omega)]
    refine ih (j + 1) _ (by omega) (by simpa using hy) ?_
    intro i hi
    rw [rd_nat, Int.toNat_natCast]
    by_cases e : i = j
    · subst e
      simp [hy, show i < l.length by omega]
    · rw [List.getElem?_set_ne (by omega)]
      exact h i (by omega)

theorem toIntS_ev (l : List Int) (hl : l.length ≤ 1048576) : Ev (fun k => laws_toIntS.f k l) l := by
  unfold laws_toIntS.f
  refine Ev.pos (by omega) (Ev.pos (by omega) ?_)
  exact toIntS_l0 l (by omega) l.length 0 _ (by omega) (by simp) (fun i h => by omega)

theorem eqIntS_l0 (l m : List Int) (hl : l.length ≤ 1099511627776) (hm : l.length = m.length) (d : Nat) : ∀ (j : Nat), j + d = l.length → (∀ i, i < j → l[i]? = m[i]?) → Ev (fun k => laws_eqIntS.l0 k l m (j : Int)) (decide (l = m)) := by
  induction d with
  | zero =>
    intro j hj h
    refine Ev.step (fun k => laws_eqIntS.l0.eq_2 ..) ?_
    refine Ev.neg (by omega) (Ev.ret ?_)
    symm
    rw [decide_eq_true_iff]
    apply List.ext_getElem?
    intro i
    by_cases hi : i < j
    · exact h i hi
    · rw [List.getElem?_eq_none (by omega), List.getElem?_eq_none (by omega)]
  | succ d ih =>
    intro j hj h
    refine Ev.step (fun k => laws_eqIntS.l0.eq_2 ..) ?_
    refine Ev.pos (by omega) (Ev.pos (by omega) (Ev.pos (by omega) (Ev.ite ?_ ?_)))
    · intro e
      rw [wrap_add1 (by omega)]
      refine ih (j + 1) (by omega) ?_
      intro i hi
      by_cases e' : i = j
      · subst e'
        rw [rd_nat, rd_nat] at e
        rw [List.getElem?_eq_getElem (by omega), List.getElem?_eq_getElem (by omega)]
        simpa [List.getD_eq_getElem?_getD, show i < l.length by omega, show i < m.length by omega] using e
      · exact h i (by omega)
    · intro e
      refine Ev.ret ?_
      symm
      rw [decide_eq_false_iff_not]
      intro e'; subst e'; exact e rfl

theorem eqIntS_ev (l m : List Int) (hl : l.length ≤ 1048576) : Ev (fun k => laws_eqIntS.f k l m) (decide (l = m)) := by
  unfold laws_eqIntS.f
  refine Ev.ite (fun h => ?_) (fun h => ?_)
  · exact eqIntS_l0 l m (by omega) (by omega) l.length 0 (by omega) (fun i h => by omega)
  · refine Ev.ret ?_
    symm
    rw [decide_eq_false_iff_not]
    intro e; subst e; exact h rfl

/-! a row of rows, read -/
theorem rd1_nat (xs : List (List Int)) (j : Nat) : rd_L1 xs (j : Int) = xs.getD j [] := by simp [rd_L1]

/-! rows of rows, held beside others -/
theorem eqIntSS_l0 (l m : List (List Int)) (hl : l.length ≤ 1048576) (hm : l.length = m.length) (hx : ∀ i, i < l.length → (rd_L1 l (i : Int)).length ≤ 1048576) (d : Nat) : ∀ (j : Nat), j + d = l.length → (∀ i, i < j → l[i]? = m[i]?) → Ev (fun k => laws_eqIntSS.l0 k l m (j : Int)) (decide (l = m)) := by
  induction d with
  | zero =>
    intro j hj h
    refine Ev.step (fun k => laws_eqIntSS.l0.eq_2 ..) ?_
    refine Ev.neg (by omega) (Ev.ret ?_)
    symm
    rw [decide_eq_true_iff]
    apply List.ext_getElem?
    intro i
    by_cases hi : i < j
    · exact h i hi
    · rw [List.getElem?_eq_none (by omega), List.getElem?_eq_none (by omega)]
  | succ d ih =>
    intro j hj h
    refine Ev.step (fun k => laws_eqIntSS.l0.eq_2 ..) ?_
    refine Ev.pos (by omega) (Ev.pos (by omega) (Ev.pos (by omega) (Ev.bind (eqIntS_ev _ _ (hx j (by omega))) (Ev.ite ?_ ?_))))
    · intro e0
      have e := of_decide_eq_true e0
      rw [wrap_add1 (by omega)]
      refine ih (j + 1) (by omega) ?_
      intro i hi
      by_cases e' : i = j
      · subst e'
        rw [rd1_nat, rd1_nat] at e
        rw [List.getElem?_eq_getElem (by omega), List.getElem?_eq_getElem (by omega)]
        simpa [List.getD_eq_getElem?_getD, show i < l.length by omega, show i < m.length by omega] using e
      · exact h i (by omega)
    · intro e
      refine Ev.ret ?_
      symm
      rw [decide_eq_false_iff_not]
      intro e'; subst e'; exact e (by simp)
theorem eqIntSS_ev (l m : List (List Int)) (hl : l.length ≤ 1048576) (hx : ∀ i, i < l.length → (rd_L1 l (i : Int)).length ≤ 1048576) : Ev (fun k => laws_eqIntSS.f k l m) (decide (l = m)) := by
  unfold laws_eqIntSS.f
  refine Ev.ite (fun h => ?_) (fun h => ?_)
  · exact eqIntSS_l0 l m (by omega) (by omega) hx l.length 0 (by omega) (fun i h => by omega)
  · refine Ev.ret ?_
    symm
    rw [decide_eq_false_iff_not]
    intro e; subst e; exact h rfl

theorem eqDesk_ev (l m : List Int) (r s : List (List Int)) (hl : l.length ≤ 1048576) (hr : r.length ≤ 1048576) (hx : ∀ x ∈ r, x.length ≤ 1048576) : Ev (fun k => laws_eqDesk.f k l r m s) (decide (l = m ∧ r = s)) := by
  unfold laws_eqDesk.f
  have h1 : ∀ i, i < r.length → (rd_L1 r (i : Int)).length ≤ 1048576 := fun i hi => by rw [rd1_nat, List.getD_eq_getElem?_getD, List.getElem?_eq_getElem hi]; exact hx _ (List.getElem_mem ..)
  refine Ev.bind (eqIntS_ev l m hl) (Ev.ite (fun h => ?_) (fun h => Ev.ret (by simp at h; simp [h])))
  have h := of_decide_eq_true h
  refine Ev.bind (eqIntSS_ev r s hr h1) (Ev.ite (fun h2 => Ev.ret ?_) (fun h2 => Ev.ret ?_))
  · have h2 := of_decide_eq_true h2
    simp [h, h2]
  · simp only [decide_eq_true_eq] at h2
    simp [h2]

/-! marks of rows, from any number on -/
def seqN (s : Int) (n : Nat) : List Int := (List.range n).map (fun i : Nat => s + (i : Int))
theorem seqN_len (s : Int) (n : Nat) : (seqN s n).length = n := by simp [seqN]
theorem seqN_get (s : Int) {n i : Nat} (h : i < n) : (seqN s n)[i]? = some (s + (i : Int)) := by simp [seqN, h]
theorem markN_l0 (s : Int) (n : Nat) (hs : 0 ≤ s) (hs2 : s ≤ 4000000000000) (hn : n ≤ 1048576) (d : Nat) : ∀ (j : Nat) (y : List Int), j + d = n → y.length = n → (∀ i, i < j → y[i]? = some (s + (i : Int))) →
    Ev (fun k => laws_markIntS.l0 k y (s + (j : Int)) (j : Int)) (s + (n : Int), seqN s n) := by
  induction d with
  | zero =>
    intro j y hj hy h
    refine Ev.step (fun k => laws_markIntS.l0.eq_2 ..) (Ev.neg (by omega) (Ev.ret ?_))
    have e : y = seqN s n := by
      apply List.ext_getElem?
      intro i
      by_cases hi : i < j
      · rw [h i hi, seqN_get s (by omega)]
      · rw [List.getElem?_eq_none (by omega), List.getElem?_eq_none (by rw [seqN_len]; omega)]
    rw [e, show (j : Int) = n by omega]
  | succ d ih =>
    intro j y hj hy h
    refine Ev.step (fun k => laws_markIntS.l0.eq_2 ..) (Ev.pos (by omega) (Ev.pos (by omega) ?_))
    rw [wrap_add1 (by omega), wrap_id (by omega) (by omega), show s + (j : Int) + 1 = s + ((j + 1 : Nat) : Int) by omega]
    refine ih (j + 1) _ (by omega) (by simpa using hy) ?_
    intro i hi
    rw [Int.toNat_natCast]
    by_cases e : i = j
    · subst e
      rw [List.getElem?_set_self (by omega)]
    · rw [List.getElem?_set_ne (by omega)]
      exact h i (by omega)
theorem markN_ev (s : Int) (l : List Int) (hs : 0 ≤ s) (hs2 : s ≤ 4000000000000) (hl : l.length ≤ 1048576) : Ev (fun k => laws_markIntS.f k l s) (s + (l.length : Int), seqN s l.length) := by
  unfold laws_markIntS.f
  have h := markN_l0 s l.length hs hs2 hl l.length 0 l (by omega) rfl (fun i h => by omega)
  rw [show s + ((0 : Nat) : Int) = s by omega] at h
  exact h
theorem heldN_l0 (s : Int) (n : Nat) (hs : 0 ≤ s) (hs2 : s ≤ 4000000000000) (hn : n ≤ 1048576) (d : Nat) : ∀ (j : Nat), j + d = n → Ev (fun k => laws_heldIntS.l0 k (seqN s n) (s + (j : Int)) (j : Int)) (s + (n : Int)) := by
  induction d with
  | zero =>
    intro j hj
    refine Ev.step (fun k => laws_heldIntS.l0.eq_2 ..) (Ev.neg (by rw [seqN_len]; omega) (Ev.ret (by omega)))
  | succ d ih =>
    intro j hj
    refine Ev.step (fun k => laws_heldIntS.l0.eq_2 ..) (Ev.pos (by rw [seqN_len]; omega) (Ev.pos (by omega) (Ev.pos ?_ ?_)))
    · rw [rd_nat, List.getD_eq_getElem?_getD, seqN_get s (by omega)]; rfl
    · rw [wrap_add1 (by omega), wrap_id (by omega) (by omega), show s + (j : Int) + 1 = s + ((j + 1 : Nat) : Int) by omega]
      exact ih (j + 1) (by omega)
theorem heldN_ev (s : Int) (n : Nat) (hs : 0 ≤ s) (hs2 : s ≤ 4000000000000) (hn : n ≤ 1048576) : Ev (fun k => laws_heldIntS.f k (seqN s n) s) (s + (n : Int)) := by
  unfold laws_heldIntS.f
  have h := heldN_l0 s n hs hs2 hn n 0 (by omega)
  rw [show s + ((0 : Nat) : Int) = s by omega] at h
  exact h
def totalL : List (List Int) → Nat
  | [] => 0
  | r :: t => r.length + totalL t
def seqR : Int → List (List Int) → List (List Int)
  | _, [] => []
  | s, r :: t => seqN s r.length :: seqR (s + r.length) t
theorem seqR_len : ∀ (l : List (List Int)) (s : Int), (seqR s l).length = l.length
  | [], _ => rfl
  | r :: t, s => by rw [seqR, List.length_cons, List.length_cons, seqR_len t]
theorem seqR_total : ∀ (l : List (List Int)) (s : Int), totalL (seqR s l) = totalL l
  | [], _ => rfl
  | r :: t, s => by rw [seqR, totalL, totalL, seqR_total t, seqN_len]
theorem totalL_le (b : Nat) : ∀ (l : List (List Int)), (∀ r ∈ l, r.length ≤ b) → totalL l ≤ l.length * b
  | [], _ => by simp [totalL]
  | r :: t, h => by
    have h1 := totalL_le b t (fun x hx => h x (List.mem_cons_of_mem _ hx))
    have h2 := h r (List.mem_cons_self ..)
    rw [totalL, List.length_cons, Nat.add_mul, Nat.one_mul]; omega
theorem markR_l0 (d : List (List Int)) : ∀ (z : List (List Int)) (s : Int), 0 ≤ s → s + totalL d ≤ 4000000000000 → z.length + d.length ≤ 1048576 → (∀ r ∈ d, r.length ≤ 1048576) →
    Ev (fun k => laws_markIntSS.l0 k (z ++ d) s (z.length : Int)) (s + (totalL d : Int), z ++ seqR s d) := by
  induction d with
  | nil =>
    intro z s h0 h1 h2 h3
    exact Ev.step (fun k => laws_markIntSS.l0.eq_2 ..) (Ev.neg (by simp) (Ev.ret (by simp [totalL, seqR])))
  | cons r t ih =>
    intro z s h0 h1 h2 h3
    rw [totalL] at h1
    have hr := h3 r (List.mem_cons_self ..)
    rw [List.length_cons] at h2
    refine Ev.step (fun k => laws_markIntSS.l0.eq_2 ..) (Ev.pos (by simp; omega) (Ev.pos (by omega) ?_))
    have e : (z ++ r :: t).getD (z.length : Int).toNat [] = r := by simp
    rw [e]
    refine Ev.bind (markN_ev s r h0 (by omega) hr) ?_
    have e2 : (z ++ r :: t).set (z.length : Int).toNat (seqN s r.length) = (z ++ [seqN s r.length]) ++ t := by simp
    rw [wrap_add1 (by omega)]
    show Ev (fun k => laws_markIntSS.l0 k ((z ++ r :: t).set (z.length : Int).toNat (seqN s r.length)) (s + (r.length : Int)) ((z.length + 1 : Nat) : Int)) _
    rw [e2, show ((z.length + 1 : Nat) : Int) = ((z ++ [seqN s r.length]).length : Int) by simp]
    refine Ev.eq (ih (z ++ [seqN s r.length]) (s + (r.length : Int)) (by omega) (by omega) (by simp; omega) (fun x hx => h3 x (List.mem_cons_of_mem _ hx))) ?_
    rw [totalL, seqR]
    refine Prod.ext ?_ ?_
    · simp; omega
    · simp
theorem markR_ev (l : List (List Int)) (s : Int) (h0 : 0 ≤ s) (h1 : s + totalL l ≤ 4000000000000) (h2 : l.length ≤ 1048576) (h3 : ∀ r ∈ l, r.length ≤ 1048576) : Ev (fun k => laws_markIntSS.f k l s) (s + (totalL l : Int), seqR s l) := by
  unfold laws_markIntSS.f
  exact markR_l0 l [] s h0 h1 (by simpa using h2) h3
theorem heldR_l0 (d : List (List Int)) : ∀ (z : List (List Int)) (s : Int), 0 ≤ s → s + totalL d ≤ 4000000000000 → z.length + d.length ≤ 1048576 → (∀ r ∈ d, r.length ≤ 1048576) →
    Ev (fun k => laws_heldIntSS.l0 k (z ++ seqR s d) s (z.length : Int)) (s + (totalL d : Int)) := by
  induction d with
  | nil =>
    intro z s h0 h1 h2 h3
    exact Ev.step (fun k => laws_heldIntSS.l0.eq_2 ..) (Ev.neg (by simp [seqR]) (Ev.ret (by simp [totalL])))
  | cons r t ih =>
    intro z s h0 h1 h2 h3
    rw [totalL] at h1
    have hr := h3 r (List.mem_cons_self ..)
    rw [List.length_cons] at h2
    rw [seqR]
    refine Ev.step (fun k => laws_heldIntSS.l0.eq_2 ..) (Ev.pos (by simp; omega) (Ev.pos (by omega) ?_))
    have e : rd_L1 (z ++ seqN s r.length :: seqR (s + r.length) t) (z.length : Int) = seqN s r.length := by rw [rd1_nat]; simp
    rw [e]
    refine Ev.bind (heldN_ev s r.length h0 (by omega) hr) (Ev.neg (by omega) ?_)
    rw [wrap_add1 (by omega), show z ++ seqN s r.length :: seqR (s + r.length) t = (z ++ [seqN s r.length]) ++ seqR (s + r.length) t by simp, show ((z.length + 1 : Nat) : Int) = ((z ++ [seqN s r.length]).length : Int) by simp]
    refine Ev.eq (ih (z ++ [seqN s r.length]) (s + (r.length : Int)) (by omega) (by omega) (by simp; omega) (fun x hx => h3 x (List.mem_cons_of_mem _ hx))) ?_
    rw [totalL]
    omega
theorem heldR_ev (l : List (List Int)) (s : Int) (h0 : 0 ≤ s) (h1 : s + totalL l ≤ 4000000000000) (h2 : l.length ≤ 1048576) (h3 : ∀ r ∈ l, r.length ≤ 1048576) : Ev (fun k => laws_heldIntSS.f k (seqR s l) s) (s + (totalL l : Int)) := by
  unfold laws_heldIntSS.f
  exact heldR_l0 l [] s h0 h1 (by simpa using h2) h3

theorem markD_ev (l : List Int) (r : List (List Int)) (s : Int) (h0 : 0 ≤ s) (h1 : s + l.length + totalL r ≤ 4000000000000) (hl : l.length ≤ 1048576) (h2 : r.length ≤ 1048576) (h3 : ∀ x ∈ r, x.length ≤ 1048576) :
    Ev (fun k => laws_markDesk.f k l r s) (s + (l.length : Int) + (totalL r : Int), seqN s l.length, seqR (s + (l.length : Int)) r) := by
  unfold laws_markDesk.f
  exact Ev.bind (markN_ev s l h0 (by omega) hl) (Ev.bind (markR_ev r (s + (l.length : Int)) (by omega) h1 h2 h3) (Ev.ret rfl))
theorem heldD_ev (l : List Int) (r : List (List Int)) (s : Int) (h0 : 0 ≤ s) (h1 : s + l.length + totalL r ≤ 4000000000000) (hl : l.length ≤ 1048576) (h2 : r.length ≤ 1048576) (h3 : ∀ x ∈ r, x.length ≤ 1048576) :
    Ev (fun k => laws_heldDesk.f k (seqN s l.length) (seqR (s + (l.length : Int)) r) s) (s + (l.length : Int) + (totalL r : Int)) := by
  unfold laws_heldDesk.f
  refine Ev.bind (heldN_ev s l.length h0 (by omega) hl) (Ev.neg (by omega) ?_)
  exact Ev.bind (heldR_ev r (s + (l.length : Int)) (by omega) h1 h2 h3) (Ev.neg (by omega) (Ev.ret rfl))

theorem FnExactDeskNew : ∀ (l0 : List (Int)), l0.length ≤ maxLen → (∀ x ∈ l0, (Lit.int .i64 x).wf = true) → ∃ k, laws_FnExactDeskNew.f k l0 = some true := by
  intro l _ _
  refine Ev.rounds (g := fun k => laws_FnExactDeskNew.f k l) ?_
  unfold laws_FnExactDeskNew.f
  refine Ev.ite (fun h => Ev.ret rfl) (fun h => ?_)
  have hl : l.length ≤ 1048576 := by omega
  have ht := toIntS_ev l hl
  have hsp := spec_DeskNew_ev l hl
  have him := impl_DeskNew_ev l hl
  have h1 := deskNewOf_len l
  have h2 := deskNewOf_rows l
  have h3 : (deskNewOf l).1.length ≤ 1048576 := by omega
  have h4 : (deskNewOf l).2.1.length ≤ 1048576 := by rw [h2]; simp
  have h5 : ∀ x ∈ (deskNewOf l).2.1, x.length ≤ 1048576 := by rw [h2]; simp
  have h6 : totalL (deskNewOf l).2.1 = 0 := by rw [h2]; rfl
  have heq := eqDesk_ev (deskNewOf l).1 (deskNewOf l).1 (deskNewOf l).2.1 (deskNewOf l).2.1 h3 h4 h5
  refine Ev.bind ht (Ev.bind hsp (Ev.bind ht (Ev.bind him (Ev.bind heq (Ev.bind ht (Ev.bind (eqIntS_ev l l hl) (Ev.bind (markN_ev 1 l (by omega) (by omega) hl) (Ev.bind (markD_ev _ _ 1 (by omega) (by omega) h3 h4 h5) (Ev.bind (heldD_ev _ _ 1 (by omega) (by omega) h3 h4 h5) (Ev.bind ht (Ev.bind him (Ev.bind heq (Ev.pos ?_ (Ev.ret rfl))))))))))))))
  refine ⟨rfl, rfl, by simp, by simp, by simp, ?_, ?_, rfl⟩
  · show (0 : Int) ≤ 1 + (l.length : Int); omega
  · omega

end Go.Proofs.Ytpdnocpnibcicaa.Pure
