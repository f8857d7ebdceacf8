/- The plain statement of FnExactCrossingsSum: the printed functions answer true for all arguments within the printed bounds; no other conditions. -/
import Derived.Test.YtndgogphgeefaaaPFnExactCrossingsSumx5
import Derived.ChangeSlices
import Derived.SizedLaws
import Derived.Test.YtndgogphgeefaaaWSized
namespace Go.Proofs.Ytndgogphgeefaaa.Pure
open Go.RowKit Go.Proofs.Ytndgogphgeefaaa.PFnExactCrossingsSum Go.Proofs.YtndgogphgeefaaaW.PrintWords Go.Proofs.YtndgogphgeefaaaW.PrintLast
set_option linter.unusedVariables false
set_option linter.unusedSimpArgs false

theorem Ev.ret {α : Type} {r r' : α} (h : r = r') : Ev (fun _ => some r) r' := ⟨0, fun _ _ => by rw [h]⟩
theorem Ev.pos {α : Type} {c : Prop} [Decidable c] {g f : Nat → Option α} {r : α} (h : c) (k : Ev g r) : Ev (fun n => if c then g n else f n) r := by
  simpa only [if_pos h] using k
theorem Ev.neg {α : Type} {c : Prop} [Decidable c] {g f : Nat → Option α} {r : α} (h : ¬ c) (k : Ev f r) : Ev (fun n => if c then g n else f n) r := by
  simpa only [if_neg h] using k
theorem Ev.ite {α : Type} {c : Prop} [Decidable c] {g f : Nat → Option α} {r : α} (h : c → Ev g r) (k : ¬ c → Ev f r) : Ev (fun n => if c then g n else f n) r := by
  by_cases hc : c
  · exact Ev.pos hc (h hc)
  · exact Ev.neg hc (k hc)
theorem Ev.bind0 {α β : Type} {o : Option α} {f : Nat → α → Option β} {a : α} {r : β} (h : o = some a) (k : Ev (fun n => f n a) r) : Ev (fun n => o.bind (f n)) r := by
  subst h; simpa only [Option.bind_some] using k
theorem Ev.eq {α : Type} {g : Nat → Option α} {r r' : α} (h : Ev g r) (e : r = r') : Ev g r' := e ▸ h
theorem wrap_id {n : Int} (h0 : -9223372036854775808 ≤ n) (h1 : n < 9223372036854775808) : wrap64 n = n := by
  unfold wrap64; omega
theorem wrap_add1 {n : Nat} (h : n < 1099511627776) : wrap64 ((n : Int) + 1) = ((n + 1 : Nat) : Int) := by
  unfold wrap64; omega
theorem rd_nat (l : List Int) (j : Nat) : rd l (j : Int) = l.getD j 0 := by simp [rd]

open Go.ChangeShapes Go.WideShapes in
/-- the printed row names this lemma so: it is the words' own -/
theorem _root_.Go.Proofs.Ytndgogphgeefaaa.PrintWords.sized_ints {H : Type} {enc : TypeId × Value → H} {P : Program} {W : World} {base : Nat} {spare : Nat → Bool} {held : Bool} {t e : TypeId} {k : IntKind} {a : Option Addr} {len cap : Nat} {d : DataW H} {ps : List MemPlace} {ts : List TypeId} {ds : List (DataW H)} {j : Nat}
    (hsz : (DataW.weightsEach P ts ds).all (· ≤ reachBytes) = true) (ht : ts[j]? = some t) (hd : ds[j]? = some d) (hu : P.underlying t = some (.slice e)) (he : P.underlying e = some (.int k)) (hc : P.cellsOf e = 1) {B : Nat} (hB : P.bytesOf e = B)
    (h : DataW.Trod enc P W base spare held t (.slice a len cap) d ps) : len * B ≤ 140737488351232 :=
  Go.Proofs.YtndgogphgeefaaaW.PrintWords.sized_ints hsz ht hd hu he hc hB h

theorem toIntS_l0 (l : List Int) (hl : l.length ≤ 1099511627776) (d : Nat) : ∀ (j : Nat) (y : List Int), j + d = l.length → y.length = l.length → (∀ i, i < j → y[i]? = l[i]?) → Ev (fun k => laws_toIntS.l0 k l y (j : Int)) l := by
  induction d with
  | zero =>
    intro j y hj hy h
    refine Ev.step (fun k => laws_toIntS.l0.eq_2 ..) ?_
    refine Ev.neg (by omega) (Ev.ret ?_)
    apply List.ext_getElem?
    intro i
    by_cases hi : i < j
    · exact h i hi
    · rw [List.getElem?_eq_none (by omega), List.getElem?_eq_none (by omega)]
  | succ d ih =>
    intro j y hj hy h
    refine Ev.step (fun k => laws_toIntS.l0.eq_2 ..) ?_
    refine Ev.pos (by omega) (Ev.pos (by omega) (Ev.pos (by omega) ?_))
    rw [wrap_add1 (by omega)]
    refine ih (j + 1) _ (by omega) (by simpa using hy) ?_
    intro i hi
    rw [rd_nat, Int.toNat_natCast]
    by_cases e : i = j
    · subst e
      simp [hy, show i < l.length by omega]
    · rw [List.getElem?_set_ne (by omega)]
      exact h i (by omega)

theorem toIntS_ev (l : List Int) (hl : l.length ≤ 1048576) : Ev (fun k => laws_toIntS.f k l) l := by
  unfold laws_toIntS.f
  refine Ev.pos (by omega) (Ev.pos (by omega) ?_)
  exact toIntS_l0 l (by omega) l.length 0 _ (by omega) (by simp) (fun i h => by omega)

theorem eqIntS_l0 (l m : List Int) (hl : l.length ≤ 1099511627776) (hm : l.length = m.length) (d : Nat) : ∀ (j : Nat), j + d = l.length → (∀ i, i < j → l[i]? = m[i]?) → Ev (fun k => laws_eqIntS.l0 k l m (j : Int)) (decide (l = m)) := by
  induction d with
  | zero =>
    intro j hj h
    refine Ev.step (fun k => laws_eqIntS.l0.eq_2 ..) ?_
    refine Ev.neg (by omega) (Ev.ret ?_)
    symm
    rw [decide_eq_true_iff]
    apply List.ext_getElem?
    intro i
    by_cases hi : i < j
    · exact h i hi
    · rw [List.getElem?_eq_none (by omega), List.getElem?_eq_none (by omega)]
  | succ d ih =>
    intro j hj h
    refine Ev.step (fun k => laws_eqIntS.l0.eq_2 ..) ?_
    refine Ev.pos (by omega) (Ev.pos (by omega) (Ev.pos (by omega) (Ev.ite ?_ ?_)))
    · intro e
      rw [wrap_add1 (by omega)]
      refine ih (j + 1) (by omega) ?_
      intro i hi
      by_cases e' : i = j
      · subst e'
        rw [rd_nat, rd_nat] at e
        rw [List.getElem?_eq_getElem (by omega), List.getElem?_eq_getElem (by omega)]
        simpa [List.getD_eq_getElem?_getD, show i < l.length by omega, show i < m.length by omega] using e
      · exact h i (by omega)
    · intro e
      refine Ev.ret ?_
      symm
      rw [decide_eq_false_iff_not]
      intro e'; subst e'; exact e rfl

theorem eqIntS_ev (l m : List Int) (hl : l.length ≤ 1048576) : Ev (fun k => laws_eqIntS.f k l m) (decide (l = m)) := by
  unfold laws_eqIntS.f
  refine Ev.ite (fun h => ?_) (fun h => ?_)
  · exact eqIntS_l0 l m (by omega) (by omega) l.length 0 (by omega) (fun i h => by omega)
  · refine Ev.ret ?_
    symm
    rw [decide_eq_false_iff_not]
    intro e; subst e; exact h rfl

/-- whether one comes from a word to 0 within so many steps, over numbers of words or 0 alone -/
def walkOk (l : List Int) : Nat → Int → Bool
  | 0, a => decide (a ≤ 0)
  | m + 1, a => if a ≤ 0 then true else decide (0 ≤ rd l (a - 1) ∧ rd l (a - 1) ≤ l.length) && walkOk l m (rd l (a - 1))
def okAt (l : List Int) (i : Nat) : Bool := decide (0 ≤ rd l i ∧ rd l i ≤ l.length) && walkOk l l.length ((i : Int) + 1)
def zerosFrom (l : List Int) (j : Nat) : Nat := (l.drop j).count 0
def treeOk (l : List Int) : Bool := decide (1 ≤ l.length ∧ l.length ≤ 8) && (List.range l.length).all (okAt l) && decide (l.count 0 = 1)

theorem walkOk_self (l : List Int) (a : Int) (ha : 0 < a) (h : rd l (a - 1) = a) : ∀ m, walkOk l m a = false
  | 0 => by simp [walkOk]; omega
  | m + 1 => by
    unfold walkOk
    rw [if_neg (by omega), h, walkOk_self l a ha h m, Bool.and_false]

theorem zerosFrom_succ (l : List Int) (j : Nat) (h : j < l.length) : zerosFrom l j = (if rd l j = 0 then 1 else 0) + zerosFrom l (j + 1) := by
  unfold zerosFrom
  rw [List.drop_eq_getElem_cons h, List.count_cons]
  have e : rd l j = l[j] := by simp [rd_nat, h]
  rw [e]
  by_cases e : l[j] = 0 <;> simp [e, Nat.add_comm]
theorem zerosFrom_le (l : List Int) (j : Nat) : zerosFrom l j ≤ l.length := by
  unfold zerosFrom
  exact Nat.le_trans List.count_le_length (by simp)

theorem all_from (p : Nat → Bool) (n j : Nat) (h : j < n) : ((List.range' j (n - j)).all p) = (p j && (List.range' (j + 1) (n - (j + 1))).all p) := by
  obtain ⟨d, hd⟩ : ∃ d, n - j = d + 1 := ⟨n - j - 1, by omega⟩
  rw [hd, List.range'_succ, List.all_cons, show n - (j + 1) = d by omega]

def restOk (l : List Int) (r : Nat) (j : Nat) : Bool := (List.range' j (l.length - j)).all (okAt l) && decide (r + zerosFrom l j = 1)
theorem restOk_end (l : List Int) (r : Nat) (j : Nat) (h : j = l.length) : restOk l r j = ((r : Int) == 1) := by
  subst h
  unfold restOk zerosFrom
  simp
  rw [Bool.eq_iff_iff]; simp; omega
theorem restOk_bad (l : List Int) (r : Nat) (j : Nat) (h : j < l.length) (hb : okAt l j = false) : restOk l r j = false := by
  unfold restOk
  rw [all_from _ _ _ h, hb]; rfl
theorem restOk_good (l : List Int) (r : Nat) (j : Nat) (h : j < l.length) (hb : okAt l j = true) : restOk l r j = restOk l (r + if rd l j = 0 then 1 else 0) (j + 1) := by
  unfold restOk
  rw [all_from _ _ _ h, hb, Bool.true_and, zerosFrom_succ l j h, Nat.add_assoc]
theorem restOk_zero (l : List Int) (h : 1 ≤ l.length ∧ l.length ≤ 8) : restOk l 0 0 = treeOk l := by
  unfold restOk treeOk zerosFrom
  rw [decide_eq_true h]
  simp [List.range_eq_range']

/-! folds over places -/
def foldFrom {β : Type} (f : β → Nat → β) (n j : Nat) (b : β) : β := (List.range' j (n - j)).foldl f b
theorem foldFrom_end {β : Type} (f : β → Nat → β) {n j : Nat} (b : β) (h : n ≤ j) : foldFrom f n j b = b := by
  unfold foldFrom; rw [show n - j = 0 by omega]; rfl
theorem foldFrom_step {β : Type} (f : β → Nat → β) {n j : Nat} (b : β) (h : j < n) : foldFrom f n j b = foldFrom f n (j + 1) (f b j) := by
  unfold foldFrom
  obtain ⟨d, hd⟩ : ∃ d, n - j = d + 1 := ⟨n - j - 1, by omega⟩
  rw [hd, List.range'_succ, List.foldl_cons, show n - (j + 1) = d by omega]
theorem mx_max (a b : Int) : mx a b = max a b := by unfold mx; split <;> omega
theorem mn_min (a b : Int) : mn a b = min a b := by unfold mn; split <;> omega
theorem treeOk_len {l : List Int} (h : treeOk l = true) : 1 ≤ l.length ∧ l.length ≤ 8 := by
  unfold treeOk at h
  rw [Bool.and_eq_true, Bool.and_eq_true] at h
  exact of_decide_eq_true h.1.1
theorem treeOk_rd {l : List Int} (h : treeOk l = true) {j : Nat} (hj : j < l.length) : 0 ≤ rd l j ∧ rd l j ≤ l.length := by
  unfold treeOk at h
  rw [Bool.and_eq_true, Bool.and_eq_true] at h
  have := List.all_eq_true.mp h.1.2 j (List.mem_range.mpr hj)
  unfold okAt at this
  rw [Bool.and_eq_true] at this
  exact of_decide_eq_true this.1
theorem treeOk_walk {l : List Int} (h : treeOk l = true) {j : Nat} (hj : j < l.length) : walkOk l l.length ((j : Int) + 1) = true := by
  unfold treeOk at h
  rw [Bool.and_eq_true, Bool.and_eq_true] at h
  have := List.all_eq_true.mp h.1.2 j (List.mem_range.mpr hj)
  unfold okAt at this
  rw [Bool.and_eq_true] at this
  exact this.2
theorem treeOk_ne {l : List Int} (h : treeOk l = true) {j : Nat} (hj : j < l.length) : rd l j ≠ (j : Int) + 1 := by
  intro e
  have := treeOk_walk h hj
  rw [walkOk_self l _ (by omega) (by rw [show (j : Int) + 1 - 1 = (j : Int) by omega]; exact e)] at this
  cases this
theorem treeOk_zero {l : List Int} (h : treeOk l = true) : l.count 0 = 1 := by
  unfold treeOk at h
  rw [Bool.and_eq_true] at h
  exact of_decide_eq_true h.2

/-! ends of arcs -/
def cnt (l : List Int) (v : Int) : Nat := l.count v
def endsOf (l : List Int) : List Int := if treeOk l then (List.range l.length).map (fun i : Nat => (if rd l i = 0 then 0 else 1) + (l.count ((i : Int) + 1) : Int)) else []
theorem take_count (l : List Int) (j : Nat) (v : Int) (h : j < l.length) : (l.take (j + 1)).count v = (l.take j).count v + if rd l j = v then 1 else 0 := by
  rw [List.take_succ_eq_append_getElem h, List.count_append]
  congr 1
  have e : rd l j = l[j] := by simp [rd_nat, h]
  rw [e, List.count_singleton]
  by_cases e : l[j] = v <;> simp [e]
theorem drop_count (l : List Int) (j : Nat) (v : Int) (h : j < l.length) : (l.drop j).count v = (if rd l j = v then 1 else 0) + (l.drop (j + 1)).count v := by
  rw [List.drop_eq_getElem_cons h, List.count_cons]
  have e : rd l j = l[j] := by simp [rd_nat, h]
  rw [e]
  by_cases e : l[j] = v <;> simp [e, Nat.add_comm]
theorem drop_count_le (l : List Int) (j : Nat) (v : Int) : (l.drop j).count v ≤ l.length - j := by
  have : (l.drop j).count v ≤ (l.drop j).length := List.count_le_length
  simpa using this

theorem endsOf_len (l : List Int) : (endsOf l).length ≤ 8 := by
  unfold endsOf
  split
  · rename_i h; have := treeOk_len h; simp; omega
  · simp
theorem endsOf_small (l : List Int) : (endsOf l).length ≤ 1048576 := Nat.le_trans (endsOf_len l) (by omega)
theorem endsOf_rd {l : List Int} (h : treeOk l = true) {j : Nat} (hj : j < l.length) : rd (endsOf l) j = (if rd l j = 0 then 0 else 1) + (l.count ((j : Int) + 1) : Int) := by
  unfold endsOf
  rw [rd_nat, if_pos h]
  simp [hj]
theorem endsOf_bound {l : List Int} {j : Nat} (hj : j < (endsOf l).length) : 0 ≤ rd (endsOf l) j ∧ rd (endsOf l) j ≤ 9 := by
  by_cases h : treeOk l = true
  · have hl := treeOk_len h
    have e : (endsOf l).length = l.length := by unfold endsOf; rw [if_pos h]; simp
    rw [endsOf_rd h (by omega)]
    have : l.count ((j : Int) + 1) ≤ l.length := List.count_le_length
    split <;> omega
  · have e : endsOf l = [] := by unfold endsOf; rw [if_neg h]
    rw [e] at hj; simp at hj

theorem l1In_eq (a b c : Int) : spec_l1In.f a b c = some (decide (b ≤ a ∧ a ≤ c)) := by
  unfold spec_l1In.f
  split
  · rename_i h; congr 1; rw [decide_eq_decide]; omega
  · rename_i h; congr 1; symm; rw [decide_eq_false_iff_not]; omega

/-- the inner walk of the reference -/
theorem spec_walk (l : List Int) (r j : Nat) (hl : l.length ≤ 8) (hj : j < l.length) (_ : r ≤ 8)
    (next : Ev (fun k => spec_TreeOk.l0 k l (l.length : Int) (r : Int) ((j + 1 : Nat) : Int)) (restOk l r (j + 1)))
    (d : Nat) : ∀ (s : Nat) (a : Int), s + d = l.length → 0 ≤ a → a ≤ l.length →
    Ev (fun k => spec_TreeOk.l1 k l (l.length : Int) (r : Int) (j : Int) a (s : Int)) (walkOk l d a && restOk l r (j + 1)) := by
  induction d with
  | zero =>
    intro s a hs h0 h1
    refine Ev.step (fun k => spec_TreeOk.l1.eq_2 ..) ?_
    refine Ev.ite (fun ha => ?_) (fun ha => ?_)
    · rw [decide_eq_false (by omega)]
      refine Ev.step (fun k => spec_TreeOk.j4.eq_2 ..) ?_
      refine Ev.neg (by simp) (Ev.pos ha (Ev.ret ?_))
      simp [walkOk, show ¬ a ≤ 0 by omega]
    · refine Ev.step (fun k => spec_TreeOk.j4.eq_2 ..) ?_
      refine Ev.neg (by simp) (Ev.neg ha ?_)
      rw [wrap_add1 (by omega)]
      exact Ev.eq next (by simp [walkOk, show a ≤ 0 by omega])
  | succ d ih =>
    intro s a hs h0 h1
    refine Ev.step (fun k => spec_TreeOk.l1.eq_2 ..) ?_
    refine Ev.ite (fun ha => ?_) (fun ha => ?_)
    · rw [decide_eq_true (by omega)]
      refine Ev.step (fun k => spec_TreeOk.j4.eq_2 ..) ?_
      refine Ev.pos rfl ?_
      rw [wrap_id (by omega) (by omega)]
      refine Ev.pos (by omega) (Ev.pos (by omega) (Ev.bind0 (l1In_eq ..) ?_))
      refine Ev.ite (fun hc => ?_) (fun hc => ?_)
      · have hc' := of_decide_eq_true hc
        rw [wrap_add1 (by omega)]
        refine Ev.eq (ih (s + 1) (rd l (a - 1)) (by omega) hc'.1 hc'.2) ?_
        simp [walkOk, show ¬ a ≤ 0 by omega, hc'.1, hc'.2]
      · refine Ev.ret ?_
        have hc' : ¬ (0 ≤ rd l (a - 1) ∧ rd l (a - 1) ≤ (l.length : Int)) := by simpa using hc
        simp [walkOk, show ¬ a ≤ 0 by omega, decide_eq_false hc']
    · refine Ev.step (fun k => spec_TreeOk.j4.eq_2 ..) ?_
      refine Ev.neg (by simp) (Ev.neg ha ?_)
      rw [wrap_add1 (by omega)]
      exact Ev.eq next (by simp [walkOk, show a ≤ 0 by omega])

theorem spec_TreeOk_l0 (l : List Int) (hl : l.length ≤ 8) (d : Nat) : ∀ (r j : Nat), j + d = l.length → r ≤ j →
    Ev (fun k => spec_TreeOk.l0 k l (l.length : Int) (r : Int) (j : Int)) (restOk l r j) := by
  induction d with
  | zero =>
    intro r j hj hr
    refine Ev.step (fun k => spec_TreeOk.l0.eq_2 ..) ?_
    exact Ev.neg (by omega) (Ev.ret (restOk_end l r j (by omega)).symm)
  | succ d ih =>
    intro r j hj hr
    refine Ev.step (fun k => spec_TreeOk.l0.eq_2 ..) ?_
    refine Ev.pos (by omega) (Ev.pos (by omega) (Ev.pos (by omega) (Ev.bind0 (l1In_eq ..) ?_)))
    refine Ev.ite (fun hc => ?_) (fun hc => ?_)
    · have hc' := of_decide_eq_true hc
      refine Ev.step (fun k => spec_TreeOk.j1.eq_2 ..) ?_
      rw [wrap_add1 (by omega)]
      refine Ev.ite (fun he => ?_) (fun he => ?_)
      · refine Ev.ret (restOk_bad l r j (by omega) ?_).symm
        have he' : rd l (j : Int) = ((j + 1 : Nat) : Int) := by simpa using he
        unfold okAt
        rw [walkOk_self l ((j : Int) + 1) (by omega) (by rw [show (j : Int) + 1 - 1 = (j : Int) by omega, he']; omega), Bool.and_false]
      · have hfin : ∀ (r' : Nat), r' = r + (if rd l j = 0 then 1 else 0) → Ev (fun k => spec_TreeOk.l1 k l (l.length : Int) (r' : Int) (j : Int) ((j + 1 : Nat) : Int) 0) (restOk l r j) := by
          intro r' hr'
          have hr8 : r' ≤ j + 1 := by subst hr'; split <;> omega
          refine Ev.eq (spec_walk l r' j hl (by omega) (by omega) (ih r' (j + 1) (by omega) hr8) l.length 0 ((j + 1 : Nat) : Int) (by omega) (by omega) (by omega)) ?_
          by_cases hw : walkOk l l.length ((j : Int) + 1) = true
          · rw [restOk_good l r j (by omega) (by unfold okAt; rw [hw, decide_eq_true hc']; rfl), ← hr', show ((j + 1 : Nat) : Int) = (j : Int) + 1 by omega, hw]; rfl
          · have hw' : walkOk l l.length ((j : Int) + 1) = false := by simpa using hw
            rw [restOk_bad l r j (by omega) (by unfold okAt; rw [hw']; simp), show ((j + 1 : Nat) : Int) = (j : Int) + 1 by omega, hw']; rfl
        refine Ev.pos (by omega) (Ev.pos (by omega) (Ev.ite (fun hz => ?_) (fun hz => ?_)))
        · rw [wrap_add1 (by omega)]
          refine Ev.step (fun k => spec_TreeOk.j2.eq_2 ..) ?_
          rw [wrap_add1 (by omega)]
          exact hfin (r + 1) (by rw [if_pos hz])
        · refine Ev.step (fun k => spec_TreeOk.j2.eq_2 ..) ?_
          rw [wrap_add1 (by omega)]
          exact hfin r (by rw [if_neg hz]; rfl)
    · refine Ev.step (fun k => spec_TreeOk.j1.eq_2 ..) ?_
      refine Ev.pos rfl (Ev.ret (restOk_bad l r j (by omega) ?_).symm)
      have hc' : ¬ (0 ≤ rd l (j : Int) ∧ rd l (j : Int) ≤ (l.length : Int)) := by simpa using hc
      unfold okAt
      rw [decide_eq_false hc']; rfl

theorem spec_TreeOk_ev (l : List Int) : Ev (fun k => spec_TreeOk.f k l) (treeOk l) := by
  unfold spec_TreeOk.f
  refine Ev.bind0 (l1In_eq ..) ?_
  refine Ev.ite (fun hc => ?_) (fun hc => ?_)
  · have hc' := of_decide_eq_true hc
    exact Ev.eq (spec_TreeOk_l0 l (by omega) l.length 0 0 (by omega) (by omega)) (restOk_zero l (by omega))
  · refine Ev.ret ?_
    have hc' : ¬ (1 ≤ (l.length : Int) ∧ (l.length : Int) ≤ 8) := by simpa using hc
    unfold treeOk
    rw [decide_eq_false (by omega)]; rfl

theorem spec_EndsOf_l1 (l : List Int) (h : treeOk l = true) (x : List Int) (i : Nat) (hi : i < l.length) (r : List Int) (d : Nat) : ∀ (j : Nat) (c : Nat), j + d = l.length → c ≤ j + 1 →
    x.length < 100 →
    (∀ c' : Nat, (c' : Int) = c + (l.drop j).count ((i : Int) + 1) → Ev (fun k => spec_EndsOf.l0 k l (x ++ [(c' : Int)]) ((i + 1 : Nat) : Int)) r) →
    Ev (fun k => spec_EndsOf.l1 k l x (i : Int) (c : Int) (j : Int)) r := by
  have hl := treeOk_len h
  induction d with
  | zero =>
    intro j c hj hc hx next
    refine Ev.step (fun k => spec_EndsOf.l1.eq_2 ..) ?_
    refine Ev.neg (by omega) (Ev.pos (by omega) ?_)
    rw [wrap_add1 (by omega)]
    exact next c (by rw [List.drop_eq_nil_of_le (by omega)]; simp)
  | succ d ih =>
    intro j c hj hc hx next
    have hs := drop_count l j ((i : Int) + 1) (by omega)
    refine Ev.step (fun k => spec_EndsOf.l1.eq_2 ..) ?_
    rw [wrap_id (n := (i : Int) + 1) (by omega) (by omega)]
    refine Ev.pos (by omega) (Ev.pos (by omega) (Ev.ite (fun e => ?_) (fun e => ?_)))
    · rw [wrap_add1 (by omega), wrap_add1 (by omega)]
      rw [if_pos e] at hs
      exact ih (j + 1) (c + 1) (by omega) (by omega) hx (fun c' hc' => next c' (by rw [hs]; omega))
    · rw [wrap_add1 (by omega)]
      rw [if_neg e] at hs
      exact ih (j + 1) c (by omega) (by omega) hx (fun c' hc' => next c' (by rw [hs]; omega))
theorem spec_EndsOf_l0 (l : List Int) (h : treeOk l = true) (d : Nat) : ∀ (j : Nat), j + d = l.length →
    Ev (fun k => spec_EndsOf.l0 k l ((endsOf l).take j) (j : Int)) (endsOf l) := by
  have hl := treeOk_len h
  have hlen : (endsOf l).length = l.length := by unfold endsOf; rw [if_pos h]; simp
  induction d with
  | zero =>
    intro j hj
    refine Ev.step (fun k => spec_EndsOf.l0.eq_2 ..) ?_
    refine Ev.neg (by omega) (Ev.step (fun k => spec_EndsOf.j1.eq_2 ..) (Ev.neg (by simp) (Ev.ret ?_)))
    exact List.take_of_length_le (by omega)
  | succ d ih =>
    intro j hj
    refine Ev.step (fun k => spec_EndsOf.l0.eq_2 ..) ?_
    refine Ev.pos (by omega) (Ev.bind (spec_TreeOk_ev l) ?_)
    rw [h]
    refine Ev.step (fun k => spec_EndsOf.j1.eq_2 ..) (Ev.pos rfl (Ev.pos (by omega) (Ev.pos (by omega) ?_)))
    have hr := treeOk_rd h (j := j) (by omega)
    have hx : ((endsOf l).take j).length < 100 := by rw [List.length_take]; omega
    have hfin : ∀ (a c' : Nat), (a : Int) = (if rd l j = 0 then 0 else 1) → (c' : Int) = a + (l.drop 0).count ((j : Int) + 1) → Ev (fun k => spec_EndsOf.l0 k l ((endsOf l).take j ++ [(c' : Int)]) ((j + 1 : Nat) : Int)) (endsOf l) := by
      intro a c' ha hc'
      have e : (endsOf l).take j ++ [(c' : Int)] = (endsOf l).take (j + 1) := by
        rw [List.take_succ_eq_append_getElem (by omega)]
        congr 2
        have : (endsOf l)[j]'(by omega) = (if rd l j = 0 then 0 else 1) + (l.count ((j : Int) + 1) : Int) := by unfold endsOf; simp [h]
        rw [this, hc', ha]; rfl
      rw [e]
      exact ih (j + 1) (by omega)
    refine Ev.ite (fun e => ?_) (fun e => ?_)
    · refine Ev.step (fun k => spec_EndsOf.j2.eq_2 ..) ?_
      exact spec_EndsOf_l1 l h _ j (by omega) _ l.length 0 1 (by omega) (by omega) hx (fun c' hc' => hfin 1 c' (by rw [if_neg (by omega)]; rfl) hc')
    · refine Ev.step (fun k => spec_EndsOf.j2.eq_2 ..) ?_
      exact spec_EndsOf_l1 l h _ j (by omega) _ l.length 0 0 (by omega) (by omega) hx (fun c' hc' => hfin 0 c' (by rw [if_pos (by omega)]; rfl) hc')
theorem spec_EndsOf_ev (l : List Int) : Ev (fun k => spec_EndsOf.f k l) (endsOf l) := by
  unfold spec_EndsOf.f
  by_cases h : treeOk l = true
  · exact spec_EndsOf_l0 l h l.length 0 (by omega)
  · refine Ev.step (fun k => spec_EndsOf.l0.eq_2 ..) ?_
    have hn : endsOf l = [] := by unfold endsOf; rw [if_neg h]
    rw [hn]
    refine Ev.ite (fun e => ?_) (fun e => ?_)
    · refine Ev.bind (spec_TreeOk_ev l) ?_
      rw [show treeOk l = false by simpa using h]
      exact Ev.step (fun k => spec_EndsOf.j1.eq_2 ..) (Ev.neg (by simp) (Ev.ret rfl))
    · exact Ev.step (fun k => spec_EndsOf.j1.eq_2 ..) (Ev.neg (by simp) (Ev.ret rfl))

def inRange (l : List Int) (i : Nat) : Bool := decide (0 ≤ rd l i ∧ rd l i ≤ l.length)
theorem mem_rd {l : List Int} {a : Int} (h0 : 0 ≤ a) (h1 : a < l.length) (h : (List.range l.length).all (inRange l) = true) : 0 ≤ rd l a ∧ rd l a ≤ l.length := by
  rw [List.all_eq_true] at h
  have := h a.toNat (by simp; omega)
  unfold inRange at this
  rw [show ((a.toNat : Nat) : Int) = a by omega] at this
  exact of_decide_eq_true this
/-- how many steps lead to 0, as the program counts them -/
def stepsOf (l : List Int) : Nat → Int → Nat → Int
  | 0, _, _ => -1
  | m + 1, w, i => if rd l (w - 1) = 0 then i else stepsOf l m (rd l (w - 1)) (i + 1)
theorem stepsOf_neg (l : List Int) (h : (List.range l.length).all (inRange l) = true) : ∀ (m : Nat) (w : Int) (i : Nat), 0 < w → w ≤ l.length → (decide (stepsOf l m w i < 0) = !walkOk l m w)
  | 0, w, i, h0, h1 => by simp [stepsOf, walkOk]; omega
  | m + 1, w, i, h0, h1 => by
    have hr := mem_rd (a := w - 1) (by omega) (by omega) h
    unfold stepsOf walkOk
    rw [if_neg (show ¬ w ≤ 0 by omega), decide_eq_true hr, Bool.true_and]
    by_cases e : rd l (w - 1) = 0
    · rw [if_pos e, e, decide_eq_false (by omega)]
      cases m <;> simp [walkOk]
    · rw [if_neg e]
      exact stepsOf_neg l h m _ _ (by omega) (by omega)

theorem impl_steps_l0 (l : List Int) (hl : l.length ≤ 8) (h : (List.range l.length).all (inRange l) = true) (d : Nat) : ∀ (w : Int) (j : Nat), j + d = l.length → 0 < w → w ≤ l.length →
    Ev (fun k => impl_steps.l0 k l w (l.length : Int) (j : Int)) (stepsOf l d w j) := by
  induction d with
  | zero =>
    intro w j hj h0 h1
    refine Ev.step (fun k => impl_steps.l0.eq_2 ..) ?_
    exact Ev.neg (by omega) (Ev.ret rfl)
  | succ d ih =>
    intro w j hj h0 h1
    have hr := mem_rd (a := w - 1) (by omega) (by omega) h
    refine Ev.step (fun k => impl_steps.l0.eq_2 ..) ?_
    rw [wrap_id (n := w - 1) (by omega) (by omega), wrap_add1 (by omega)]
    refine Ev.pos (by omega) (Ev.pos (by omega) (Ev.pos (by omega) (Ev.ite (fun e => ?_) (fun e => ?_))))
    · exact Ev.ret (by unfold stepsOf; rw [if_pos e])
    · exact Ev.eq (ih (rd l (w - 1)) (j + 1) (by omega) (by omega) (by omega)) (by rw [stepsOf, if_neg e])

theorem impl_steps_ev (l : List Int) (hl : l.length ≤ 8) (h : (List.range l.length).all (inRange l) = true) (w : Int) (h0 : 0 < w) (h1 : w ≤ l.length) :
    Ev (fun k => impl_steps.f k l w) (stepsOf l l.length w 0) := by
  unfold impl_steps.f
  exact impl_steps_l0 l hl h l.length w 0 (by omega) h0 h1

theorem impl_TreeOk_l1 (l : List Int) (hl : l.length ≤ 8) (h : (List.range l.length).all (inRange l) = true) (r : Nat) (d : Nat) : ∀ (j : Nat), j + d = l.length →
    Ev (fun k => impl_TreeOk.l1 k l (r : Int) (l.length : Int) (j : Int)) ((List.range' j (l.length - j)).all (fun i => walkOk l l.length ((i : Int) + 1)) && ((r : Int) == 1)) := by
  induction d with
  | zero =>
    intro j hj
    refine Ev.step (fun k => impl_TreeOk.l1.eq_2 ..) ?_
    exact Ev.neg (by omega) (Ev.ret (by rw [show l.length - j = 0 by omega]; rfl))
  | succ d ih =>
    intro j hj
    refine Ev.step (fun k => impl_TreeOk.l1.eq_2 ..) ?_
    rw [wrap_add1 (by omega)]
    refine Ev.pos (by omega) (Ev.bind (impl_steps_ev l hl h _ (by omega) (by omega)) ?_)
    have hs := stepsOf_neg l h l.length ((j + 1 : Nat) : Int) 0 (by omega) (by omega)
    refine Ev.ite (fun e => ?_) (fun e => ?_)
    · rw [decide_eq_true e] at hs
      refine Ev.ret ?_
      rw [all_from _ _ _ (by omega), show walkOk l l.length ((j : Int) + 1) = false by simpa using hs.symm]; rfl
    · rw [decide_eq_false e] at hs
      refine Ev.eq (ih (j + 1) (by omega)) ?_
      rw [all_from _ l.length j (by omega), show walkOk l l.length ((j : Int) + 1) = true by simpa using hs.symm, Bool.true_and]

theorem impl_TreeOk_l0 (l : List Int) (h1 : 1 ≤ l.length) (hl : l.length ≤ 8) (d : Nat) : ∀ (r j : Nat), j + d = l.length → r ≤ j → (∀ i, i < j → inRange l i = true) → r + zerosFrom l j = l.count 0 →
    Ev (fun k => impl_TreeOk.l0 k l (r : Int) l (l.length : Int) (j : Int)) (treeOk l) := by
  induction d with
  | zero =>
    intro r j hj hr hin hz
    have hall : (List.range l.length).all (inRange l) = true := by
      rw [List.all_eq_true]; intro i hi; exact hin i (by have := List.mem_range.mp hi; omega)
    refine Ev.step (fun k => impl_TreeOk.l0.eq_2 ..) ?_
    refine Ev.neg (by omega) (Ev.eq (impl_TreeOk_l1 l hl hall r l.length 0 (by omega)) ?_)
    have hz0 : zerosFrom l j = 0 := by unfold zerosFrom; rw [List.drop_eq_nil_of_le (by omega)]; rfl
    have hrc : r = l.count 0 := by omega
    unfold treeOk
    rw [decide_eq_true (show 1 ≤ l.length ∧ l.length ≤ 8 from ⟨h1, hl⟩), Bool.true_and, Nat.sub_zero, ← List.range_eq_range', hrc]
    congr 1
    · rw [Bool.eq_iff_iff, List.all_eq_true, List.all_eq_true]
      rw [List.all_eq_true] at hall
      constructor
      · intro hw i hi
        have := hall i hi
        unfold inRange at this
        unfold okAt; rw [this, hw i hi]; rfl
      · intro hw i hi
        have := hw i hi
        unfold okAt at this
        exact (Bool.and_eq_true_iff.mp this).2
    · rw [Bool.eq_iff_iff]; simp; omega
  | succ d ih =>
    intro r j hj hr hin hz
    refine Ev.step (fun k => impl_TreeOk.l0.eq_2 ..) ?_
    have hbad : ¬ (0 ≤ rd l (j : Int) ∧ rd l (j : Int) ≤ (l.length : Int)) → treeOk l = false := by
      intro hb
      unfold treeOk
      have : (List.range l.length).all (okAt l) = false := by
        rw [List.all_eq_false]
        exact ⟨j, by simp; omega, by unfold okAt; rw [decide_eq_false hb]; simp⟩
      rw [this]; simp
    refine Ev.pos (by omega) (Ev.pos (by omega) (Ev.pos (by omega) (Ev.ite (fun e => ?_) (fun e => ?_))))
    · refine Ev.step (fun k => impl_TreeOk.j2.eq_2 ..) (Ev.pos rfl (Ev.ret ?_))
      exact (hbad (by omega)).symm
    · refine Ev.step (fun k => impl_TreeOk.j2.eq_2 ..) (Ev.ite (fun e2 => ?_) (fun e2 => ?_))
      · have e2' := of_decide_eq_true e2
        exact Ev.ret (hbad (by omega)).symm
      · have e2' : ¬ rd l (j : Int) > (l.length : Int) := by simpa using e2
        have hin' : ∀ i, i < j + 1 → inRange l i = true := by
          intro i hi
          by_cases e' : i = j
          · subst e'; unfold inRange; exact decide_eq_true (by omega)
          · exact hin i (by omega)
        have hzs := zerosFrom_succ l j (by omega)
        rw [wrap_add1 (n := j) (by omega)]
        refine Ev.ite (fun e3 => ?_) (fun e3 => ?_)
        · rw [wrap_add1 (by omega)]
          rw [if_pos e3] at hzs
          exact ih (r + 1) (j + 1) (by omega) (by omega) hin' (by omega)
        · rw [if_neg e3] at hzs
          exact ih r (j + 1) (by omega) (by omega) hin' (by omega)

theorem impl_TreeOk_ev (l : List Int) : Ev (fun k => impl_TreeOk.f k l) (treeOk l) := by
  unfold impl_TreeOk.f
  have hbad : ¬ (1 ≤ l.length ∧ l.length ≤ 8) → treeOk l = false := by
    intro hb; unfold treeOk; rw [decide_eq_false hb]; rfl
  refine Ev.ite (fun e => ?_) (fun e => ?_)
  · refine Ev.step (fun k => impl_TreeOk.j0.eq_2 ..) (Ev.pos rfl (Ev.ret ?_))
    exact (hbad (by omega)).symm
  · refine Ev.step (fun k => impl_TreeOk.j0.eq_2 ..) (Ev.ite (fun e2 => ?_) (fun e2 => ?_))
    · have e2' := of_decide_eq_true e2
      exact Ev.ret (hbad (by omega)).symm
    · have e2' : ¬ (l.length : Int) > 8 := by simpa using e2
      exact impl_TreeOk_l0 l (by omega) (by omega) l.length 0 0 (by omega) (by omega) (fun i h => by omega) (by simp [zerosFrom])

def endsTo (l : List Int) (j : Nat) : List Int := (List.range l.length).map (fun i : Nat => (if i < j ∧ rd l i ≠ 0 then 1 else 0) + ((l.take j).count ((i : Int) + 1) : Int))
theorem endsTo_length (l : List Int) (j : Nat) : (endsTo l j).length = l.length := by simp [endsTo]
theorem endsTo_get (l : List Int) (j i : Nat) (h : i < l.length) : (endsTo l j)[i]? = some ((if i < j ∧ rd l i ≠ 0 then 1 else 0) + ((l.take j).count ((i : Int) + 1) : Int)) := by simp [endsTo, h]
theorem endsTo_rd (l : List Int) (j i : Nat) (h : i < l.length) : rd (endsTo l j) i = (if i < j ∧ rd l i ≠ 0 then 1 else 0) + ((l.take j).count ((i : Int) + 1) : Int) := by
  rw [rd_nat, List.getD_eq_getElem?_getD, endsTo_get l j i h]; rfl
theorem impl_EndsOf_l0 (l : List Int) (h : treeOk l = true) (d : Nat) : ∀ (j : Nat), j + d = l.length →
    Ev (fun k => impl_EndsOf.l0 k (endsTo l j) l (l.length : Int) (j : Int)) (endsOf l) := by
  have hl := treeOk_len h
  induction d with
  | zero =>
    intro j hj
    refine Ev.step (fun k => impl_EndsOf.l0.eq_2 ..) ?_
    refine Ev.neg (by omega) (Ev.ret ?_)
    unfold endsTo endsOf
    rw [if_pos h]
    apply List.map_congr_left
    intro i hi
    have := List.mem_range.mp hi
    rw [List.take_of_length_le (by omega)]
    congr 1
    by_cases e : rd l i = 0 <;> simp [e]; omega
  | succ d ih =>
    intro j hj
    have hr := treeOk_rd h (j := j) (by omega)
    have hcj : (l.take j).count ((j : Int) + 1) ≤ l.length := Nat.le_trans List.count_le_length (by simp; omega)
    refine Ev.step (fun k => impl_EndsOf.l0.eq_2 ..) ?_
    rw [wrap_add1 (by omega)]
    refine Ev.pos (by omega) (Ev.pos (by omega) (Ev.pos (by omega) (Ev.ite (fun e => ?_) (fun e => ?_))))
    · have e2 : endsTo l (j + 1) = endsTo l j := by
        unfold endsTo
        apply List.map_congr_left
        intro i hi
        rw [take_count l j _ (by omega), if_neg (show ¬ rd l j = (i : Int) + 1 by omega)]
        congr 1
        by_cases e3 : i = j
        · subst e3; simp [e]
        · have : (i < j + 1) ↔ (i < j) := by omega
          simp [this]
      rw [← e2]
      exact ih (j + 1) (by omega)
    · have hj2 : j < (endsTo l j).length := by rw [endsTo_length]; omega
      refine Ev.pos (by omega) ?_
      simp only [Option.bind_some]
      rw [wrap_id (n := rd l j - 1) (by omega) (by omega)]
      refine Ev.pos (by omega) (Ev.pos (by rw [endsTo_length]; omega) ?_)
      rw [endsTo_rd l j j (by omega), if_neg (by omega)]
      obtain ⟨b, hb⟩ : ∃ b : Nat, rd l j = (b : Int) + 1 := ⟨(rd l j - 1).toNat, by omega⟩
      have hbl : b < l.length := by omega
      have hcb : (l.take j).count ((b : Int) + 1) ≤ l.length := Nat.le_trans List.count_le_length (by simp; omega)
      rw [hb, show (b : Int) + 1 - 1 = (b : Int) by omega, wrap_id (n := 0 + _ + 1) (by omega) (by omega), Int.toNat_natCast, Int.toNat_natCast]
      have hin : rd ((endsTo l j).set j (0 + ((l.take j).count ((j : Int) + 1) : Int) + 1)) (b : Int) = if b = j then 0 + ((l.take j).count ((j : Int) + 1) : Int) + 1 else rd (endsTo l j) (b : Int) := by
        rw [rd_nat, rd_nat, List.getD_eq_getElem?_getD, List.getD_eq_getElem?_getD]
        by_cases e3 : b = j
        · subst e3; simp [endsTo_length, hbl]
        · rw [List.getElem?_set_ne (by omega), if_neg e3]
      rw [hin, endsTo_rd l j b hbl]
      have hval : ∀ v : Int, v = (if b = j then 0 + ((l.take j).count ((j : Int) + 1) : Int) + 1 else (if b < j ∧ rd l b ≠ 0 then 1 else 0) + ((l.take j).count ((b : Int) + 1) : Int)) → wrap64 (v + 1) = v + 1 := by
        intro v hv
        apply wrap_id <;> (subst hv; split <;> (try split) <;> omega)
      rw [hval _ rfl]
      have e2 : ((endsTo l j).set j (0 + ((l.take j).count ((j : Int) + 1) : Int) + 1)).set b ((if b = j then 0 + ((l.take j).count ((j : Int) + 1) : Int) + 1 else (if b < j ∧ rd l b ≠ 0 then 1 else 0) + ((l.take j).count ((b : Int) + 1) : Int)) + 1) = endsTo l (j + 1) := by
        apply List.ext_getElem?
        intro i
        by_cases hi : i < l.length
        · rw [endsTo_get l (j + 1) i hi, take_count l j _ (by omega), hb]
          have hii : i < ((endsTo l j).set j (0 + ((l.take j).count ((j : Int) + 1) : Int) + 1)).length := by simp [endsTo_length, hi]
          by_cases e3 : i = b
          · subst e3
            rw [List.getElem?_set_self hii]
            by_cases e4 : i = j
            · subst e4; simp [e, hb]; omega
            · have e5 : (i < j + 1) ↔ (i < j) := by omega
              simp [e4, e5]; omega
          · rw [List.getElem?_set_ne (by omega)]
            by_cases e4 : i = j
            · subst e4
              rw [List.getElem?_set_self hj2]
              have : ¬ ((b : Int) + 1 = (i : Int) + 1) := by omega
              simp [e, hb, this]; omega
            · rw [List.getElem?_set_ne (by omega), endsTo_get l j i hi]
              have e5 : (i < j + 1) ↔ (i < j) := by omega
              have : ¬ ((b : Int) + 1 = (i : Int) + 1) := by omega
              simp [e5, this]
        · rw [List.getElem?_eq_none (by simp [endsTo_length]; omega), List.getElem?_eq_none (by simp [endsTo_length]; omega)]
      rw [e2]
      exact ih (j + 1) (by omega)
theorem impl_EndsOf_ev (l : List Int) : Ev (fun k => impl_EndsOf.f k l) (endsOf l) := by
  unfold impl_EndsOf.f
  refine Ev.bind (impl_TreeOk_ev l) (Ev.ite (fun h => ?_) (fun h => ?_))
  · have hl := treeOk_len h
    refine Ev.pos (by omega) (Ev.pos (by omega) ?_)
    have e : List.replicate (l.length : Int).toNat (0 : Int) = endsTo l 0 := by
      apply List.ext_getElem?
      intro i
      by_cases hi : i < l.length
      · rw [endsTo_get l 0 i hi]; simp [hi]
      · rw [List.getElem?_eq_none (by simp; omega), List.getElem?_eq_none (by simp [endsTo_length]; omega)]
    rw [e]
    exact impl_EndsOf_l0 l h l.length 0 (by omega)
  · exact Ev.ret (by unfold endsOf; rw [if_neg h])

/-! pairs of arcs -/
def pairStep (e : List Int) (b : Int) (i : Nat) : Int := b - rd e i * (rd e i - 1) / 2
def pairsApart (l : List Int) : Int := if treeOk l then foldFrom (pairStep (endsOf l)) (endsOf l).length 0 (((l.length : Int) - 1) * ((l.length : Int) - 2) / 2) else -1
theorem half_of (e : Int) (h0 : 0 ≤ e) (h1 : e ≤ 9) : wrap64 (Int.tdiv (wrap64 (e * wrap64 (e - 1))) 2) = e * (e - 1) / 2 ∧ 0 ≤ e * (e - 1) / 2 ∧ e * (e - 1) / 2 ≤ 36 := by
  obtain rfl | rfl | rfl | rfl | rfl | rfl | rfl | rfl | rfl | rfl : e = 0 ∨ e = 1 ∨ e = 2 ∨ e = 3 ∨ e = 4 ∨ e = 5 ∨ e = 6 ∨ e = 7 ∨ e = 8 ∨ e = 9 := by omega
  all_goals decide +kernel
theorem half_len (n : Int) (h0 : 1 ≤ n) (h1 : n ≤ 8) : wrap64 (Int.tdiv (wrap64 (wrap64 (n - 1) * wrap64 (n - 2))) 2) = (n - 1) * (n - 2) / 2 ∧ wrap64 (Int.tdiv (wrap64 (wrap64 (n - 1) * wrap64 (wrap64 (n - 1) - 1))) 2) = (n - 1) * (n - 2) / 2 ∧ 0 ≤ (n - 1) * (n - 2) / 2 ∧ (n - 1) * (n - 2) / 2 ≤ 21 := by
  obtain rfl | rfl | rfl | rfl | rfl | rfl | rfl | rfl : n = 1 ∨ n = 2 ∨ n = 3 ∨ n = 4 ∨ n = 5 ∨ n = 6 ∨ n = 7 ∨ n = 8 := by omega
  all_goals decide +kernel
theorem spec_PairsApart_l0 (e : List Int) (he : e.length ≤ 8) (hb : ∀ j : Nat, j < e.length → 0 ≤ rd e j ∧ rd e j ≤ 9) (d : Nat) : ∀ (j : Nat) (b : Int), j + d = e.length → -36 * j ≤ b → b ≤ 100 →
    Ev (fun k => spec_PairsApart.l0 k b e (j : Int)) (foldFrom (pairStep e) e.length j b) := by
  induction d with
  | zero =>
    intro j b hj h0 h1
    refine Ev.step (fun k => spec_PairsApart.l0.eq_2 ..) ?_
    exact Ev.neg (by omega) (Ev.ret (foldFrom_end _ _ (by omega)).symm)
  | succ d ih =>
    intro j b hj h0 h1
    have hr := hb j (by omega)
    obtain ⟨h2, h3, h4⟩ := half_of _ hr.1 hr.2
    refine Ev.step (fun k => spec_PairsApart.l0.eq_2 ..) ?_
    rw [foldFrom_step _ _ (by omega), wrap_add1 (by omega), h2, wrap_id (by omega) (by omega)]
    refine Ev.pos (by omega) (Ev.pos (by omega) ?_)
    exact ih (j + 1) _ (by omega) (by omega) (by omega)
theorem impl_PairsApart_l0 (e : List Int) (he : e.length ≤ 8) (hb : ∀ j : Nat, j < e.length → 0 ≤ rd e j ∧ rd e j ≤ 9) (d : Nat) : ∀ (j : Nat) (b : Int), j + d = e.length → -36 * j ≤ b → b ≤ 100 →
    Ev (fun k => impl_PairsApart.l0 k b e (e.length : Int) (j : Int)) (foldFrom (pairStep e) e.length j b) := by
  induction d with
  | zero =>
    intro j b hj h0 h1
    refine Ev.step (fun k => impl_PairsApart.l0.eq_2 ..) ?_
    exact Ev.neg (by omega) (Ev.ret (foldFrom_end _ _ (by omega)).symm)
  | succ d ih =>
    intro j b hj h0 h1
    have hr := hb j (by omega)
    obtain ⟨h2, h3, h4⟩ := half_of _ hr.1 hr.2
    refine Ev.step (fun k => impl_PairsApart.l0.eq_2 ..) ?_
    rw [foldFrom_step _ _ (by omega), wrap_add1 (by omega), h2, wrap_id (by omega) (by omega)]
    refine Ev.pos (by omega) (Ev.pos (by omega) (Ev.pos (by omega) ?_))
    exact ih (j + 1) _ (by omega) (by omega) (by omega)
theorem spec_PairsApart_ev (l : List Int) : Ev (fun k => spec_PairsApart.f k l) (pairsApart l) := by
  unfold spec_PairsApart.f pairsApart
  refine Ev.bind (spec_TreeOk_ev l) (Ev.ite (fun h => ?_) (fun h => ?_))
  · have hl := treeOk_len h
    obtain ⟨h1, _, h3, h4⟩ := half_len (l.length : Int) (by omega) (by omega)
    rw [if_pos h, h1]
    exact Ev.bind (spec_EndsOf_ev l) (spec_PairsApart_l0 _ (endsOf_len l) (fun j hj => endsOf_bound hj) (endsOf l).length 0 _ (by omega) (by omega) (by omega))
  · rw [if_neg h]; exact Ev.ret rfl
theorem impl_PairsApart_ev (l : List Int) : Ev (fun k => impl_PairsApart.f k l) (pairsApart l) := by
  unfold impl_PairsApart.f pairsApart
  refine Ev.bind (impl_TreeOk_ev l) (Ev.ite (fun h => ?_) (fun h => ?_))
  · have hl := treeOk_len h
    obtain ⟨_, h1, h3, h4⟩ := half_len (l.length : Int) (by omega) (by omega)
    rw [if_pos h, h1]
    exact Ev.bind (impl_EndsOf_ev l) (impl_PairsApart_l0 _ (endsOf_len l) (fun j hj => endsOf_bound hj) (endsOf l).length 0 _ (by omega) (by omega) (by omega))
  · rw [if_neg h]; exact Ev.ret rfl

/-! the sum of crossings over all orders, as both count it -/
def factOf (n : Nat) : Int := match n with | 1 => 1 | 2 => 2 | 3 => 6 | 4 => 24 | 5 => 120 | 6 => 720 | 7 => 5040 | 8 => 40320 | _ => 1
def crossingsSum (l : List Int) : Int := if treeOk l then wrap64 (Int.tdiv (wrap64 (factOf l.length * pairsApart l)) 3) else -1
theorem impl_factorial_ev (n : Nat) (h0 : 1 ≤ n) (h1 : n ≤ 8) : Ev (fun k => impl_factorial.f k (n : Int)) (factOf n) := by
  refine Ev.of (fun k => impl_factorial.mono _ k) (k := 12) ?_
  obtain rfl | rfl | rfl | rfl | rfl | rfl | rfl | rfl : n = 1 ∨ n = 2 ∨ n = 3 ∨ n = 4 ∨ n = 5 ∨ n = 6 ∨ n = 7 ∨ n = 8 := by omega
  all_goals decide +kernel
theorem spec_CrossingsSum_l0 (l : List Int) (h : treeOk l = true) (r : Int) (n : Nat) (hn : l.length = n) (hr : ∀ b, b = factOf n → wrap64 (Int.tdiv (wrap64 (b * pairsApart l)) 3) = r) : Ev (fun k => spec_CrossingsSum.l0 k l 1 2) r := by
  have hl := treeOk_len h
  have last : ∀ (b : Int) (j : Nat), b = factOf n → (n : Int) < j → Ev (fun k => spec_CrossingsSum.l0 k l b (j : Int)) r := by
    intro b j hb hj
    refine Ev.step (fun k => spec_CrossingsSum.l0.eq_2 ..) ?_
    exact Ev.neg (by omega) (Ev.bind (spec_PairsApart_ev l) (Ev.ret (hr b hb)))
  have more : ∀ (b b' : Int) (j : Nat), (j : Int) ≤ n → wrap64 (b * j) = b' → j < 100 → Ev (fun k => spec_CrossingsSum.l0 k l b' ((j + 1 : Nat) : Int)) r → Ev (fun k => spec_CrossingsSum.l0 k l b (j : Int)) r := by
    intro b b' j hj hb hj2 next
    refine Ev.step (fun k => spec_CrossingsSum.l0.eq_2 ..) ?_
    rw [hb, wrap_add1 (by omega)]
    exact Ev.pos (by omega) next
  have m2 := more 1 2 2
  have m3 := more 2 6 3
  have m4 := more 6 24 4
  have m5 := more 24 120 5
  have m6 := more 120 720 6
  have m7 := more 720 5040 7
  have m8 := more 5040 40320 8
  obtain rfl | rfl | rfl | rfl | rfl | rfl | rfl | rfl : n = 1 ∨ n = 2 ∨ n = 3 ∨ n = 4 ∨ n = 5 ∨ n = 6 ∨ n = 7 ∨ n = 8 := by omega
  · exact last 1 2 rfl (by omega)
  · exact m2 (by omega) (by decide +kernel) (by omega) (last 2 3 rfl (by omega))
  · exact m2 (by omega) (by decide +kernel) (by omega) (m3 (by omega) (by decide +kernel) (by omega) (last 6 4 rfl (by omega)))
  · exact m2 (by omega) (by decide +kernel) (by omega) (m3 (by omega) (by decide +kernel) (by omega) (m4 (by omega) (by decide +kernel) (by omega) (last 24 5 rfl (by omega))))
  · exact m2 (by omega) (by decide +kernel) (by omega) (m3 (by omega) (by decide +kernel) (by omega) (m4 (by omega) (by decide +kernel) (by omega) (m5 (by omega) (by decide +kernel) (by omega) (last 120 6 rfl (by omega)))))
  · exact m2 (by omega) (by decide +kernel) (by omega) (m3 (by omega) (by decide +kernel) (by omega) (m4 (by omega) (by decide +kernel) (by omega) (m5 (by omega) (by decide +kernel) (by omega) (m6 (by omega) (by decide +kernel) (by omega) (last 720 7 rfl (by omega))))))
  · exact m2 (by omega) (by decide +kernel) (by omega) (m3 (by omega) (by decide +kernel) (by omega) (m4 (by omega) (by decide +kernel) (by omega) (m5 (by omega) (by decide +kernel) (by omega) (m6 (by omega) (by decide +kernel) (by omega) (m7 (by omega) (by decide +kernel) (by omega) (last 5040 8 rfl (by omega)))))))
  · exact m2 (by omega) (by decide +kernel) (by omega) (m3 (by omega) (by decide +kernel) (by omega) (m4 (by omega) (by decide +kernel) (by omega) (m5 (by omega) (by decide +kernel) (by omega) (m6 (by omega) (by decide +kernel) (by omega) (m7 (by omega) (by decide +kernel) (by omega) (m8 (by omega) (by decide +kernel) (by omega) (last 40320 9 rfl (by omega))))))))
theorem spec_CrossingsSum_ev (l : List Int) : Ev (fun k => spec_CrossingsSum.f k l) (crossingsSum l) := by
  unfold spec_CrossingsSum.f crossingsSum
  refine Ev.bind (spec_TreeOk_ev l) (Ev.ite (fun h => ?_) (fun h => ?_))
  · rw [if_pos h]; exact spec_CrossingsSum_l0 l h _ l.length rfl (fun b hb => by rw [hb])
  · rw [if_neg h]; exact Ev.ret rfl
theorem impl_CrossingsSum_ev (l : List Int) : Ev (fun k => impl_CrossingsSum.f k l) (crossingsSum l) := by
  unfold impl_CrossingsSum.f crossingsSum
  refine Ev.bind (impl_TreeOk_ev l) (Ev.ite (fun h => ?_) (fun h => ?_))
  · have hl := treeOk_len h
    rw [if_pos h]; exact Ev.bind (impl_factorial_ev l.length hl.1 hl.2) (Ev.bind (impl_PairsApart_ev l) (Ev.ret rfl))
  · rw [if_neg h]; exact Ev.ret rfl

theorem FnExactCrossingsSum : laws_FnExactCrossingsSum.Pure := by
  intro l _ _ _
  refine Ev.rounds (g := fun k => laws_FnExactCrossingsSum.f k l) ?_
  unfold laws_FnExactCrossingsSum.f
  refine Ev.ite (fun h => Ev.ret rfl) (fun h => ?_)
  have hl : l.length ≤ 1048576 := by omega
  refine Ev.bind (toIntS_ev l hl) (Ev.bind (spec_CrossingsSum_ev l) (Ev.bind (toIntS_ev l hl) (Ev.bind (impl_CrossingsSum_ev l) (Ev.pos rfl (Ev.bind (toIntS_ev l hl) (Ev.bind (eqIntS_ev l l hl) (Ev.pos (by simp) (Ev.ret rfl))))))))

end Go.Proofs.Ytndgogphgeefaaa.Pure
