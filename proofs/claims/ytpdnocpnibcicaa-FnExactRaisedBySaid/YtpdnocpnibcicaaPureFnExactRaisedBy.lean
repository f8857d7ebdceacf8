/- The plain statement of FnExactRaisedBy: the printed functions answer true for all arguments within the printed bounds; no other conditions. -/
import Derived.Test.YtpdnocpnibcicaaLFx4
import Derived.ChangeSlices
import Derived.SizedLaws
import Derived.Test.YtpdnocpnibcicaaVSized
namespace Go.Proofs.Ytpdnocpnibcicaa.Pure
open Go.RowKit Go.Proofs.Ytpdnocpnibcicaa.LF Go.Proofs.YtpdnocpnibcicaaV.PrintWords Go.Proofs.YtpdnocpnibcicaaV.PrintLast
set_option linter.unusedVariables false
set_option linter.unusedSimpArgs false

theorem Ev.ret {α : Type} {r r' : α} (h : r = r') : Ev (fun _ => some r) r' := ⟨0, fun _ _ => by rw [h]⟩
theorem Ev.pos {α : Type} {c : Prop} [Decidable c] {g f : Nat → Option α} {r : α} (h : c) (k : Ev g r) : Ev (fun n => if c then g n else f n) r := by
  simpa only [if_pos h] using k
theorem Ev.neg {α : Type} {c : Prop} [Decidable c] {g f : Nat → Option α} {r : α} (h : ¬ c) (k : Ev f r) : Ev (fun n => if c then g n else f n) r := by
  simpa only [if_neg h] using k
theorem Ev.ite {α : Type} {c : Prop} [Decidable c] {g f : Nat → Option α} {r : α} (h : c → Ev g r) (k : ¬ c → Ev f r) : Ev (fun n => if c then g n else f n) r := by
  by_cases hc : c
  · exact Ev.pos hc (h hc)
  · exact Ev.neg hc (k hc)
theorem Ev.bind0 {α β : Type} {o : Option α} {f : Nat → α → Option β} {a : α} {r : β} (h : o = some a) (k : Ev (fun n => f n a) r) : Ev (fun n => o.bind (f n)) r := by
  subst h; simpa only [Option.bind_some] using k
theorem Ev.eq {α : Type} {g : Nat → Option α} {r r' : α} (h : Ev g r) (e : r = r') : Ev g r' := e ▸ h
theorem wrap_id {n : Int} (h0 : -9223372036854775808 ≤ n) (h1 : n < 9223372036854775808) : wrap64 n = n := by
  unfold wrap64; omega
theorem wrap_add1 {n : Nat} (h : n < 1099511627776) : wrap64 ((n : Int) + 1) = ((n + 1 : Nat) : Int) := by
  unfold wrap64; omega
theorem rd_nat (l : List Int) (j : Nat) : rd l (j : Int) = l.getD j 0 := by simp [rd]

open Go.ChangeShapes Go.WideShapes in
/-- the printed row names this lemma so: it is the words' own -/
theorem _root_.Go.Proofs.Ytpdnocpnibcicaa.PrintWords.sized_ints {H : Type} {enc : TypeId × Value → H} {P : Program} {W : World} {base : Nat} {spare : Nat → Bool} {held : Bool} {t e : TypeId} {k : IntKind} {a : Option Addr} {len cap : Nat} {d : DataW H} {ps : List MemPlace} {ts : List TypeId} {ds : List (DataW H)} {j : Nat}
    (hsz : (DataW.weightsEach P ts ds).all (· ≤ reachBytes) = true) (ht : ts[j]? = some t) (hd : ds[j]? = some d) (hu : P.underlying t = some (.slice e)) (he : P.underlying e = some (.int k)) (hc : P.cellsOf e = 1) {B : Nat} (hB : P.bytesOf e = B)
    (h : DataW.Trod enc P W base spare held t (.slice a len cap) d ps) : len * B ≤ 140737488351232 :=
  Go.Proofs.YtpdnocpnibcicaaV.PrintWords.sized_ints hsz ht hd hu he hc hB h

/-- whether one comes from a word to 0 within so many steps, over numbers of words or 0 alone -/
def walkOk (l : List Int) : Nat → Int → Bool
  | 0, a => decide (a ≤ 0)
  | m + 1, a => if a ≤ 0 then true else decide (0 ≤ rd l (a - 1) ∧ rd l (a - 1) ≤ l.length) && walkOk l m (rd l (a - 1))
def okAt (l : List Int) (i : Nat) : Bool := decide (0 ≤ rd l i ∧ rd l i ≤ l.length) && walkOk l l.length ((i : Int) + 1)
def zerosFrom (l : List Int) (j : Nat) : Nat := (l.drop j).count 0
def treeOk (l : List Int) : Bool := decide (1 ≤ l.length ∧ l.length ≤ 8) && (List.range l.length).all (okAt l) && decide (l.count 0 = 1)

theorem walkOk_self (l : List Int) (a : Int) (ha : 0 < a) (h : rd l (a - 1) = a) : ∀ m, walkOk l m a = false
  | 0 => by simp [walkOk]; omega
  | m + 1 => by
    unfold walkOk
    rw [if_neg (by omega), h, walkOk_self l a ha h m, Bool.and_false]

theorem zerosFrom_succ (l : List Int) (j : Nat) (h : j < l.length) : zerosFrom l j = (if rd l j = 0 then 1 else 0) + zerosFrom l (j + 1) := by
  unfold zerosFrom
  rw [List.drop_eq_getElem_cons h, List.count_cons]
  have e : rd l j = l[j] := by simp [rd_nat, h]
  rw [e]
  by_cases e : l[j] = 0 <;> simp [e, Nat.add_comm]
theorem zerosFrom_le (l : List Int) (j : Nat) : zerosFrom l j ≤ l.length := by
  unfold zerosFrom
  exact Nat.le_trans List.count_le_length (by simp)

theorem all_from (p : Nat → Bool) (n j : Nat) (h : j < n) : ((List.range' j (n - j)).all p) = (p j && (List.range' (j + 1) (n - (j + 1))).all p) := by
  obtain ⟨d, hd⟩ : ∃ d, n - j = d + 1 := ⟨n - j - 1, by omega⟩
  rw [hd, List.range'_succ, List.all_cons, show n - (j + 1) = d by omega]

def restOk (l : List Int) (r : Nat) (j : Nat) : Bool := (List.range' j (l.length - j)).all (okAt l) && decide (r + zerosFrom l j = 1)
theorem restOk_end (l : List Int) (r : Nat) (j : Nat) (h : j = l.length) : restOk l r j = ((r : Int) == 1) := by
  subst h
  unfold restOk zerosFrom
  simp
  rw [Bool.eq_iff_iff]; simp; omega
theorem restOk_bad (l : List Int) (r : Nat) (j : Nat) (h : j < l.length) (hb : okAt l j = false) : restOk l r j = false := by
  unfold restOk
  rw [all_from _ _ _ h, hb]; rfl
theorem restOk_good (l : List Int) (r : Nat) (j : Nat) (h : j < l.length) (hb : okAt l j = true) : restOk l r j = restOk l (r + if rd l j = 0 then 1 else 0) (j + 1) := by
  unfold restOk
  rw [all_from _ _ _ h, hb, Bool.true_and, zerosFrom_succ l j h, Nat.add_assoc]
theorem restOk_zero (l : List Int) (h : 1 ≤ l.length ∧ l.length ≤ 8) : restOk l 0 0 = treeOk l := by
  unfold restOk treeOk zerosFrom
  rw [decide_eq_true h]
  simp [List.range_eq_range']

theorem l1In_eq (a b c : Int) : spec_l1In.f a b c = some (decide (b ≤ a ∧ a ≤ c)) := by
  unfold spec_l1In.f
  split
  · rename_i h; congr 1; rw [decide_eq_decide]; omega
  · rename_i h; congr 1; symm; rw [decide_eq_false_iff_not]; omega

/-! a row of rows, read -/
theorem rd1_nat (xs : List (List Int)) (j : Nat) : rd_L1 xs (j : Int) = xs.getD j [] := by simp [rd_L1]

/-! scores -/
def scRow (n : Nat) (row : List Int) : Bool := decide (row.length = n + 1) && row.all (fun x => decide (0 ≤ x ∧ x ≤ 20))
def scoresOk (s : List (List Int)) : Bool := s.all (scRow s.length) && decide (1 ≤ s.length ∧ s.length ≤ 5)
theorem drop_all {α : Type} (p : α → Bool) (l : List α) (z : α) (j : Nat) (h : j < l.length) : (l.drop j).all p = (p (l.getD j z) && (l.drop (j + 1)).all p) := by
  rw [List.drop_eq_getElem_cons h, List.all_cons, List.getD_eq_getElem?_getD, List.getElem?_eq_getElem h]; rfl
theorem spec_ScoresOk_l1 (s : List (List Int)) (j : Nat) (hs : s.length ≤ 1048576) (hj : j < s.length) (hr : (rd_L1 s (j : Int)).length = s.length + 1) (b : Bool)
    (next : Ev (fun k => spec_ScoresOk.l0 k s ((j + 1 : Nat) : Int)) b) (d : Nat) : ∀ (i : Nat), i + d = s.length + 1 →
    Ev (fun k => spec_ScoresOk.l1 k s (j : Int) (i : Int)) (((rd_L1 s (j : Int)).drop i).all (fun x => decide (0 ≤ x ∧ x ≤ 20)) && b) := by
  induction d with
  | zero =>
    intro i hi
    refine Ev.step (fun k => spec_ScoresOk.l1.eq_2 ..) ?_
    refine Ev.pos (by omega) (Ev.pos (by omega) (Ev.neg (by omega) ?_))
    rw [wrap_add1 (by omega)]
    refine Ev.eq next ?_
    rw [List.drop_eq_nil_of_le (by omega)]; rfl
  | succ d ih =>
    intro i hi
    refine Ev.step (fun k => spec_ScoresOk.l1.eq_2 ..) ?_
    refine Ev.pos (by omega) (Ev.pos (by omega) (Ev.pos (by omega) (Ev.pos (by omega) (Ev.bind0 (l1In_eq ..) ?_))))
    rw [drop_all _ _ 0 i (by omega), ← rd_nat]
    refine Ev.ite (fun hc => ?_) (fun hc => ?_)
    · rw [wrap_add1 (by omega)]
      refine Ev.eq (ih (i + 1) (by omega)) ?_
      rw [hc, Bool.true_and]
    · refine Ev.ret ?_
      rw [show decide (0 ≤ rd (rd_L1 s (j : Int)) (i : Int) ∧ rd (rd_L1 s (j : Int)) (i : Int) ≤ 20) = false by simpa using hc]; rfl
theorem spec_ScoresOk_l0 (s : List (List Int)) (hs : s.length ≤ 1048576) (d : Nat) : ∀ (j : Nat), j + d = s.length →
    Ev (fun k => spec_ScoresOk.l0 k s (j : Int)) ((s.drop j).all (scRow s.length) && decide (1 ≤ s.length ∧ s.length ≤ 5)) := by
  induction d with
  | zero =>
    intro j hj
    refine Ev.step (fun k => spec_ScoresOk.l0.eq_2 ..) ?_
    refine Ev.neg (by omega) (Ev.bind0 (l1In_eq ..) (Ev.ret ?_))
    rw [List.drop_eq_nil_of_le (by omega), List.all_nil, Bool.true_and, decide_eq_decide]
    omega
  | succ d ih =>
    intro j hj
    refine Ev.step (fun k => spec_ScoresOk.l0.eq_2 ..) ?_
    rw [drop_all _ _ [] j (by omega), ← rd1_nat]
    refine Ev.pos (by omega) (Ev.pos (by omega) ?_)
    rw [wrap_add1 (by omega)]
    refine Ev.ite (fun hc => ?_) (fun hc => ?_)
    · refine Ev.eq (spec_ScoresOk_l1 s j hs (by omega) (by omega) _ (ih (j + 1) (by omega)) (s.length + 1) 0 (by omega)) ?_
      unfold scRow
      rw [decide_eq_true (show (rd_L1 s (j : Int)).length = s.length + 1 by omega), Bool.true_and, List.drop_zero, Bool.and_assoc]
    · refine Ev.ret ?_
      unfold scRow
      rw [decide_eq_false (show ¬ (rd_L1 s (j : Int)).length = s.length + 1 by omega)]; rfl
theorem spec_ScoresOk_ev (s : List (List Int)) (hs : s.length ≤ 1048576) : Ev (fun k => spec_ScoresOk.f k s) (scoresOk s) := by
  unfold spec_ScoresOk.f
  exact spec_ScoresOk_l0 s hs s.length 0 (by omega)
theorem impl_ScoresOk_l1 (s : List (List Int)) (j : Nat) (hs : s.length ≤ 1048576) (hj : j < s.length) (row : List Int) (hr : row.length = s.length + 1) (b : Bool)
    (next : Ev (fun k => impl_ScoresOk.l0 k s s (s.length : Int) ((j + 1 : Nat) : Int)) b) (d : Nat) : ∀ (i : Nat), i + d = s.length + 1 →
    Ev (fun k => impl_ScoresOk.l1 k s s (s.length : Int) (j : Int) row (row.length : Int) (i : Int)) ((row.drop i).all (fun x => decide (0 ≤ x ∧ x ≤ 20)) && b) := by
  induction d with
  | zero =>
    intro i hi
    refine Ev.step (fun k => impl_ScoresOk.l1.eq_2 ..) ?_
    refine Ev.neg (by omega) ?_
    rw [wrap_add1 (by omega)]
    refine Ev.eq next ?_
    rw [List.drop_eq_nil_of_le (by omega)]; rfl
  | succ d ih =>
    intro i hi
    refine Ev.step (fun k => impl_ScoresOk.l1.eq_2 ..) ?_
    refine Ev.pos (by omega) (Ev.pos (by omega) (Ev.pos (by omega) ?_))
    rw [drop_all _ _ 0 i (by omega), ← rd_nat]
    refine Ev.ite (fun hc => ?_) (fun hc => Ev.ite (fun hc2 => ?_) (fun hc2 => ?_))
    · refine Ev.ret ?_
      rw [decide_eq_false (by omega)]; rfl
    · refine Ev.ret ?_
      rw [decide_eq_false (by omega)]; rfl
    · rw [wrap_add1 (by omega)]
      refine Ev.eq (ih (i + 1) (by omega)) ?_
      rw [decide_eq_true (show 0 ≤ rd row (i : Int) ∧ rd row (i : Int) ≤ 20 by omega), Bool.true_and]
theorem impl_ScoresOk_l0 (s : List (List Int)) (hs : s.length ≤ 1048576) (d : Nat) : ∀ (j : Nat), j + d = s.length →
    Ev (fun k => impl_ScoresOk.l0 k s s (s.length : Int) (j : Int)) ((s.drop j).all (scRow s.length) && decide (1 ≤ s.length ∧ s.length ≤ 5)) := by
  induction d with
  | zero =>
    intro j hj
    refine Ev.step (fun k => impl_ScoresOk.l0.eq_2 ..) ?_
    refine Ev.neg (by omega) ?_
    rw [List.drop_eq_nil_of_le (by omega), List.all_nil, Bool.true_and]
    refine Ev.ite (fun h => Ev.ret ?_) (fun h => Ev.ret ?_)
    · rw [decide_eq_decide]; omega
    · rw [decide_eq_false (by omega)]
  | succ d ih =>
    intro j hj
    refine Ev.step (fun k => impl_ScoresOk.l0.eq_2 ..) ?_
    rw [drop_all _ _ [] j (by omega), ← rd1_nat]
    refine Ev.pos (by omega) (Ev.pos (by omega) (Ev.pos (by omega) ?_))
    rw [wrap_add1 (by omega)]
    refine Ev.ite (fun hc => ?_) (fun hc => ?_)
    · refine Ev.eq (impl_ScoresOk_l1 s j hs (by omega) _ (by omega) _ (ih (j + 1) (by omega)) (s.length + 1) 0 (by omega)) ?_
      unfold scRow
      rw [decide_eq_true (show (rd_L1 s (j : Int)).length = s.length + 1 by omega), Bool.true_and, List.drop_zero, Bool.and_assoc]
    · refine Ev.ret ?_
      unfold scRow
      rw [decide_eq_false (show ¬ (rd_L1 s (j : Int)).length = s.length + 1 by omega)]; rfl
theorem impl_ScoresOk_ev (s : List (List Int)) (hs : s.length ≤ 1048576) : Ev (fun k => impl_ScoresOk.f k s) (scoresOk s) := by
  unfold impl_ScoresOk.f
  exact impl_ScoresOk_l0 s hs s.length 0 (by omega)

/-! rows of scores -/
theorem scoresOk_len {s : List (List Int)} (h : scoresOk s = true) : 1 ≤ s.length ∧ s.length ≤ 5 := by
  unfold scoresOk at h
  rw [Bool.and_eq_true] at h
  exact of_decide_eq_true h.2
theorem scoresOk_row {s : List (List Int)} (h : scoresOk s = true) {i : Nat} (hi : i < s.length) : (rd_L1 s (i : Int)).length = s.length + 1 ∧ ∀ j : Nat, j < s.length + 1 → 0 ≤ rd (rd_L1 s (i : Int)) (j : Int) ∧ rd (rd_L1 s (i : Int)) (j : Int) ≤ 20 := by
  unfold scoresOk at h
  rw [Bool.and_eq_true] at h
  have hm : rd_L1 s (i : Int) ∈ s := by
    rw [rd1_nat, List.getD_eq_getElem?_getD, List.getElem?_eq_getElem hi]; exact List.getElem_mem ..
  have := List.all_eq_true.mp h.1 _ hm
  unfold scRow at this
  rw [Bool.and_eq_true] at this
  have hl := of_decide_eq_true this.1
  refine ⟨hl, fun j hj => ?_⟩
  have hm2 : rd (rd_L1 s (i : Int)) (j : Int) ∈ rd_L1 s (i : Int) := by
    rw [rd_nat, List.getD_eq_getElem?_getD, List.getElem?_eq_getElem (by omega)]; exact List.getElem_mem ..
  exact of_decide_eq_true (List.all_eq_true.mp this.2 _ hm2)

/-! scores of which all of one word are one more -/
def raiseOf (s : List (List Int)) (r : Nat) : List (List Int) := s.set r ((rd_L1 s (r : Int)).map (· + 1))
theorem raise_len (s : List (List Int)) (r : Nat) : (raiseOf s r).length = s.length := List.length_set ..
theorem raise_row (s : List (List Int)) {r : Nat} (hr : r < s.length) (j : Nat) : rd_L1 (raiseOf s r) (j : Int) = if j = r then (rd_L1 s (j : Int)).map (· + 1) else rd_L1 s (j : Int) := by
  unfold raiseOf
  by_cases e : j = r
  · subst e
    rw [if_pos rfl, rd1_nat (s.set _ _), List.getD_eq_getElem?_getD, List.getElem?_set_self hr]; rfl
  · rw [if_neg e, rd1_nat (s.set _ _), List.getD_eq_getElem?_getD, List.getElem?_set_ne (Ne.symm e), ← List.getD_eq_getElem?_getD, rd1_nat]
theorem rd_map1 (l : List Int) {i : Nat} (hi : i < l.length) : rd (l.map (· + 1)) (i : Int) = rd l (i : Int) + 1 := by
  rw [rd_nat, rd_nat, List.getD_eq_getElem?_getD, List.getD_eq_getElem?_getD, List.getElem?_map, List.getElem?_eq_getElem hi]; rfl
theorem take_snoc {α : Type} (l : List α) {i : Nat} (h : i < l.length) : l.take i ++ [l[i]] = l.take (i + 1) := (List.take_succ_eq_append_getElem h).symm
theorem rd_elem {l : List Int} {i : Nat} (h : i < l.length) : rd l (i : Int) = l[i] := by rw [rd_nat, List.getD_eq_getElem?_getD, List.getElem?_eq_getElem h]; rfl
theorem rd1_elem {l : List (List Int)} {i : Nat} (h : i < l.length) : rd_L1 l (i : Int) = l[i] := by rw [rd1_nat, List.getD_eq_getElem?_getD, List.getElem?_eq_getElem h]; rfl
def raisedOf (s : List (List Int)) (w : Int) : List (List Int) × Bool :=
  if scoresOk s = true ∧ 1 ≤ w ∧ w ≤ s.length ∧ scoresOk (raiseOf s (w - 1).toNat) = true then (raiseOf s (w - 1).toNat, true) else ([], false)
theorem raise_small {s : List (List Int)} (hs : scoresOk s = true) {r : Nat} (hr : r < s.length) {j : Nat} (hj : j < s.length) : (rd_L1 (raiseOf s r) (j : Int)).length = s.length + 1 := by
  rw [raise_row s hr]
  have := (scoresOk_row hs hj).1
  split
  · rw [List.length_map]; exact this
  · exact this

theorem spec_raised_l1 {s : List (List Int)} (hs : scoresOk s = true) {r : Nat} (hr : r < s.length) {j : Nat} (hj : j < s.length) (z : List (List Int) × Bool)
    (next : Ev (fun k => spec_RaisedBy.l0 k s ((r : Int) + 1) ((raiseOf s r).take (j + 1)) ((j : Int) + 1)) z) (d : Nat) : ∀ i : Nat, i + d = s.length + 1 →
    Ev (fun k => spec_RaisedBy.l1 k s ((r : Int) + 1) ((raiseOf s r).take j) (j : Int) ((rd_L1 (raiseOf s r) (j : Int)).take i) (i : Int)) z := by
  have hn := scoresOk_len hs
  have hrow := scoresOk_row hs hj
  have hzl := raise_small hs hr hj
  have hzlen := raise_len s r
  have e1 : wrap64 ((r : Int) + 1 - 1) = (r : Int) := by rw [wrap_id (by omega) (by omega)]; omega
  induction d with
  | zero =>
    intro i hi
    refine Ev.step (fun k => spec_RaisedBy.l1.eq_2 ..) (Ev.pos (by omega) (Ev.pos (by omega) (Ev.neg (by omega) (Ev.pos (by rw [List.length_take]; omega) ?_))))
    rw [wrap_id (by omega) (by omega), List.take_of_length_le (l := rd_L1 (raiseOf s r) (j : Int)) (by omega), rd1_elem (by omega), take_snoc _ (by omega)]
    exact next
  | succ d ih =>
    intro i hi
    have hsn : (rd_L1 (raiseOf s r) (j : Int)).take i ++ [rd (rd_L1 (raiseOf s r) (j : Int)) (i : Int)] = (rd_L1 (raiseOf s r) (j : Int)).take (i + 1) := by
      rw [rd_elem (by omega), take_snoc _ (by omega)]
    have hv := hrow.2 i (by omega)
    have hnext := ih (i + 1) (by omega)
    rw [← hsn, show ((i + 1 : Nat) : Int) = (i : Int) + 1 by omega] at hnext
    refine Ev.step (fun k => spec_RaisedBy.l1.eq_2 ..) (Ev.pos (by omega) (Ev.pos (by omega) (Ev.pos (by omega) ?_)))
    rw [e1, wrap_id (n := (i : Int) + 1) (by omega) (by omega)]
    refine Ev.ite (fun e => Ev.pos (by omega) (Ev.pos (by rw [List.length_take]; omega) ?_)) (fun e => Ev.pos (by omega) (Ev.pos (by rw [List.length_take]; omega) ?_))
    · rw [wrap_id (by omega) (by omega)]
      rw [raise_row s hr, if_pos (by omega), rd_map1 _ (by omega)] at hnext
      rw [raise_row s hr, if_pos (by omega)]
      exact hnext
    · rw [raise_row s hr, if_neg (by omega)] at hnext
      rw [raise_row s hr, if_neg (by omega)]
      exact hnext
theorem spec_raised_l0 {s : List (List Int)} (hs : scoresOk s = true) {r : Nat} (hr : r < s.length) (d : Nat) : ∀ j : Nat, j + d = s.length →
    Ev (fun k => spec_RaisedBy.l0 k s ((r : Int) + 1) ((raiseOf s r).take j) (j : Int)) (if scoresOk (raiseOf s r) = true then (raiseOf s r, true) else ([], false)) := by
  have hn := scoresOk_len hs
  have hzlen := raise_len s r
  induction d with
  | zero =>
    intro j hj
    rw [List.take_of_length_le (by omega)]
    refine Ev.step (fun k => spec_RaisedBy.l0.eq_2 ..) (Ev.neg (by omega) (Ev.bind (spec_ScoresOk_ev _ (by omega)) (Ev.ite (fun h => Ev.ret ?_) (fun h => Ev.ret ?_))))
    · rw [if_pos h]
    · rw [if_neg h]
  | succ d ih =>
    intro j hj
    refine Ev.step (fun k => spec_RaisedBy.l0.eq_2 ..) (Ev.pos (by omega) ?_)
    have h := spec_raised_l1 hs hr (j := j) (by omega) _ (by have := ih (j + 1) (by omega); rwa [show ((j + 1 : Nat) : Int) = (j : Int) + 1 by omega] at this) (s.length + 1) 0 (by omega)
    rw [List.take_zero] at h
    exact h
theorem spec_RaisedBy_ev (s : List (List Int)) (w : Int) (hl : s.length ≤ 1048576) : Ev (fun k => spec_RaisedBy.f k s w) (raisedOf s w) := by
  unfold spec_RaisedBy.f raisedOf
  refine Ev.bind (spec_ScoresOk_ev s hl) (Ev.ite (fun hs => Ev.bind0 (l1In_eq ..) ?_) (fun hs => ?_))
  · refine Ev.step (fun k => spec_RaisedBy.j0.eq_2 ..) (Ev.ite (fun h => Ev.ret ?_) (fun h => ?_))
    · have h' : ¬ (1 ≤ w ∧ w ≤ (s.length : Int)) := by
        intro c
        simp at h
        omega
      rw [if_neg (fun c => h' ⟨c.2.1, c.2.2.1⟩)]
    · have h' : 1 ≤ w ∧ w ≤ (s.length : Int) := by simpa using h
      have h2 := spec_raised_l0 hs (r := (w - 1).toNat) (by omega) s.length 0 (by omega)
      rw [List.take_zero, show (((w - 1).toNat : Nat) : Int) + 1 = w by omega] at h2
      refine Ev.eq h2 ?_
      by_cases c : scoresOk (raiseOf s (w - 1).toNat) = true
      · rw [if_pos c, if_pos ⟨hs, h'.1, h'.2, c⟩]
      · rw [if_neg c, if_neg (fun z => c z.2.2.2)]
  · refine Ev.step (fun k => spec_RaisedBy.j0.eq_2 ..) (Ev.pos rfl (Ev.ret ?_))
    rw [if_neg (fun c => hs c.1)]

def upTo (row : List Int) (i : Nat) : List Int := (row.take i).map (· + 1) ++ row.drop i
theorem upTo_len (row : List Int) {i : Nat} (h : i ≤ row.length) : (upTo row i).length = row.length := by
  unfold upTo; rw [List.length_append, List.length_map, List.length_take, List.length_drop]; omega
theorem upTo_rd (row : List Int) {i : Nat} (h : i < row.length) : rd (upTo row i) (i : Int) = row[i] := by
  rw [rd_nat, List.getD_eq_getElem?_getD]
  unfold upTo
  rw [List.getElem?_append_right (by rw [List.length_map, List.length_take]; omega), List.length_map, List.length_take, List.getElem?_drop, show i + (i - min i row.length) = i by omega, List.getElem?_eq_getElem h]; rfl
theorem upTo_set (row : List Int) {i : Nat} (h : i < row.length) : (upTo row i).set i (row[i] + 1) = upTo row (i + 1) := by
  unfold upTo
  have hl : ((row.take i).map (· + 1)).length = i := by rw [List.length_map, List.length_take]; omega
  rw [List.set_append_right _ _ (by omega), hl, Nat.sub_self, List.drop_eq_getElem_cons h, List.set_cons_zero, List.take_succ_eq_append_getElem h, List.map_append, List.append_assoc]
  rfl
theorem impl_raised_l1 {s : List (List Int)} (hs : scoresOk s = true) {r : Nat} (hr : r < s.length) (d : Nat) : ∀ i : Nat, i + d = s.length + 1 →
    Ev (fun k => impl_RaisedBy.l1 k ((r : Int) + 1) (s.set r (upTo (rd_L1 s (r : Int)) i)) ((s.length : Int) + 1) (i : Int)) (if scoresOk (raiseOf s r) = true then (raiseOf s r, true) else ([], false)) := by
  have hn := scoresOk_len hs
  obtain ⟨hrow, hv⟩ := scoresOk_row hs hr
  have hlen : ∀ x, (s.set r x).length = s.length := fun x => List.length_set ..
  have e1 : wrap64 ((r : Int) + 1 - 1) = (r : Int) := by rw [wrap_id (by omega) (by omega)]; omega
  have hself : ∀ x, rd_L1 (s.set r x) (r : Int) = x := fun x => by rw [rd1_nat, List.getD_eq_getElem?_getD, List.getElem?_set_self hr]; rfl
  induction d with
  | zero =>
    intro i hi
    have e2 : s.set r (upTo (rd_L1 s (r : Int)) i) = raiseOf s r := by
      unfold raiseOf upTo
      rw [List.take_of_length_le (by omega), List.drop_of_length_le (by omega), List.append_nil]
    rw [e2]
    refine Ev.step (fun k => impl_RaisedBy.l1.eq_2 ..) (Ev.neg (by omega) (Ev.bind (impl_ScoresOk_ev _ (by rw [raise_len]; omega)) (Ev.ite (fun h => Ev.ret ?_) (fun h => Ev.ret ?_))))
    · rw [if_pos h]
    · rw [if_neg h]
  | succ d ih =>
    intro i hi
    have hvi := hv i (by omega)
    rw [rd_elem (by omega)] at hvi
    refine Ev.step (fun k => impl_RaisedBy.l1.eq_2 ..) (Ev.pos (by omega) ?_)
    rw [e1, hself, upTo_rd _ (by omega), upTo_len _ (by omega), hlen]
    refine Ev.pos (by omega) (Ev.pos (by omega) (Ev.pos (by omega) (Ev.pos (by omega) ?_)))
    rw [wrap_add1 (by omega), wrap_id (by omega) (by omega), show ((i : Int)).toNat = i by omega, show ((r : Int)).toNat = r by omega, upTo_set _ (by omega), List.set_set]
    exact ih (i + 1) (by omega)
theorem impl_raised_l0 {s : List (List Int)} (hs : scoresOk s = true) {r : Nat} (hr : r < s.length) (d : Nat) : ∀ j : Nat, j + d = s.length →
    Ev (fun k => impl_RaisedBy.l0 k ((r : Int) + 1) (s.take j) s (s.length : Int) (j : Int)) (if scoresOk (raiseOf s r) = true then (raiseOf s r, true) else ([], false)) := by
  have hn := scoresOk_len hs
  have e1 : wrap64 ((r : Int) + 1 - 1) = (r : Int) := by rw [wrap_id (by omega) (by omega)]; omega
  induction d with
  | zero =>
    intro j hj
    rw [List.take_of_length_le (by omega)]
    refine Ev.step (fun k => impl_RaisedBy.l0.eq_2 ..) (Ev.neg (by omega) ?_)
    rw [e1]
    refine Ev.pos (by omega) (Ev.pos (by omega) ?_)
    have h := impl_raised_l1 hs hr (s.length + 1) 0 (by omega)
    have e2 : s.set r (upTo (rd_L1 s (r : Int)) 0) = s := by
      unfold upTo
      rw [List.take_zero, List.drop_zero, List.map_nil, List.nil_append, rd1_elem hr, List.set_getElem_self]
    rw [e2] at h
    rw [(scoresOk_row hs hr).1]
    exact h
  | succ d ih =>
    intro j hj
    have hrow := (scoresOk_row hs (i := j) (by omega)).1
    refine Ev.step (fun k => impl_RaisedBy.l0.eq_2 ..) (Ev.pos (by omega) (Ev.pos (by omega) (Ev.pos (by omega) ?_)))
    unfold slices_Clone_int_int.f slices_Clip_int_int_55.f
    rw [if_pos (by omega)]
    simp only [Option.bind_some]
    refine Ev.pos (by rw [List.length_take]; omega) ?_
    rw [rd1_elem (by omega), take_snoc _ (by omega), wrap_add1 (by omega)]
    exact ih (j + 1) (by omega)
theorem impl_RaisedBy_ev (s : List (List Int)) (w : Int) (hl : s.length ≤ 1048576) : Ev (fun k => impl_RaisedBy.f k s w) (raisedOf s w) := by
  unfold impl_RaisedBy.f raisedOf
  have hbad : ¬ (scoresOk s = true ∧ 1 ≤ w ∧ w ≤ (s.length : Int)) → Ev (fun k => impl_RaisedBy.j0 k s w true) (if scoresOk s = true ∧ 1 ≤ w ∧ w ≤ s.length ∧ scoresOk (raiseOf s (w - 1).toNat) = true then (raiseOf s (w - 1).toNat, true) else ([], false)) := fun h => by
    rw [if_neg (fun c => h ⟨c.1, c.2.1, c.2.2.1⟩)]
    exact Ev.step (fun k => impl_RaisedBy.j0.eq_2 ..) (Ev.pos rfl (Ev.ret rfl))
  refine Ev.bind (impl_ScoresOk_ev s hl) (Ev.ite (fun hs => Ev.ite (fun h1 => hbad (fun c => by omega)) (fun h1 => ?_)) (fun hs => hbad (fun c => hs c.1)))
  by_cases h2 : w > (s.length : Int)
  · rw [decide_eq_true h2]
    exact hbad (fun c => by omega)
  · rw [decide_eq_false h2]
    refine Ev.step (fun k => impl_RaisedBy.j0.eq_2 ..) (Ev.neg (by simp) ?_)
    have h3 := impl_raised_l0 hs (r := (w - 1).toNat) (by omega) s.length 0 (by omega)
    rw [List.take_zero, show (((w - 1).toNat : Nat) : Int) + 1 = w by omega] at h3
    refine Ev.eq h3 ?_
    by_cases c : scoresOk (raiseOf s (w - 1).toNat) = true
    · rw [if_pos c, if_pos ⟨hs, by omega, by omega, c⟩]
    · rw [if_neg c, if_neg (fun z => c z.2.2.2)]

theorem toIntS_l0 (l : List Int) (hl : l.length ≤ 1099511627776) (d : Nat) : ∀ (j : Nat) (y : List Int), j + d = l.length → y.length = l.length → (∀ i, i < j → y[i]? = l[i]?) → Ev (fun k => laws_toIntS.l0 k l y (j : Int)) l := by
  induction d with
  | zero =>
    intro j y hj hy h
    refine Ev.step (fun k => laws_toIntS.l0.eq_2 ..) ?_
    refine Ev.neg (by omega) (Ev.ret ?_)
    apply List.ext_getElem?
    intro i
    by_cases hi : i < j
    · exact h i hi
    · rw [List.getElem?_eq_none (by omega), List.getElem?_eq_none (by omega)]
  | succ d ih =>
    intro j y hj hy h
    refine Ev.step (fun k => laws_toIntS.l0.eq_2 ..) ?_
    refine Ev.pos (by omega) (Ev.pos (by omega) (Ev.pos (by omega) ?_))
    rw [wrap_add1 (by omega)]
    refine ih (j + 1) _ (by omega) (by simpa using hy) ?_
    intro i hi
    rw [rd_nat, Int.toNat_natCast]
    by_cases e : i = j
    · subst e
      simp [hy, show i < l.length by omega]
    · rw [List.getElem?_set_ne (by omega)]
      exact h i (by omega)

theorem toIntS_ev (l : List Int) (hl : l.length ≤ 1048576) : Ev (fun k => laws_toIntS.f k l) l := by
  unfold laws_toIntS.f
  refine Ev.pos (by omega) (Ev.pos (by omega) ?_)
  exact toIntS_l0 l (by omega) l.length 0 _ (by omega) (by simp) (fun i h => by omega)

theorem eqIntS_l0 (l m : List Int) (hl : l.length ≤ 1099511627776) (hm : l.length = m.length) (d : Nat) : ∀ (j : Nat), j + d = l.length → (∀ i, i < j → l[i]? = m[i]?) → Ev (fun k => laws_eqIntS.l0 k l m (j : Int)) (decide (l = m)) := by
  induction d with
  | zero =>
    intro j hj h
    refine Ev.step (fun k => laws_eqIntS.l0.eq_2 ..) ?_
    refine Ev.neg (by omega) (Ev.ret ?_)
    symm
    rw [decide_eq_true_iff]
    apply List.ext_getElem?
    intro i
    by_cases hi : i < j
    · exact h i hi
    · rw [List.getElem?_eq_none (by omega), List.getElem?_eq_none (by omega)]
  | succ d ih =>
    intro j hj h
    refine Ev.step (fun k => laws_eqIntS.l0.eq_2 ..) ?_
    refine Ev.pos (by omega) (Ev.pos (by omega) (Ev.pos (by omega) (Ev.ite ?_ ?_)))
    · intro e
      rw [wrap_add1 (by omega)]
      refine ih (j + 1) (by omega) ?_
      intro i hi
      by_cases e' : i = j
      · subst e'
        rw [rd_nat, rd_nat] at e
        rw [List.getElem?_eq_getElem (by omega), List.getElem?_eq_getElem (by omega)]
        simpa [List.getD_eq_getElem?_getD, show i < l.length by omega, show i < m.length by omega] using e
      · exact h i (by omega)
    · intro e
      refine Ev.ret ?_
      symm
      rw [decide_eq_false_iff_not]
      intro e'; subst e'; exact e rfl

theorem eqIntS_ev (l m : List Int) (hl : l.length ≤ 1048576) : Ev (fun k => laws_eqIntS.f k l m) (decide (l = m)) := by
  unfold laws_eqIntS.f
  refine Ev.ite (fun h => ?_) (fun h => ?_)
  · exact eqIntS_l0 l m (by omega) (by omega) l.length 0 (by omega) (fun i h => by omega)
  · refine Ev.ret ?_
    symm
    rw [decide_eq_false_iff_not]
    intro e; subst e; exact h rfl

/-! rows of rows -/
theorem szIntSS_l0 (l : List (List Int)) (hl : l.length ≤ 1048576) (hx : ∀ x ∈ l, x.length ≤ maxLen) (d : Nat) : ∀ (j : Nat) (a : Int), j + d = l.length → 0 ≤ a → a ≤ 1048576 → (∀ i, i < j → (rd_L1 l (i : Int)).length ≤ 1048576) →
    ∃ r, Ev (fun k => laws_szIntSS.l0 k l a (j : Int)) r ∧ (0 ≤ r → ∀ i, i < l.length → (rd_L1 l (i : Int)).length ≤ 1048576) := by
  induction d with
  | zero =>
    intro j a hj h0 h1 h
    refine ⟨a, Ev.step (fun k => laws_szIntSS.l0.eq_2 ..) (Ev.neg (by omega) (Ev.ret rfl)), ?_⟩
    intro _ i hi; exact h i (by omega)
  | succ d ih =>
    intro j a hj h0 h1 h
    have hlen : (rd_L1 l (j : Int)).length ≤ maxLen := by
      rw [rd1_nat, List.getD_eq_getElem?_getD, List.getElem?_eq_getElem (by omega)]
      exact hx _ (List.getElem_mem ..)
    simp only [maxLen] at hlen
    have hw : wrap64 (a - ((rd_L1 l (j : Int)).length : Int)) = a - ((rd_L1 l (j : Int)).length : Int) := wrap_id (by omega) (by omega)
    by_cases hc : a - ((rd_L1 l (j : Int)).length : Int) < 0
    · refine ⟨-1, Ev.step (fun k => laws_szIntSS.l0.eq_2 ..) (Ev.pos (by omega) (Ev.pos (by omega) (Ev.bind0 (a := -1) ?_ (Ev.pos (by omega) (Ev.ret rfl))))), fun h => absurd h (by omega)⟩
      unfold laws_szIntS.f
      rw [hw, if_pos hc]
    · obtain ⟨r, h2, h3⟩ := ih (j + 1) (a - ((rd_L1 l (j : Int)).length : Int)) (by omega) (by omega) (by omega) (by
        intro i hi
        by_cases e : i = j
        · subst e; omega
        · exact h i (by omega))
      refine ⟨r, Ev.step (fun k => laws_szIntSS.l0.eq_2 ..) (Ev.pos (by omega) (Ev.pos (by omega) (Ev.bind0 (a := a - ((rd_L1 l (j : Int)).length : Int)) ?_ (Ev.neg (by omega) ?_)))), h3⟩
      · unfold laws_szIntS.f
        rw [hw, if_neg hc]
      · rw [wrap_add1 (by omega)]
        exact h2
theorem szIntSS_ev (l : List (List Int)) (hl : l.length ≤ maxLen) (hx : ∀ x ∈ l, x.length ≤ maxLen) :
    ∃ r, Ev (fun k => laws_szIntSS.f k l 1048576) r ∧ (¬ r < 0 → l.length ≤ 1048576 ∧ ∀ i, i < l.length → (rd_L1 l (i : Int)).length ≤ 1048576) := by
  simp only [maxLen] at hl
  have hw : wrap64 (1048576 - (l.length : Int)) = 1048576 - (l.length : Int) := wrap_id (by omega) (by omega)
  unfold laws_szIntSS.f
  by_cases hc : 1048576 - (l.length : Int) < 0
  · refine ⟨-1, ?_, fun h => absurd h (by omega)⟩
    rw [hw]
    exact Ev.pos hc (Ev.ret rfl)
  · obtain ⟨r, h1, h2⟩ := szIntSS_l0 l (by omega) hx l.length 0 (1048576 - (l.length : Int)) (by omega) (by omega) (by omega) (fun i h => by omega)
    refine ⟨r, ?_, fun h => ⟨by omega, h2 (by omega)⟩⟩
    rw [hw]
    exact Ev.neg hc h1
theorem toIntSS_l0 (l : List (List Int)) (hl : l.length ≤ 1048576) (hx : ∀ i, i < l.length → (rd_L1 l (i : Int)).length ≤ 1048576) (d : Nat) : ∀ (j : Nat) (y : List (List Int)), j + d = l.length → y.length = l.length → (∀ i, i < j → y[i]? = l[i]?) → Ev (fun k => laws_toIntSS.l0 k l y (j : Int)) l := by
  induction d with
  | zero =>
    intro j y hj hy h
    refine Ev.step (fun k => laws_toIntSS.l0.eq_2 ..) ?_
    refine Ev.neg (by omega) (Ev.ret ?_)
    apply List.ext_getElem?
    intro i
    by_cases hi : i < j
    · exact h i hi
    · rw [List.getElem?_eq_none (by omega), List.getElem?_eq_none (by omega)]
  | succ d ih =>
    intro j y hj hy h
    refine Ev.step (fun k => laws_toIntSS.l0.eq_2 ..) ?_
    refine Ev.pos (by omega) (Ev.pos (by omega) (Ev.bind (toIntS_ev _ (hx j (by omega))) (Ev.pos (by omega) ?_)))
    rw [wrap_add1 (by omega)]
    refine ih (j + 1) _ (by omega) (by simpa using hy) ?_
    intro i hi
    rw [rd1_nat, Int.toNat_natCast]
    by_cases e : i = j
    · subst e
      simp [hy, show i < l.length by omega]
    · rw [List.getElem?_set_ne (by omega)]
      exact h i (by omega)
theorem toIntSS_ev (l : List (List Int)) (hl : l.length ≤ 1048576) (hx : ∀ i, i < l.length → (rd_L1 l (i : Int)).length ≤ 1048576) : Ev (fun k => laws_toIntSS.f k l) l := by
  unfold laws_toIntSS.f
  refine Ev.pos (by omega) (Ev.pos (by omega) ?_)
  exact toIntSS_l0 l hl hx l.length 0 _ (by omega) (by simp) (fun i h => by omega)
theorem eqIntSS_l0 (l m : List (List Int)) (hl : l.length ≤ 1048576) (hm : l.length = m.length) (hx : ∀ i, i < l.length → (rd_L1 l (i : Int)).length ≤ 1048576) (d : Nat) : ∀ (j : Nat), j + d = l.length → (∀ i, i < j → l[i]? = m[i]?) → Ev (fun k => laws_eqIntSS.l0 k l m (j : Int)) (decide (l = m)) := by
  induction d with
  | zero =>
    intro j hj h
    refine Ev.step (fun k => laws_eqIntSS.l0.eq_2 ..) ?_
    refine Ev.neg (by omega) (Ev.ret ?_)
    symm
    rw [decide_eq_true_iff]
    apply List.ext_getElem?
    intro i
    by_cases hi : i < j
    · exact h i hi
    · rw [List.getElem?_eq_none (by omega), List.getElem?_eq_none (by omega)]
  | succ d ih =>
    intro j hj h
    refine Ev.step (fun k => laws_eqIntSS.l0.eq_2 ..) ?_
    refine Ev.pos (by omega) (Ev.pos (by omega) (Ev.pos (by omega) (Ev.bind (eqIntS_ev _ _ (hx j (by omega))) (Ev.ite ?_ ?_))))
    · intro e0
      have e := of_decide_eq_true e0
      rw [wrap_add1 (by omega)]
      refine ih (j + 1) (by omega) ?_
      intro i hi
      by_cases e' : i = j
      · subst e'
        rw [rd1_nat, rd1_nat] at e
        rw [List.getElem?_eq_getElem (by omega), List.getElem?_eq_getElem (by omega)]
        simpa [List.getD_eq_getElem?_getD, show i < l.length by omega, show i < m.length by omega] using e
      · exact h i (by omega)
    · intro e
      refine Ev.ret ?_
      symm
      rw [decide_eq_false_iff_not]
      intro e'; subst e'; exact e (by simp)
theorem eqIntSS_ev (l m : List (List Int)) (hl : l.length ≤ 1048576) (hx : ∀ i, i < l.length → (rd_L1 l (i : Int)).length ≤ 1048576) : Ev (fun k => laws_eqIntSS.f k l m) (decide (l = m)) := by
  unfold laws_eqIntSS.f
  refine Ev.ite (fun h => ?_) (fun h => ?_)
  · exact eqIntSS_l0 l m (by omega) (by omega) hx l.length 0 (by omega) (fun i h => by omega)
  · refine Ev.ret ?_
    symm
    rw [decide_eq_false_iff_not]
    intro e; subst e; exact h rfl

/-! marks of rows, from any number on -/
def seqN (s : Int) (n : Nat) : List Int := (List.range n).map (fun i : Nat => s + (i : Int))
theorem seqN_len (s : Int) (n : Nat) : (seqN s n).length = n := by simp [seqN]
theorem seqN_get (s : Int) {n i : Nat} (h : i < n) : (seqN s n)[i]? = some (s + (i : Int)) := by simp [seqN, h]
theorem markN_l0 (s : Int) (n : Nat) (hs : 0 ≤ s) (hs2 : s ≤ 4000000000000) (hn : n ≤ 1048576) (d : Nat) : ∀ (j : Nat) (y : List Int), j + d = n → y.length = n → (∀ i, i < j → y[i]? = some (s + (i : Int))) →
    Ev (fun k => laws_markIntS.l0 k y (s + (j : Int)) (j : Int)) (s + (n : Int), seqN s n) := by
  induction d with
  | zero =>
    intro j y hj hy h
    refine Ev.step (fun k => laws_markIntS.l0.eq_2 ..) (Ev.neg (by omega) (Ev.ret ?_))
    have e : y = seqN s n := by
      apply List.ext_getElem?
      intro i
      by_cases hi : i < j
      · rw [h i hi, seqN_get s (by omega)]
      · rw [List.getElem?_eq_none (by omega), List.getElem?_eq_none (by rw [seqN_len]; omega)]
    rw [e, show (j : Int) = n by omega]
  | succ d ih =>
    intro j y hj hy h
    refine Ev.step (fun k => laws_markIntS.l0.eq_2 ..) (Ev.pos (by omega) (Ev.pos (by omega) ?_))
    rw [wrap_add1 (by omega), wrap_id (by omega) (by omega), show s + (j : Int) + 1 = s + ((j + 1 : Nat) : Int) by omega]
    refine ih (j + 1) _ (by omega) (by simpa using hy) ?_
    intro i hi
    rw [Int.toNat_natCast]
    by_cases e : i = j
    · subst e
      rw [List.getElem?_set_self (by omega)]
    · rw [List.getElem?_set_ne (by omega)]
      exact h i (by omega)
theorem markN_ev (s : Int) (l : List Int) (hs : 0 ≤ s) (hs2 : s ≤ 4000000000000) (hl : l.length ≤ 1048576) : Ev (fun k => laws_markIntS.f k l s) (s + (l.length : Int), seqN s l.length) := by
  unfold laws_markIntS.f
  have h := markN_l0 s l.length hs hs2 hl l.length 0 l (by omega) rfl (fun i h => by omega)
  rw [show s + ((0 : Nat) : Int) = s by omega] at h
  exact h
theorem heldN_l0 (s : Int) (n : Nat) (hs : 0 ≤ s) (hs2 : s ≤ 4000000000000) (hn : n ≤ 1048576) (d : Nat) : ∀ (j : Nat), j + d = n → Ev (fun k => laws_heldIntS.l0 k (seqN s n) (s + (j : Int)) (j : Int)) (s + (n : Int)) := by
  induction d with
  | zero =>
    intro j hj
    refine Ev.step (fun k => laws_heldIntS.l0.eq_2 ..) (Ev.neg (by rw [seqN_len]; omega) (Ev.ret (by omega)))
  | succ d ih =>
    intro j hj
    refine Ev.step (fun k => laws_heldIntS.l0.eq_2 ..) (Ev.pos (by rw [seqN_len]; omega) (Ev.pos (by omega) (Ev.pos ?_ ?_)))
    · rw [rd_nat, List.getD_eq_getElem?_getD, seqN_get s (by omega)]; rfl
    · rw [wrap_add1 (by omega), wrap_id (by omega) (by omega), show s + (j : Int) + 1 = s + ((j + 1 : Nat) : Int) by omega]
      exact ih (j + 1) (by omega)
theorem heldN_ev (s : Int) (n : Nat) (hs : 0 ≤ s) (hs2 : s ≤ 4000000000000) (hn : n ≤ 1048576) : Ev (fun k => laws_heldIntS.f k (seqN s n) s) (s + (n : Int)) := by
  unfold laws_heldIntS.f
  have h := heldN_l0 s n hs hs2 hn n 0 (by omega)
  rw [show s + ((0 : Nat) : Int) = s by omega] at h
  exact h
def totalL : List (List Int) → Nat
  | [] => 0
  | r :: t => r.length + totalL t
def seqR : Int → List (List Int) → List (List Int)
  | _, [] => []
  | s, r :: t => seqN s r.length :: seqR (s + r.length) t
theorem seqR_len : ∀ (l : List (List Int)) (s : Int), (seqR s l).length = l.length
  | [], _ => rfl
  | r :: t, s => by rw [seqR, List.length_cons, List.length_cons, seqR_len t]
theorem seqR_total : ∀ (l : List (List Int)) (s : Int), totalL (seqR s l) = totalL l
  | [], _ => rfl
  | r :: t, s => by rw [seqR, totalL, totalL, seqR_total t, seqN_len]
theorem totalL_le (b : Nat) : ∀ (l : List (List Int)), (∀ r ∈ l, r.length ≤ b) → totalL l ≤ l.length * b
  | [], _ => by simp [totalL]
  | r :: t, h => by
    have h1 := totalL_le b t (fun x hx => h x (List.mem_cons_of_mem _ hx))
    have h2 := h r (List.mem_cons_self ..)
    rw [totalL, List.length_cons, Nat.add_mul, Nat.one_mul]; omega
theorem markR_l0 (d : List (List Int)) : ∀ (z : List (List Int)) (s : Int), 0 ≤ s → s + totalL d ≤ 4000000000000 → z.length + d.length ≤ 1048576 → (∀ r ∈ d, r.length ≤ 1048576) →
    Ev (fun k => laws_markIntSS.l0 k (z ++ d) s (z.length : Int)) (s + (totalL d : Int), z ++ seqR s d) := by
  induction d with
  | nil =>
    intro z s h0 h1 h2 h3
    exact Ev.step (fun k => laws_markIntSS.l0.eq_2 ..) (Ev.neg (by simp) (Ev.ret (by simp [totalL, seqR])))
  | cons r t ih =>
    intro z s h0 h1 h2 h3
    rw [totalL] at h1
    have hr := h3 r (List.mem_cons_self ..)
    rw [List.length_cons] at h2
    refine Ev.step (fun k => laws_markIntSS.l0.eq_2 ..) (Ev.pos (by simp; omega) (Ev.pos (by omega) ?_))
    have e : (z ++ r :: t).getD (z.length : Int).toNat [] = r := by simp
    rw [e]
    refine Ev.bind (markN_ev s r h0 (by omega) hr) ?_
    have e2 : (z ++ r :: t).set (z.length : Int).toNat (seqN s r.length) = (z ++ [seqN s r.length]) ++ t := by simp
    rw [wrap_add1 (by omega)]
    show Ev (fun k => laws_markIntSS.l0 k ((z ++ r :: t).set (z.length : Int).toNat (seqN s r.length)) (s + (r.length : Int)) ((z.length + 1 : Nat) : Int)) _
    rw [e2, show ((z.length + 1 : Nat) : Int) = ((z ++ [seqN s r.length]).length : Int) by simp]
    refine Ev.eq (ih (z ++ [seqN s r.length]) (s + (r.length : Int)) (by omega) (by omega) (by simp; omega) (fun x hx => h3 x (List.mem_cons_of_mem _ hx))) ?_
    rw [totalL, seqR]
    refine Prod.ext ?_ ?_
    · simp; omega
    · simp
theorem markR_ev (l : List (List Int)) (s : Int) (h0 : 0 ≤ s) (h1 : s + totalL l ≤ 4000000000000) (h2 : l.length ≤ 1048576) (h3 : ∀ r ∈ l, r.length ≤ 1048576) : Ev (fun k => laws_markIntSS.f k l s) (s + (totalL l : Int), seqR s l) := by
  unfold laws_markIntSS.f
  exact markR_l0 l [] s h0 h1 (by simpa using h2) h3
theorem heldR_l0 (d : List (List Int)) : ∀ (z : List (List Int)) (s : Int), 0 ≤ s → s + totalL d ≤ 4000000000000 → z.length + d.length ≤ 1048576 → (∀ r ∈ d, r.length ≤ 1048576) →
    Ev (fun k => laws_heldIntSS.l0 k (z ++ seqR s d) s (z.length : Int)) (s + (totalL d : Int)) := by
  induction d with
  | nil =>
    intro z s h0 h1 h2 h3
    exact Ev.step (fun k => laws_heldIntSS.l0.eq_2 ..) (Ev.neg (by simp [seqR]) (Ev.ret (by simp [totalL])))
  | cons r t ih =>
    intro z s h0 h1 h2 h3
    rw [totalL] at h1
    have hr := h3 r (List.mem_cons_self ..)
    rw [List.length_cons] at h2
    rw [seqR]
    refine Ev.step (fun k => laws_heldIntSS.l0.eq_2 ..) (Ev.pos (by simp; omega) (Ev.pos (by omega) ?_))
    have e : rd_L1 (z ++ seqN s r.length :: seqR (s + r.length) t) (z.length : Int) = seqN s r.length := by rw [rd1_nat]; simp
    rw [e]
    refine Ev.bind (heldN_ev s r.length h0 (by omega) hr) (Ev.neg (by omega) ?_)
    rw [wrap_add1 (by omega), show z ++ seqN s r.length :: seqR (s + r.length) t = (z ++ [seqN s r.length]) ++ seqR (s + r.length) t by simp, show ((z.length + 1 : Nat) : Int) = ((z ++ [seqN s r.length]).length : Int) by simp]
    refine Ev.eq (ih (z ++ [seqN s r.length]) (s + (r.length : Int)) (by omega) (by omega) (by simp; omega) (fun x hx => h3 x (List.mem_cons_of_mem _ hx))) ?_
    rw [totalL]
    omega
theorem heldR_ev (l : List (List Int)) (s : Int) (h0 : 0 ≤ s) (h1 : s + totalL l ≤ 4000000000000) (h2 : l.length ≤ 1048576) (h3 : ∀ r ∈ l, r.length ≤ 1048576) : Ev (fun k => laws_heldIntSS.f k (seqR s l) s) (s + (totalL l : Int)) := by
  unfold laws_heldIntSS.f
  exact heldR_l0 l [] s h0 h1 (by simpa using h2) h3

theorem raisedOf_small (s : List (List Int)) (w : Int) : (raisedOf s w).1.length ≤ 5 ∧ ∀ r ∈ (raisedOf s w).1, r.length ≤ 6 := by
  unfold raisedOf
  by_cases c : scoresOk s = true ∧ 1 ≤ w ∧ w ≤ s.length ∧ scoresOk (raiseOf s (w - 1).toNat) = true
  · rw [if_pos c]
    have hn := scoresOk_len c.1
    refine ⟨by rw [raise_len]; omega, fun r hr => ?_⟩
    obtain ⟨i, hi, rfl⟩ := List.getElem_of_mem hr
    rw [raise_len] at hi
    have h := raise_small c.1 (r := (w - 1).toNat) (by omega) hi
    rw [rd1_elem (by rw [raise_len]; exact hi)] at h
    show (raiseOf s (w - 1).toNat)[i].length ≤ 6
    omega
  · rw [if_neg c]
    exact ⟨by simp, by simp⟩
theorem FnExactRaisedBy : ∀ (l0 : List (List (Int))) (a1 : Int), l0.length ≤ maxLen → (∀ x ∈ l0, x.length ≤ maxLen ∧ ∀ x_, x_ ∈ x → ((Lit.int .i64 x_).wf = true)) → (Lit.int .i64 a1).wf = true → ∃ k, laws_FnExactRaisedBy.f k l0 a1 = some true := by
  intro s w hs hx _
  refine Ev.rounds (g := fun k => laws_FnExactRaisedBy.f k s w) ?_
  unfold laws_FnExactRaisedBy.f
  obtain ⟨r, h1, h2⟩ := szIntSS_ev s hs (fun x h => (hx x h).1)
  refine Ev.bind h1 (Ev.ite (fun h => Ev.ret rfl) (fun h => ?_))
  obtain ⟨h3, h4⟩ := h2 h
  have h5 : ∀ r ∈ s, r.length ≤ 1048576 := fun r hr => by
    obtain ⟨i, hi, rfl⟩ := List.getElem_of_mem hr
    have := h4 i hi
    rwa [rd1_elem hi] at this
  have h6 := totalL_le 1048576 s h5
  have h7 : s.length * 1048576 ≤ 1048576 * 1048576 := Nat.mul_le_mul_right _ h3
  obtain ⟨g1, g2⟩ := raisedOf_small s w
  have g3 : ∀ r ∈ (raisedOf s w).1, r.length ≤ 1048576 := fun r hr => by have := g2 r hr; omega
  have g4 := totalL_le 6 _ g2
  have g5 : ∀ i, i < (raisedOf s w).1.length → (rd_L1 (raisedOf s w).1 (i : Int)).length ≤ 1048576 := fun i hi => by rw [rd1_elem hi]; exact g3 _ (List.getElem_mem ..)
  have ht := toIntSS_ev s h3 h4
  have hsp := spec_RaisedBy_ev s w h3
  have him := impl_RaisedBy_ev s w h3
  have heq := eqIntSS_ev (raisedOf s w).1 (raisedOf s w).1 (by omega) g5
  refine Ev.bind ht (Ev.bind hsp (Ev.bind ht (Ev.bind him (Ev.bind heq (Ev.bind ht (Ev.bind (eqIntSS_ev s s h3 h4) (Ev.bind (markR_ev s 1 (by omega) (by omega) h3 h5) (Ev.bind (markR_ev (raisedOf s w).1 1 (by omega) (by omega) (by omega) g3) (Ev.bind (heldR_ev (raisedOf s w).1 1 (by omega) (by omega) (by omega) g3) (Ev.bind ht (Ev.bind him (Ev.bind heq (Ev.pos ?_ (Ev.ret rfl))))))))))))))
  refine ⟨rfl, rfl, by simp, by simp, by simp, ?_, ?_, rfl⟩
  · show (0 : Int) ≤ 1 + (totalL s : Int); omega
  · omega

end Go.Proofs.Ytpdnocpnibcicaa.Pure
