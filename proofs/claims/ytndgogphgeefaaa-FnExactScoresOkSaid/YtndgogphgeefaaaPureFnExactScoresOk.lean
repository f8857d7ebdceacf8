/- The plain statement of FnExactScoresOk: the printed functions answer true for all arguments within the printed bounds; no other conditions. -/
import Derived.Test.YtndgogphgeefaaaLAx2
import Derived.ChangeSlices
import Derived.SizedLaws
import Derived.Test.YtndgogphgeefaaaVSized
namespace Go.Proofs.Ytndgogphgeefaaa.Pure
open Go.RowKit Go.Proofs.Ytndgogphgeefaaa.LA Go.Proofs.YtndgogphgeefaaaV.PrintWords Go.Proofs.YtndgogphgeefaaaV.PrintLast
set_option linter.unusedVariables false
set_option linter.unusedSimpArgs false

theorem Ev.ret {α : Type} {r r' : α} (h : r = r') : Ev (fun _ => some r) r' := ⟨0, fun _ _ => by rw [h]⟩
theorem Ev.pos {α : Type} {c : Prop} [Decidable c] {g f : Nat → Option α} {r : α} (h : c) (k : Ev g r) : Ev (fun n => if c then g n else f n) r := by
  simpa only [if_pos h] using k
theorem Ev.neg {α : Type} {c : Prop} [Decidable c] {g f : Nat → Option α} {r : α} (h : ¬ c) (k : Ev f r) : Ev (fun n => if c then g n else f n) r := by
  simpa only [if_neg h] using k
theorem Ev.ite {α : Type} {c : Prop} [Decidable c] {g f : Nat → Option α} {r : α} (h : c → Ev g r) (k : ¬ c → Ev f r) : Ev (fun n => if c then g n else f n) r := by
  by_cases hc : c
  · exact Ev.pos hc (h hc)
  · exact Ev.neg hc (k hc)
theorem Ev.bind0 {α β : Type} {o : Option α} {f : Nat → α → Option β} {a : α} {r : β} (h : o = some a) (k : Ev (fun n => f n a) r) : Ev (fun n => o.bind (f n)) r := by
  subst h; simpa only [Option.bind_some] using k
theorem Ev.eq {α : Type} {g : Nat → Option α} {r r' : α} (h : Ev g r) (e : r = r') : Ev g r' := e ▸ h
theorem wrap_id {n : Int} (h0 : -9223372036854775808 ≤ n) (h1 : n < 9223372036854775808) : wrap64 n = n := by
  unfold wrap64; omega
theorem wrap_add1 {n : Nat} (h : n < 1099511627776) : wrap64 ((n : Int) + 1) = ((n + 1 : Nat) : Int) := by
  unfold wrap64; omega
theorem rd_nat (l : List Int) (j : Nat) : rd l (j : Int) = l.getD j 0 := by simp [rd]

open Go.ChangeShapes Go.WideShapes in
/-- the printed row names this lemma so: it is the words' own -/
theorem _root_.Go.Proofs.Ytndgogphgeefaaa.PrintWords.sized_ints {H : Type} {enc : TypeId × Value → H} {P : Program} {W : World} {base : Nat} {spare : Nat → Bool} {held : Bool} {t e : TypeId} {k : IntKind} {a : Option Addr} {len cap : Nat} {d : DataW H} {ps : List MemPlace} {ts : List TypeId} {ds : List (DataW H)} {j : Nat}
    (hsz : (DataW.weightsEach P ts ds).all (· ≤ reachBytes) = true) (ht : ts[j]? = some t) (hd : ds[j]? = some d) (hu : P.underlying t = some (.slice e)) (he : P.underlying e = some (.int k)) (hc : P.cellsOf e = 1) {B : Nat} (hB : P.bytesOf e = B)
    (h : DataW.Trod enc P W base spare held t (.slice a len cap) d ps) : len * B ≤ 140737488351232 :=
  Go.Proofs.YtndgogphgeefaaaV.PrintWords.sized_ints hsz ht hd hu he hc hB h

/-- whether one comes from a word to 0 within so many steps, over numbers of words or 0 alone -/
def walkOk (l : List Int) : Nat → Int → Bool
  | 0, a => decide (a ≤ 0)
  | m + 1, a => if a ≤ 0 then true else decide (0 ≤ rd l (a - 1) ∧ rd l (a - 1) ≤ l.length) && walkOk l m (rd l (a - 1))
def okAt (l : List Int) (i : Nat) : Bool := decide (0 ≤ rd l i ∧ rd l i ≤ l.length) && walkOk l l.length ((i : Int) + 1)
def zerosFrom (l : List Int) (j : Nat) : Nat := (l.drop j).count 0
def treeOk (l : List Int) : Bool := decide (1 ≤ l.length ∧ l.length ≤ 8) && (List.range l.length).all (okAt l) && decide (l.count 0 = 1)

theorem walkOk_self (l : List Int) (a : Int) (ha : 0 < a) (h : rd l (a - 1) = a) : ∀ m, walkOk l m a = false
  | 0 => by simp [walkOk]; omega
  | m + 1 => by
    unfold walkOk
    rw [if_neg (by omega), h, walkOk_self l a ha h m, Bool.and_false]

theorem zerosFrom_succ (l : List Int) (j : Nat) (h : j < l.length) : zerosFrom l j = (if rd l j = 0 then 1 else 0) + zerosFrom l (j + 1) := by
  unfold zerosFrom
  rw [List.drop_eq_getElem_cons h, List.count_cons]
  have e : rd l j = l[j] := by simp [rd_nat, h]
  rw [e]
  by_cases e : l[j] = 0 <;> simp [e, Nat.add_comm]
theorem zerosFrom_le (l : List Int) (j : Nat) : zerosFrom l j ≤ l.length := by
  unfold zerosFrom
  exact Nat.le_trans List.count_le_length (by simp)

theorem all_from (p : Nat → Bool) (n j : Nat) (h : j < n) : ((List.range' j (n - j)).all p) = (p j && (List.range' (j + 1) (n - (j + 1))).all p) := by
  obtain ⟨d, hd⟩ : ∃ d, n - j = d + 1 := ⟨n - j - 1, by omega⟩
  rw [hd, List.range'_succ, List.all_cons, show n - (j + 1) = d by omega]

def restOk (l : List Int) (r : Nat) (j : Nat) : Bool := (List.range' j (l.length - j)).all (okAt l) && decide (r + zerosFrom l j = 1)
theorem restOk_end (l : List Int) (r : Nat) (j : Nat) (h : j = l.length) : restOk l r j = ((r : Int) == 1) := by
  subst h
  unfold restOk zerosFrom
  simp
  rw [Bool.eq_iff_iff]; simp; omega
theorem restOk_bad (l : List Int) (r : Nat) (j : Nat) (h : j < l.length) (hb : okAt l j = false) : restOk l r j = false := by
  unfold restOk
  rw [all_from _ _ _ h, hb]; rfl
theorem restOk_good (l : List Int) (r : Nat) (j : Nat) (h : j < l.length) (hb : okAt l j = true) : restOk l r j = restOk l (r + if rd l j = 0 then 1 else 0) (j + 1) := by
  unfold restOk
  rw [all_from _ _ _ h, hb, Bool.true_and, zerosFrom_succ l j h, Nat.add_assoc]
theorem restOk_zero (l : List Int) (h : 1 ≤ l.length ∧ l.length ≤ 8) : restOk l 0 0 = treeOk l := by
  unfold restOk treeOk zerosFrom
  rw [decide_eq_true h]
  simp [List.range_eq_range']

theorem l1In_eq (a b c : Int) : spec_l1In.f a b c = some (decide (b ≤ a ∧ a ≤ c)) := by
  unfold spec_l1In.f
  split
  · rename_i h; congr 1; rw [decide_eq_decide]; omega
  · rename_i h; congr 1; symm; rw [decide_eq_false_iff_not]; omega

theorem toIntS_l0 (l : List Int) (hl : l.length ≤ 1099511627776) (d : Nat) : ∀ (j : Nat) (y : List Int), j + d = l.length → y.length = l.length → (∀ i, i < j → y[i]? = l[i]?) → Ev (fun k => laws_toIntS.l0 k l y (j : Int)) l := by
  induction d with
  | zero =>
    intro j y hj hy h
    refine Ev.step (fun k => laws_toIntS.l0.eq_2 ..) ?_
    refine Ev.neg (by omega) (Ev.ret ?_)
    apply List.ext_getElem?
    intro i
    by_cases hi : i < j
    · exact h i hi
    · rw [List.getElem?_eq_none (by omega), List.getElem?_eq_none (by omega)]
  | succ d ih =>
    intro j y hj hy h
    refine Ev.step (fun k => laws_toIntS.l0.eq_2 ..) ?_
    refine Ev.pos (by omega) (Ev.pos (by omega) (Ev.pos (by omega) ?_))
    rw [wrap_add1 (by omega)]
    refine ih (j + 1) _ (by omega) (by simpa using hy) ?_
    intro i hi
    rw [rd_nat, Int.toNat_natCast]
    by_cases e : i = j
    · subst e
      simp [hy, show i < l.length by omega]
    · rw [List.getElem?_set_ne (by omega)]
      exact h i (by omega)

theorem toIntS_ev (l : List Int) (hl : l.length ≤ 1048576) : Ev (fun k => laws_toIntS.f k l) l := by
  unfold laws_toIntS.f
  refine Ev.pos (by omega) (Ev.pos (by omega) ?_)
  exact toIntS_l0 l (by omega) l.length 0 _ (by omega) (by simp) (fun i h => by omega)

theorem eqIntS_l0 (l m : List Int) (hl : l.length ≤ 1099511627776) (hm : l.length = m.length) (d : Nat) : ∀ (j : Nat), j + d = l.length → (∀ i, i < j → l[i]? = m[i]?) → Ev (fun k => laws_eqIntS.l0 k l m (j : Int)) (decide (l = m)) := by
  induction d with
  | zero =>
    intro j hj h
    refine Ev.step (fun k => laws_eqIntS.l0.eq_2 ..) ?_
    refine Ev.neg (by omega) (Ev.ret ?_)
    symm
    rw [decide_eq_true_iff]
    apply List.ext_getElem?
    intro i
    by_cases hi : i < j
    · exact h i hi
    · rw [List.getElem?_eq_none (by omega), List.getElem?_eq_none (by omega)]
  | succ d ih =>
    intro j hj h
    refine Ev.step (fun k => laws_eqIntS.l0.eq_2 ..) ?_
    refine Ev.pos (by omega) (Ev.pos (by omega) (Ev.pos (by omega) (Ev.ite ?_ ?_)))
    · intro e
      rw [wrap_add1 (by omega)]
      refine ih (j + 1) (by omega) ?_
      intro i hi
      by_cases e' : i = j
      · subst e'
        rw [rd_nat, rd_nat] at e
        rw [List.getElem?_eq_getElem (by omega), List.getElem?_eq_getElem (by omega)]
        simpa [List.getD_eq_getElem?_getD, show i < l.length by omega, show i < m.length by omega] using e
      · exact h i (by omega)
    · intro e
      refine Ev.ret ?_
      symm
      rw [decide_eq_false_iff_not]
      intro e'; subst e'; exact e rfl

theorem eqIntS_ev (l m : List Int) (hl : l.length ≤ 1048576) : Ev (fun k => laws_eqIntS.f k l m) (decide (l = m)) := by
  unfold laws_eqIntS.f
  refine Ev.ite (fun h => ?_) (fun h => ?_)
  · exact eqIntS_l0 l m (by omega) (by omega) l.length 0 (by omega) (fun i h => by omega)
  · refine Ev.ret ?_
    symm
    rw [decide_eq_false_iff_not]
    intro e; subst e; exact h rfl

/-! rows of rows -/
theorem rd1_nat (xs : List (List Int)) (j : Nat) : rd_L1 xs (j : Int) = xs.getD j [] := by simp [rd_L1]
theorem szIntSS_l0 (l : List (List Int)) (hl : l.length ≤ 1048576) (hx : ∀ x ∈ l, x.length ≤ maxLen) (d : Nat) : ∀ (j : Nat) (a : Int), j + d = l.length → 0 ≤ a → a ≤ 1048576 → (∀ i, i < j → (rd_L1 l (i : Int)).length ≤ 1048576) →
    ∃ r, Ev (fun k => laws_szIntSS.l0 k l a (j : Int)) r ∧ (0 ≤ r → ∀ i, i < l.length → (rd_L1 l (i : Int)).length ≤ 1048576) := by
  induction d with
  | zero =>
    intro j a hj h0 h1 h
    refine ⟨a, Ev.step (fun k => laws_szIntSS.l0.eq_2 ..) (Ev.neg (by omega) (Ev.ret rfl)), ?_⟩
    intro _ i hi; exact h i (by omega)
  | succ d ih =>
    intro j a hj h0 h1 h
    have hlen : (rd_L1 l (j : Int)).length ≤ maxLen := by
      rw [rd1_nat, List.getD_eq_getElem?_getD, List.getElem?_eq_getElem (by omega)]
      exact hx _ (List.getElem_mem ..)
    simp only [maxLen] at hlen
    have hw : wrap64 (a - ((rd_L1 l (j : Int)).length : Int)) = a - ((rd_L1 l (j : Int)).length : Int) := wrap_id (by omega) (by omega)
    by_cases hc : a - ((rd_L1 l (j : Int)).length : Int) < 0
    · refine ⟨-1, Ev.step (fun k => laws_szIntSS.l0.eq_2 ..) (Ev.pos (by omega) (Ev.pos (by omega) (Ev.bind0 (a := -1) ?_ (Ev.pos (by omega) (Ev.ret rfl))))), fun h => absurd h (by omega)⟩
      unfold laws_szIntS.f
      rw [hw, if_pos hc]
    · obtain ⟨r, h2, h3⟩ := ih (j + 1) (a - ((rd_L1 l (j : Int)).length : Int)) (by omega) (by omega) (by omega) (by
        intro i hi
        by_cases e : i = j
        · subst e; omega
        · exact h i (by omega))
      refine ⟨r, Ev.step (fun k => laws_szIntSS.l0.eq_2 ..) (Ev.pos (by omega) (Ev.pos (by omega) (Ev.bind0 (a := a - ((rd_L1 l (j : Int)).length : Int)) ?_ (Ev.neg (by omega) ?_)))), h3⟩
      · unfold laws_szIntS.f
        rw [hw, if_neg hc]
      · rw [wrap_add1 (by omega)]
        exact h2
theorem szIntSS_ev (l : List (List Int)) (hl : l.length ≤ maxLen) (hx : ∀ x ∈ l, x.length ≤ maxLen) :
    ∃ r, Ev (fun k => laws_szIntSS.f k l 1048576) r ∧ (¬ r < 0 → l.length ≤ 1048576 ∧ ∀ i, i < l.length → (rd_L1 l (i : Int)).length ≤ 1048576) := by
  simp only [maxLen] at hl
  have hw : wrap64 (1048576 - (l.length : Int)) = 1048576 - (l.length : Int) := wrap_id (by omega) (by omega)
  unfold laws_szIntSS.f
  by_cases hc : 1048576 - (l.length : Int) < 0
  · refine ⟨-1, ?_, fun h => absurd h (by omega)⟩
    rw [hw]
    exact Ev.pos hc (Ev.ret rfl)
  · obtain ⟨r, h1, h2⟩ := szIntSS_l0 l (by omega) hx l.length 0 (1048576 - (l.length : Int)) (by omega) (by omega) (by omega) (fun i h => by omega)
    refine ⟨r, ?_, fun h => ⟨by omega, h2 (by omega)⟩⟩
    rw [hw]
    exact Ev.neg hc h1
theorem toIntSS_l0 (l : List (List Int)) (hl : l.length ≤ 1048576) (hx : ∀ i, i < l.length → (rd_L1 l (i : Int)).length ≤ 1048576) (d : Nat) : ∀ (j : Nat) (y : List (List Int)), j + d = l.length → y.length = l.length → (∀ i, i < j → y[i]? = l[i]?) → Ev (fun k => laws_toIntSS.l0 k l y (j : Int)) l := by
  induction d with
  | zero =>
    intro j y hj hy h
    refine Ev.step (fun k => laws_toIntSS.l0.eq_2 ..) ?_
    refine Ev.neg (by omega) (Ev.ret ?_)
    apply List.ext_getElem?
    intro i
    by_cases hi : i < j
    · exact h i hi
    · rw [List.getElem?_eq_none (by omega), List.getElem?_eq_none (by omega)]
  | succ d ih =>
    intro j y hj hy h
    refine Ev.step (fun k => laws_toIntSS.l0.eq_2 ..) ?_
    refine Ev.pos (by omega) (Ev.pos (by omega) (Ev.bind (toIntS_ev _ (hx j (by omega))) (Ev.pos (by omega) ?_)))
    rw [wrap_add1 (by omega)]
    refine ih (j + 1) _ (by omega) (by simpa using hy) ?_
    intro i hi
    rw [rd1_nat, Int.toNat_natCast]
    by_cases e : i = j
    · subst e
      simp [hy, show i < l.length by omega]
    · rw [List.getElem?_set_ne (by omega)]
      exact h i (by omega)
theorem toIntSS_ev (l : List (List Int)) (hl : l.length ≤ 1048576) (hx : ∀ i, i < l.length → (rd_L1 l (i : Int)).length ≤ 1048576) : Ev (fun k => laws_toIntSS.f k l) l := by
  unfold laws_toIntSS.f
  refine Ev.pos (by omega) (Ev.pos (by omega) ?_)
  exact toIntSS_l0 l hl hx l.length 0 _ (by omega) (by simp) (fun i h => by omega)
theorem eqIntSS_l0 (l m : List (List Int)) (hl : l.length ≤ 1048576) (hm : l.length = m.length) (hx : ∀ i, i < l.length → (rd_L1 l (i : Int)).length ≤ 1048576) (d : Nat) : ∀ (j : Nat), j + d = l.length → (∀ i, i < j → l[i]? = m[i]?) → Ev (fun k => laws_eqIntSS.l0 k l m (j : Int)) (decide (l = m)) := by
  induction d with
  | zero =>
    intro j hj h
    refine Ev.step (fun k => laws_eqIntSS.l0.eq_2 ..) ?_
    refine Ev.neg (by omega) (Ev.ret ?_)
    symm
    rw [decide_eq_true_iff]
    apply List.ext_getElem?
    intro i
    by_cases hi : i < j
    · exact h i hi
    · rw [List.getElem?_eq_none (by omega), List.getElem?_eq_none (by omega)]
  | succ d ih =>
    intro j hj h
    refine Ev.step (fun k => laws_eqIntSS.l0.eq_2 ..) ?_
    refine Ev.pos (by omega) (Ev.pos (by omega) (Ev.pos (by omega) (Ev.bind (eqIntS_ev _ _ (hx j (by omega))) (Ev.ite ?_ ?_))))
    · intro e0
      have e := of_decide_eq_true e0
      rw [wrap_add1 (by omega)]
      refine ih (j + 1) (by omega) ?_
      intro i hi
      by_cases e' : i = j
      · subst e'
        rw [rd1_nat, rd1_nat] at e
        rw [List.getElem?_eq_getElem (by omega), List.getElem?_eq_getElem (by omega)]
        simpa [List.getD_eq_getElem?_getD, show i < l.length by omega, show i < m.length by omega] using e
      · exact h i (by omega)
    · intro e
      refine Ev.ret ?_
      symm
      rw [decide_eq_false_iff_not]
      intro e'; subst e'; exact e (by simp)
theorem eqIntSS_ev (l m : List (List Int)) (hl : l.length ≤ 1048576) (hx : ∀ i, i < l.length → (rd_L1 l (i : Int)).length ≤ 1048576) : Ev (fun k => laws_eqIntSS.f k l m) (decide (l = m)) := by
  unfold laws_eqIntSS.f
  refine Ev.ite (fun h => ?_) (fun h => ?_)
  · exact eqIntSS_l0 l m (by omega) (by omega) hx l.length 0 (by omega) (fun i h => by omega)
  · refine Ev.ret ?_
    symm
    rw [decide_eq_false_iff_not]
    intro e; subst e; exact h rfl

/-! scores -/
def scRow (n : Nat) (row : List Int) : Bool := decide (row.length = n + 1) && row.all (fun x => decide (0 ≤ x ∧ x ≤ 20))
def scoresOk (s : List (List Int)) : Bool := s.all (scRow s.length) && decide (1 ≤ s.length ∧ s.length ≤ 5)
theorem drop_all {α : Type} (p : α → Bool) (l : List α) (z : α) (j : Nat) (h : j < l.length) : (l.drop j).all p = (p (l.getD j z) && (l.drop (j + 1)).all p) := by
  rw [List.drop_eq_getElem_cons h, List.all_cons, List.getD_eq_getElem?_getD, List.getElem?_eq_getElem h]; rfl
theorem spec_ScoresOk_l1 (s : List (List Int)) (j : Nat) (hs : s.length ≤ 1048576) (hj : j < s.length) (hr : (rd_L1 s (j : Int)).length = s.length + 1) (b : Bool)
    (next : Ev (fun k => spec_ScoresOk.l0 k s ((j + 1 : Nat) : Int)) b) (d : Nat) : ∀ (i : Nat), i + d = s.length + 1 →
    Ev (fun k => spec_ScoresOk.l1 k s (j : Int) (i : Int)) (((rd_L1 s (j : Int)).drop i).all (fun x => decide (0 ≤ x ∧ x ≤ 20)) && b) := by
  induction d with
  | zero =>
    intro i hi
    refine Ev.step (fun k => spec_ScoresOk.l1.eq_2 ..) ?_
    refine Ev.pos (by omega) (Ev.pos (by omega) (Ev.neg (by omega) ?_))
    rw [wrap_add1 (by omega)]
    refine Ev.eq next ?_
    rw [List.drop_eq_nil_of_le (by omega)]; rfl
  | succ d ih =>
    intro i hi
    refine Ev.step (fun k => spec_ScoresOk.l1.eq_2 ..) ?_
    refine Ev.pos (by omega) (Ev.pos (by omega) (Ev.pos (by omega) (Ev.pos (by omega) (Ev.bind0 (l1In_eq ..) ?_))))
    rw [drop_all _ _ 0 i (by omega), ← rd_nat]
    refine Ev.ite (fun hc => ?_) (fun hc => ?_)
    · rw [wrap_add1 (by omega)]
      refine Ev.eq (ih (i + 1) (by omega)) ?_
      rw [hc, Bool.true_and]
    · refine Ev.ret ?_
      rw [show decide (0 ≤ rd (rd_L1 s (j : Int)) (i : Int) ∧ rd (rd_L1 s (j : Int)) (i : Int) ≤ 20) = false by simpa using hc]; rfl
theorem spec_ScoresOk_l0 (s : List (List Int)) (hs : s.length ≤ 1048576) (d : Nat) : ∀ (j : Nat), j + d = s.length →
    Ev (fun k => spec_ScoresOk.l0 k s (j : Int)) ((s.drop j).all (scRow s.length) && decide (1 ≤ s.length ∧ s.length ≤ 5)) := by
  induction d with
  | zero =>
    intro j hj
    refine Ev.step (fun k => spec_ScoresOk.l0.eq_2 ..) ?_
    refine Ev.neg (by omega) (Ev.bind0 (l1In_eq ..) (Ev.ret ?_))
    rw [List.drop_eq_nil_of_le (by omega), List.all_nil, Bool.true_and, decide_eq_decide]
    omega
  | succ d ih =>
    intro j hj
    refine Ev.step (fun k => spec_ScoresOk.l0.eq_2 ..) ?_
    rw [drop_all _ _ [] j (by omega), ← rd1_nat]
    refine Ev.pos (by omega) (Ev.pos (by omega) ?_)
    rw [wrap_add1 (by omega)]
    refine Ev.ite (fun hc => ?_) (fun hc => ?_)
    · refine Ev.eq (spec_ScoresOk_l1 s j hs (by omega) (by omega) _ (ih (j + 1) (by omega)) (s.length + 1) 0 (by omega)) ?_
      unfold scRow
      rw [decide_eq_true (show (rd_L1 s (j : Int)).length = s.length + 1 by omega), Bool.true_and, List.drop_zero, Bool.and_assoc]
    · refine Ev.ret ?_
      unfold scRow
      rw [decide_eq_false (show ¬ (rd_L1 s (j : Int)).length = s.length + 1 by omega)]; rfl
theorem spec_ScoresOk_ev (s : List (List Int)) (hs : s.length ≤ 1048576) : Ev (fun k => spec_ScoresOk.f k s) (scoresOk s) := by
  unfold spec_ScoresOk.f
  exact spec_ScoresOk_l0 s hs s.length 0 (by omega)
theorem impl_ScoresOk_l1 (s : List (List Int)) (j : Nat) (hs : s.length ≤ 1048576) (hj : j < s.length) (row : List Int) (hr : row.length = s.length + 1) (b : Bool)
    (next : Ev (fun k => impl_ScoresOk.l0 k s s (s.length : Int) ((j + 1 : Nat) : Int)) b) (d : Nat) : ∀ (i : Nat), i + d = s.length + 1 →
    Ev (fun k => impl_ScoresOk.l1 k s s (s.length : Int) (j : Int) row (row.length : Int) (i : Int)) ((row.drop i).all (fun x => decide (0 ≤ x ∧ x ≤ 20)) && b) := by
  induction d with
  | zero =>
    intro i hi
    refine Ev.step (fun k => impl_ScoresOk.l1.eq_2 ..) ?_
    refine Ev.neg (by omega) ?_
    rw [wrap_add1 (by omega)]
    refine Ev.eq next ?_
    rw [List.drop_eq_nil_of_le (by omega)]; rfl
  | succ d ih =>
    intro i hi
    refine Ev.step (fun k => impl_ScoresOk.l1.eq_2 ..) ?_
    refine Ev.pos (by omega) (Ev.pos (by omega) (Ev.pos (by omega) ?_))
    rw [drop_all _ _ 0 i (by omega), ← rd_nat]
    refine Ev.ite (fun hc => ?_) (fun hc => Ev.ite (fun hc2 => ?_) (fun hc2 => ?_))
    · refine Ev.ret ?_
      rw [decide_eq_false (by omega)]; rfl
    · refine Ev.ret ?_
      rw [decide_eq_false (by omega)]; rfl
    · rw [wrap_add1 (by omega)]
      refine Ev.eq (ih (i + 1) (by omega)) ?_
      rw [decide_eq_true (show 0 ≤ rd row (i : Int) ∧ rd row (i : Int) ≤ 20 by omega), Bool.true_and]
theorem impl_ScoresOk_l0 (s : List (List Int)) (hs : s.length ≤ 1048576) (d : Nat) : ∀ (j : Nat), j + d = s.length →
    Ev (fun k => impl_ScoresOk.l0 k s s (s.length : Int) (j : Int)) ((s.drop j).all (scRow s.length) && decide (1 ≤ s.length ∧ s.length ≤ 5)) := by
  induction d with
  | zero =>
    intro j hj
    refine Ev.step (fun k => impl_ScoresOk.l0.eq_2 ..) ?_
    refine Ev.neg (by omega) ?_
    rw [List.drop_eq_nil_of_le (by omega), List.all_nil, Bool.true_and]
    refine Ev.ite (fun h => Ev.ret ?_) (fun h => Ev.ret ?_)
    · rw [decide_eq_decide]; omega
    · rw [decide_eq_false (by omega)]
  | succ d ih =>
    intro j hj
    refine Ev.step (fun k => impl_ScoresOk.l0.eq_2 ..) ?_
    rw [drop_all _ _ [] j (by omega), ← rd1_nat]
    refine Ev.pos (by omega) (Ev.pos (by omega) (Ev.pos (by omega) ?_))
    rw [wrap_add1 (by omega)]
    refine Ev.ite (fun hc => ?_) (fun hc => ?_)
    · refine Ev.eq (impl_ScoresOk_l1 s j hs (by omega) _ (by omega) _ (ih (j + 1) (by omega)) (s.length + 1) 0 (by omega)) ?_
      unfold scRow
      rw [decide_eq_true (show (rd_L1 s (j : Int)).length = s.length + 1 by omega), Bool.true_and, List.drop_zero, Bool.and_assoc]
    · refine Ev.ret ?_
      unfold scRow
      rw [decide_eq_false (show ¬ (rd_L1 s (j : Int)).length = s.length + 1 by omega)]; rfl
theorem impl_ScoresOk_ev (s : List (List Int)) (hs : s.length ≤ 1048576) : Ev (fun k => impl_ScoresOk.f k s) (scoresOk s) := by
  unfold impl_ScoresOk.f
  exact impl_ScoresOk_l0 s hs s.length 0 (by omega)

theorem FnExactScoresOk : ∀ (l0 : List (List (Int))), l0.length ≤ maxLen → (∀ x ∈ l0, x.length ≤ maxLen ∧ ∀ x_, x_ ∈ x → ((Lit.int .i64 x_).wf = true)) → ∃ k, laws_FnExactScoresOk.f k l0 = some true := by
  intro s hs hx
  refine Ev.rounds (g := fun k => laws_FnExactScoresOk.f k s) ?_
  unfold laws_FnExactScoresOk.f
  obtain ⟨r, h1, h2⟩ := szIntSS_ev s hs (fun x h => (hx x h).1)
  refine Ev.bind h1 (Ev.ite (fun h => Ev.ret rfl) (fun h => ?_))
  obtain ⟨h3, h4⟩ := h2 h
  refine Ev.bind (toIntSS_ev s h3 h4) (Ev.bind (spec_ScoresOk_ev s h3) (Ev.bind (toIntSS_ev s h3 h4) (Ev.bind (impl_ScoresOk_ev s h3) (Ev.neg (by simp) (Ev.bind (toIntSS_ev s h3 h4) (Ev.bind (eqIntSS_ev s s h3 h4) (Ev.pos (by simp) (Ev.ret rfl))))))))

end Go.Proofs.Ytndgogphgeefaaa.Pure
