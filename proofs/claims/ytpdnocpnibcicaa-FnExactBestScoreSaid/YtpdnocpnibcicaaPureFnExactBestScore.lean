/- The plain statement of FnExactBestScore: the printed functions answer true for all arguments within the printed bounds; no other conditions. -/
import Derived.Test.YtpdnocpnibcicaaLEx6
import Derived.ChangeSlices
import Derived.SizedLaws
import Derived.Test.YtpdnocpnibcicaaVSized
namespace Go.Proofs.Ytpdnocpnibcicaa.Pure
open Go.RowKit Go.Proofs.Ytpdnocpnibcicaa.LE Go.Proofs.YtpdnocpnibcicaaV.PrintWords Go.Proofs.YtpdnocpnibcicaaV.PrintLast
set_option linter.unusedVariables false
set_option linter.unusedSimpArgs false

theorem Ev.ret {α : Type} {r r' : α} (h : r = r') : Ev (fun _ => some r) r' := ⟨0, fun _ _ => by rw [h]⟩
theorem Ev.pos {α : Type} {c : Prop} [Decidable c] {g f : Nat → Option α} {r : α} (h : c) (k : Ev g r) : Ev (fun n => if c then g n else f n) r := by
  simpa only [if_pos h] using k
theorem Ev.neg {α : Type} {c : Prop} [Decidable c] {g f : Nat → Option α} {r : α} (h : ¬ c) (k : Ev f r) : Ev (fun n => if c then g n else f n) r := by
  simpa only [if_neg h] using k
theorem Ev.ite {α : Type} {c : Prop} [Decidable c] {g f : Nat → Option α} {r : α} (h : c → Ev g r) (k : ¬ c → Ev f r) : Ev (fun n => if c then g n else f n) r := by
  by_cases hc : c
  · exact Ev.pos hc (h hc)
  · exact Ev.neg hc (k hc)
theorem Ev.bind0 {α β : Type} {o : Option α} {f : Nat → α → Option β} {a : α} {r : β} (h : o = some a) (k : Ev (fun n => f n a) r) : Ev (fun n => o.bind (f n)) r := by
  subst h; simpa only [Option.bind_some] using k
theorem Ev.eq {α : Type} {g : Nat → Option α} {r r' : α} (h : Ev g r) (e : r = r') : Ev g r' := e ▸ h
theorem wrap_id {n : Int} (h0 : -9223372036854775808 ≤ n) (h1 : n < 9223372036854775808) : wrap64 n = n := by
  unfold wrap64; omega
theorem wrap_add1 {n : Nat} (h : n < 1099511627776) : wrap64 ((n : Int) + 1) = ((n + 1 : Nat) : Int) := by
  unfold wrap64; omega
theorem rd_nat (l : List Int) (j : Nat) : rd l (j : Int) = l.getD j 0 := by simp [rd]

open Go.ChangeShapes Go.WideShapes in
/-- the printed row names this lemma so: it is the words' own -/
theorem _root_.Go.Proofs.Ytpdnocpnibcicaa.PrintWords.sized_ints {H : Type} {enc : TypeId × Value → H} {P : Program} {W : World} {base : Nat} {spare : Nat → Bool} {held : Bool} {t e : TypeId} {k : IntKind} {a : Option Addr} {len cap : Nat} {d : DataW H} {ps : List MemPlace} {ts : List TypeId} {ds : List (DataW H)} {j : Nat}
    (hsz : (DataW.weightsEach P ts ds).all (· ≤ reachBytes) = true) (ht : ts[j]? = some t) (hd : ds[j]? = some d) (hu : P.underlying t = some (.slice e)) (he : P.underlying e = some (.int k)) (hc : P.cellsOf e = 1) {B : Nat} (hB : P.bytesOf e = B)
    (h : DataW.Trod enc P W base spare held t (.slice a len cap) d ps) : len * B ≤ 140737488351232 :=
  Go.Proofs.YtpdnocpnibcicaaV.PrintWords.sized_ints hsz ht hd hu he hc hB h

/-- whether one comes from a word to 0 within so many steps, over numbers of words or 0 alone -/
def walkOk (l : List Int) : Nat → Int → Bool
  | 0, a => decide (a ≤ 0)
  | m + 1, a => if a ≤ 0 then true else decide (0 ≤ rd l (a - 1) ∧ rd l (a - 1) ≤ l.length) && walkOk l m (rd l (a - 1))
def okAt (l : List Int) (i : Nat) : Bool := decide (0 ≤ rd l i ∧ rd l i ≤ l.length) && walkOk l l.length ((i : Int) + 1)
def zerosFrom (l : List Int) (j : Nat) : Nat := (l.drop j).count 0
def treeOk (l : List Int) : Bool := decide (1 ≤ l.length ∧ l.length ≤ 8) && (List.range l.length).all (okAt l) && decide (l.count 0 = 1)

theorem walkOk_self (l : List Int) (a : Int) (ha : 0 < a) (h : rd l (a - 1) = a) : ∀ m, walkOk l m a = false
  | 0 => by simp [walkOk]; omega
  | m + 1 => by
    unfold walkOk
    rw [if_neg (by omega), h, walkOk_self l a ha h m, Bool.and_false]

theorem zerosFrom_succ (l : List Int) (j : Nat) (h : j < l.length) : zerosFrom l j = (if rd l j = 0 then 1 else 0) + zerosFrom l (j + 1) := by
  unfold zerosFrom
  rw [List.drop_eq_getElem_cons h, List.count_cons]
  have e : rd l j = l[j] := by simp [rd_nat, h]
  rw [e]
  by_cases e : l[j] = 0 <;> simp [e, Nat.add_comm]
theorem zerosFrom_le (l : List Int) (j : Nat) : zerosFrom l j ≤ l.length := by
  unfold zerosFrom
  exact Nat.le_trans List.count_le_length (by simp)

theorem all_from (p : Nat → Bool) (n j : Nat) (h : j < n) : ((List.range' j (n - j)).all p) = (p j && (List.range' (j + 1) (n - (j + 1))).all p) := by
  obtain ⟨d, hd⟩ : ∃ d, n - j = d + 1 := ⟨n - j - 1, by omega⟩
  rw [hd, List.range'_succ, List.all_cons, show n - (j + 1) = d by omega]

def restOk (l : List Int) (r : Nat) (j : Nat) : Bool := (List.range' j (l.length - j)).all (okAt l) && decide (r + zerosFrom l j = 1)
theorem restOk_end (l : List Int) (r : Nat) (j : Nat) (h : j = l.length) : restOk l r j = ((r : Int) == 1) := by
  subst h
  unfold restOk zerosFrom
  simp
  rw [Bool.eq_iff_iff]; simp; omega
theorem restOk_bad (l : List Int) (r : Nat) (j : Nat) (h : j < l.length) (hb : okAt l j = false) : restOk l r j = false := by
  unfold restOk
  rw [all_from _ _ _ h, hb]; rfl
theorem restOk_good (l : List Int) (r : Nat) (j : Nat) (h : j < l.length) (hb : okAt l j = true) : restOk l r j = restOk l (r + if rd l j = 0 then 1 else 0) (j + 1) := by
  unfold restOk
  rw [all_from _ _ _ h, hb, Bool.true_and, zerosFrom_succ l j h, Nat.add_assoc]
theorem restOk_zero (l : List Int) (h : 1 ≤ l.length ∧ l.length ≤ 8) : restOk l 0 0 = treeOk l := by
  unfold restOk treeOk zerosFrom
  rw [decide_eq_true h]
  simp [List.range_eq_range']

theorem l1In_eq (a b c : Int) : spec_l1In.f a b c = some (decide (b ≤ a ∧ a ≤ c)) := by
  unfold spec_l1In.f
  split
  · rename_i h; congr 1; rw [decide_eq_decide]; omega
  · rename_i h; congr 1; symm; rw [decide_eq_false_iff_not]; omega

theorem toIntS_l0 (l : List Int) (hl : l.length ≤ 1099511627776) (d : Nat) : ∀ (j : Nat) (y : List Int), j + d = l.length → y.length = l.length → (∀ i, i < j → y[i]? = l[i]?) → Ev (fun k => laws_toIntS.l0 k l y (j : Int)) l := by
  induction d with
  | zero =>
    intro j y hj hy h
    refine Ev.step (fun k => laws_toIntS.l0.eq_2 ..) ?_
    refine Ev.neg (by omega) (Ev.ret ?_)
    apply List.ext_getElem?
    intro i
    by_cases hi : i < j
    · exact h i hi
    · rw [List.getElem?_eq_none (by omega), List.getElem?_eq_none (by omega)]
  | succ d ih =>
    intro j y hj hy h
    refine Ev.step (fun k => laws_toIntS.l0.eq_2 ..) ?_
    refine Ev.pos (by omega) (Ev.pos (by omega) (Ev.pos (by omega) ?_))
    rw [wrap_add1 (by omega)]
    refine ih (j + 1) _ (by omega) (by simpa using hy) ?_
    intro i hi
    rw [rd_nat, Int.toNat_natCast]
    by_cases e : i = j
    · subst e
      simp [hy, show i < l.length by omega]
    · rw [List.getElem?_set_ne (by omega)]
      exact h i (by omega)

theorem toIntS_ev (l : List Int) (hl : l.length ≤ 1048576) : Ev (fun k => laws_toIntS.f k l) l := by
  unfold laws_toIntS.f
  refine Ev.pos (by omega) (Ev.pos (by omega) ?_)
  exact toIntS_l0 l (by omega) l.length 0 _ (by omega) (by simp) (fun i h => by omega)

theorem eqIntS_l0 (l m : List Int) (hl : l.length ≤ 1099511627776) (hm : l.length = m.length) (d : Nat) : ∀ (j : Nat), j + d = l.length → (∀ i, i < j → l[i]? = m[i]?) → Ev (fun k => laws_eqIntS.l0 k l m (j : Int)) (decide (l = m)) := by
  induction d with
  | zero =>
    intro j hj h
    refine Ev.step (fun k => laws_eqIntS.l0.eq_2 ..) ?_
    refine Ev.neg (by omega) (Ev.ret ?_)
    symm
    rw [decide_eq_true_iff]
    apply List.ext_getElem?
    intro i
    by_cases hi : i < j
    · exact h i hi
    · rw [List.getElem?_eq_none (by omega), List.getElem?_eq_none (by omega)]
  | succ d ih =>
    intro j hj h
    refine Ev.step (fun k => laws_eqIntS.l0.eq_2 ..) ?_
    refine Ev.pos (by omega) (Ev.pos (by omega) (Ev.pos (by omega) (Ev.ite ?_ ?_)))
    · intro e
      rw [wrap_add1 (by omega)]
      refine ih (j + 1) (by omega) ?_
      intro i hi
      by_cases e' : i = j
      · subst e'
        rw [rd_nat, rd_nat] at e
        rw [List.getElem?_eq_getElem (by omega), List.getElem?_eq_getElem (by omega)]
        simpa [List.getD_eq_getElem?_getD, show i < l.length by omega, show i < m.length by omega] using e
      · exact h i (by omega)
    · intro e
      refine Ev.ret ?_
      symm
      rw [decide_eq_false_iff_not]
      intro e'; subst e'; exact e rfl

theorem eqIntS_ev (l m : List Int) (hl : l.length ≤ 1048576) : Ev (fun k => laws_eqIntS.f k l m) (decide (l = m)) := by
  unfold laws_eqIntS.f
  refine Ev.ite (fun h => ?_) (fun h => ?_)
  · exact eqIntS_l0 l m (by omega) (by omega) l.length 0 (by omega) (fun i h => by omega)
  · refine Ev.ret ?_
    symm
    rw [decide_eq_false_iff_not]
    intro e; subst e; exact h rfl

/-! rows of rows -/
theorem rd1_nat (xs : List (List Int)) (j : Nat) : rd_L1 xs (j : Int) = xs.getD j [] := by simp [rd_L1]
theorem szIntSS_l0 (l : List (List Int)) (hl : l.length ≤ 1048576) (hx : ∀ x ∈ l, x.length ≤ maxLen) (d : Nat) : ∀ (j : Nat) (a : Int), j + d = l.length → 0 ≤ a → a ≤ 1048576 → (∀ i, i < j → (rd_L1 l (i : Int)).length ≤ 1048576) →
    ∃ r, Ev (fun k => laws_szIntSS.l0 k l a (j : Int)) r ∧ (0 ≤ r → ∀ i, i < l.length → (rd_L1 l (i : Int)).length ≤ 1048576) := by
  induction d with
  | zero =>
    intro j a hj h0 h1 h
    refine ⟨a, Ev.step (fun k => laws_szIntSS.l0.eq_2 ..) (Ev.neg (by omega) (Ev.ret rfl)), ?_⟩
    intro _ i hi; exact h i (by omega)
  | succ d ih =>
    intro j a hj h0 h1 h
    have hlen : (rd_L1 l (j : Int)).length ≤ maxLen := by
      rw [rd1_nat, List.getD_eq_getElem?_getD, List.getElem?_eq_getElem (by omega)]
      exact hx _ (List.getElem_mem ..)
    simp only [maxLen] at hlen
    have hw : wrap64 (a - ((rd_L1 l (j : Int)).length : Int)) = a - ((rd_L1 l (j : Int)).length : Int) := wrap_id (by omega) (by omega)
    by_cases hc : a - ((rd_L1 l (j : Int)).length : Int) < 0
    · refine ⟨-1, Ev.step (fun k => laws_szIntSS.l0.eq_2 ..) (Ev.pos (by omega) (Ev.pos (by omega) (Ev.bind0 (a := -1) ?_ (Ev.pos (by omega) (Ev.ret rfl))))), fun h => absurd h (by omega)⟩
      unfold laws_szIntS.f
      rw [hw, if_pos hc]
    · obtain ⟨r, h2, h3⟩ := ih (j + 1) (a - ((rd_L1 l (j : Int)).length : Int)) (by omega) (by omega) (by omega) (by
        intro i hi
        by_cases e : i = j
        · subst e; omega
        · exact h i (by omega))
      refine ⟨r, Ev.step (fun k => laws_szIntSS.l0.eq_2 ..) (Ev.pos (by omega) (Ev.pos (by omega) (Ev.bind0 (a := a - ((rd_L1 l (j : Int)).length : Int)) ?_ (Ev.neg (by omega) ?_)))), h3⟩
      · unfold laws_szIntS.f
        rw [hw, if_neg hc]
      · rw [wrap_add1 (by omega)]
        exact h2
theorem szIntSS_ev (l : List (List Int)) (hl : l.length ≤ maxLen) (hx : ∀ x ∈ l, x.length ≤ maxLen) :
    ∃ r, Ev (fun k => laws_szIntSS.f k l 1048576) r ∧ (¬ r < 0 → l.length ≤ 1048576 ∧ ∀ i, i < l.length → (rd_L1 l (i : Int)).length ≤ 1048576) := by
  simp only [maxLen] at hl
  have hw : wrap64 (1048576 - (l.length : Int)) = 1048576 - (l.length : Int) := wrap_id (by omega) (by omega)
  unfold laws_szIntSS.f
  by_cases hc : 1048576 - (l.length : Int) < 0
  · refine ⟨-1, ?_, fun h => absurd h (by omega)⟩
    rw [hw]
    exact Ev.pos hc (Ev.ret rfl)
  · obtain ⟨r, h1, h2⟩ := szIntSS_l0 l (by omega) hx l.length 0 (1048576 - (l.length : Int)) (by omega) (by omega) (by omega) (fun i h => by omega)
    refine ⟨r, ?_, fun h => ⟨by omega, h2 (by omega)⟩⟩
    rw [hw]
    exact Ev.neg hc h1
theorem toIntSS_l0 (l : List (List Int)) (hl : l.length ≤ 1048576) (hx : ∀ i, i < l.length → (rd_L1 l (i : Int)).length ≤ 1048576) (d : Nat) : ∀ (j : Nat) (y : List (List Int)), j + d = l.length → y.length = l.length → (∀ i, i < j → y[i]? = l[i]?) → Ev (fun k => laws_toIntSS.l0 k l y (j : Int)) l := by
  induction d with
  | zero =>
    intro j y hj hy h
    refine Ev.step (fun k => laws_toIntSS.l0.eq_2 ..) ?_
    refine Ev.neg (by omega) (Ev.ret ?_)
    apply List.ext_getElem?
    intro i
    by_cases hi : i < j
    · exact h i hi
    · rw [List.getElem?_eq_none (by omega), List.getElem?_eq_none (by omega)]
  | succ d ih =>
    intro j y hj hy h
    refine Ev.step (fun k => laws_toIntSS.l0.eq_2 ..) ?_
    refine Ev.pos (by omega) (Ev.pos (by omega) (Ev.bind (toIntS_ev _ (hx j (by omega))) (Ev.pos (by omega) ?_)))
    rw [wrap_add1 (by omega)]
    refine ih (j + 1) _ (by omega) (by simpa using hy) ?_
    intro i hi
    rw [rd1_nat, Int.toNat_natCast]
    by_cases e : i = j
    · subst e
      simp [hy, show i < l.length by omega]
    · rw [List.getElem?_set_ne (by omega)]
      exact h i (by omega)
theorem toIntSS_ev (l : List (List Int)) (hl : l.length ≤ 1048576) (hx : ∀ i, i < l.length → (rd_L1 l (i : Int)).length ≤ 1048576) : Ev (fun k => laws_toIntSS.f k l) l := by
  unfold laws_toIntSS.f
  refine Ev.pos (by omega) (Ev.pos (by omega) ?_)
  exact toIntSS_l0 l hl hx l.length 0 _ (by omega) (by simp) (fun i h => by omega)
theorem eqIntSS_l0 (l m : List (List Int)) (hl : l.length ≤ 1048576) (hm : l.length = m.length) (hx : ∀ i, i < l.length → (rd_L1 l (i : Int)).length ≤ 1048576) (d : Nat) : ∀ (j : Nat), j + d = l.length → (∀ i, i < j → l[i]? = m[i]?) → Ev (fun k => laws_eqIntSS.l0 k l m (j : Int)) (decide (l = m)) := by
  induction d with
  | zero =>
    intro j hj h
    refine Ev.step (fun k => laws_eqIntSS.l0.eq_2 ..) ?_
    refine Ev.neg (by omega) (Ev.ret ?_)
    symm
    rw [decide_eq_true_iff]
    apply List.ext_getElem?
    intro i
    by_cases hi : i < j
    · exact h i hi
    · rw [List.getElem?_eq_none (by omega), List.getElem?_eq_none (by omega)]
  | succ d ih =>
    intro j hj h
    refine Ev.step (fun k => laws_eqIntSS.l0.eq_2 ..) ?_
    refine Ev.pos (by omega) (Ev.pos (by omega) (Ev.pos (by omega) (Ev.bind (eqIntS_ev _ _ (hx j (by omega))) (Ev.ite ?_ ?_))))
    · intro e0
      have e := of_decide_eq_true e0
      rw [wrap_add1 (by omega)]
      refine ih (j + 1) (by omega) ?_
      intro i hi
      by_cases e' : i = j
      · subst e'
        rw [rd1_nat, rd1_nat] at e
        rw [List.getElem?_eq_getElem (by omega), List.getElem?_eq_getElem (by omega)]
        simpa [List.getD_eq_getElem?_getD, show i < l.length by omega, show i < m.length by omega] using e
      · exact h i (by omega)
    · intro e
      refine Ev.ret ?_
      symm
      rw [decide_eq_false_iff_not]
      intro e'; subst e'; exact e (by simp)
theorem eqIntSS_ev (l m : List (List Int)) (hl : l.length ≤ 1048576) (hx : ∀ i, i < l.length → (rd_L1 l (i : Int)).length ≤ 1048576) : Ev (fun k => laws_eqIntSS.f k l m) (decide (l = m)) := by
  unfold laws_eqIntSS.f
  refine Ev.ite (fun h => ?_) (fun h => ?_)
  · exact eqIntSS_l0 l m (by omega) (by omega) hx l.length 0 (by omega) (fun i h => by omega)
  · refine Ev.ret ?_
    symm
    rw [decide_eq_false_iff_not]
    intro e; subst e; exact h rfl

/-! scores -/
def scRow (n : Nat) (row : List Int) : Bool := decide (row.length = n + 1) && row.all (fun x => decide (0 ≤ x ∧ x ≤ 20))
def scoresOk (s : List (List Int)) : Bool := s.all (scRow s.length) && decide (1 ≤ s.length ∧ s.length ≤ 5)
theorem drop_all {α : Type} (p : α → Bool) (l : List α) (z : α) (j : Nat) (h : j < l.length) : (l.drop j).all p = (p (l.getD j z) && (l.drop (j + 1)).all p) := by
  rw [List.drop_eq_getElem_cons h, List.all_cons, List.getD_eq_getElem?_getD, List.getElem?_eq_getElem h]; rfl
theorem spec_ScoresOk_l1 (s : List (List Int)) (j : Nat) (hs : s.length ≤ 1048576) (hj : j < s.length) (hr : (rd_L1 s (j : Int)).length = s.length + 1) (b : Bool)
    (next : Ev (fun k => spec_ScoresOk.l0 k s ((j + 1 : Nat) : Int)) b) (d : Nat) : ∀ (i : Nat), i + d = s.length + 1 →
    Ev (fun k => spec_ScoresOk.l1 k s (j : Int) (i : Int)) (((rd_L1 s (j : Int)).drop i).all (fun x => decide (0 ≤ x ∧ x ≤ 20)) && b) := by
  induction d with
  | zero =>
    intro i hi
    refine Ev.step (fun k => spec_ScoresOk.l1.eq_2 ..) ?_
    refine Ev.pos (by omega) (Ev.pos (by omega) (Ev.neg (by omega) ?_))
    rw [wrap_add1 (by omega)]
    refine Ev.eq next ?_
    rw [List.drop_eq_nil_of_le (by omega)]; rfl
  | succ d ih =>
    intro i hi
    refine Ev.step (fun k => spec_ScoresOk.l1.eq_2 ..) ?_
    refine Ev.pos (by omega) (Ev.pos (by omega) (Ev.pos (by omega) (Ev.pos (by omega) (Ev.bind0 (l1In_eq ..) ?_))))
    rw [drop_all _ _ 0 i (by omega), ← rd_nat]
    refine Ev.ite (fun hc => ?_) (fun hc => ?_)
    · rw [wrap_add1 (by omega)]
      refine Ev.eq (ih (i + 1) (by omega)) ?_
      rw [hc, Bool.true_and]
    · refine Ev.ret ?_
      rw [show decide (0 ≤ rd (rd_L1 s (j : Int)) (i : Int) ∧ rd (rd_L1 s (j : Int)) (i : Int) ≤ 20) = false by simpa using hc]; rfl
theorem spec_ScoresOk_l0 (s : List (List Int)) (hs : s.length ≤ 1048576) (d : Nat) : ∀ (j : Nat), j + d = s.length →
    Ev (fun k => spec_ScoresOk.l0 k s (j : Int)) ((s.drop j).all (scRow s.length) && decide (1 ≤ s.length ∧ s.length ≤ 5)) := by
  induction d with
  | zero =>
    intro j hj
    refine Ev.step (fun k => spec_ScoresOk.l0.eq_2 ..) ?_
    refine Ev.neg (by omega) (Ev.bind0 (l1In_eq ..) (Ev.ret ?_))
    rw [List.drop_eq_nil_of_le (by omega), List.all_nil, Bool.true_and, decide_eq_decide]
    omega
  | succ d ih =>
    intro j hj
    refine Ev.step (fun k => spec_ScoresOk.l0.eq_2 ..) ?_
    rw [drop_all _ _ [] j (by omega), ← rd1_nat]
    refine Ev.pos (by omega) (Ev.pos (by omega) ?_)
    rw [wrap_add1 (by omega)]
    refine Ev.ite (fun hc => ?_) (fun hc => ?_)
    · refine Ev.eq (spec_ScoresOk_l1 s j hs (by omega) (by omega) _ (ih (j + 1) (by omega)) (s.length + 1) 0 (by omega)) ?_
      unfold scRow
      rw [decide_eq_true (show (rd_L1 s (j : Int)).length = s.length + 1 by omega), Bool.true_and, List.drop_zero, Bool.and_assoc]
    · refine Ev.ret ?_
      unfold scRow
      rw [decide_eq_false (show ¬ (rd_L1 s (j : Int)).length = s.length + 1 by omega)]; rfl
theorem spec_ScoresOk_ev (s : List (List Int)) (hs : s.length ≤ 1048576) : Ev (fun k => spec_ScoresOk.f k s) (scoresOk s) := by
  unfold spec_ScoresOk.f
  exact spec_ScoresOk_l0 s hs s.length 0 (by omega)
theorem impl_ScoresOk_l1 (s : List (List Int)) (j : Nat) (hs : s.length ≤ 1048576) (hj : j < s.length) (row : List Int) (hr : row.length = s.length + 1) (b : Bool)
    (next : Ev (fun k => impl_ScoresOk.l0 k s s (s.length : Int) ((j + 1 : Nat) : Int)) b) (d : Nat) : ∀ (i : Nat), i + d = s.length + 1 →
    Ev (fun k => impl_ScoresOk.l1 k s s (s.length : Int) (j : Int) row (row.length : Int) (i : Int)) ((row.drop i).all (fun x => decide (0 ≤ x ∧ x ≤ 20)) && b) := by
  induction d with
  | zero =>
    intro i hi
    refine Ev.step (fun k => impl_ScoresOk.l1.eq_2 ..) ?_
    refine Ev.neg (by omega) ?_
    rw [wrap_add1 (by omega)]
    refine Ev.eq next ?_
    rw [List.drop_eq_nil_of_le (by omega)]; rfl
  | succ d ih =>
    intro i hi
    refine Ev.step (fun k => impl_ScoresOk.l1.eq_2 ..) ?_
    refine Ev.pos (by omega) (Ev.pos (by omega) (Ev.pos (by omega) ?_))
    rw [drop_all _ _ 0 i (by omega), ← rd_nat]
    refine Ev.ite (fun hc => ?_) (fun hc => Ev.ite (fun hc2 => ?_) (fun hc2 => ?_))
    · refine Ev.ret ?_
      rw [decide_eq_false (by omega)]; rfl
    · refine Ev.ret ?_
      rw [decide_eq_false (by omega)]; rfl
    · rw [wrap_add1 (by omega)]
      refine Ev.eq (ih (i + 1) (by omega)) ?_
      rw [decide_eq_true (show 0 ≤ rd row (i : Int) ∧ rd row (i : Int) ≤ 20 by omega), Bool.true_and]
theorem impl_ScoresOk_l0 (s : List (List Int)) (hs : s.length ≤ 1048576) (d : Nat) : ∀ (j : Nat), j + d = s.length →
    Ev (fun k => impl_ScoresOk.l0 k s s (s.length : Int) (j : Int)) ((s.drop j).all (scRow s.length) && decide (1 ≤ s.length ∧ s.length ≤ 5)) := by
  induction d with
  | zero =>
    intro j hj
    refine Ev.step (fun k => impl_ScoresOk.l0.eq_2 ..) ?_
    refine Ev.neg (by omega) ?_
    rw [List.drop_eq_nil_of_le (by omega), List.all_nil, Bool.true_and]
    refine Ev.ite (fun h => Ev.ret ?_) (fun h => Ev.ret ?_)
    · rw [decide_eq_decide]; omega
    · rw [decide_eq_false (by omega)]
  | succ d ih =>
    intro j hj
    refine Ev.step (fun k => impl_ScoresOk.l0.eq_2 ..) ?_
    rw [drop_all _ _ [] j (by omega), ← rd1_nat]
    refine Ev.pos (by omega) (Ev.pos (by omega) (Ev.pos (by omega) ?_))
    rw [wrap_add1 (by omega)]
    refine Ev.ite (fun hc => ?_) (fun hc => ?_)
    · refine Ev.eq (impl_ScoresOk_l1 s j hs (by omega) _ (by omega) _ (ih (j + 1) (by omega)) (s.length + 1) 0 (by omega)) ?_
      unfold scRow
      rw [decide_eq_true (show (rd_L1 s (j : Int)).length = s.length + 1 by omega), Bool.true_and, List.drop_zero, Bool.and_assoc]
    · refine Ev.ret ?_
      unfold scRow
      rw [decide_eq_false (show ¬ (rd_L1 s (j : Int)).length = s.length + 1 by omega)]; rfl
theorem impl_ScoresOk_ev (s : List (List Int)) (hs : s.length ≤ 1048576) : Ev (fun k => impl_ScoresOk.f k s) (scoresOk s) := by
  unfold impl_ScoresOk.f
  exact impl_ScoresOk_l0 s hs s.length 0 (by omega)

/-- the inner walk of the reference -/
theorem spec_walk (l : List Int) (r j : Nat) (hl : l.length ≤ 8) (hj : j < l.length) (_ : r ≤ 8)
    (next : Ev (fun k => spec_TreeOk.l0 k l (l.length : Int) (r : Int) ((j + 1 : Nat) : Int)) (restOk l r (j + 1)))
    (d : Nat) : ∀ (s : Nat) (a : Int), s + d = l.length → 0 ≤ a → a ≤ l.length →
    Ev (fun k => spec_TreeOk.l1 k l (l.length : Int) (r : Int) (j : Int) a (s : Int)) (walkOk l d a && restOk l r (j + 1)) := by
  induction d with
  | zero =>
    intro s a hs h0 h1
    refine Ev.step (fun k => spec_TreeOk.l1.eq_2 ..) ?_
    refine Ev.ite (fun ha => ?_) (fun ha => ?_)
    · rw [decide_eq_false (by omega)]
      refine Ev.step (fun k => spec_TreeOk.j4.eq_2 ..) ?_
      refine Ev.neg (by simp) (Ev.pos ha (Ev.ret ?_))
      simp [walkOk, show ¬ a ≤ 0 by omega]
    · refine Ev.step (fun k => spec_TreeOk.j4.eq_2 ..) ?_
      refine Ev.neg (by simp) (Ev.neg ha ?_)
      rw [wrap_add1 (by omega)]
      exact Ev.eq next (by simp [walkOk, show a ≤ 0 by omega])
  | succ d ih =>
    intro s a hs h0 h1
    refine Ev.step (fun k => spec_TreeOk.l1.eq_2 ..) ?_
    refine Ev.ite (fun ha => ?_) (fun ha => ?_)
    · rw [decide_eq_true (by omega)]
      refine Ev.step (fun k => spec_TreeOk.j4.eq_2 ..) ?_
      refine Ev.pos rfl ?_
      rw [wrap_id (by omega) (by omega)]
      refine Ev.pos (by omega) (Ev.pos (by omega) (Ev.bind0 (l1In_eq ..) ?_))
      refine Ev.ite (fun hc => ?_) (fun hc => ?_)
      · have hc' := of_decide_eq_true hc
        rw [wrap_add1 (by omega)]
        refine Ev.eq (ih (s + 1) (rd l (a - 1)) (by omega) hc'.1 hc'.2) ?_
        simp [walkOk, show ¬ a ≤ 0 by omega, hc'.1, hc'.2]
      · refine Ev.ret ?_
        have hc' : ¬ (0 ≤ rd l (a - 1) ∧ rd l (a - 1) ≤ (l.length : Int)) := by simpa using hc
        simp [walkOk, show ¬ a ≤ 0 by omega, decide_eq_false hc']
    · refine Ev.step (fun k => spec_TreeOk.j4.eq_2 ..) ?_
      refine Ev.neg (by simp) (Ev.neg ha ?_)
      rw [wrap_add1 (by omega)]
      exact Ev.eq next (by simp [walkOk, show a ≤ 0 by omega])

theorem spec_TreeOk_l0 (l : List Int) (hl : l.length ≤ 8) (d : Nat) : ∀ (r j : Nat), j + d = l.length → r ≤ j →
    Ev (fun k => spec_TreeOk.l0 k l (l.length : Int) (r : Int) (j : Int)) (restOk l r j) := by
  induction d with
  | zero =>
    intro r j hj hr
    refine Ev.step (fun k => spec_TreeOk.l0.eq_2 ..) ?_
    exact Ev.neg (by omega) (Ev.ret (restOk_end l r j (by omega)).symm)
  | succ d ih =>
    intro r j hj hr
    refine Ev.step (fun k => spec_TreeOk.l0.eq_2 ..) ?_
    refine Ev.pos (by omega) (Ev.pos (by omega) (Ev.pos (by omega) (Ev.bind0 (l1In_eq ..) ?_)))
    refine Ev.ite (fun hc => ?_) (fun hc => ?_)
    · have hc' := of_decide_eq_true hc
      refine Ev.step (fun k => spec_TreeOk.j1.eq_2 ..) ?_
      rw [wrap_add1 (by omega)]
      refine Ev.ite (fun he => ?_) (fun he => ?_)
      · refine Ev.ret (restOk_bad l r j (by omega) ?_).symm
        have he' : rd l (j : Int) = ((j + 1 : Nat) : Int) := by simpa using he
        unfold okAt
        rw [walkOk_self l ((j : Int) + 1) (by omega) (by rw [show (j : Int) + 1 - 1 = (j : Int) by omega, he']; omega), Bool.and_false]
      · have hfin : ∀ (r' : Nat), r' = r + (if rd l j = 0 then 1 else 0) → Ev (fun k => spec_TreeOk.l1 k l (l.length : Int) (r' : Int) (j : Int) ((j + 1 : Nat) : Int) 0) (restOk l r j) := by
          intro r' hr'
          have hr8 : r' ≤ j + 1 := by subst hr'; split <;> omega
          refine Ev.eq (spec_walk l r' j hl (by omega) (by omega) (ih r' (j + 1) (by omega) hr8) l.length 0 ((j + 1 : Nat) : Int) (by omega) (by omega) (by omega)) ?_
          by_cases hw : walkOk l l.length ((j : Int) + 1) = true
          · rw [restOk_good l r j (by omega) (by unfold okAt; rw [hw, decide_eq_true hc']; rfl), ← hr', show ((j + 1 : Nat) : Int) = (j : Int) + 1 by omega, hw]; rfl
          · have hw' : walkOk l l.length ((j : Int) + 1) = false := by simpa using hw
            rw [restOk_bad l r j (by omega) (by unfold okAt; rw [hw']; simp), show ((j + 1 : Nat) : Int) = (j : Int) + 1 by omega, hw']; rfl
        refine Ev.pos (by omega) (Ev.pos (by omega) (Ev.ite (fun hz => ?_) (fun hz => ?_)))
        · rw [wrap_add1 (by omega)]
          refine Ev.step (fun k => spec_TreeOk.j2.eq_2 ..) ?_
          rw [wrap_add1 (by omega)]
          exact hfin (r + 1) (by rw [if_pos hz])
        · refine Ev.step (fun k => spec_TreeOk.j2.eq_2 ..) ?_
          rw [wrap_add1 (by omega)]
          exact hfin r (by rw [if_neg hz]; rfl)
    · refine Ev.step (fun k => spec_TreeOk.j1.eq_2 ..) ?_
      refine Ev.pos rfl (Ev.ret (restOk_bad l r j (by omega) ?_).symm)
      have hc' : ¬ (0 ≤ rd l (j : Int) ∧ rd l (j : Int) ≤ (l.length : Int)) := by simpa using hc
      unfold okAt
      rw [decide_eq_false hc']; rfl

theorem spec_TreeOk_ev (l : List Int) : Ev (fun k => spec_TreeOk.f k l) (treeOk l) := by
  unfold spec_TreeOk.f
  refine Ev.bind0 (l1In_eq ..) ?_
  refine Ev.ite (fun hc => ?_) (fun hc => ?_)
  · have hc' := of_decide_eq_true hc
    exact Ev.eq (spec_TreeOk_l0 l (by omega) l.length 0 0 (by omega) (by omega)) (restOk_zero l (by omega))
  · refine Ev.ret ?_
    have hc' : ¬ (1 ≤ (l.length : Int) ∧ (l.length : Int) ≤ 8) := by simpa using hc
    unfold treeOk
    rw [decide_eq_false (by omega)]; rfl

def inRange (l : List Int) (i : Nat) : Bool := decide (0 ≤ rd l i ∧ rd l i ≤ l.length)
theorem mem_rd {l : List Int} {a : Int} (h0 : 0 ≤ a) (h1 : a < l.length) (h : (List.range l.length).all (inRange l) = true) : 0 ≤ rd l a ∧ rd l a ≤ l.length := by
  rw [List.all_eq_true] at h
  have := h a.toNat (by simp; omega)
  unfold inRange at this
  rw [show ((a.toNat : Nat) : Int) = a by omega] at this
  exact of_decide_eq_true this
/-- how many steps lead to 0, as the program counts them -/
def stepsOf (l : List Int) : Nat → Int → Nat → Int
  | 0, _, _ => -1
  | m + 1, w, i => if rd l (w - 1) = 0 then i else stepsOf l m (rd l (w - 1)) (i + 1)
theorem stepsOf_neg (l : List Int) (h : (List.range l.length).all (inRange l) = true) : ∀ (m : Nat) (w : Int) (i : Nat), 0 < w → w ≤ l.length → (decide (stepsOf l m w i < 0) = !walkOk l m w)
  | 0, w, i, h0, h1 => by simp [stepsOf, walkOk]; omega
  | m + 1, w, i, h0, h1 => by
    have hr := mem_rd (a := w - 1) (by omega) (by omega) h
    unfold stepsOf walkOk
    rw [if_neg (show ¬ w ≤ 0 by omega), decide_eq_true hr, Bool.true_and]
    by_cases e : rd l (w - 1) = 0
    · rw [if_pos e, e, decide_eq_false (by omega)]
      cases m <;> simp [walkOk]
    · rw [if_neg e]
      exact stepsOf_neg l h m _ _ (by omega) (by omega)

theorem impl_steps_l0 (l : List Int) (hl : l.length ≤ 8) (h : (List.range l.length).all (inRange l) = true) (d : Nat) : ∀ (w : Int) (j : Nat), j + d = l.length → 0 < w → w ≤ l.length →
    Ev (fun k => impl_steps.l0 k l w (l.length : Int) (j : Int)) (stepsOf l d w j) := by
  induction d with
  | zero =>
    intro w j hj h0 h1
    refine Ev.step (fun k => impl_steps.l0.eq_2 ..) ?_
    exact Ev.neg (by omega) (Ev.ret rfl)
  | succ d ih =>
    intro w j hj h0 h1
    have hr := mem_rd (a := w - 1) (by omega) (by omega) h
    refine Ev.step (fun k => impl_steps.l0.eq_2 ..) ?_
    rw [wrap_id (n := w - 1) (by omega) (by omega), wrap_add1 (by omega)]
    refine Ev.pos (by omega) (Ev.pos (by omega) (Ev.pos (by omega) (Ev.ite (fun e => ?_) (fun e => ?_))))
    · exact Ev.ret (by unfold stepsOf; rw [if_pos e])
    · exact Ev.eq (ih (rd l (w - 1)) (j + 1) (by omega) (by omega) (by omega)) (by rw [stepsOf, if_neg e])

theorem impl_steps_ev (l : List Int) (hl : l.length ≤ 8) (h : (List.range l.length).all (inRange l) = true) (w : Int) (h0 : 0 < w) (h1 : w ≤ l.length) :
    Ev (fun k => impl_steps.f k l w) (stepsOf l l.length w 0) := by
  unfold impl_steps.f
  exact impl_steps_l0 l hl h l.length w 0 (by omega) h0 h1

theorem impl_TreeOk_l1 (l : List Int) (hl : l.length ≤ 8) (h : (List.range l.length).all (inRange l) = true) (r : Nat) (d : Nat) : ∀ (j : Nat), j + d = l.length →
    Ev (fun k => impl_TreeOk.l1 k l (r : Int) (l.length : Int) (j : Int)) ((List.range' j (l.length - j)).all (fun i => walkOk l l.length ((i : Int) + 1)) && ((r : Int) == 1)) := by
  induction d with
  | zero =>
    intro j hj
    refine Ev.step (fun k => impl_TreeOk.l1.eq_2 ..) ?_
    exact Ev.neg (by omega) (Ev.ret (by rw [show l.length - j = 0 by omega]; rfl))
  | succ d ih =>
    intro j hj
    refine Ev.step (fun k => impl_TreeOk.l1.eq_2 ..) ?_
    rw [wrap_add1 (by omega)]
    refine Ev.pos (by omega) (Ev.bind (impl_steps_ev l hl h _ (by omega) (by omega)) ?_)
    have hs := stepsOf_neg l h l.length ((j + 1 : Nat) : Int) 0 (by omega) (by omega)
    refine Ev.ite (fun e => ?_) (fun e => ?_)
    · rw [decide_eq_true e] at hs
      refine Ev.ret ?_
      rw [all_from _ _ _ (by omega), show walkOk l l.length ((j : Int) + 1) = false by simpa using hs.symm]; rfl
    · rw [decide_eq_false e] at hs
      refine Ev.eq (ih (j + 1) (by omega)) ?_
      rw [all_from _ l.length j (by omega), show walkOk l l.length ((j : Int) + 1) = true by simpa using hs.symm, Bool.true_and]

theorem impl_TreeOk_l0 (l : List Int) (h1 : 1 ≤ l.length) (hl : l.length ≤ 8) (d : Nat) : ∀ (r j : Nat), j + d = l.length → r ≤ j → (∀ i, i < j → inRange l i = true) → r + zerosFrom l j = l.count 0 →
    Ev (fun k => impl_TreeOk.l0 k l (r : Int) l (l.length : Int) (j : Int)) (treeOk l) := by
  induction d with
  | zero =>
    intro r j hj hr hin hz
    have hall : (List.range l.length).all (inRange l) = true := by
      rw [List.all_eq_true]; intro i hi; exact hin i (by have := List.mem_range.mp hi; omega)
    refine Ev.step (fun k => impl_TreeOk.l0.eq_2 ..) ?_
    refine Ev.neg (by omega) (Ev.eq (impl_TreeOk_l1 l hl hall r l.length 0 (by omega)) ?_)
    have hz0 : zerosFrom l j = 0 := by unfold zerosFrom; rw [List.drop_eq_nil_of_le (by omega)]; rfl
    have hrc : r = l.count 0 := by omega
    unfold treeOk
    rw [decide_eq_true (show 1 ≤ l.length ∧ l.length ≤ 8 from ⟨h1, hl⟩), Bool.true_and, Nat.sub_zero, ← List.range_eq_range', hrc]
    congr 1
    · rw [Bool.eq_iff_iff, List.all_eq_true, List.all_eq_true]
      rw [List.all_eq_true] at hall
      constructor
      · intro hw i hi
        have := hall i hi
        unfold inRange at this
        unfold okAt; rw [this, hw i hi]; rfl
      · intro hw i hi
        have := hw i hi
        unfold okAt at this
        exact (Bool.and_eq_true_iff.mp this).2
    · rw [Bool.eq_iff_iff]; simp; omega
  | succ d ih =>
    intro r j hj hr hin hz
    refine Ev.step (fun k => impl_TreeOk.l0.eq_2 ..) ?_
    have hbad : ¬ (0 ≤ rd l (j : Int) ∧ rd l (j : Int) ≤ (l.length : Int)) → treeOk l = false := by
      intro hb
      unfold treeOk
      have : (List.range l.length).all (okAt l) = false := by
        rw [List.all_eq_false]
        exact ⟨j, by simp; omega, by unfold okAt; rw [decide_eq_false hb]; simp⟩
      rw [this]; simp
    refine Ev.pos (by omega) (Ev.pos (by omega) (Ev.pos (by omega) (Ev.ite (fun e => ?_) (fun e => ?_))))
    · refine Ev.step (fun k => impl_TreeOk.j2.eq_2 ..) (Ev.pos rfl (Ev.ret ?_))
      exact (hbad (by omega)).symm
    · refine Ev.step (fun k => impl_TreeOk.j2.eq_2 ..) (Ev.ite (fun e2 => ?_) (fun e2 => ?_))
      · have e2' := of_decide_eq_true e2
        exact Ev.ret (hbad (by omega)).symm
      · have e2' : ¬ rd l (j : Int) > (l.length : Int) := by simpa using e2
        have hin' : ∀ i, i < j + 1 → inRange l i = true := by
          intro i hi
          by_cases e' : i = j
          · subst e'; unfold inRange; exact decide_eq_true (by omega)
          · exact hin i (by omega)
        have hzs := zerosFrom_succ l j (by omega)
        rw [wrap_add1 (n := j) (by omega)]
        refine Ev.ite (fun e3 => ?_) (fun e3 => ?_)
        · rw [wrap_add1 (by omega)]
          rw [if_pos e3] at hzs
          exact ih (r + 1) (j + 1) (by omega) (by omega) hin' (by omega)
        · rw [if_neg e3] at hzs
          exact ih r (j + 1) (by omega) (by omega) hin' (by omega)

theorem impl_TreeOk_ev (l : List Int) : Ev (fun k => impl_TreeOk.f k l) (treeOk l) := by
  unfold impl_TreeOk.f
  have hbad : ¬ (1 ≤ l.length ∧ l.length ≤ 8) → treeOk l = false := by
    intro hb; unfold treeOk; rw [decide_eq_false hb]; rfl
  refine Ev.ite (fun e => ?_) (fun e => ?_)
  · refine Ev.step (fun k => impl_TreeOk.j0.eq_2 ..) (Ev.pos rfl (Ev.ret ?_))
    exact (hbad (by omega)).symm
  · refine Ev.step (fun k => impl_TreeOk.j0.eq_2 ..) (Ev.ite (fun e2 => ?_) (fun e2 => ?_))
    · have e2' := of_decide_eq_true e2
      exact Ev.ret (hbad (by omega)).symm
    · have e2' : ¬ (l.length : Int) > 8 := by simpa using e2
      exact impl_TreeOk_l0 l (by omega) (by omega) l.length 0 0 (by omega) (by omega) (fun i h => by omega) (by simp [zerosFrom])

/-! folds over places -/
def foldFrom {β : Type} (f : β → Nat → β) (n j : Nat) (b : β) : β := (List.range' j (n - j)).foldl f b
theorem foldFrom_end {β : Type} (f : β → Nat → β) {n j : Nat} (b : β) (h : n ≤ j) : foldFrom f n j b = b := by
  unfold foldFrom; rw [show n - j = 0 by omega]; rfl
theorem foldFrom_step {β : Type} (f : β → Nat → β) {n j : Nat} (b : β) (h : j < n) : foldFrom f n j b = foldFrom f n (j + 1) (f b j) := by
  unfold foldFrom
  obtain ⟨d, hd⟩ : ∃ d, n - j = d + 1 := ⟨n - j - 1, by omega⟩
  rw [hd, List.range'_succ, List.foldl_cons, show n - (j + 1) = d by omega]
theorem mx_max (a b : Int) : mx a b = max a b := by unfold mx; split <;> omega
theorem mn_min (a b : Int) : mn a b = min a b := by unfold mn; split <;> omega
theorem treeOk_len {l : List Int} (h : treeOk l = true) : 1 ≤ l.length ∧ l.length ≤ 8 := by
  unfold treeOk at h
  rw [Bool.and_eq_true, Bool.and_eq_true] at h
  exact of_decide_eq_true h.1.1
theorem treeOk_rd {l : List Int} (h : treeOk l = true) {j : Nat} (hj : j < l.length) : 0 ≤ rd l j ∧ rd l j ≤ l.length := by
  unfold treeOk at h
  rw [Bool.and_eq_true, Bool.and_eq_true] at h
  have := List.all_eq_true.mp h.1.2 j (List.mem_range.mpr hj)
  unfold okAt at this
  rw [Bool.and_eq_true] at this
  exact of_decide_eq_true this.1
theorem treeOk_walk {l : List Int} (h : treeOk l = true) {j : Nat} (hj : j < l.length) : walkOk l l.length ((j : Int) + 1) = true := by
  unfold treeOk at h
  rw [Bool.and_eq_true, Bool.and_eq_true] at h
  have := List.all_eq_true.mp h.1.2 j (List.mem_range.mpr hj)
  unfold okAt at this
  rw [Bool.and_eq_true] at this
  exact this.2
theorem treeOk_ne {l : List Int} (h : treeOk l = true) {j : Nat} (hj : j < l.length) : rd l j ≠ (j : Int) + 1 := by
  intro e
  have := treeOk_walk h hj
  rw [walkOk_self l _ (by omega) (by rw [show (j : Int) + 1 - 1 = (j : Int) by omega]; exact e)] at this
  cases this
theorem treeOk_zero {l : List Int} (h : treeOk l = true) : l.count 0 = 1 := by
  unfold treeOk at h
  rw [Bool.and_eq_true] at h
  exact of_decide_eq_true h.2

/-! the score of a tree -/
theorem scoresOk_len {s : List (List Int)} (h : scoresOk s = true) : 1 ≤ s.length ∧ s.length ≤ 5 := by
  unfold scoresOk at h
  rw [Bool.and_eq_true] at h
  exact of_decide_eq_true h.2
theorem scoresOk_row {s : List (List Int)} (h : scoresOk s = true) {i : Nat} (hi : i < s.length) : (rd_L1 s (i : Int)).length = s.length + 1 ∧ ∀ j : Nat, j < s.length + 1 → 0 ≤ rd (rd_L1 s (i : Int)) (j : Int) ∧ rd (rd_L1 s (i : Int)) (j : Int) ≤ 20 := by
  unfold scoresOk at h
  rw [Bool.and_eq_true] at h
  have hm : rd_L1 s (i : Int) ∈ s := by
    rw [rd1_nat, List.getD_eq_getElem?_getD, List.getElem?_eq_getElem hi]; exact List.getElem_mem ..
  have := List.all_eq_true.mp h.1 _ hm
  unfold scRow at this
  rw [Bool.and_eq_true] at this
  have hl := of_decide_eq_true this.1
  refine ⟨hl, fun j hj => ?_⟩
  have hm2 : rd (rd_L1 s (i : Int)) (j : Int) ∈ rd_L1 s (i : Int) := by
    rw [rd_nat, List.getD_eq_getElem?_getD, List.getElem?_eq_getElem (by omega)]; exact List.getElem_mem ..
  exact of_decide_eq_true (List.all_eq_true.mp this.2 _ hm2)
def scSum (s : List (List Int)) (l : List Int) (j : Nat) (b : Int) : Int := foldFrom (fun (b : Int) (i : Nat) => b + rd (rd_L1 s (i : Int)) (rd l (i : Int))) l.length j b
def scoreOf (s : List (List Int)) (l : List Int) : Int := if scoresOk s = true ∧ treeOk l = true ∧ l.length = s.length then scSum s l 0 0 else -1
theorem score_in {s : List (List Int)} {l : List Int} (hs : scoresOk s = true) (hl : treeOk l = true) (he : l.length = s.length) {j : Nat} (hj : j < l.length) :
    0 ≤ rd l (j : Int) ∧ rd l (j : Int) < ((rd_L1 s (j : Int)).length : Int) ∧ 0 ≤ rd (rd_L1 s (j : Int)) (rd l (j : Int)) ∧ rd (rd_L1 s (j : Int)) (rd l (j : Int)) ≤ 20 := by
  have h1 := treeOk_rd hl hj
  obtain ⟨h2, h3⟩ := scoresOk_row hs (i := j) (by omega)
  have h4 := h3 (rd l (j : Int)).toNat (by omega)
  rw [show (((rd l (j : Int)).toNat : Nat) : Int) = rd l (j : Int) by omega] at h4
  exact ⟨h1.1, by omega, h4⟩
theorem spec_ScoreOf_l0 (s : List (List Int)) (l : List Int) (hs : scoresOk s = true) (hl : treeOk l = true) (he : l.length = s.length) (d : Nat) : ∀ (j : Nat) (b : Int), j + d = l.length → 0 ≤ b → b ≤ 20 * (j : Int) →
    Ev (fun k => spec_ScoreOf.l0 k s l b (j : Int)) (scSum s l j b) := by
  have hn := scoresOk_len hs
  induction d with
  | zero =>
    intro j b hj h0 h1
    refine Ev.step (fun k => spec_ScoreOf.l0.eq_2 ..) ?_
    exact Ev.neg (by omega) (Ev.ret (foldFrom_end (fun (b : Int) (i : Nat) => b + rd (rd_L1 s (i : Int)) (rd l (i : Int))) b (by omega)).symm)
  | succ d ih =>
    intro j b hj h0 h1
    obtain ⟨a1, a2, a3, a4⟩ := score_in hs hl he (j := j) (by omega)
    refine Ev.step (fun k => spec_ScoreOf.l0.eq_2 ..) ?_
    refine Ev.pos (by omega) (Ev.pos (by omega) (Ev.pos (by omega) (Ev.pos (by omega) (Ev.pos (by omega) ?_))))
    rw [wrap_add1 (by omega), wrap_id (by omega) (by omega)]
    refine Ev.eq (ih (j + 1) _ (by omega) (by omega) (by omega)) ?_
    exact (foldFrom_step (fun (b : Int) (i : Nat) => b + rd (rd_L1 s (i : Int)) (rd l (i : Int))) b (by omega)).symm
theorem impl_score_l0 (s : List (List Int)) (l : List Int) (hs : scoresOk s = true) (hl : treeOk l = true) (he : l.length = s.length) (d : Nat) : ∀ (j : Nat) (b : Int), j + d = l.length → 0 ≤ b → b ≤ 20 * (j : Int) →
    Ev (fun k => impl_score.l0 k s b l (l.length : Int) (j : Int)) (scSum s l j b) := by
  have hn := scoresOk_len hs
  induction d with
  | zero =>
    intro j b hj h0 h1
    refine Ev.step (fun k => impl_score.l0.eq_2 ..) ?_
    exact Ev.neg (by omega) (Ev.ret (foldFrom_end (fun (b : Int) (i : Nat) => b + rd (rd_L1 s (i : Int)) (rd l (i : Int))) b (by omega)).symm)
  | succ d ih =>
    intro j b hj h0 h1
    obtain ⟨a1, a2, a3, a4⟩ := score_in hs hl he (j := j) (by omega)
    refine Ev.step (fun k => impl_score.l0.eq_2 ..) ?_
    refine Ev.pos (by omega) (Ev.pos (by omega) (Ev.pos (by omega) (Ev.pos (by omega) (Ev.pos (by omega) (Ev.pos (by omega) ?_)))))
    rw [wrap_add1 (by omega), wrap_id (by omega) (by omega)]
    refine Ev.eq (ih (j + 1) _ (by omega) (by omega) (by omega)) ?_
    exact (foldFrom_step (fun (b : Int) (i : Nat) => b + rd (rd_L1 s (i : Int)) (rd l (i : Int))) b (by omega)).symm
theorem impl_score_ev (s : List (List Int)) (l : List Int) (hs : scoresOk s = true) (hl : treeOk l = true) (he : l.length = s.length) : Ev (fun k => impl_score.f k s l) (scSum s l 0 0) := by
  unfold impl_score.f
  exact impl_score_l0 s l hs hl he l.length 0 0 (by omega) (by omega) (by omega)
theorem spec_ScoreOf_ev (s : List (List Int)) (l : List Int) (hs : s.length ≤ 1048576) : Ev (fun k => spec_ScoreOf.f k s l) (scoreOf s l) := by
  unfold spec_ScoreOf.f
  refine Ev.bind (spec_ScoresOk_ev s hs) (Ev.ite (fun h1 => Ev.bind (spec_TreeOk_ev l) (Ev.ite (fun h2 => ?_) (fun h2 => ?_))) (fun h1 => ?_))
  · refine Ev.step (fun k => spec_ScoreOf.j0.eq_2 ..) (Ev.ite (fun h3 => Ev.ret ?_) (fun h3 => ?_))
    · have h3' : (l.length : Int) ≠ (s.length : Int) := by simpa using h3
      unfold scoreOf; rw [if_neg (fun h => h3' (by rw [h.2.2]))]
    · have h3' : (l.length : Int) = (s.length : Int) := by simpa using h3
      refine Ev.eq (spec_ScoreOf_l0 s l h1 h2 (by omega) l.length 0 0 (by omega) (by omega) (by omega)) ?_
      unfold scoreOf; rw [if_pos ⟨h1, h2, by omega⟩]
  · refine Ev.step (fun k => spec_ScoreOf.j0.eq_2 ..) (Ev.pos rfl (Ev.ret ?_))
    unfold scoreOf; rw [if_neg (fun h => h2 h.2.1)]
  · refine Ev.step (fun k => spec_ScoreOf.j0.eq_2 ..) (Ev.pos rfl (Ev.ret ?_))
    unfold scoreOf; rw [if_neg (fun h => h1 h.1)]

/-! sums -/
def sumTo (f : Nat → Int) : Nat → Int
  | 0 => 0
  | n + 1 => sumTo f n + f n
theorem sumTo_congr {f g : Nat → Int} : ∀ (n : Nat), (∀ i, i < n → f i = g i) → sumTo f n = sumTo g n
  | 0, _ => rfl
  | n + 1, h => by rw [sumTo, sumTo, sumTo_congr n (fun i hi => h i (by omega)), h n (by omega)]
theorem sumTo_add (f g : Nat → Int) : ∀ n : Nat, sumTo (fun i => f i + g i) n = sumTo f n + sumTo g n
  | 0 => rfl
  | n + 1 => by rw [sumTo, sumTo, sumTo, sumTo_add f g n]; omega
theorem sumTo_zero : ∀ n : Nat, sumTo (fun _ => 0) n = 0
  | 0 => rfl
  | n + 1 => by rw [sumTo, sumTo_zero n]; rfl
theorem sumTo_one : ∀ n : Nat, sumTo (fun _ => 1) n = n
  | 0 => rfl
  | n + 1 => by rw [sumTo, sumTo_one n]; omega
theorem sumTo_le {f g : Nat → Int} : ∀ (n : Nat), (∀ i, i < n → f i ≤ g i) → sumTo f n ≤ sumTo g n
  | 0, _ => by simp [sumTo]
  | n + 1, h => by
    have := sumTo_le n (fun i hi => h i (by omega))
    have := h n (by omega)
    simp only [sumTo]; omega
theorem sumTo_swap (f : Nat → Nat → Int) (m : Nat) : ∀ n : Nat, sumTo (fun i => sumTo (fun j => f i j) m) n = sumTo (fun j => sumTo (fun i => f i j) n) m
  | 0 => (sumTo_zero m).symm
  | n + 1 => by
    rw [sumTo, sumTo_swap f m n, ← sumTo_add]
    rfl
theorem sumTo_pick (a : Nat) (c : Int) : ∀ n : Nat, sumTo (fun i => if i = a then c else 0) n = if a < n then c else 0
  | 0 => by simp [sumTo]
  | n + 1 => by
    rw [sumTo, sumTo_pick a c n]
    by_cases h1 : a < n
    · rw [if_pos h1, if_neg (by omega), if_pos (by omega)]; omega
    · by_cases h2 : n = a
      · rw [if_neg h1, if_pos h2, if_pos (by omega)]; omega
      · rw [if_neg h1, if_neg h2, if_neg (by omega)]; rfl
theorem sumTo_bij (f : Nat → Int) (n : Nat) (s t : Nat → Nat) (hs : ∀ i, i < n → s i < n ∧ t (s i) = i) (ht : ∀ i, i < n → t i < n ∧ s (t i) = i) : sumTo (fun i => f (s i)) n = sumTo f n := by
  have e1 : sumTo (fun i => f (s i)) n = sumTo (fun i => sumTo (fun v => if v = s i then f v else 0) n) n := by
    refine sumTo_congr n (fun i hi => ?_)
    have : sumTo (fun v => if v = s i then f v else 0) n = sumTo (fun v => if v = s i then f (s i) else 0) n := by
      refine sumTo_congr n (fun v _ => ?_)
      by_cases e : v = s i
      · rw [if_pos e, if_pos e, e]
      · rw [if_neg e, if_neg e]
    rw [this, sumTo_pick, if_pos (hs i hi).1]
  rw [e1, sumTo_swap]
  refine sumTo_congr n (fun v hv => ?_)
  have : sumTo (fun i => if v = s i then f v else 0) n = sumTo (fun i => if i = t v then f v else 0) n := by
    refine sumTo_congr n (fun i hi => ?_)
    by_cases e : v = s i
    · rw [if_pos e, if_pos (by rw [e]; exact ((hs i hi).2).symm)]
    · rw [if_neg e, if_neg (fun h => e (by rw [h]; exact ((ht v hv).2).symm))]
  rw [this, sumTo_pick, if_pos (ht v hv).1]
theorem sumTo_from (f : Nat → Int) (n : Nat) (d : Nat) : ∀ (j : Nat) (b : Int), j + d = n → foldFrom (fun (b : Int) (i : Nat) => b + f i) n j b = b + sumTo f n - sumTo f j := by
  induction d with
  | zero => intro j b h; rw [foldFrom_end _ b (by omega), show j = n by omega]; omega
  | succ d ih =>
    intro j b h
    rw [foldFrom_step _ b (by omega), ih (j + 1) _ (by omega), sumTo]
    omega
theorem sumTo_fold (f : Nat → Int) (n : Nat) (b : Int) : foldFrom (fun (b : Int) (i : Nat) => b + f i) n 0 b = b + sumTo f n := by
  rw [sumTo_from f n n 0 b (by omega)]; simp [sumTo]
theorem count_sum (v : Int) : ∀ l : List Int, (l.count v : Int) = sumTo (fun i => if rd l (i : Int) = v then 1 else 0) l.length := by
  intro l
  have key : ∀ j, j ≤ l.length → ((l.take j).count v : Int) = sumTo (fun i => if rd l (i : Int) = v then 1 else 0) j := by
    intro j
    induction j with
    | zero => intro _; rfl
    | succ j ih =>
      intro hj
      rw [sumTo, ← ih (by omega), List.take_succ_eq_append_getElem (by omega), List.count_append]
      have e : rd l (j : Int) = l[j] := by simp [rd_nat, show j < l.length by omega]
      rw [e]
      by_cases h : l[j] = v <;> simp [h]
  have := key l.length (Nat.le_refl _)
  rwa [List.take_length] at this
theorem sumTo_bound {f : Nat → Int} (c : Int) : ∀ (n : Nat), (∀ i, i < n → 0 ≤ f i ∧ f i ≤ c) → 0 ≤ sumTo f n ∧ sumTo f n ≤ c * n
  | 0, _ => by simp [sumTo]
  | n + 1, h => by
    have h1 := sumTo_bound c n (fun i hi => h i (by omega))
    have h2 := h n (by omega)
    have h3 : c * ((n + 1 : Nat) : Int) = c * n + c := by rw [Int.natCast_succ, Int.mul_add, Int.mul_one]
    rw [h3]
    simp only [sumTo]; omega
theorem sumTo_gap (a b : Int) (h0 : 1 ≤ a) (h1 : a ≤ b) : ∀ m : Nat, sumTo (fun g => if a ≤ (g : Int) + 1 ∧ b > (g : Int) + 1 then 1 else 0) m = max 0 (min (b - 1) m - a + 1)
  | 0 => by simp only [sumTo]; omega
  | m + 1 => by
    rw [sumTo, sumTo_gap a b h0 h1 m]
    by_cases h : a ≤ (m : Int) + 1 ∧ b > (m : Int) + 1
    · rw [if_pos h]; omega
    · rw [if_neg h]; omega

/-! the greatest value over what is so -/
def MaxOf {α : Type} (S : α → Prop) (f : α → Int) (r : Int) : Prop := (r = -1 ∨ ∃ a, S a ∧ f a = r) ∧ ∀ a, S a → f a ≤ r
theorem MaxOf.none {α : Type} {S : α → Prop} {f : α → Int} (h : ∀ a, ¬ S a) : MaxOf S f (-1) := ⟨.inl rfl, fun a ha => absurd ha (h a)⟩
theorem MaxOf.congr {α : Type} {S T : α → Prop} {f : α → Int} {r : Int} (m : MaxOf S f r) (h : ∀ a, S a ↔ T a) : MaxOf T f r :=
  ⟨m.1.imp id (fun ⟨a, h1, h2⟩ => ⟨a, (h a).1 h1, h2⟩), fun a ha => m.2 a ((h a).2 ha)⟩
theorem MaxOf.union {α : Type} {S T U : α → Prop} {f : α → Int} {r q : Int} (m : MaxOf S f r) (m' : MaxOf T f q) (hr : -1 ≤ r) (hq : -1 ≤ q) (h : ∀ a, U a ↔ S a ∨ T a) : MaxOf U f (max r q) := by
  refine ⟨?_, fun a ha => ?_⟩
  · rcases Int.le_total r q with hl | hl
    · rw [show max r q = q by omega]
      rcases m'.1 with e | ⟨a, h1, h2⟩
      · exact .inl e
      · exact .inr ⟨a, (h a).2 (.inr h1), h2⟩
    · rw [show max r q = r by omega]
      rcases m.1 with e | ⟨a, h1, h2⟩
      · exact .inl e
      · exact .inr ⟨a, (h a).2 (.inl h1), h2⟩
  · rcases (h a).1 ha with h1 | h1
    · have := m.2 a h1; omega
    · have := m'.2 a h1; omega
theorem MaxOf.one {α : Type} {T : α → Prop} {f : α → Int} {c : α} (h : ∀ a, T a ↔ a = c) : MaxOf T f (f c) := ⟨.inr ⟨c, (h c).2 rfl, rfl⟩, fun a ha => by rw [(h a).1 ha]; exact Int.le_refl _⟩
theorem MaxOf.uniq {α : Type} {S : α → Prop} {f : α → Int} {r q : Int} (h0 : ∀ a, S a → 0 ≤ f a) (m : MaxOf S f r) (m' : MaxOf S f q) : r = q := by
  rcases m.1 with e | ⟨a, h1, h2⟩
  · rcases m'.1 with e' | ⟨b, h3, h4⟩
    · rw [e, e']
    · have := m.2 b h3; have := h0 b h3; omega
  · rcases m'.1 with e' | ⟨b, h3, h4⟩
    · have := m'.2 a h1; have := h0 a h1; omega
    · have := m.2 b h3; have := m'.2 a h1; omega
theorem MaxOf.ge {α : Type} {S : α → Prop} {f : α → Int} {r : Int} (h0 : ∀ a, S a → 0 ≤ f a) (m : MaxOf S f r) : -1 ≤ r := by
  rcases m.1 with e | ⟨a, h1, h2⟩
  · omega
  · have := h0 a h1; omega
/-- the score of heads of the words from w on -/
def sc (s : List (List Int)) : Nat → List Int → Int
  | _, [] => 0
  | w, h :: t => rd (rd_L1 s (w : Int)) h + sc s (w + 1) t
theorem sc_append (s : List (List Int)) : ∀ (a b : List Int) (w : Nat), sc s w (a ++ b) = sc s w a + sc s (w + a.length) b
  | [], b, w => by simp [sc]
  | h :: t, b, w => by rw [List.cons_append, sc, sc, sc_append s t b (w + 1), List.length_cons, show w + 1 + t.length = w + (t.length + 1) by omega]; omega
theorem sc_bound {s : List (List Int)} (hs : scoresOk s = true) : ∀ (a : List Int) (w : Nat), w + a.length ≤ s.length → (∀ h, h ∈ a → 0 ≤ h ∧ h ≤ s.length) → 0 ≤ sc s w a ∧ sc s w a ≤ 20 * (a.length : Int)
  | [], w, _, _ => by simp [sc]
  | h :: t, w, hw, hd => by
    rw [List.length_cons] at hw
    have h1 := sc_bound hs t (w + 1) (by omega) (fun x hx => hd x (List.mem_cons_of_mem _ hx))
    have h2 := hd h (List.mem_cons_self ..)
    have h3 := (scoresOk_row hs (i := w) (by omega)).2 h.toNat (by omega)
    rw [show ((h.toNat : Nat) : Int) = h by omega] at h3
    rw [sc, List.length_cons]
    omega
theorem scSum_sc (s : List (List Int)) (l : List Int) (d : Nat) : ∀ (j : Nat) (b : Int), j + d = l.length → scSum s l j b = b + sc s j (l.drop j) := by
  induction d with
  | zero =>
    intro j b hj
    rw [List.drop_of_length_le (by omega), sc, Int.add_zero]
    exact foldFrom_end _ b (by omega)
  | succ d ih =>
    intro j b hj
    rw [List.drop_eq_getElem_cons (by omega), sc]
    have h := ih (j + 1) (b + rd (rd_L1 s (j : Int)) (rd l (j : Int))) (by omega)
    have h2 : scSum s l j b = scSum s l (j + 1) (b + rd (rd_L1 s (j : Int)) (rd l (j : Int))) := foldFrom_step _ b (by omega)
    rw [h2, h, show rd l (j : Int) = l[j] by rw [rd_nat, List.getD_eq_getElem?_getD, List.getElem?_eq_getElem (by omega)]; rfl]
    omega
theorem scSum_zero (s : List (List Int)) (l : List Int) : scSum s l 0 0 = sc s 0 l := by
  rw [scSum_sc s l l.length 0 0 (by omega), List.drop_zero, Int.zero_add]
theorem tree_mem {l : List Int} (hl : treeOk l = true) {h : Int} (hm : h ∈ l) : 0 ≤ h ∧ h ≤ l.length := by
  obtain ⟨i, hi, rfl⟩ := List.getElem_of_mem hm
  have := treeOk_rd hl hi
  rw [rd_nat, List.getD_eq_getElem?_getD, List.getElem?_eq_getElem hi] at this
  exact this
def Cand (s : List (List Int)) (so : List Int → Bool) (x : List Int) : Prop := x.length = s.length ∧ treeOk x = true ∧ so x = true
def IsBest (s : List (List Int)) (so : List Int → Bool) (r : Int) : Prop := MaxOf (Cand s so) (sc s 0) r
theorem cand_nonneg {s : List (List Int)} (hs : scoresOk s = true) {so : List Int → Bool} (x : List Int) (h : Cand s so x) : 0 ≤ sc s 0 x ∧ sc s 0 x ≤ 20 * (x.length : Int) :=
  sc_bound hs x 0 (by rw [h.1]; omega) (fun y hy => by rw [← h.1]; exact tree_mem h.2.1 hy)
theorem isBest_uniq {s : List (List Int)} (hs : scoresOk s = true) {so : List Int → Bool} {r q : Int} (h : IsBest s so r) (h' : IsBest s so q) : r = q :=
  MaxOf.uniq (fun x hx => (cand_nonneg hs x hx).1) h h'
theorem isBest_bound {s : List (List Int)} (hs : scoresOk s = true) {so : List Int → Bool} {r : Int} (h : IsBest s so r) : -1 ≤ r ∧ r ≤ 100 := by
  have hn := scoresOk_len hs
  rcases h.1 with e | ⟨a, h1, h2⟩
  · omega
  · have h3 := cand_nonneg hs a h1
    have := h1.1
    omega
/-! rows of digits, counted from the first one on -/
def valN (n : Nat) : List Int → Nat
  | [] => 0
  | h :: t => h.toNat + (n + 1) * valN n t
def Dig (n : Nat) (l : List Int) : Prop := ∀ h, h ∈ l → 0 ≤ h ∧ h ≤ (n : Int)
theorem valN_inj (n : Nat) : ∀ (l m : List Int), Dig n l → Dig n m → l.length = m.length → valN n l = valN n m → l = m
  | [], [], _, _, _, _ => rfl
  | [], _ :: _, _, _, h, _ => by simp at h
  | _ :: _, [], _, _, h, _ => by simp at h
  | a :: l, b :: m, ha, hb, hl, hv => by
    have h1 := ha a (List.mem_cons_self ..)
    have h2 := hb b (List.mem_cons_self ..)
    rw [valN, valN] at hv
    have e1 : (a.toNat + (n + 1) * valN n l) % (n + 1) = a.toNat := by rw [Nat.add_mul_mod_self_left, Nat.mod_eq_of_lt (by omega)]
    have e2 : (b.toNat + (n + 1) * valN n m) % (n + 1) = b.toNat := by rw [Nat.add_mul_mod_self_left, Nat.mod_eq_of_lt (by omega)]
    have e3 : (a.toNat + (n + 1) * valN n l) / (n + 1) = valN n l := by rw [Nat.add_mul_div_left _ _ (by omega), Nat.div_eq_of_lt (by omega), Nat.zero_add]
    have e4 : (b.toNat + (n + 1) * valN n m) / (n + 1) = valN n m := by rw [Nat.add_mul_div_left _ _ (by omega), Nat.div_eq_of_lt (by omega), Nat.zero_add]
    have e5 : a.toNat = b.toNat := by rw [← e1, ← e2, hv]
    have e6 : valN n l = valN n m := by rw [← e3, ← e4, hv]
    rw [show a = b by omega, valN_inj n l m (fun x hx => ha x (List.mem_cons_of_mem _ hx)) (fun x hx => hb x (List.mem_cons_of_mem _ hx)) (by simpa using hl) e6]
theorem valN_lt (n : Nat) : ∀ (l : List Int), Dig n l → valN n l < (n + 1) ^ l.length
  | [], _ => by simp [valN]
  | a :: l, ha => by
    have h1 := ha a (List.mem_cons_self ..)
    have h2 := valN_lt n l (fun x hx => ha x (List.mem_cons_of_mem _ hx))
    rw [valN, List.length_cons, Nat.pow_succ, Nat.mul_comm _ (n + 1)]
    have h3 : (n + 1) * (valN n l + 1) ≤ (n + 1) * (n + 1) ^ l.length := Nat.mul_le_mul_left _ h2
    rw [Nat.mul_add, Nat.mul_one] at h3
    omega
/-- the next row -/
def succL (n : Nat) : List Int → Option (List Int)
  | [] => none
  | h :: t => if h = (n : Int) then (succL n t).map (fun t' => 0 :: t') else some ((h + 1) :: t)
theorem succL_some (n : Nat) : ∀ (l m : List Int), Dig n l → succL n l = some m → Dig n m ∧ m.length = l.length ∧ valN n m = valN n l + 1
  | [], m, _, h => by simp [succL] at h
  | a :: l, m, ha, h => by
    have h1 := ha a (List.mem_cons_self ..)
    have hd : Dig n l := fun x hx => ha x (List.mem_cons_of_mem _ hx)
    unfold succL at h
    by_cases e : a = (n : Int)
    · rw [if_pos e] at h
      cases hs : succL n l with
      | none => rw [hs] at h; simp at h
      | some m' =>
        rw [hs] at h
        obtain rfl := Option.some.inj h
        obtain ⟨h2, h3, h4⟩ := succL_some n l m' hd hs
        refine ⟨fun x hx => ?_, by simp [h3], ?_⟩
        · rcases List.mem_cons.mp hx with rfl | hx
          · omega
          · exact h2 x hx
        · rw [valN, valN, h4, Nat.mul_add, e]
          simp
          omega
    · rw [if_neg e] at h
      obtain rfl := Option.some.inj h
      refine ⟨fun x hx => ?_, rfl, ?_⟩
      · rcases List.mem_cons.mp hx with rfl | hx
        · omega
        · exact hd x hx
      · rw [valN, valN]
        omega
theorem succL_none (n : Nat) : ∀ (l : List Int), Dig n l → succL n l = none → valN n l + 1 = (n + 1) ^ l.length
  | [], _, _ => by simp [valN]
  | a :: l, ha, h => by
    unfold succL at h
    by_cases e : a = (n : Int)
    · rw [if_pos e, Option.map_eq_none_iff] at h
      have h2 := succL_none n l (fun x hx => ha x (List.mem_cons_of_mem _ hx)) h
      rw [valN, List.length_cons, Nat.pow_succ, ← h2, e, Nat.mul_comm _ (n + 1), Nat.mul_add]
      simp
      omega
    · rw [if_neg e] at h; cases h
theorem valN_zeros (n : Nat) : ∀ m : Nat, valN n (List.replicate m 0) = 0
  | 0 => rfl
  | m + 1 => by rw [List.replicate_succ, valN, valN_zeros n m]; simp

/-! the program's search over all rows of heads -/
/-- the next row behind so many zeros -/
theorem impl_best_TreeOk_l1 (s : List (List Int)) (x5 : Int) (hs : s.length ≤ 5) (r : Int) : ∀ (t z : List Int), z.length + t.length = s.length → Dig s.length t →
    (∀ t', succL s.length t = some t' → Ev (fun k => impl_best_TreeOk.l0 k s x5 (z ++ t')) r) → (succL s.length t = none → r = x5) →
    Ev (fun k => impl_best_TreeOk.l1 k s x5 (z ++ t) (z.length : Int)) r
  | [], z, hl, hd, h1, h2 => by
    simp at hl
    refine Ev.step (fun k => impl_best_TreeOk.l1.eq_2 ..) ?_
    refine Ev.neg (by simp) (Ev.pos (by simp) (Ev.ret (h2 rfl).symm))
  | a :: t, z, hl, hd, h1, h2 => by
    simp at hl
    have hrd : rd (z ++ a :: t) (z.length : Int) = a := by simp [rd]
    have ha := hd a (List.mem_cons_self ..)
    refine Ev.step (fun k => impl_best_TreeOk.l1.eq_2 ..) ?_
    refine Ev.pos (by simp; omega) (Ev.pos (by omega) ?_)
    rw [hrd]
    have hlen : ((z ++ a :: t).length : Int) = (s.length : Int) := by simp; omega
    refine Ev.ite (fun e => ?_) (fun e => ?_)
    · rw [wrap_add1 (by omega)]
      have hset : (z ++ a :: t).set (z.length : Int).toNat 0 = (z ++ [0]) ++ t := by simp
      rw [hset, show ((z.length + 1 : Nat) : Int) = ((z ++ [0]).length : Int) by simp]
      have ea : a = (s.length : Int) := by omega
      refine impl_best_TreeOk_l1 s x5 hs r t (z ++ [0]) (by simp; omega) (fun x hx => hd x (List.mem_cons_of_mem _ hx)) (fun t' ht => ?_) (fun ht => ?_)
      · have := h1 (0 :: t') (by unfold succL; rw [if_pos ea, ht]; rfl)
        simpa using this
      · exact h2 (by unfold succL; rw [if_pos ea, ht]; rfl)
    · have ea : ¬ a = (s.length : Int) := by omega
      refine Ev.neg (by simp; omega) ?_
      have := h1 ((a + 1) :: t) (by unfold succL; rw [if_neg ea])
      have hset : (z ++ a :: t).set (z.length : Int).toNat (wrap64 (a + 1)) = z ++ (a + 1) :: t := by rw [wrap_id (by omega) (by omega)]; simp
      rw [hset]
      exact this
theorem impl_best_TreeOk_l0 (s : List (List Int)) (hs : scoresOk s = true) (d : Nat) : ∀ (l : List Int) (x5 : Int), l.length = s.length → Dig s.length l → (s.length + 1) ^ s.length ≤ valN s.length l + d →
    MaxOf (fun x => Cand s treeOk x ∧ valN s.length x < valN s.length l) (sc s 0) x5 → ∃ r, Ev (fun k => impl_best_TreeOk.l0 k s x5 l) r ∧ IsBest s treeOk r := by
  have hn := scoresOk_len hs
  induction d with
  | zero =>
    intro l x5 hl hd hv _
    have := valN_lt s.length l hd
    rw [hl] at this
    omega
  | succ d ih =>
    intro l x5 hl hd hv hm
    have hnn : ∀ x, Cand s treeOk x → 0 ≤ sc s 0 x := fun x hx => (cand_nonneg hs x hx).1
    have hdc : ∀ x, Cand s treeOk x → Dig s.length x := fun x hx y hy => by rw [← hx.1]; exact tree_mem hx.2.1 hy
    -- what is so behind this row
    have hstep : ∀ x, Cand s treeOk x → (valN s.length x < valN s.length l + 1 ↔ valN s.length x < valN s.length l ∨ x = l) := by
      intro x hx
      constructor
      · intro h
        by_cases e : valN s.length x = valN s.length l
        · exact .inr (valN_inj s.length x l (hdc x hx) hd (by rw [hx.1, hl]) e)
        · exact .inl (by omega)
      · rintro (h | rfl) <;> omega
    have hx5 : -1 ≤ x5 := hm.ge (fun x hx => hnn x hx.1)
    obtain ⟨y5, hy5, hj⟩ : ∃ y5, MaxOf (fun x => Cand s treeOk x ∧ valN s.length x < valN s.length l + 1) (sc s 0) y5 ∧ ∀ r, Ev (fun k => impl_best_TreeOk.l1 k s y5 l 0) r → Ev (fun k => impl_best_TreeOk.l0 k s x5 l) r := by
      by_cases hc : treeOk l = true ∧ treeOk l = true
      · have hcl : Cand s treeOk l := ⟨hl, hc.1, hc.2⟩
        refine ⟨max x5 (sc s 0 l), ?_, fun r hr => ?_⟩
        · refine MaxOf.union hm (MaxOf.one (T := fun x => x = l) (fun a => Iff.rfl)) hx5 (by have := hnn l hcl; omega) (fun x => ?_)
          constructor
          · rintro ⟨h1, h2⟩
            rcases (hstep x h1).1 h2 with h3 | h3
            · exact .inl ⟨h1, h3⟩
            · exact .inr h3
          · rintro (⟨h1, h2⟩ | rfl)
            · exact ⟨h1, by omega⟩
            · exact ⟨hcl, by omega⟩
        · refine Ev.step (fun k => impl_best_TreeOk.l0.eq_2 ..) (Ev.bind (impl_TreeOk_ev l) (Ev.pos hc.1 (Ev.bind (impl_TreeOk_ev l) ?_)))
          refine Ev.step (fun k => impl_best_TreeOk.j1.eq_2 ..) (Ev.pos hc.2 (Ev.bind (impl_score_ev s l hs hc.1 hl) ?_))
          rw [scSum_zero, mx_max]
          exact Ev.step (fun k => impl_best_TreeOk.j2.eq_2 ..) hr
      · refine ⟨x5, hm.congr (fun x => ?_), fun r hr => ?_⟩
        · constructor
          · rintro ⟨h1, h2⟩
            exact ⟨h1, by omega⟩
          · rintro ⟨h1, h2⟩
            rcases (hstep x h1).1 h2 with h3 | rfl
            · exact ⟨h1, h3⟩
            · exact absurd ⟨h1.2.1, h1.2.2⟩ hc
        · refine Ev.step (fun k => impl_best_TreeOk.l0.eq_2 ..) (Ev.bind (impl_TreeOk_ev l) (Ev.ite (fun h1 => Ev.bind (impl_TreeOk_ev l) ?_) (fun h1 => ?_)))
          · refine Ev.step (fun k => impl_best_TreeOk.j1.eq_2 ..) (Ev.neg (fun h2 => hc ⟨h1, h2⟩) ?_)
            exact Ev.step (fun k => impl_best_TreeOk.j2.eq_2 ..) hr
          · refine Ev.step (fun k => impl_best_TreeOk.j1.eq_2 ..) (Ev.neg (by simp) ?_)
            exact Ev.step (fun k => impl_best_TreeOk.j2.eq_2 ..) hr
    cases hsu : succL s.length l with
    | none =>
      refine ⟨y5, hj y5 (impl_best_TreeOk_l1 s y5 (by omega) y5 l [] (by simpa using hl) hd (fun t' ht => by rw [hsu] at ht; cases ht) (fun _ => rfl)), hy5.congr (fun x => ?_)⟩
      have hlast := succL_none s.length l hd hsu
      constructor
      · exact fun h => h.1
      · intro h
        refine ⟨h, ?_⟩
        have := valN_lt s.length x (hdc x h)
        rw [h.1] at this
        rw [hlast, hl]; exact this
    | some l' =>
      obtain ⟨h1, h2, h3⟩ := succL_some s.length l l' hd hsu
      obtain ⟨r, hr, hb⟩ := ih l' y5 (by omega) h1 (by omega) (by rw [h3]; exact hy5)
      refine ⟨r, hj r (impl_best_TreeOk_l1 s y5 (by omega) r l [] (by simpa using hl) hd (fun t' ht => ?_) (fun h => by rw [hsu] at h; cases h)), hb⟩
      rw [hsu] at ht
      obtain rfl := Option.some.inj ht
      exact hr
theorem impl_best_TreeOk_ev (s : List (List Int)) (hs : scoresOk s = true) (a : Int) : ∃ r, Ev (fun k => impl_best_TreeOk.f k s a) r ∧ IsBest s treeOk r := by
  have hn := scoresOk_len hs
  have hnone : MaxOf (fun x => Cand s treeOk x ∧ valN s.length x < valN s.length (List.replicate s.length 0)) (sc s 0) (-1) := MaxOf.none (fun x hx => by
    have h := hx.2
    rw [valN_zeros] at h
    omega)
  obtain ⟨r, h1, h2⟩ := impl_best_TreeOk_l0 s hs ((s.length + 1) ^ s.length) (List.replicate s.length 0) (-1) (by simp) (fun h hh => by rw [List.eq_of_mem_replicate hh]; omega) (by omega) hnone
  refine ⟨r, ?_, h2⟩
  unfold impl_best_TreeOk.f
  refine Ev.bind (impl_ScoresOk_ev s (by omega)) (Ev.pos hs (Ev.pos (by omega) (Ev.pos (by omega) ?_)))
  rw [show ((s.length : Int)).toNat = s.length by omega]
  exact h1
theorem impl_best_TreeOk_bad (s : List (List Int)) (hl : s.length ≤ 1048576) (hs : ¬ scoresOk s = true) (a : Int) : Ev (fun k => impl_best_TreeOk.f k s a) (-1) := by
  unfold impl_best_TreeOk.f
  exact Ev.bind (impl_ScoresOk_ev s hl) (Ev.neg hs (Ev.ret rfl))

/-! the reference's search -/
theorem spec_l9Best_ev (s : List (List Int)) (hs : scoresOk s = true) (m : Nat) : ∀ (p : List Int), p.length + m = s.length →
    ∃ r, Ev (fun k => spec_l9Best.f k s p) r ∧ MaxOf (fun x => Cand s treeOk x ∧ p <+: x) (sc s 0) r := by
  have hn := scoresOk_len hs
  induction m with
  | zero =>
    intro p hp
    have hev : Ev (fun k => spec_l9Best.f k s p) (scoreOf s p) := by
      refine Ev.step (fun k => spec_l9Best.f.eq_2 ..) (Ev.pos (by omega) (Ev.bind (spec_ScoreOf_ev s p (by omega)) (Ev.ret rfl)))
    refine ⟨_, hev, ?_⟩
    unfold scoreOf
    by_cases ht : treeOk p = true
    · rw [if_pos ⟨hs, ht, by omega⟩, scSum_zero]
      refine MaxOf.one (fun x => ⟨fun ⟨h1, h2⟩ => (h2.eq_of_length (by rw [h1.1]; omega)).symm, ?_⟩)
      rintro rfl
      exact ⟨⟨by omega, ht, ht⟩, List.prefix_refl _⟩
    · rw [if_neg (fun h => ht h.2.1)]
      refine MaxOf.none (fun x ⟨h1, h2⟩ => ht ?_)
      rw [h2.eq_of_length (by rw [h1.1]; omega)]
      exact h1.2.1
  | succ m ih =>
    intro p hp
    have hnn : ∀ x, Cand s treeOk x → 0 ≤ sc s 0 x := fun x hx => (cand_nonneg hs x hx).1
    have hloop : ∀ (d j : Nat) (b : Int), j + d = s.length + 1 → MaxOf (fun x => Cand s treeOk x ∧ p <+: x ∧ rd x (p.length : Int) < (j : Int)) (sc s 0) b →
        ∃ r, Ev (fun k => spec_l9Best.l0 k s p b (j : Int)) r ∧ MaxOf (fun x => Cand s treeOk x ∧ p <+: x) (sc s 0) r := by
      intro d
      induction d with
      | zero =>
        intro j b hj hb
        refine ⟨b, Ev.step (fun k => spec_l9Best.l0.eq_2 ..) (Ev.neg (by omega) (Ev.ret rfl)), hb.congr (fun x => ⟨fun h => ⟨h.1, h.2.1⟩, fun h => ⟨h.1, h.2, ?_⟩⟩)⟩
        have h1 := h.1.1
        have := treeOk_rd h.1.2.1 (j := p.length) (by omega)
        omega
      | succ d ihd =>
        intro j b hj hb
        have hb1 : -1 ≤ b := hb.ge (fun x hx => hnn x hx.1)
        by_cases e : j = p.length + 1
        · -- no word is its own head
          have hne : ∀ x, Cand s treeOk x → rd x (p.length : Int) ≠ (j : Int) := fun x hx => by
            have h1 := hx.1
            have := treeOk_ne hx.2.1 (j := p.length) (by omega)
            omega
          obtain ⟨r, h1, h2⟩ := ihd (j + 1) b (by omega) (hb.congr (fun x => ⟨fun h => ⟨h.1, h.2.1, by have := h.2.2; omega⟩, fun h => ⟨h.1, h.2.1, by have := hne x h.1; have := h.2.2; omega⟩⟩))
          refine ⟨r, Ev.step (fun k => spec_l9Best.l0.eq_2 ..) (Ev.pos (by omega) (Ev.pos (by rw [wrap_add1 (by omega)]; omega) ?_)), h2⟩
          rw [wrap_add1 (by omega)]
          exact h1
        · obtain ⟨q, h1, h2⟩ := ih (p ++ [(j : Int)]) (by simp; omega)
          have hq : -1 ≤ q := h2.ge (fun x hx => hnn x hx.1)
          have hpre : ∀ x, Cand s treeOk x → p <+: x → (rd x (p.length : Int) = (j : Int) ↔ p ++ [(j : Int)] <+: x) := by
            rintro x hx ⟨t, rfl⟩
            have hl := hx.1
            rw [List.length_append] at hl
            cases t with
            | nil => simp at hl; omega
            | cons c t =>
              have e1 : rd (p ++ c :: t) (p.length : Int) = c := by simp [rd]
              rw [e1]
              constructor
              · rintro rfl; exact ⟨t, by simp⟩
              · rintro ⟨u, hu⟩
                rw [List.append_assoc, List.append_cancel_left_eq] at hu
                simp at hu
                exact hu.1.symm
          have hm : MaxOf (fun x => Cand s treeOk x ∧ p <+: x ∧ rd x (p.length : Int) < ((j + 1 : Nat) : Int)) (sc s 0) (max b q) := by
            refine hb.union h2 hb1 hq (fun x => ?_)
            constructor
            · rintro ⟨a1, a2, a3⟩
              by_cases e3 : rd x (p.length : Int) = (j : Int)
              · exact .inr ⟨a1, (hpre x a1 a2).1 e3⟩
              · exact .inl ⟨a1, a2, by omega⟩
            · rintro (⟨a1, a2, a3⟩ | ⟨a1, a2⟩)
              · exact ⟨a1, a2, by omega⟩
              · have a3 : p <+: x := (List.prefix_append p [(j : Int)]).trans a2
                have := (hpre x a1 a3).2 a2
                exact ⟨a1, a3, by omega⟩
          obtain ⟨r, h3, h4⟩ := ihd (j + 1) (max b q) (by omega) hm
          refine ⟨r, Ev.step (fun k => spec_l9Best.l0.eq_2 ..) (Ev.pos (by omega) (Ev.neg (by rw [wrap_add1 (by omega)]; omega) (Ev.bind0 rfl (Ev.pos (by simp; omega) (Ev.bind0 rfl (Ev.pos (by simp; omega) ?_)))))), h4⟩
          refine Ev.bind (by simpa using h1) ?_
          rw [wrap_add1 (by omega), mx_max]
          exact h3
    obtain ⟨r, h1, h2⟩ := hloop (s.length + 1) 0 (-1) (by omega) (MaxOf.none (fun x hx => by
      have h1 := hx.1.1
      have := treeOk_rd hx.1.2.1 (j := p.length) (by omega)
      have h3 := hx.2.2
      omega))
    exact ⟨r, Ev.step (fun k => spec_l9Best.f.eq_2 ..) (Ev.neg (by omega) h1), h2⟩
theorem spec_BestScore_ev (s : List (List Int)) (hs : scoresOk s = true) : ∃ r, Ev (fun k => spec_BestScore.f k s) r ∧ IsBest s treeOk r := by
  have hn := scoresOk_len hs
  obtain ⟨r, h1, h2⟩ := spec_l9Best_ev s hs s.length [] (by simp)
  refine ⟨r, ?_, h2.congr (fun x => ⟨fun h => h.1, fun h => ⟨h, List.nil_prefix⟩⟩)⟩
  unfold spec_BestScore.f
  exact Ev.bind (spec_ScoresOk_ev s (by omega)) (Ev.pos hs (Ev.bind h1 (Ev.ret rfl)))
theorem spec_BestScore_bad (s : List (List Int)) (hl : s.length ≤ 1048576) (hs : ¬ scoresOk s = true) : Ev (fun k => spec_BestScore.f k s) (-1) := by
  unfold spec_BestScore.f
  exact Ev.bind (spec_ScoresOk_ev s hl) (Ev.neg hs (Ev.ret rfl))

/-- one number is what both tell -/
theorem BestScore_both (s : List (List Int)) (hl : s.length ≤ 1048576) : ∃ r, Ev (fun k => spec_BestScore.f k s) r ∧ Ev (fun k => impl_BestScore.f k s) r ∧ (scoresOk s = true → IsBest s treeOk r) ∧ (¬ scoresOk s = true → r = -1) := by
  by_cases hs : scoresOk s = true
  · obtain ⟨r, h1, h2⟩ := spec_BestScore_ev s hs
    refine ⟨r, h1, ?_, fun _ => h2, fun h => absurd hs h⟩
    unfold impl_BestScore.f
    obtain ⟨q, h3, h4⟩ := impl_best_TreeOk_ev s hs _
    exact Ev.bind (Ev.eq h3 (isBest_uniq hs h4 h2)) (Ev.ret rfl)
  · refine ⟨-1, spec_BestScore_bad s hl hs, ?_, fun h => absurd h hs, fun _ => rfl⟩
    unfold impl_BestScore.f
    exact Ev.bind (impl_best_TreeOk_bad s hl hs _) (Ev.ret rfl)

theorem FnExactBestScore : ∀ (l0 : List (List (Int))), l0.length ≤ maxLen → (∀ x ∈ l0, x.length ≤ maxLen ∧ ∀ x_, x_ ∈ x → ((Lit.int .i64 x_).wf = true)) → ∃ k, laws_FnExactBestScore.f k l0 = some true := by
  intro s hs hx
  refine Ev.rounds (g := fun k => laws_FnExactBestScore.f k s) ?_
  unfold laws_FnExactBestScore.f
  obtain ⟨r, h1, h2⟩ := szIntSS_ev s hs (fun x h => (hx x h).1)
  refine Ev.bind h1 (Ev.ite (fun h => Ev.ret rfl) (fun h => ?_))
  obtain ⟨h3, h4⟩ := h2 h
  obtain ⟨q, h5, h6, _⟩ := BestScore_both s h3
  refine Ev.bind (toIntSS_ev s h3 h4) (Ev.bind h5 (Ev.bind (toIntSS_ev s h3 h4) (Ev.bind h6 (Ev.pos rfl (Ev.bind (toIntSS_ev s h3 h4) (Ev.bind (eqIntSS_ev s s h3 h4) (Ev.pos (by simp) (Ev.ret rfl))))))))

end Go.Proofs.Ytpdnocpnibcicaa.Pure
