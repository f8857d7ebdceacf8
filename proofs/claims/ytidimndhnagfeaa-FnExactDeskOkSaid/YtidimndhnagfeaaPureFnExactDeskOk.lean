/- The plain statement of FnExactDeskOk: the printed functions answer true for all arguments within the printed bounds; no other conditions. -/
import Derived.Test.YtidimndhnagfeaaLHx4
import Derived.ChangeSlices
import Derived.SizedLaws
import Derived.Test.YtidimndhnagfeaaVSized
namespace Go.Proofs.Ytidimndhnagfeaa.Pure
open Go.RowKit Go.Proofs.Ytidimndhnagfeaa.LH Go.Proofs.YtidimndhnagfeaaV.PrintWords Go.Proofs.YtidimndhnagfeaaV.PrintLast
set_option linter.unusedVariables false
set_option linter.unusedSimpArgs false

theorem Ev.ret {α : Type} {r r' : α} (h : r = r') : Ev (fun _ => some r) r' := ⟨0, fun _ _ => by rw [h]⟩
theorem Ev.pos {α : Type} {c : Prop} [Decidable c] {g f : Nat → Option α} {r : α} (h : c) (k : Ev g r) : Ev (fun n => if c then g n else f n) r := by
  simpa only [if_pos h] using k
theorem Ev.neg {α : Type} {c : Prop} [Decidable c] {g f : Nat → Option α} {r : α} (h : ¬ c) (k : Ev f r) : Ev (fun n => if c then g n else f n) r := by
  simpa only [if_neg h] using k
theorem Ev.ite {α : Type} {c : Prop} [Decidable c] {g f : Nat → Option α} {r : α} (h : c → Ev g r) (k : ¬ c → Ev f r) : Ev (fun n => if c then g n else f n) r := by
  by_cases hc : c
  · exact Ev.pos hc (h hc)
  · exact Ev.neg hc (k hc)
theorem Ev.bind0 {α β : Type} {o : Option α} {f : Nat → α → Option β} {a : α} {r : β} (h : o = some a) (k : Ev (fun n => f n a) r) : Ev (fun n => o.bind (f n)) r := by
  subst h; simpa only [Option.bind_some] using k
theorem Ev.eq {α : Type} {g : Nat → Option α} {r r' : α} (h : Ev g r) (e : r = r') : Ev g r' := e ▸ h
theorem wrap_id {n : Int} (h0 : -9223372036854775808 ≤ n) (h1 : n < 9223372036854775808) : wrap64 n = n := by
  unfold wrap64; omega
theorem wrap_add1 {n : Nat} (h : n < 1099511627776) : wrap64 ((n : Int) + 1) = ((n + 1 : Nat) : Int) := by
  unfold wrap64; omega
theorem rd_nat (l : List Int) (j : Nat) : rd l (j : Int) = l.getD j 0 := by simp [rd]

open Go.ChangeShapes Go.WideShapes in
/-- the printed row names this lemma so: it is the words' own -/
theorem _root_.Go.Proofs.Ytidimndhnagfeaa.PrintWords.sized_ints {H : Type} {enc : TypeId × Value → H} {P : Program} {W : World} {base : Nat} {spare : Nat → Bool} {held : Bool} {t e : TypeId} {k : IntKind} {a : Option Addr} {len cap : Nat} {d : DataW H} {ps : List MemPlace} {ts : List TypeId} {ds : List (DataW H)} {j : Nat}
    (hsz : (DataW.weightsEach P ts ds).all (· ≤ reachBytes) = true) (ht : ts[j]? = some t) (hd : ds[j]? = some d) (hu : P.underlying t = some (.slice e)) (he : P.underlying e = some (.int k)) (hc : P.cellsOf e = 1) {B : Nat} (hB : P.bytesOf e = B)
    (h : DataW.Trod enc P W base spare held t (.slice a len cap) d ps) : len * B ≤ 140737488351232 :=
  Go.Proofs.YtidimndhnagfeaaV.PrintWords.sized_ints hsz ht hd hu he hc hB h

theorem toIntS_l0 (l : List Int) (hl : l.length ≤ 1099511627776) (d : Nat) : ∀ (j : Nat) (y : List Int), j + d = l.length → y.length = l.length → (∀ i, i < j → y[i]? = l[i]?) → Ev (fun k => laws_toIntS.l0 k l y (j : Int)) l := by
  induction d with
  | zero =>
    intro j y hj hy h
    refine Ev.step (fun k => laws_toIntS.l0.eq_2 ..) ?_
    refine Ev.neg (by omega) (Ev.ret ?_)
    apply List.ext_getElem?
    intro i
    by_cases hi : i < j
    · exact h i hi
    · rw [List.getElem?_eq_none (by omega), List.getElem?_eq_none (by omega)]
  | succ d ih =>
    intro j y hj hy h
    refine Ev.step (fun k => laws_toIntS.l0.eq_2 ..) ?_
    refine Ev.pos (by omega) (Ev.pos (by omega) (Ev.pos (by omega) ?_))
    rw [wrap_add1 (by omega)]
    refine ih (j + 1) _ (by omega) (by simpa using hy) ?_
    intro i hi
    rw [rd_nat, Int.toNat_natCast]
    by_cases e : i = j
    · subst e
      simp [hy, show i < l.length by omega]
    · rw [List.getElem?_set_ne (by omega)]
      exact h i (by omega)

theorem toIntS_ev (l : List Int) (hl : l.length ≤ 1048576) : Ev (fun k => laws_toIntS.f k l) l := by
  unfold laws_toIntS.f
  refine Ev.pos (by omega) (Ev.pos (by omega) ?_)
  exact toIntS_l0 l (by omega) l.length 0 _ (by omega) (by simp) (fun i h => by omega)

theorem eqIntS_l0 (l m : List Int) (hl : l.length ≤ 1099511627776) (hm : l.length = m.length) (d : Nat) : ∀ (j : Nat), j + d = l.length → (∀ i, i < j → l[i]? = m[i]?) → Ev (fun k => laws_eqIntS.l0 k l m (j : Int)) (decide (l = m)) := by
  induction d with
  | zero =>
    intro j hj h
    refine Ev.step (fun k => laws_eqIntS.l0.eq_2 ..) ?_
    refine Ev.neg (by omega) (Ev.ret ?_)
    symm
    rw [decide_eq_true_iff]
    apply List.ext_getElem?
    intro i
    by_cases hi : i < j
    · exact h i hi
    · rw [List.getElem?_eq_none (by omega), List.getElem?_eq_none (by omega)]
  | succ d ih =>
    intro j hj h
    refine Ev.step (fun k => laws_eqIntS.l0.eq_2 ..) ?_
    refine Ev.pos (by omega) (Ev.pos (by omega) (Ev.pos (by omega) (Ev.ite ?_ ?_)))
    · intro e
      rw [wrap_add1 (by omega)]
      refine ih (j + 1) (by omega) ?_
      intro i hi
      by_cases e' : i = j
      · subst e'
        rw [rd_nat, rd_nat] at e
        rw [List.getElem?_eq_getElem (by omega), List.getElem?_eq_getElem (by omega)]
        simpa [List.getD_eq_getElem?_getD, show i < l.length by omega, show i < m.length by omega] using e
      · exact h i (by omega)
    · intro e
      refine Ev.ret ?_
      symm
      rw [decide_eq_false_iff_not]
      intro e'; subst e'; exact e rfl

theorem eqIntS_ev (l m : List Int) (hl : l.length ≤ 1048576) : Ev (fun k => laws_eqIntS.f k l m) (decide (l = m)) := by
  unfold laws_eqIntS.f
  refine Ev.ite (fun h => ?_) (fun h => ?_)
  · exact eqIntS_l0 l m (by omega) (by omega) l.length 0 (by omega) (fun i h => by omega)
  · refine Ev.ret ?_
    symm
    rw [decide_eq_false_iff_not]
    intro e; subst e; exact h rfl

/-! a row of rows, read -/
theorem rd1_nat (xs : List (List Int)) (j : Nat) : rd_L1 xs (j : Int) = xs.getD j [] := by simp [rd_L1]

/-! the size of rows of rows -/
theorem szIntSS_l0 (l : List (List Int)) (hl : l.length ≤ 1048576) (hx : ∀ x ∈ l, x.length ≤ maxLen) (d : Nat) : ∀ (j : Nat) (a : Int), j + d = l.length → 0 ≤ a → a ≤ 1048576 → (∀ i, i < j → (rd_L1 l (i : Int)).length ≤ 1048576) →
    ∃ r, Ev (fun k => laws_szIntSS.l0 k l a (j : Int)) r ∧ (0 ≤ r → r ≤ 1048576 ∧ ∀ i, i < l.length → (rd_L1 l (i : Int)).length ≤ 1048576) := by
  induction d with
  | zero =>
    intro j a hj h0 h1 h
    refine ⟨a, Ev.step (fun k => laws_szIntSS.l0.eq_2 ..) (Ev.neg (by omega) (Ev.ret rfl)), ?_⟩
    exact fun _ => ⟨h1, fun i hi => h i (by omega)⟩
  | succ d ih =>
    intro j a hj h0 h1 h
    have hlen : (rd_L1 l (j : Int)).length ≤ maxLen := by
      rw [rd1_nat, List.getD_eq_getElem?_getD, List.getElem?_eq_getElem (by omega)]
      exact hx _ (List.getElem_mem ..)
    simp only [maxLen] at hlen
    have hw : wrap64 (a - ((rd_L1 l (j : Int)).length : Int)) = a - ((rd_L1 l (j : Int)).length : Int) := wrap_id (by omega) (by omega)
    by_cases hc : a - ((rd_L1 l (j : Int)).length : Int) < 0
    · refine ⟨-1, Ev.step (fun k => laws_szIntSS.l0.eq_2 ..) (Ev.pos (by omega) (Ev.pos (by omega) (Ev.bind0 (a := -1) ?_ (Ev.pos (by omega) (Ev.ret rfl))))), fun h => absurd h (by omega)⟩
      unfold laws_szIntS.f
      rw [hw, if_pos hc]
    · obtain ⟨r, h2, h3⟩ := ih (j + 1) (a - ((rd_L1 l (j : Int)).length : Int)) (by omega) (by omega) (by omega) (by
        intro i hi
        by_cases e : i = j
        · subst e; omega
        · exact h i (by omega))
      refine ⟨r, Ev.step (fun k => laws_szIntSS.l0.eq_2 ..) (Ev.pos (by omega) (Ev.pos (by omega) (Ev.bind0 (a := a - ((rd_L1 l (j : Int)).length : Int)) ?_ (Ev.neg (by omega) ?_)))), h3⟩
      · unfold laws_szIntS.f
        rw [hw, if_neg hc]
      · rw [wrap_add1 (by omega)]
        exact h2
theorem szIntSS_any (l : List (List Int)) (a : Int) (h0 : 0 ≤ a) (ha : a ≤ 1048576) (hl : l.length ≤ maxLen) (hx : ∀ x ∈ l, x.length ≤ maxLen) :
    ∃ r, Ev (fun k => laws_szIntSS.f k l a) r ∧ (¬ r < 0 → r ≤ 1048576 ∧ l.length ≤ 1048576 ∧ ∀ i, i < l.length → (rd_L1 l (i : Int)).length ≤ 1048576) := by
  simp only [maxLen] at hl
  have hw : wrap64 (a - (l.length : Int)) = a - (l.length : Int) := wrap_id (by omega) (by omega)
  unfold laws_szIntSS.f
  by_cases hc : a - (l.length : Int) < 0
  · refine ⟨-1, ?_, fun h => absurd h (by omega)⟩
    rw [hw]
    exact Ev.pos hc (Ev.ret rfl)
  · obtain ⟨r, h1, h2⟩ := szIntSS_l0 l (by omega) hx l.length 0 (a - (l.length : Int)) (by omega) (by omega) (by omega) (fun i h => by omega)
    refine ⟨r, ?_, fun h => ⟨(h2 (by omega)).1, by omega, (h2 (by omega)).2⟩⟩
    rw [hw]
    exact Ev.neg hc h1
theorem szIntSS_ev (l : List (List Int)) (hl : l.length ≤ maxLen) (hx : ∀ x ∈ l, x.length ≤ maxLen) :
    ∃ r, Ev (fun k => laws_szIntSS.f k l 1048576) r ∧ (¬ r < 0 → l.length ≤ 1048576 ∧ ∀ i, i < l.length → (rd_L1 l (i : Int)).length ≤ 1048576) := by
  obtain ⟨r, h1, h2⟩ := szIntSS_any l 1048576 (by omega) (by omega) hl hx
  exact ⟨r, h1, fun h => (h2 h).2⟩

theorem szIntS_any (l : List Int) (a : Int) (h0 : 0 ≤ a) (ha : a ≤ 1048576) (hl : l.length ≤ maxLen) :
    ∃ r, laws_szIntS.f l a = some r ∧ (¬ r < 0 → r ≤ 1048576 ∧ l.length ≤ 1048576) := by
  simp only [maxLen] at hl
  have hw : wrap64 (a - (l.length : Int)) = a - (l.length : Int) := wrap_id (by omega) (by omega)
  unfold laws_szIntS.f
  rw [hw]
  by_cases hc : a - (l.length : Int) < 0
  · exact ⟨-1, if_pos hc, fun h => absurd h (by omega)⟩
  · exact ⟨_, if_neg hc, fun _ => ⟨by omega, by omega⟩⟩
theorem szDesk_ev (l : List Int) (r : List (List Int)) (a : Int) (h0 : 0 ≤ a) (ha : a ≤ 1048576) (hl : l.length ≤ maxLen) (hr : r.length ≤ maxLen) (hx : ∀ x ∈ r, x.length ≤ maxLen) :
    ∃ t, Ev (fun k => laws_szDesk.f k l r a) t ∧ (¬ t < 0 → t ≤ 1048576 ∧ l.length ≤ 1048576 ∧ r.length ≤ 1048576 ∧ ∀ x ∈ r, x.length ≤ 1048576) := by
  obtain ⟨t, h1, h2⟩ := szIntS_any l a h0 ha hl
  unfold laws_szDesk.f
  by_cases hc : t < 0
  · exact ⟨-1, Ev.bind0 h1 (Ev.pos hc (Ev.ret rfl)), fun h => absurd h (by omega)⟩
  · obtain ⟨h3, h4⟩ := h2 hc
    obtain ⟨u, h5, h6⟩ := szIntSS_any r t (by omega) h3 hr hx
    by_cases hu : u < 0
    · exact ⟨-1, Ev.bind0 h1 (Ev.neg hc (Ev.bind h5 (Ev.pos hu (Ev.ret rfl)))), fun h => absurd h (by omega)⟩
    · obtain ⟨h7, h8, h9⟩ := h6 hu
      refine ⟨u, Ev.bind0 h1 (Ev.neg hc (Ev.bind h5 (Ev.neg hu (Ev.ret rfl)))), fun _ => ⟨h7, h4, h8, fun x hx => ?_⟩⟩
      obtain ⟨i, hi, rfl⟩ := List.getElem_of_mem hx
      have := h9 i hi
      rwa [rd1_nat, List.getD_eq_getElem?_getD, List.getElem?_eq_getElem hi] at this

/-! rows of rows, made anew -/
theorem toIntSS_l0 (l : List (List Int)) (hl : l.length ≤ 1048576) (hx : ∀ i, i < l.length → (rd_L1 l (i : Int)).length ≤ 1048576) (d : Nat) : ∀ (j : Nat) (y : List (List Int)), j + d = l.length → y.length = l.length → (∀ i, i < j → y[i]? = l[i]?) → Ev (fun k => laws_toIntSS.l0 k l y (j : Int)) l := by
  induction d with
  | zero =>
    intro j y hj hy h
    refine Ev.step (fun k => laws_toIntSS.l0.eq_2 ..) ?_
    refine Ev.neg (by omega) (Ev.ret ?_)
    apply List.ext_getElem?
    intro i
    by_cases hi : i < j
    · exact h i hi
    · rw [List.getElem?_eq_none (by omega), List.getElem?_eq_none (by omega)]
  | succ d ih =>
    intro j y hj hy h
    refine Ev.step (fun k => laws_toIntSS.l0.eq_2 ..) ?_
    refine Ev.pos (by omega) (Ev.pos (by omega) (Ev.bind (toIntS_ev _ (hx j (by omega))) (Ev.pos (by omega) ?_)))
    rw [wrap_add1 (by omega)]
    refine ih (j + 1) _ (by omega) (by simpa using hy) ?_
    intro i hi
    rw [rd1_nat, Int.toNat_natCast]
    by_cases e : i = j
    · subst e
      simp [hy, show i < l.length by omega]
    · rw [List.getElem?_set_ne (by omega)]
      exact h i (by omega)
theorem toIntSS_ev (l : List (List Int)) (hl : l.length ≤ 1048576) (hx : ∀ i, i < l.length → (rd_L1 l (i : Int)).length ≤ 1048576) : Ev (fun k => laws_toIntSS.f k l) l := by
  unfold laws_toIntSS.f
  refine Ev.pos (by omega) (Ev.pos (by omega) ?_)
  exact toIntSS_l0 l hl hx l.length 0 _ (by omega) (by simp) (fun i h => by omega)

theorem toDesk_ev (l : List Int) (r : List (List Int)) (hl : l.length ≤ 1048576) (hr : r.length ≤ 1048576) (hx : ∀ x ∈ r, x.length ≤ 1048576) : Ev (fun k => laws_toDesk.f k l r) (l, r) := by
  unfold laws_toDesk.f
  have h1 : ∀ i, i < r.length → (rd_L1 r (i : Int)).length ≤ 1048576 := fun i hi => by rw [rd1_nat, List.getD_eq_getElem?_getD, List.getElem?_eq_getElem hi]; exact hx _ (List.getElem_mem ..)
  exact Ev.bind (toIntS_ev l hl) (Ev.bind (toIntSS_ev r hr h1) (Ev.ret rfl))

/-- whether one comes from a word to 0 within so many steps, over numbers of words or 0 alone -/
def walkOk (l : List Int) : Nat → Int → Bool
  | 0, a => decide (a ≤ 0)
  | m + 1, a => if a ≤ 0 then true else decide (0 ≤ rd l (a - 1) ∧ rd l (a - 1) ≤ l.length) && walkOk l m (rd l (a - 1))
def okAt (l : List Int) (i : Nat) : Bool := decide (0 ≤ rd l i ∧ rd l i ≤ l.length) && walkOk l l.length ((i : Int) + 1)
def zerosFrom (l : List Int) (j : Nat) : Nat := (l.drop j).count 0
def treeOk (l : List Int) : Bool := decide (1 ≤ l.length ∧ l.length ≤ 8) && (List.range l.length).all (okAt l) && decide (l.count 0 = 1)

theorem walkOk_self (l : List Int) (a : Int) (ha : 0 < a) (h : rd l (a - 1) = a) : ∀ m, walkOk l m a = false
  | 0 => by simp [walkOk]; omega
  | m + 1 => by
    unfold walkOk
    rw [if_neg (by omega), h, walkOk_self l a ha h m, Bool.and_false]

theorem zerosFrom_succ (l : List Int) (j : Nat) (h : j < l.length) : zerosFrom l j = (if rd l j = 0 then 1 else 0) + zerosFrom l (j + 1) := by
  unfold zerosFrom
  rw [List.drop_eq_getElem_cons h, List.count_cons]
  have e : rd l j = l[j] := by simp [rd_nat, h]
  rw [e]
  by_cases e : l[j] = 0 <;> simp [e, Nat.add_comm]
theorem zerosFrom_le (l : List Int) (j : Nat) : zerosFrom l j ≤ l.length := by
  unfold zerosFrom
  exact Nat.le_trans List.count_le_length (by simp)

theorem all_from (p : Nat → Bool) (n j : Nat) (h : j < n) : ((List.range' j (n - j)).all p) = (p j && (List.range' (j + 1) (n - (j + 1))).all p) := by
  obtain ⟨d, hd⟩ : ∃ d, n - j = d + 1 := ⟨n - j - 1, by omega⟩
  rw [hd, List.range'_succ, List.all_cons, show n - (j + 1) = d by omega]

def restOk (l : List Int) (r : Nat) (j : Nat) : Bool := (List.range' j (l.length - j)).all (okAt l) && decide (r + zerosFrom l j = 1)
theorem restOk_end (l : List Int) (r : Nat) (j : Nat) (h : j = l.length) : restOk l r j = ((r : Int) == 1) := by
  subst h
  unfold restOk zerosFrom
  simp
  rw [Bool.eq_iff_iff]; simp; omega
theorem restOk_bad (l : List Int) (r : Nat) (j : Nat) (h : j < l.length) (hb : okAt l j = false) : restOk l r j = false := by
  unfold restOk
  rw [all_from _ _ _ h, hb]; rfl
theorem restOk_good (l : List Int) (r : Nat) (j : Nat) (h : j < l.length) (hb : okAt l j = true) : restOk l r j = restOk l (r + if rd l j = 0 then 1 else 0) (j + 1) := by
  unfold restOk
  rw [all_from _ _ _ h, hb, Bool.true_and, zerosFrom_succ l j h, Nat.add_assoc]
theorem restOk_zero (l : List Int) (h : 1 ≤ l.length ∧ l.length ≤ 8) : restOk l 0 0 = treeOk l := by
  unfold restOk treeOk zerosFrom
  rw [decide_eq_true h]
  simp [List.range_eq_range']

theorem l1In_eq (a b c : Int) : spec_l1In.f a b c = some (decide (b ≤ a ∧ a ≤ c)) := by
  unfold spec_l1In.f
  split
  · rename_i h; congr 1; rw [decide_eq_decide]; omega
  · rename_i h; congr 1; symm; rw [decide_eq_false_iff_not]; omega

/-- the inner walk of the reference -/
theorem spec_walk (l : List Int) (r j : Nat) (hl : l.length ≤ 8) (hj : j < l.length) (_ : r ≤ 8)
    (next : Ev (fun k => spec_TreeOk.l0 k l (l.length : Int) (r : Int) ((j + 1 : Nat) : Int)) (restOk l r (j + 1)))
    (d : Nat) : ∀ (s : Nat) (a : Int), s + d = l.length → 0 ≤ a → a ≤ l.length →
    Ev (fun k => spec_TreeOk.l1 k l (l.length : Int) (r : Int) (j : Int) a (s : Int)) (walkOk l d a && restOk l r (j + 1)) := by
  induction d with
  | zero =>
    intro s a hs h0 h1
    refine Ev.step (fun k => spec_TreeOk.l1.eq_2 ..) ?_
    refine Ev.ite (fun ha => ?_) (fun ha => ?_)
    · rw [decide_eq_false (by omega)]
      refine Ev.step (fun k => spec_TreeOk.j4.eq_2 ..) ?_
      refine Ev.neg (by simp) (Ev.pos ha (Ev.ret ?_))
      simp [walkOk, show ¬ a ≤ 0 by omega]
    · refine Ev.step (fun k => spec_TreeOk.j4.eq_2 ..) ?_
      refine Ev.neg (by simp) (Ev.neg ha ?_)
      rw [wrap_add1 (by omega)]
      exact Ev.eq next (by simp [walkOk, show a ≤ 0 by omega])
  | succ d ih =>
    intro s a hs h0 h1
    refine Ev.step (fun k => spec_TreeOk.l1.eq_2 ..) ?_
    refine Ev.ite (fun ha => ?_) (fun ha => ?_)
    · rw [decide_eq_true (by omega)]
      refine Ev.step (fun k => spec_TreeOk.j4.eq_2 ..) ?_
      refine Ev.pos rfl ?_
      rw [wrap_id (by omega) (by omega)]
      refine Ev.pos (by omega) (Ev.pos (by omega) (Ev.bind0 (l1In_eq ..) ?_))
      refine Ev.ite (fun hc => ?_) (fun hc => ?_)
      · have hc' := of_decide_eq_true hc
        rw [wrap_add1 (by omega)]
        refine Ev.eq (ih (s + 1) (rd l (a - 1)) (by omega) hc'.1 hc'.2) ?_
        simp [walkOk, show ¬ a ≤ 0 by omega, hc'.1, hc'.2]
      · refine Ev.ret ?_
        have hc' : ¬ (0 ≤ rd l (a - 1) ∧ rd l (a - 1) ≤ (l.length : Int)) := by simpa using hc
        simp [walkOk, show ¬ a ≤ 0 by omega, decide_eq_false hc']
    · refine Ev.step (fun k => spec_TreeOk.j4.eq_2 ..) ?_
      refine Ev.neg (by simp) (Ev.neg ha ?_)
      rw [wrap_add1 (by omega)]
      exact Ev.eq next (by simp [walkOk, show a ≤ 0 by omega])

theorem spec_TreeOk_l0 (l : List Int) (hl : l.length ≤ 8) (d : Nat) : ∀ (r j : Nat), j + d = l.length → r ≤ j →
    Ev (fun k => spec_TreeOk.l0 k l (l.length : Int) (r : Int) (j : Int)) (restOk l r j) := by
  induction d with
  | zero =>
    intro r j hj hr
    refine Ev.step (fun k => spec_TreeOk.l0.eq_2 ..) ?_
    exact Ev.neg (by omega) (Ev.ret (restOk_end l r j (by omega)).symm)
  | succ d ih =>
    intro r j hj hr
    refine Ev.step (fun k => spec_TreeOk.l0.eq_2 ..) ?_
    refine Ev.pos (by omega) (Ev.pos (by omega) (Ev.pos (by omega) (Ev.bind0 (l1In_eq ..) ?_)))
    refine Ev.ite (fun hc => ?_) (fun hc => ?_)
    · have hc' := of_decide_eq_true hc
      refine Ev.step (fun k => spec_TreeOk.j1.eq_2 ..) ?_
      rw [wrap_add1 (by omega)]
      refine Ev.ite (fun he => ?_) (fun he => ?_)
      · refine Ev.ret (restOk_bad l r j (by omega) ?_).symm
        have he' : rd l (j : Int) = ((j + 1 : Nat) : Int) := by simpa using he
        unfold okAt
        rw [walkOk_self l ((j : Int) + 1) (by omega) (by rw [show (j : Int) + 1 - 1 = (j : Int) by omega, he']; omega), Bool.and_false]
      · have hfin : ∀ (r' : Nat), r' = r + (if rd l j = 0 then 1 else 0) → Ev (fun k => spec_TreeOk.l1 k l (l.length : Int) (r' : Int) (j : Int) ((j + 1 : Nat) : Int) 0) (restOk l r j) := by
          intro r' hr'
          have hr8 : r' ≤ j + 1 := by subst hr'; split <;> omega
          refine Ev.eq (spec_walk l r' j hl (by omega) (by omega) (ih r' (j + 1) (by omega) hr8) l.length 0 ((j + 1 : Nat) : Int) (by omega) (by omega) (by omega)) ?_
          by_cases hw : walkOk l l.length ((j : Int) + 1) = true
          · rw [restOk_good l r j (by omega) (by unfold okAt; rw [hw, decide_eq_true hc']; rfl), ← hr', show ((j + 1 : Nat) : Int) = (j : Int) + 1 by omega, hw]; rfl
          · have hw' : walkOk l l.length ((j : Int) + 1) = false := by simpa using hw
            rw [restOk_bad l r j (by omega) (by unfold okAt; rw [hw']; simp), show ((j + 1 : Nat) : Int) = (j : Int) + 1 by omega, hw']; rfl
        refine Ev.pos (by omega) (Ev.pos (by omega) (Ev.ite (fun hz => ?_) (fun hz => ?_)))
        · rw [wrap_add1 (by omega)]
          refine Ev.step (fun k => spec_TreeOk.j2.eq_2 ..) ?_
          rw [wrap_add1 (by omega)]
          exact hfin (r + 1) (by rw [if_pos hz])
        · refine Ev.step (fun k => spec_TreeOk.j2.eq_2 ..) ?_
          rw [wrap_add1 (by omega)]
          exact hfin r (by rw [if_neg hz]; rfl)
    · refine Ev.step (fun k => spec_TreeOk.j1.eq_2 ..) ?_
      refine Ev.pos rfl (Ev.ret (restOk_bad l r j (by omega) ?_).symm)
      have hc' : ¬ (0 ≤ rd l (j : Int) ∧ rd l (j : Int) ≤ (l.length : Int)) := by simpa using hc
      unfold okAt
      rw [decide_eq_false hc']; rfl

theorem spec_TreeOk_ev (l : List Int) : Ev (fun k => spec_TreeOk.f k l) (treeOk l) := by
  unfold spec_TreeOk.f
  refine Ev.bind0 (l1In_eq ..) ?_
  refine Ev.ite (fun hc => ?_) (fun hc => ?_)
  · have hc' := of_decide_eq_true hc
    exact Ev.eq (spec_TreeOk_l0 l (by omega) l.length 0 0 (by omega) (by omega)) (restOk_zero l (by omega))
  · refine Ev.ret ?_
    have hc' : ¬ (1 ≤ (l.length : Int) ∧ (l.length : Int) ≤ 8) := by simpa using hc
    unfold treeOk
    rw [decide_eq_false (by omega)]; rfl

def deskOk (l : List Int) (r : List (List Int)) : Bool := treeOk l && decide (r.length ≤ 8) && r.all treeOk

theorem drop_all {α : Type} (p : α → Bool) (l : List α) (z : α) (j : Nat) (h : j < l.length) : (l.drop j).all p = (p (l.getD j z) && (l.drop (j + 1)).all p) := by
  rw [List.drop_eq_getElem_cons h, List.all_cons, List.getD_eq_getElem?_getD, List.getElem?_eq_getElem h]; rfl

theorem specDesk_l0 (l : List Int) (r : List (List Int)) (hr : r.length ≤ 1048576) (d : Nat) : ∀ (j : Nat), j + d = r.length → Ev (fun k => spec_DeskOk.l0 k (j : Int) l r) (treeOk l && decide (r.length ≤ 8) && (r.drop j).all treeOk) := by
  induction d with
  | zero =>
    intro j hj
    refine Ev.step (fun k => spec_DeskOk.l0.eq_2 ..) (Ev.neg (by omega) (Ev.bind (spec_TreeOk_ev l) (Ev.ite (fun h => Ev.ret ?_) (fun h => Ev.ret ?_))))
    · rw [List.drop_of_length_le (by omega), h]
      simp
      omega
    · rw [Bool.eq_false_iff.mpr h]; simp
  | succ d ih =>
    intro j hj
    refine Ev.step (fun k => spec_DeskOk.l0.eq_2 ..) (Ev.pos (by omega) (Ev.pos (by omega) (Ev.bind (spec_TreeOk_ev _) (Ev.ite (fun h => ?_) (fun h => Ev.ret ?_)))))
    · rw [wrap_add1 (by omega), drop_all _ _ [] j (by omega), ← rd1_nat, h, Bool.true_and]
      exact ih (j + 1) (by omega)
    · rw [drop_all _ _ [] j (by omega), ← rd1_nat, Bool.eq_false_iff.mpr h]; simp
theorem spec_DeskOk_ev (l : List Int) (r : List (List Int)) (hr : r.length ≤ 1048576) : Ev (fun k => spec_DeskOk.f k l r) (deskOk l r) := by
  have h := specDesk_l0 l r hr r.length 0 (by omega)
  rw [List.drop_zero] at h
  exact h

def inRange (l : List Int) (i : Nat) : Bool := decide (0 ≤ rd l i ∧ rd l i ≤ l.length)
theorem mem_rd {l : List Int} {a : Int} (h0 : 0 ≤ a) (h1 : a < l.length) (h : (List.range l.length).all (inRange l) = true) : 0 ≤ rd l a ∧ rd l a ≤ l.length := by
  rw [List.all_eq_true] at h
  have := h a.toNat (by simp; omega)
  unfold inRange at this
  rw [show ((a.toNat : Nat) : Int) = a by omega] at this
  exact of_decide_eq_true this
/-- how many steps lead to 0, as the program counts them -/
def stepsOf (l : List Int) : Nat → Int → Nat → Int
  | 0, _, _ => -1
  | m + 1, w, i => if rd l (w - 1) = 0 then i else stepsOf l m (rd l (w - 1)) (i + 1)
theorem stepsOf_neg (l : List Int) (h : (List.range l.length).all (inRange l) = true) : ∀ (m : Nat) (w : Int) (i : Nat), 0 < w → w ≤ l.length → (decide (stepsOf l m w i < 0) = !walkOk l m w)
  | 0, w, i, h0, h1 => by simp [stepsOf, walkOk]; omega
  | m + 1, w, i, h0, h1 => by
    have hr := mem_rd (a := w - 1) (by omega) (by omega) h
    unfold stepsOf walkOk
    rw [if_neg (show ¬ w ≤ 0 by omega), decide_eq_true hr, Bool.true_and]
    by_cases e : rd l (w - 1) = 0
    · rw [if_pos e, e, decide_eq_false (by omega)]
      cases m <;> simp [walkOk]
    · rw [if_neg e]
      exact stepsOf_neg l h m _ _ (by omega) (by omega)

theorem impl_steps_l0 (l : List Int) (hl : l.length ≤ 8) (h : (List.range l.length).all (inRange l) = true) (d : Nat) : ∀ (w : Int) (j : Nat), j + d = l.length → 0 < w → w ≤ l.length →
    Ev (fun k => impl_steps.l0 k l w (l.length : Int) (j : Int)) (stepsOf l d w j) := by
  induction d with
  | zero =>
    intro w j hj h0 h1
    refine Ev.step (fun k => impl_steps.l0.eq_2 ..) ?_
    exact Ev.neg (by omega) (Ev.ret rfl)
  | succ d ih =>
    intro w j hj h0 h1
    have hr := mem_rd (a := w - 1) (by omega) (by omega) h
    refine Ev.step (fun k => impl_steps.l0.eq_2 ..) ?_
    rw [wrap_id (n := w - 1) (by omega) (by omega), wrap_add1 (by omega)]
    refine Ev.pos (by omega) (Ev.pos (by omega) (Ev.pos (by omega) (Ev.ite (fun e => ?_) (fun e => ?_))))
    · exact Ev.ret (by unfold stepsOf; rw [if_pos e])
    · exact Ev.eq (ih (rd l (w - 1)) (j + 1) (by omega) (by omega) (by omega)) (by rw [stepsOf, if_neg e])

theorem impl_steps_ev (l : List Int) (hl : l.length ≤ 8) (h : (List.range l.length).all (inRange l) = true) (w : Int) (h0 : 0 < w) (h1 : w ≤ l.length) :
    Ev (fun k => impl_steps.f k l w) (stepsOf l l.length w 0) := by
  unfold impl_steps.f
  exact impl_steps_l0 l hl h l.length w 0 (by omega) h0 h1

theorem impl_TreeOk_l1 (l : List Int) (hl : l.length ≤ 8) (h : (List.range l.length).all (inRange l) = true) (r : Nat) (d : Nat) : ∀ (j : Nat), j + d = l.length →
    Ev (fun k => impl_TreeOk.l1 k l (r : Int) (l.length : Int) (j : Int)) ((List.range' j (l.length - j)).all (fun i => walkOk l l.length ((i : Int) + 1)) && ((r : Int) == 1)) := by
  induction d with
  | zero =>
    intro j hj
    refine Ev.step (fun k => impl_TreeOk.l1.eq_2 ..) ?_
    exact Ev.neg (by omega) (Ev.ret (by rw [show l.length - j = 0 by omega]; rfl))
  | succ d ih =>
    intro j hj
    refine Ev.step (fun k => impl_TreeOk.l1.eq_2 ..) ?_
    rw [wrap_add1 (by omega)]
    refine Ev.pos (by omega) (Ev.bind (impl_steps_ev l hl h _ (by omega) (by omega)) ?_)
    have hs := stepsOf_neg l h l.length ((j + 1 : Nat) : Int) 0 (by omega) (by omega)
    refine Ev.ite (fun e => ?_) (fun e => ?_)
    · rw [decide_eq_true e] at hs
      refine Ev.ret ?_
      rw [all_from _ _ _ (by omega), show walkOk l l.length ((j : Int) + 1) = false by simpa using hs.symm]; rfl
    · rw [decide_eq_false e] at hs
      refine Ev.eq (ih (j + 1) (by omega)) ?_
      rw [all_from _ l.length j (by omega), show walkOk l l.length ((j : Int) + 1) = true by simpa using hs.symm, Bool.true_and]

theorem impl_TreeOk_l0 (l : List Int) (h1 : 1 ≤ l.length) (hl : l.length ≤ 8) (d : Nat) : ∀ (r j : Nat), j + d = l.length → r ≤ j → (∀ i, i < j → inRange l i = true) → r + zerosFrom l j = l.count 0 →
    Ev (fun k => impl_TreeOk.l0 k l (r : Int) l (l.length : Int) (j : Int)) (treeOk l) := by
  induction d with
  | zero =>
    intro r j hj hr hin hz
    have hall : (List.range l.length).all (inRange l) = true := by
      rw [List.all_eq_true]; intro i hi; exact hin i (by have := List.mem_range.mp hi; omega)
    refine Ev.step (fun k => impl_TreeOk.l0.eq_2 ..) ?_
    refine Ev.neg (by omega) (Ev.eq (impl_TreeOk_l1 l hl hall r l.length 0 (by omega)) ?_)
    have hz0 : zerosFrom l j = 0 := by unfold zerosFrom; rw [List.drop_eq_nil_of_le (by omega)]; rfl
    have hrc : r = l.count 0 := by omega
    unfold treeOk
    rw [decide_eq_true (show 1 ≤ l.length ∧ l.length ≤ 8 from ⟨h1, hl⟩), Bool.true_and, Nat.sub_zero, ← List.range_eq_range', hrc]
    congr 1
    · rw [Bool.eq_iff_iff, List.all_eq_true, List.all_eq_true]
      rw [List.all_eq_true] at hall
      constructor
      · intro hw i hi
        have := hall i hi
        unfold inRange at this
        unfold okAt; rw [this, hw i hi]; rfl
      · intro hw i hi
        have := hw i hi
        unfold okAt at this
        exact (Bool.and_eq_true_iff.mp this).2
    · rw [Bool.eq_iff_iff]; simp; omega
  | succ d ih =>
    intro r j hj hr hin hz
    refine Ev.step (fun k => impl_TreeOk.l0.eq_2 ..) ?_
    have hbad : ¬ (0 ≤ rd l (j : Int) ∧ rd l (j : Int) ≤ (l.length : Int)) → treeOk l = false := by
      intro hb
      unfold treeOk
      have : (List.range l.length).all (okAt l) = false := by
        rw [List.all_eq_false]
        exact ⟨j, by simp; omega, by unfold okAt; rw [decide_eq_false hb]; simp⟩
      rw [this]; simp
    refine Ev.pos (by omega) (Ev.pos (by omega) (Ev.pos (by omega) (Ev.ite (fun e => ?_) (fun e => ?_))))
    · refine Ev.step (fun k => impl_TreeOk.j2.eq_2 ..) (Ev.pos rfl (Ev.ret ?_))
      exact (hbad (by omega)).symm
    · refine Ev.step (fun k => impl_TreeOk.j2.eq_2 ..) (Ev.ite (fun e2 => ?_) (fun e2 => ?_))
      · have e2' := of_decide_eq_true e2
        exact Ev.ret (hbad (by omega)).symm
      · have e2' : ¬ rd l (j : Int) > (l.length : Int) := by simpa using e2
        have hin' : ∀ i, i < j + 1 → inRange l i = true := by
          intro i hi
          by_cases e' : i = j
          · subst e'; unfold inRange; exact decide_eq_true (by omega)
          · exact hin i (by omega)
        have hzs := zerosFrom_succ l j (by omega)
        rw [wrap_add1 (n := j) (by omega)]
        refine Ev.ite (fun e3 => ?_) (fun e3 => ?_)
        · rw [wrap_add1 (by omega)]
          rw [if_pos e3] at hzs
          exact ih (r + 1) (j + 1) (by omega) (by omega) hin' (by omega)
        · rw [if_neg e3] at hzs
          exact ih r (j + 1) (by omega) (by omega) hin' (by omega)

theorem impl_TreeOk_ev (l : List Int) : Ev (fun k => impl_TreeOk.f k l) (treeOk l) := by
  unfold impl_TreeOk.f
  have hbad : ¬ (1 ≤ l.length ∧ l.length ≤ 8) → treeOk l = false := by
    intro hb; unfold treeOk; rw [decide_eq_false hb]; rfl
  refine Ev.ite (fun e => ?_) (fun e => ?_)
  · refine Ev.step (fun k => impl_TreeOk.j0.eq_2 ..) (Ev.pos rfl (Ev.ret ?_))
    exact (hbad (by omega)).symm
  · refine Ev.step (fun k => impl_TreeOk.j0.eq_2 ..) (Ev.ite (fun e2 => ?_) (fun e2 => ?_))
    · have e2' := of_decide_eq_true e2
      exact Ev.ret (hbad (by omega)).symm
    · have e2' : ¬ (l.length : Int) > 8 := by simpa using e2
      exact impl_TreeOk_l0 l (by omega) (by omega) l.length 0 0 (by omega) (by omega) (fun i h => by omega) (by simp [zerosFrom])

theorem deskIdx_l0 (r : List (List Int)) (hr : r.length ≤ 1048576) (d : Nat) : ∀ (j : Nat), j + d = r.length → ∃ x, Ev (fun k => slices_IndexFunc_int_int_DeskOk_1.l0 k r (r.length : Int) (j : Int)) x ∧ decide (x ≥ 0) = !((r.drop j).all treeOk) := by
  induction d with
  | zero =>
    intro j hj
    refine ⟨-1, Ev.step (fun k => slices_IndexFunc_int_int_DeskOk_1.l0.eq_2 ..) (Ev.neg (by omega) (Ev.ret rfl)), ?_⟩
    rw [List.drop_of_length_le (by omega)]
    rfl
  | succ d ih =>
    intro j hj
    have ht : Ev (fun k => impl_DeskOk_1.f k (rd_L1 r (j : Int))) (!treeOk (rd_L1 r (j : Int))) := by
      unfold impl_DeskOk_1.f
      exact Ev.bind (impl_TreeOk_ev _) (Ev.ret rfl)
    by_cases h : treeOk (rd_L1 r (j : Int)) = true
    · obtain ⟨x, h1, h2⟩ := ih (j + 1) (by omega)
      refine ⟨x, Ev.step (fun k => slices_IndexFunc_int_int_DeskOk_1.l0.eq_2 ..) (Ev.pos (by omega) (Ev.pos (by omega) (Ev.pos (by omega) (Ev.bind ht (Ev.neg (by simp [h]) ?_))))), ?_⟩
      · rw [wrap_add1 (by omega)]; exact h1
      · rw [h2, drop_all _ _ [] j (by omega), ← rd1_nat, h, Bool.true_and]
    · refine ⟨(j : Int), Ev.step (fun k => slices_IndexFunc_int_int_DeskOk_1.l0.eq_2 ..) (Ev.pos (by omega) (Ev.pos (by omega) (Ev.pos (by omega) (Ev.bind ht (Ev.pos (by simp [h]) (Ev.ret rfl)))))), ?_⟩
      rw [drop_all _ _ [] j (by omega), ← rd1_nat, Bool.eq_false_iff.mpr h, Bool.false_and]
      simp
theorem impl_DeskOk_ev (l : List Int) (r : List (List Int)) (hr : r.length ≤ 1048576) : Ev (fun k => impl_DeskOk.f k l r) (deskOk l r) := by
  unfold impl_DeskOk.f deskOk
  refine Ev.bind (impl_TreeOk_ev l) (Ev.ite (fun h => Ev.ite (fun h2 => ?_) (fun h2 => Ev.ret ?_)) (fun h => Ev.ret ?_))
  · obtain ⟨x, h3, h4⟩ := deskIdx_l0 r hr r.length 0 (by omega)
    unfold slices_ContainsFunc_int_int_DeskOk_1.f slices_IndexFunc_int_int_DeskOk_1.f
    refine Ev.bind (Ev.bind h3 (Ev.ret rfl)) (Ev.ret ?_)
    rw [h4, List.drop_zero, Bool.not_not, h, decide_eq_true (by omega : r.length ≤ 8)]
    rfl
  · rw [decide_eq_false (by omega : ¬ r.length ≤ 8)]; simp
  · rw [Bool.eq_false_iff.mpr h]; simp

/-! rows of rows, held beside others -/
theorem eqIntSS_l0 (l m : List (List Int)) (hl : l.length ≤ 1048576) (hm : l.length = m.length) (hx : ∀ i, i < l.length → (rd_L1 l (i : Int)).length ≤ 1048576) (d : Nat) : ∀ (j : Nat), j + d = l.length → (∀ i, i < j → l[i]? = m[i]?) → Ev (fun k => laws_eqIntSS.l0 k l m (j : Int)) (decide (l = m)) := by
  induction d with
  | zero =>
    intro j hj h
    refine Ev.step (fun k => laws_eqIntSS.l0.eq_2 ..) ?_
    refine Ev.neg (by omega) (Ev.ret ?_)
    symm
    rw [decide_eq_true_iff]
    apply List.ext_getElem?
    intro i
    by_cases hi : i < j
    · exact h i hi
    · rw [List.getElem?_eq_none (by omega), List.getElem?_eq_none (by omega)]
  | succ d ih =>
    intro j hj h
    refine Ev.step (fun k => laws_eqIntSS.l0.eq_2 ..) ?_
    refine Ev.pos (by omega) (Ev.pos (by omega) (Ev.pos (by omega) (Ev.bind (eqIntS_ev _ _ (hx j (by omega))) (Ev.ite ?_ ?_))))
    · intro e0
      have e := of_decide_eq_true e0
      rw [wrap_add1 (by omega)]
      refine ih (j + 1) (by omega) ?_
      intro i hi
      by_cases e' : i = j
      · subst e'
        rw [rd1_nat, rd1_nat] at e
        rw [List.getElem?_eq_getElem (by omega), List.getElem?_eq_getElem (by omega)]
        simpa [List.getD_eq_getElem?_getD, show i < l.length by omega, show i < m.length by omega] using e
      · exact h i (by omega)
    · intro e
      refine Ev.ret ?_
      symm
      rw [decide_eq_false_iff_not]
      intro e'; subst e'; exact e (by simp)
theorem eqIntSS_ev (l m : List (List Int)) (hl : l.length ≤ 1048576) (hx : ∀ i, i < l.length → (rd_L1 l (i : Int)).length ≤ 1048576) : Ev (fun k => laws_eqIntSS.f k l m) (decide (l = m)) := by
  unfold laws_eqIntSS.f
  refine Ev.ite (fun h => ?_) (fun h => ?_)
  · exact eqIntSS_l0 l m (by omega) (by omega) hx l.length 0 (by omega) (fun i h => by omega)
  · refine Ev.ret ?_
    symm
    rw [decide_eq_false_iff_not]
    intro e; subst e; exact h rfl

theorem eqDesk_ev (l m : List Int) (r s : List (List Int)) (hl : l.length ≤ 1048576) (hr : r.length ≤ 1048576) (hx : ∀ x ∈ r, x.length ≤ 1048576) : Ev (fun k => laws_eqDesk.f k l r m s) (decide (l = m ∧ r = s)) := by
  unfold laws_eqDesk.f
  have h1 : ∀ i, i < r.length → (rd_L1 r (i : Int)).length ≤ 1048576 := fun i hi => by rw [rd1_nat, List.getD_eq_getElem?_getD, List.getElem?_eq_getElem hi]; exact hx _ (List.getElem_mem ..)
  refine Ev.bind (eqIntS_ev l m hl) (Ev.ite (fun h => ?_) (fun h => Ev.ret (by simp at h; simp [h])))
  have h := of_decide_eq_true h
  refine Ev.bind (eqIntSS_ev r s hr h1) (Ev.ite (fun h2 => Ev.ret ?_) (fun h2 => Ev.ret ?_))
  · have h2 := of_decide_eq_true h2
    simp [h, h2]
  · simp only [decide_eq_true_eq] at h2
    simp [h2]

theorem FnExactDeskOk : ∀ (l0_0 : List (Int)) (l0_1 : List (List (Int))), l0_0.length ≤ maxLen → (∀ x ∈ l0_0, (Lit.int .i64 x).wf = true) → l0_1.length ≤ maxLen → (∀ x ∈ l0_1, x.length ≤ maxLen ∧ ∀ x_, x_ ∈ x → ((Lit.int .i64 x_).wf = true)) → ∃ k, laws_FnExactDeskOk.f k l0_0 l0_1 = some true := by
  intro l r hl _ hr hx
  refine Ev.rounds (g := fun k => laws_FnExactDeskOk.f k l r) ?_
  unfold laws_FnExactDeskOk.f
  obtain ⟨t, h1, h2⟩ := szDesk_ev l r 1048576 (by omega) (by omega) hl hr (fun x h => (hx x h).1)
  refine Ev.bind h1 (Ev.ite (fun h => Ev.ret rfl) (fun h => ?_))
  obtain ⟨_, h3, h4, h5⟩ := h2 h
  have ht := toDesk_ev l r h3 h4 h5
  refine Ev.bind ht (Ev.bind (spec_DeskOk_ev l r h4) (Ev.bind ht (Ev.bind (impl_DeskOk_ev l r h4) (Ev.neg (by simp) (Ev.bind ht (Ev.bind (eqDesk_ev l l r r h3 h4 h5) (Ev.pos (by simp) (Ev.ret rfl))))))))

end Go.Proofs.Ytidimndhnagfeaa.Pure
