/- The plain statement of FnExactExchangedAt: the printed functions answer true for all arguments within the printed bounds; no other conditions. -/
import Derived.Test.YtpdnocpnibcicaaLCx5
import Derived.ChangeSlices
import Derived.SizedLaws
import Derived.Test.YtpdnocpnibcicaaVSized
namespace Go.Proofs.Ytpdnocpnibcicaa.Pure
open Go.RowKit Go.Proofs.Ytpdnocpnibcicaa.LC Go.Proofs.YtpdnocpnibcicaaV.PrintWords Go.Proofs.YtpdnocpnibcicaaV.PrintLast
set_option linter.unusedVariables false
set_option linter.unusedSimpArgs false

theorem Ev.ret {α : Type} {r r' : α} (h : r = r') : Ev (fun _ => some r) r' := ⟨0, fun _ _ => by rw [h]⟩
theorem Ev.pos {α : Type} {c : Prop} [Decidable c] {g f : Nat → Option α} {r : α} (h : c) (k : Ev g r) : Ev (fun n => if c then g n else f n) r := by
  simpa only [if_pos h] using k
theorem Ev.neg {α : Type} {c : Prop} [Decidable c] {g f : Nat → Option α} {r : α} (h : ¬ c) (k : Ev f r) : Ev (fun n => if c then g n else f n) r := by
  simpa only [if_neg h] using k
theorem Ev.ite {α : Type} {c : Prop} [Decidable c] {g f : Nat → Option α} {r : α} (h : c → Ev g r) (k : ¬ c → Ev f r) : Ev (fun n => if c then g n else f n) r := by
  by_cases hc : c
  · exact Ev.pos hc (h hc)
  · exact Ev.neg hc (k hc)
theorem Ev.bind0 {α β : Type} {o : Option α} {f : Nat → α → Option β} {a : α} {r : β} (h : o = some a) (k : Ev (fun n => f n a) r) : Ev (fun n => o.bind (f n)) r := by
  subst h; simpa only [Option.bind_some] using k
theorem Ev.eq {α : Type} {g : Nat → Option α} {r r' : α} (h : Ev g r) (e : r = r') : Ev g r' := e ▸ h
theorem wrap_id {n : Int} (h0 : -9223372036854775808 ≤ n) (h1 : n < 9223372036854775808) : wrap64 n = n := by
  unfold wrap64; omega
theorem wrap_add1 {n : Nat} (h : n < 1099511627776) : wrap64 ((n : Int) + 1) = ((n + 1 : Nat) : Int) := by
  unfold wrap64; omega
theorem rd_nat (l : List Int) (j : Nat) : rd l (j : Int) = l.getD j 0 := by simp [rd]

open Go.ChangeShapes Go.WideShapes in
/-- the printed row names this lemma so: it is the words' own -/
theorem _root_.Go.Proofs.Ytpdnocpnibcicaa.PrintWords.sized_ints {H : Type} {enc : TypeId × Value → H} {P : Program} {W : World} {base : Nat} {spare : Nat → Bool} {held : Bool} {t e : TypeId} {k : IntKind} {a : Option Addr} {len cap : Nat} {d : DataW H} {ps : List MemPlace} {ts : List TypeId} {ds : List (DataW H)} {j : Nat}
    (hsz : (DataW.weightsEach P ts ds).all (· ≤ reachBytes) = true) (ht : ts[j]? = some t) (hd : ds[j]? = some d) (hu : P.underlying t = some (.slice e)) (he : P.underlying e = some (.int k)) (hc : P.cellsOf e = 1) {B : Nat} (hB : P.bytesOf e = B)
    (h : DataW.Trod enc P W base spare held t (.slice a len cap) d ps) : len * B ≤ 140737488351232 :=
  Go.Proofs.YtpdnocpnibcicaaV.PrintWords.sized_ints hsz ht hd hu he hc hB h

theorem toIntS_l0 (l : List Int) (hl : l.length ≤ 1099511627776) (d : Nat) : ∀ (j : Nat) (y : List Int), j + d = l.length → y.length = l.length → (∀ i, i < j → y[i]? = l[i]?) → Ev (fun k => laws_toIntS.l0 k l y (j : Int)) l := by
  induction d with
  | zero =>
    intro j y hj hy h
    refine Ev.step (fun k => laws_toIntS.l0.eq_2 ..) ?_
    refine Ev.neg (by omega) (Ev.ret ?_)
    apply List.ext_getElem?
    intro i
    by_cases hi : i < j
    · exact h i hi
    · rw [List.getElem?_eq_none (by omega), List.getElem?_eq_none (by omega)]
  | succ d ih =>
    intro j y hj hy h
    refine Ev.step (fun k => laws_toIntS.l0.eq_2 ..) ?_
    refine Ev.pos (by omega) (Ev.pos (by omega) (Ev.pos (by omega) ?_))
    rw [wrap_add1 (by omega)]
    refine ih (j + 1) _ (by omega) (by simpa using hy) ?_
    intro i hi
    rw [rd_nat, Int.toNat_natCast]
    by_cases e : i = j
    · subst e
      simp [hy, show i < l.length by omega]
    · rw [List.getElem?_set_ne (by omega)]
      exact h i (by omega)

theorem toIntS_ev (l : List Int) (hl : l.length ≤ 1048576) : Ev (fun k => laws_toIntS.f k l) l := by
  unfold laws_toIntS.f
  refine Ev.pos (by omega) (Ev.pos (by omega) ?_)
  exact toIntS_l0 l (by omega) l.length 0 _ (by omega) (by simp) (fun i h => by omega)

theorem eqIntS_l0 (l m : List Int) (hl : l.length ≤ 1099511627776) (hm : l.length = m.length) (d : Nat) : ∀ (j : Nat), j + d = l.length → (∀ i, i < j → l[i]? = m[i]?) → Ev (fun k => laws_eqIntS.l0 k l m (j : Int)) (decide (l = m)) := by
  induction d with
  | zero =>
    intro j hj h
    refine Ev.step (fun k => laws_eqIntS.l0.eq_2 ..) ?_
    refine Ev.neg (by omega) (Ev.ret ?_)
    symm
    rw [decide_eq_true_iff]
    apply List.ext_getElem?
    intro i
    by_cases hi : i < j
    · exact h i hi
    · rw [List.getElem?_eq_none (by omega), List.getElem?_eq_none (by omega)]
  | succ d ih =>
    intro j hj h
    refine Ev.step (fun k => laws_eqIntS.l0.eq_2 ..) ?_
    refine Ev.pos (by omega) (Ev.pos (by omega) (Ev.pos (by omega) (Ev.ite ?_ ?_)))
    · intro e
      rw [wrap_add1 (by omega)]
      refine ih (j + 1) (by omega) ?_
      intro i hi
      by_cases e' : i = j
      · subst e'
        rw [rd_nat, rd_nat] at e
        rw [List.getElem?_eq_getElem (by omega), List.getElem?_eq_getElem (by omega)]
        simpa [List.getD_eq_getElem?_getD, show i < l.length by omega, show i < m.length by omega] using e
      · exact h i (by omega)
    · intro e
      refine Ev.ret ?_
      symm
      rw [decide_eq_false_iff_not]
      intro e'; subst e'; exact e rfl

theorem eqIntS_ev (l m : List Int) (hl : l.length ≤ 1048576) : Ev (fun k => laws_eqIntS.f k l m) (decide (l = m)) := by
  unfold laws_eqIntS.f
  refine Ev.ite (fun h => ?_) (fun h => ?_)
  · exact eqIntS_l0 l m (by omega) (by omega) l.length 0 (by omega) (fun i h => by omega)
  · refine Ev.ret ?_
    symm
    rw [decide_eq_false_iff_not]
    intro e; subst e; exact h rfl

/-! marks -/
def marks (n : Nat) : List Int := (List.range n).map (fun i : Nat => (i : Int) + 1)
theorem marks_length (n : Nat) : (marks n).length = n := by simp [marks]
theorem markIntS_l0 (n : Nat) (hn : n ≤ 1048576) (d : Nat) : ∀ (j : Nat) (y : List Int), j + d = n → y.length = n → (∀ i, i < j → y[i]? = some ((i : Int) + 1)) →
    Ev (fun k => laws_markIntS.l0 k y ((j : Int) + 1) (j : Int)) ((n : Int) + 1, marks n) := by
  induction d with
  | zero =>
    intro j y hj hy h
    refine Ev.step (fun k => laws_markIntS.l0.eq_2 ..) ?_
    refine Ev.neg (by omega) (Ev.ret ?_)
    have e : y = marks n := by
      apply List.ext_getElem?
      intro i
      by_cases hi : i < j
      · rw [h i hi]; simp [marks, show i < n by omega]
      · rw [List.getElem?_eq_none (by omega), List.getElem?_eq_none (by rw [marks_length]; omega)]
    rw [e, show (j : Int) = n by omega]
  | succ d ih =>
    intro j y hj hy h
    refine Ev.step (fun k => laws_markIntS.l0.eq_2 ..) ?_
    refine Ev.pos (by omega) (Ev.pos (by omega) ?_)
    rw [wrap_add1 (by omega), wrap_id (by omega) (by omega)]
    refine ih (j + 1) _ (by omega) (by simpa using hy) ?_
    intro i hi
    rw [Int.toNat_natCast]
    by_cases e : i = j
    · subst e
      simp [hy, show i < n by omega]
    · rw [List.getElem?_set_ne (by omega)]
      exact h i (by omega)
theorem markIntS_ev (l : List Int) (hl : l.length ≤ 1048576) : Ev (fun k => laws_markIntS.f k l 1) ((l.length : Int) + 1, marks l.length) := by
  unfold laws_markIntS.f
  exact markIntS_l0 l.length hl l.length 0 l (by omega) rfl (fun i h => by omega)
theorem heldIntS_l0 (n : Nat) (hn : n ≤ 1048576) (d : Nat) : ∀ (j : Nat), j + d = n → Ev (fun k => laws_heldIntS.l0 k (marks n) ((j : Int) + 1) (j : Int)) ((n : Int) + 1) := by
  induction d with
  | zero =>
    intro j hj
    refine Ev.step (fun k => laws_heldIntS.l0.eq_2 ..) ?_
    exact Ev.neg (by rw [marks_length]; omega) (Ev.ret (by omega))
  | succ d ih =>
    intro j hj
    refine Ev.step (fun k => laws_heldIntS.l0.eq_2 ..) ?_
    refine Ev.pos (by rw [marks_length]; omega) (Ev.pos (by omega) (Ev.pos ?_ ?_))
    · rw [rd_nat]; simp [marks, show j < n by omega]
    · rw [wrap_add1 (by omega), wrap_id (by omega) (by omega)]
      exact ih (j + 1) (by omega)
theorem heldIntS_ev (n : Nat) (hn : n ≤ 1048576) : Ev (fun k => laws_heldIntS.f k (marks n) 1) ((n : Int) + 1) := by
  unfold laws_heldIntS.f
  exact heldIntS_l0 n hn n 0 (by omega)

/-! orders -/
@[reducible] def goodAt (o : List Int) (many : Int) (i : Nat) : Prop := (1 ≤ rd o i ∧ rd o i ≤ many) ∧ ∀ j : Nat, j < i → rd o j ≠ rd o i
def orderOk (o : List Int) (many : Int) : Bool := decide ((1 ≤ many ∧ many ≤ 8) ∧ (o.length : Int) = many ∧ ∀ i : Nat, i < o.length → goodAt o many i)
theorem orderOk_bad {o : List Int} {many : Int} {i : Nat} (hi : i < o.length) (h : ¬ goodAt o many i) : orderOk o many = false := by
  unfold orderOk
  rw [decide_eq_false_iff_not]
  exact fun h2 => h (h2.2.2 i hi)
theorem orderOk_iff {o : List Int} {many : Int} : orderOk o many = true ↔ ((1 ≤ many ∧ many ≤ 8) ∧ (o.length : Int) = many ∧ ∀ i : Nat, i < o.length → goodAt o many i) := by
  unfold orderOk
  rw [decide_eq_true_iff]

/-! numbers from 1 to n, none twice -/
theorem nodup_le : ∀ (n : Nat) (L : List Int), L.Nodup → (∀ x, x ∈ L → 1 ≤ x ∧ x ≤ n) → L.length ≤ n
  | 0, L, _, h => by
    cases L with
    | nil => simp
    | cons a r => have := h a (by simp); omega
  | n + 1, L, hn, h => by
    by_cases hm : ((n + 1 : Nat) : Int) ∈ L
    · have h1 := nodup_le n (L.erase ((n + 1 : Nat) : Int)) (hn.erase _) (fun x hx => by
        rw [hn.mem_erase_iff] at hx
        have := h x hx.2
        omega)
      rw [List.length_erase_of_mem hm] at h1
      omega
    · have := nodup_le n L hn (fun x hx => by
        have h2 := h x hx
        have : x ≠ ((n + 1 : Nat) : Int) := fun e => hm (e ▸ hx)
        omega)
      omega
theorem nodup_all : ∀ (n : Nat) (L : List Int), L.Nodup → (∀ x, x ∈ L → 1 ≤ x ∧ x ≤ n) → L.length = n → ∀ v : Int, 1 ≤ v → v ≤ n → v ∈ L
  | 0, L, _, h, hl, v, h0, h1 => by omega
  | n + 1, L, hn, h, hl, v, h0, h1 => by
    have hm : ((n + 1 : Nat) : Int) ∈ L := by
      apply Decidable.byContradiction
      intro hm
      have := nodup_le n L hn (fun x hx => by
        have h2 := h x hx
        have : x ≠ ((n + 1 : Nat) : Int) := fun e => hm (e ▸ hx)
        omega)
      omega
    by_cases e : v = ((n + 1 : Nat) : Int)
    · rw [e]; exact hm
    · have := nodup_all n (L.erase ((n + 1 : Nat) : Int)) (hn.erase _) (fun x hx => by
        rw [hn.mem_erase_iff] at hx
        have := h x hx.2
        omega) (by rw [List.length_erase_of_mem hm]; omega) v h0 (by omega)
      exact List.mem_of_mem_erase this

theorem rd_get (l : List Int) {i : Nat} (h : i < l.length) : rd l i = l[i] := by simp [rd_nat, h]
theorem nodup_iff_rd (l : List Int) : l.Nodup ↔ ∀ i j : Nat, i < j → j < l.length → rd l i ≠ rd l j := by
  rw [List.nodup_iff_pairwise_ne, List.pairwise_iff_getElem]
  constructor
  · intro h i j hij hj
    rw [rd_get l (by omega), rd_get l hj]
    exact h i j (by omega) hj hij
  · intro h i j hi hj hij
    have := h i j hij hj
    rwa [rd_get l hi, rd_get l hj] at this
theorem orderOk_nodup {o : List Int} {many : Int} : orderOk o many = true ↔ (1 ≤ many ∧ many ≤ 8) ∧ (o.length : Int) = many ∧ o.Nodup ∧ ∀ x, x ∈ o → 1 ≤ x ∧ x ≤ many := by
  rw [orderOk_iff, nodup_iff_rd]
  constructor
  · rintro ⟨h1, h2, h3⟩
    refine ⟨h1, h2, fun i j hij hj => (h3 j hj).2 i hij, fun x hx => ?_⟩
    obtain ⟨i, hi, rfl⟩ := List.getElem_of_mem hx
    have := (h3 i hi).1
    rwa [rd_get o hi] at this
  · rintro ⟨h1, h2, h3, h4⟩
    refine ⟨h1, h2, fun i hi => ⟨?_, fun j hj => h3 j i hj hi⟩⟩
    rw [rd_get o hi]
    exact h4 _ (List.getElem_mem hi)

def exchangedAt (l : List Int) (a : Int) : List Int × Bool := if orderOk l l.length = true ∧ 0 ≤ a ∧ a ≤ l.length - 2 then ((l.set a.toNat (rd l (a + 1))).set (a + 1).toNat (rd l a), true) else ([], false)
theorem exchangedAt_small (l : List Int) (a : Int) : (exchangedAt l a).1.length ≤ 8 := by
  unfold exchangedAt
  split
  · rename_i h
    have := orderOk_iff.mp h.1
    show ((l.set a.toNat (rd l (a + 1))).set (a + 1).toNat (rd l a)).length ≤ 8
    simp; omega
  · simp

theorem l1In_eq (a b c : Int) : spec_l1In.f a b c = some (decide (b ≤ a ∧ a ≤ c)) := by
  unfold spec_l1In.f
  split
  · rename_i h; congr 1; rw [decide_eq_decide]; omega
  · rename_i h; congr 1; symm; rw [decide_eq_false_iff_not]; omega

/-- the reference's look at an order, as it goes -/
theorem spec_OrderOk_l1 (o : List Int) (many : Int) (hl : o.length ≤ 1048576) (i : Nat) (hi : i < o.length) (hin : 1 ≤ rd o i ∧ rd o i ≤ many) (next : goodAt o many i → Ev (fun k => spec_OrderOk.l0 k o many ((i + 1 : Nat) : Int)) (orderOk o many)) (d : Nat) :
    ∀ j : Nat, j + d = i → (∀ j' : Nat, j' < j → rd o j' ≠ rd o i) → Ev (fun k => spec_OrderOk.l1 k o many (i : Int) (j : Int)) (orderOk o many) := by
  induction d with
  | zero =>
    intro j hj h
    refine Ev.step (fun k => spec_OrderOk.l1.eq_2 ..) (Ev.neg (by omega) ?_)
    rw [wrap_add1 (by omega)]
    exact next ⟨hin, fun j' hj' => h j' (by omega)⟩
  | succ d ih =>
    intro j hj h
    refine Ev.step (fun k => spec_OrderOk.l1.eq_2 ..) (Ev.pos (by omega) (Ev.pos (by omega) (Ev.pos (by omega) (Ev.pos (by omega) (Ev.pos (by omega) (Ev.ite (fun e => ?_) (fun e => ?_)))))))
    · exact Ev.ret (orderOk_bad hi (fun h2 => h2.2 j (by omega) e)).symm
    · rw [wrap_add1 (by omega)]
      refine ih (j + 1) (by omega) (fun j' hj' => ?_)
      by_cases e2 : j' = j
      · subst e2; exact e
      · exact h j' (by omega)
theorem spec_OrderOk_l0 (o : List Int) (many : Int) (hl : o.length ≤ 1048576) (d : Nat) : ∀ i : Nat, i + d = o.length → (∀ j : Nat, j < i → goodAt o many j) → Ev (fun k => spec_OrderOk.l0 k o many (i : Int)) (orderOk o many) := by
  induction d with
  | zero =>
    intro i hi h
    refine Ev.step (fun k => spec_OrderOk.l0.eq_2 ..) (Ev.neg (by omega) (Ev.bind0 (l1In_eq ..) (Ev.ite (fun e => ?_) (fun e => ?_))))
    · refine Ev.ret ?_
      have e' := of_decide_eq_true e
      rw [Bool.eq_iff_iff, orderOk_iff, beq_iff_eq]
      exact ⟨fun h2 => ⟨e', h2, fun j hj => h j (by omega)⟩, fun h2 => h2.2.1⟩
    · refine Ev.ret ?_
      symm
      unfold orderOk
      rw [decide_eq_false_iff_not]
      intro h2
      exact e (decide_eq_true h2.1)
  | succ d ih =>
    intro i hi h
    refine Ev.step (fun k => spec_OrderOk.l0.eq_2 ..) (Ev.pos (by omega) (Ev.pos (by omega) (Ev.bind0 (l1In_eq ..) (Ev.ite (fun e => ?_) (fun e => ?_)))))
    · have e' := of_decide_eq_true e
      refine spec_OrderOk_l1 o many hl i (by omega) e' (fun hg => ?_) i 0 (by omega) (fun j' hj' => by omega)
      refine ih (i + 1) (by omega) (fun j hj => ?_)
      by_cases e2 : j = i
      · subst e2; exact hg
      · exact h j (by omega)
    · refine Ev.ret ?_
      exact (orderOk_bad (by omega) (fun h2 => e (decide_eq_true h2.1))).symm
theorem spec_OrderOk_ev (o : List Int) (many : Int) (hl : o.length ≤ 1048576) : Ev (fun k => spec_OrderOk.f k o many) (orderOk o many) := by
  unfold spec_OrderOk.f
  exact spec_OrderOk_l0 o many hl o.length 0 (by omega) (fun j hj => by omega)

theorem spec_ExchangedAt_ev (l : List Int) (a : Int) (hl : l.length ≤ 1048576) : Ev (fun k => spec_ExchangedAt.f k l a) (exchangedAt l a) := by
  unfold spec_ExchangedAt.f exchangedAt
  refine Ev.bind (spec_OrderOk_ev l _ hl) (Ev.ite (fun h => ?_) (fun h => ?_))
  · have h1 := orderOk_iff.mp h
    rw [wrap_id (n := (l.length : Int) - 2) (by omega) (by omega)]
    refine Ev.bind0 (l1In_eq ..) (Ev.ite (fun e => ?_) (fun e => ?_))
    · have e' := of_decide_eq_true e
      rw [if_pos ⟨h, e'.1, e'.2⟩]
      simp only [Option.bind_some, List.nil_append]
      rw [wrap_id (n := a + 1) (by omega) (by omega)]
      exact Ev.pos (by simp only [List.length_nil]; omega) (Ev.pos e'.1 (Ev.pos (by omega) (Ev.pos (by omega) (Ev.pos (by omega) (Ev.ret rfl)))))
    · rw [if_neg (fun h2 => e (decide_eq_true ⟨h2.2.1, h2.2.2⟩))]; exact Ev.ret rfl
  · rw [if_neg (fun h2 => h h2.1)]; exact Ev.ret rfl

/-! a sorted row with the same numbers -/
def SortedTo (x : List Int) (i : Nat) : Prop := ∀ a b : Nat, a < b → b < i → rd x a ≤ rd x b
def SameCount (x l : List Int) : Prop := x.length = l.length ∧ ∀ v : Int, x.count v = l.count v
/-- sorted up to place i, but that what stands at j may be less than what is ahead of it -/
def SortedBut (x : List Int) (i j : Nat) : Prop := ∀ a b : Nat, a < b → b ≤ i → b ≠ j → rd x a ≤ rd x b
theorem rd_set (x : List Int) (i : Nat) (v : Int) (j : Nat) (h : i < x.length) : rd (x.set i v) j = if j = i then v else rd x j := by
  rw [rd_nat, rd_nat, List.getD_eq_getElem?_getD, List.getD_eq_getElem?_getD]
  by_cases e : j = i
  · subst e; simp [h]
  · rw [List.getElem?_set_ne (by omega), if_neg e]
theorem swap_same {x l : List Int} (h : SameCount x l) {j : Nat} (hj : j + 1 < x.length) : SameCount ((x.set (j + 1) (rd x j)).set j (rd x ((j + 1 : Nat) : Int))) l := by
  refine ⟨by simp [h.1], fun v => ?_⟩
  have hj2 : j < (x.set (j + 1) (rd x j)).length := by simp; omega
  rw [List.count_set hj2, List.count_set hj, List.getElem_set_ne (by omega), ← rd_get x (i := j) (by omega), ← rd_get x (i := j + 1) hj, ← h.2 v]
  have h1 : 0 < x.count (rd x j) := List.count_pos_iff.mpr (by rw [rd_get x (by omega)]; exact List.getElem_mem _)
  have h2 : 0 < x.count (rd x ((j + 1 : Nat) : Int)) := List.count_pos_iff.mpr (by rw [rd_get x hj]; exact List.getElem_mem _)
  by_cases e1 : rd x j = v
  · by_cases e2 : rd x ((j + 1 : Nat) : Int) = v
    · simp only [e1, e2, beq_self_eq_true, if_true]; rw [e1] at h1; omega
    · have : (rd x ((j + 1 : Nat) : Int) == v) = false := by simpa using e2
      simp only [e1, this, beq_self_eq_true, if_true, Bool.false_eq_true, if_false]; omega
  · have e1' : (rd x j == v) = false := by simpa using e1
    by_cases e2 : rd x ((j + 1 : Nat) : Int) = v
    · simp only [e2, e1', beq_self_eq_true, if_true, Bool.false_eq_true, if_false]; rw [e2] at h2; omega
    · have : (rd x ((j + 1 : Nat) : Int) == v) = false := by simpa using e2
      simp only [this, e1', Bool.false_eq_true, if_false]; omega
theorem swap_sorted {x : List Int} {i j : Nat} (h : SortedBut x i (j + 1)) (hj : j + 1 ≤ i) (hi : i < x.length) (hlt : rd x ((j + 1 : Nat) : Int) < rd x j) : SortedBut ((x.set (j + 1) (rd x j)).set j (rd x ((j + 1 : Nat) : Int))) i j := by
  intro a b hab hb hne
  have hj2 : j < (x.set (j + 1) (rd x j)).length := by simp; omega
  rw [rd_set _ _ _ _ hj2, rd_set _ _ _ _ hj2, rd_set _ _ _ _ (by omega), rd_set _ _ _ _ (by omega), if_neg hne]
  by_cases e1 : b = j + 1
  · subst e1
    rw [if_pos rfl]
    by_cases e2 : a = j
    · rw [if_pos e2]; omega
    · rw [if_neg e2, if_neg (by omega)]
      exact h a j (by omega) (by omega) (by omega)
  · rw [if_neg e1]
    by_cases e2 : a = j
    · rw [if_pos e2]
      exact h (j + 1) b (by omega) hb e1
    · rw [if_neg e2]
      by_cases e3 : a = j + 1
      · rw [if_pos e3]
        exact h j b (by omega) hb e1
      · rw [if_neg e3]
        exact h a b hab hb e1
theorem sorted_of_but {x : List Int} {i j : Nat} (h : SortedBut x i j) (hj : j = 0 ∨ ∃ p : Nat, j = p + 1 ∧ rd x p ≤ rd x j) : SortedTo x (i + 1) := by
  intro a b hab hb
  by_cases e : b = j
  · rcases hj with h0 | ⟨p, hp, hle⟩
    · omega
    · by_cases e2 : a = p
      · subst e2; rw [e]; exact hle
      · have := h a p (by omega) (by omega) (by omega)
        rw [e]; omega
  · exact h a b hab (by omega) e
theorem order_of_sorted {s l : List Int} (hs : SortedTo s s.length) (hc : SameCount s l) (h1 : 1 ≤ l.length) (h8 : l.length ≤ 8) : decide (∀ i : Nat, i < s.length → rd s i = (i : Int) + 1) = orderOk l l.length := by
  rw [Bool.eq_iff_iff, decide_eq_true_iff, orderOk_nodup]
  constructor
  · intro h
    have hnd : s.Nodup := by
      rw [nodup_iff_rd]
      intro i j hij hj
      rw [h i (by omega), h j hj]; omega
    have hnl : l.Nodup := by
      rw [List.nodup_iff_count]
      intro a
      rw [← hc.2 a]
      exact List.nodup_iff_count.mp hnd a
    refine ⟨by omega, rfl, hnl, fun x hx => ?_⟩
    have hx2 : x ∈ s := by rw [← List.count_pos_iff, hc.2 x, List.count_pos_iff]; exact hx
    obtain ⟨i, hi, e⟩ := List.getElem_of_mem hx2
    have := h i hi
    rw [rd_get s hi, e] at this
    have := hc.1
    omega
  · rintro ⟨_, _, hnl, hr⟩
    have hnd : s.Nodup := by
      rw [List.nodup_iff_count]
      intro a
      rw [hc.2 a]
      exact List.nodup_iff_count.mp hnl a
    have hrs : ∀ i : Nat, i < s.length → 1 ≤ rd s i ∧ rd s i ≤ l.length := by
      intro i hi
      refine hr _ ?_
      rw [← List.count_pos_iff, ← hc.2, List.count_pos_iff, rd_get s hi]
      exact List.getElem_mem _
    have hst : ∀ i : Nat, i + 1 < s.length → rd s i < rd s ((i + 1 : Nat) : Int) := by
      intro i hi
      have a1 := hs i (i + 1) (by omega) hi
      have a2 := (nodup_iff_rd s).mp hnd i (i + 1) (by omega) hi
      omega
    have hlow : ∀ i : Nat, i < s.length → (i : Int) + 1 ≤ rd s i := by
      intro i
      induction i with
      | zero => intro hi; have := hrs 0 hi; omega
      | succ i ih =>
        intro hi
        have := ih (by omega)
        have := hst i hi
        omega
    have hhigh : ∀ d i : Nat, i + d + 1 = s.length → rd s i + d ≤ l.length := by
      intro d
      induction d with
      | zero => intro i hi; have := hrs i (by omega); omega
      | succ d ih =>
        intro i hi
        have h1 := ih (i + 1) (by omega)
        have h2 := hst i (by omega)
        omega
    intro i hi
    have a1 := hlow i hi
    have a2 := hhigh (s.length - i - 1) i (by omega)
    have a3 := hc.1
    omega

theorem less_int (a b : Int) : cmp_Less_int.f a b = some (decide (a < b)) := by
  unfold cmp_Less_int.f cmp_isNaN_int.f
  simp
theorem insertion_l1 (n : Nat) (hn : n ≤ 8) (i : Nat) (hi : i < n) (l r : List Int) (next : ∀ x : List Int, x.length = n → SameCount x l → SortedTo x (i + 1) → ∃ s, Ev (fun k => slices_insertionSortOrdered_int.l0 k x 0 (n : Int) ((i + 1 : Nat) : Int)) s ∧ SameCount s l ∧ SortedTo s n) :
    ∀ (j : Nat) (x : List Int), j ≤ i → x.length = n → SameCount x l → SortedBut x i j → ∃ s, Ev (fun k => slices_insertionSortOrdered_int.l1 k x 0 (n : Int) (i : Int) (j : Int)) s ∧ SameCount s l ∧ SortedTo s n
  | 0, x, hj, hx, hc, hs => by
    obtain ⟨s, h1, h2, h3⟩ := next x hx hc (sorted_of_but hs (.inl rfl))
    refine ⟨s, Ev.step (fun k => slices_insertionSortOrdered_int.l1.eq_2 ..) (Ev.neg (by omega) ?_), h2, h3⟩
    rw [wrap_add1 (by omega)]
    exact h1
  | j + 1, x, hj, hx, hc, hs => by
    have e1 : wrap64 (((j + 1 : Nat) : Int) - 1) = (j : Int) := by rw [wrap_id (by omega) (by omega)]; omega
    have hless : cmp_Less_int.f (rd x ((j + 1 : Nat) : Int)) (rd x j) = some (decide (rd x ((j + 1 : Nat) : Int) < rd x j)) := less_int _ _
    by_cases h : rd x ((j + 1 : Nat) : Int) < rd x j
    · obtain ⟨s, h1, h2, h3⟩ := insertion_l1 n hn i hi l r next j _ (by omega) (by simpa using hx) (swap_same hc (by omega)) (swap_sorted hs hj (by omega) h)
      refine ⟨s, Ev.step (fun k => slices_insertionSortOrdered_int.l1.eq_2 ..) ?_, h2, h3⟩
      rw [e1]
      refine Ev.pos (by omega) (Ev.pos (by omega) (Ev.pos (by omega) (Ev.pos (by omega) (Ev.pos (by omega) (Ev.bind0 hless (Ev.pos (decide_eq_true h) ?_))))))
      rw [Int.toNat_natCast, Int.toNat_natCast]
      exact h1
    · obtain ⟨s, h1, h2, h3⟩ := next x hx hc (sorted_of_but hs (.inr ⟨j, rfl, by omega⟩))
      refine ⟨s, Ev.step (fun k => slices_insertionSortOrdered_int.l1.eq_2 ..) ?_, h2, h3⟩
      rw [e1, wrap_add1 (by omega)]
      exact Ev.pos (by omega) (Ev.pos (by omega) (Ev.pos (by omega) (Ev.pos (by omega) (Ev.pos (by omega) (Ev.bind0 hless (Ev.neg (by simpa using h) h1))))))
theorem insertion_l0 (n : Nat) (hn : n ≤ 8) (l : List Int) (d : Nat) : ∀ (i : Nat) (x : List Int), i + d = n → x.length = n → SameCount x l → SortedTo x i → ∃ s, Ev (fun k => slices_insertionSortOrdered_int.l0 k x 0 (n : Int) (i : Int)) s ∧ SameCount s l ∧ SortedTo s n := by
  induction d with
  | zero =>
    intro i x hi hx hc hs
    refine ⟨x, Ev.step (fun k => slices_insertionSortOrdered_int.l0.eq_2 ..) (Ev.neg (by omega) (Ev.ret rfl)), hc, ?_⟩
    rw [show n = i by omega]; exact hs
  | succ d ih =>
    intro i x hi hx hc hs
    obtain ⟨s, h1, h2, h3⟩ := insertion_l1 n hn i (by omega) l [] (fun x' hx' hc' hs' => ih (i + 1) x' (by omega) hx' hc' hs') i x (Nat.le_refl _) hx hc (fun a b hab hb hne => hs a b hab (by omega))
    exact ⟨s, Ev.step (fun k => slices_insertionSortOrdered_int.l0.eq_2 ..) (Ev.pos (by omega) h1), h2, h3⟩
theorem sort_ev (l : List Int) (h1 : 1 ≤ l.length) (h8 : l.length ≤ 8) : ∃ s, Ev (fun k => slices_Sort_int_int.f k l) s ∧ SameCount s l ∧ SortedTo s l.length := by
  obtain ⟨s, hs, h2, h3⟩ := insertion_l0 l.length h8 l (l.length - 1) 1 l (by omega) rfl ⟨rfl, fun _ => rfl⟩ (fun a b hab hb => by omega)
  refine ⟨s, ?_, h2, h3⟩
  unfold slices_Sort_int_int.f
  have hw : IntKind.u64.wrap (l.length : Int) = (l.length : Int) := by
    simp [IntKind.wrap, IntKind.bits, IntKind.signed]; omega
  rw [hw]
  refine Ev.bind0 (a := (Lib.bitLen (l.length : Int).toNat : Int)) (by unfold bits_Len.f; rw [if_pos (by omega)]) ?_
  unfold slices_pdqsortOrdered_int.f slices_insertionSortOrdered_int.f
  rw [show wrap64 (0 + 1) = ((1 : Nat) : Int) by decide +kernel]
  exact Ev.bind (Ev.pos (by omega) hs) (Ev.ret rfl)
theorem impl_OrderOk_ev (o : List Int) (many : Int) : Ev (fun k => impl_OrderOk.f k o many) (orderOk o many) := by
  unfold impl_OrderOk.f
  by_cases h : 1 ≤ many ∧ many ≤ 8 ∧ (o.length : Int) = many
  · obtain ⟨h1, h2, rfl⟩ := h
    obtain ⟨s, hs, hc, hst⟩ := sort_ev o (by omega) (by omega)
    refine Ev.pos ⟨h1, h2, rfl⟩ (Ev.bind hs (Ev.pos (by have := hc.1; omega) (Ev.ret ?_)))
    exact order_of_sorted (by rw [hc.1]; exact hst) hc (by omega) (by omega)
  · refine Ev.neg h (Ev.ret ?_)
    symm
    unfold orderOk
    rw [decide_eq_false_iff_not]
    exact fun h2 => h ⟨h2.1.1, h2.1.2, h2.2.1⟩

theorem impl_ExchangedAt_ev (l : List Int) (a : Int) (ha : -9223372036854775808 ≤ a ∧ a < 9223372036854775807) : Ev (fun k => impl_ExchangedAt.f k l a) (exchangedAt l a) := by
  unfold impl_ExchangedAt.f exchangedAt
  have bad : Ev (fun k => impl_ExchangedAt.j0 k l a true) (([] : List Int), false) := Ev.step (fun k => impl_ExchangedAt.j0.eq_2 ..) (Ev.pos rfl (Ev.ret rfl))
  refine Ev.bind (impl_OrderOk_ev l _) (Ev.ite (fun h => ?_) (fun h => ?_))
  · have h1 := orderOk_iff.mp h
    rw [wrap_id (n := (l.length : Int) - 1) (by omega) (by omega)]
    refine Ev.ite (fun e => ?_) (fun e => ?_)
    · rw [if_neg (by omega)]; exact bad
    · by_cases e2 : a ≥ (l.length : Int) - 1
      · rw [if_neg (by omega), decide_eq_true e2]; exact bad
      · rw [if_pos ⟨h, by omega, by omega⟩, decide_eq_false e2]
        refine Ev.step (fun k => impl_ExchangedAt.j0.eq_2 ..) (Ev.neg (by simp) (Ev.bind0 (a := l) ?_ (Ev.bind0 rfl ?_)))
        · unfold slices_Clone_int_int.f; rw [if_pos (by omega)]
        · rw [wrap_id (n := a + 1) (by omega) (by omega)]
          exact Ev.pos (by omega) (Ev.pos (by omega) (Ev.pos (by omega) (Ev.pos (by omega) (Ev.ret rfl))))
  · rw [if_neg (fun h2 => h h2.1)]; exact bad

theorem FnExactExchangedAt : laws_FnExactExchangedAt.Pure := by
  intro l a _ _ _ ha
  have ha' : -9223372036854775808 ≤ a ∧ a < 9223372036854775807 ∨ a = 9223372036854775807 := by
    simp [Lit.wf, IntKind.min, IntKind.max, IntKind.signed, IntKind.bits] at ha
    omega
  refine Ev.rounds (g := fun k => laws_FnExactExchangedAt.f k l a) ?_
  unfold laws_FnExactExchangedAt.f
  refine Ev.ite (fun h => Ev.ret rfl) (fun h => ?_)
  have hl : l.length ≤ 1048576 := by omega
  have hs : (exchangedAt l a).1.length ≤ 1048576 := Nat.le_trans (exchangedAt_small l a) (by omega)
  have him : Ev (fun k => impl_ExchangedAt.f k l a) (exchangedAt l a) := by
    rcases ha' with ha' | ha'
    · exact impl_ExchangedAt_ev l a ha'
    · subst ha'
      have bad : Ev (fun k => impl_ExchangedAt.j0 k l 9223372036854775807 true) (([] : List Int), false) := Ev.step (fun k => impl_ExchangedAt.j0.eq_2 ..) (Ev.pos rfl (Ev.ret rfl))
      unfold impl_ExchangedAt.f exchangedAt
      refine Ev.bind (impl_OrderOk_ev l _) (Ev.ite (fun h => ?_) (fun h => ?_))
      · rw [wrap_id (n := (l.length : Int) - 1) (by omega) (by omega), if_neg (by omega), decide_eq_true (by omega)]
        exact Ev.neg (by omega) bad
      · rw [if_neg (fun h2 => h h2.1)]; exact bad
  refine Ev.bind (toIntS_ev l hl) (Ev.bind (spec_ExchangedAt_ev l a hl) (Ev.bind (toIntS_ev l hl) (Ev.bind him (Ev.bind (eqIntS_ev _ _ hs) (Ev.pos (by simp) ?_)))))
  refine Ev.step (fun k => laws_FnExactExchangedAt.j0.eq_2 ..) (Ev.neg (by simp) (Ev.bind (toIntS_ev l hl) (Ev.bind (eqIntS_ev _ _ hl) (Ev.pos (by simp) (Ev.bind (markIntS_ev l hl) (Ev.neg (by show ¬ ((l.length : Int) + 1 < 0); omega) (Ev.bind (eqIntS_ev _ _ hs) (Ev.pos (by simp) ?_))))))))
  refine Ev.step (fun k => laws_FnExactExchangedAt.j1.eq_2 ..) (Ev.neg (by simp) (Ev.bind (markIntS_ev _ hs) (Ev.bind (heldIntS_ev _ hs) (Ev.neg (by omega) (Ev.pos rfl ?_)))))
  refine Ev.bind (toIntS_ev l hl) (Ev.bind him (Ev.bind (eqIntS_ev _ _ hs) (Ev.pos (by simp) ?_)))
  exact Ev.step (fun k => laws_FnExactExchangedAt.j2.eq_2 ..) (Ev.neg (by simp) (Ev.bind (heldIntS_ev _ hs) (Ev.neg (by omega) (Ev.pos rfl (Ev.ret rfl)))))

end Go.Proofs.Ytpdnocpnibcicaa.Pure
