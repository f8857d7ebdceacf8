/- The plain statement of FnScoresOk: the printed functions answer true for all arguments within the printed bounds; no other conditions. -/
import Derived.Test.YtndgogphgeefaaaLAx3
import Derived.ChangeSlices
import Derived.SizedLaws
import Derived.Test.YtndgogphgeefaaaVSized
namespace Go.Proofs.Ytndgogphgeefaaa.Pure
open Go.RowKit Go.Proofs.Ytndgogphgeefaaa.LA Go.Proofs.YtndgogphgeefaaaV.PrintWords Go.Proofs.YtndgogphgeefaaaV.PrintLast
set_option linter.unusedVariables false
set_option linter.unusedSimpArgs false

theorem Ev.ret {α : Type} {r r' : α} (h : r = r') : Ev (fun _ => some r) r' := ⟨0, fun _ _ => by rw [h]⟩
theorem Ev.pos {α : Type} {c : Prop} [Decidable c] {g f : Nat → Option α} {r : α} (h : c) (k : Ev g r) : Ev (fun n => if c then g n else f n) r := by
  simpa only [if_pos h] using k
theorem Ev.neg {α : Type} {c : Prop} [Decidable c] {g f : Nat → Option α} {r : α} (h : ¬ c) (k : Ev f r) : Ev (fun n => if c then g n else f n) r := by
  simpa only [if_neg h] using k
theorem Ev.ite {α : Type} {c : Prop} [Decidable c] {g f : Nat → Option α} {r : α} (h : c → Ev g r) (k : ¬ c → Ev f r) : Ev (fun n => if c then g n else f n) r := by
  by_cases hc : c
  · exact Ev.pos hc (h hc)
  · exact Ev.neg hc (k hc)
theorem Ev.bind0 {α β : Type} {o : Option α} {f : Nat → α → Option β} {a : α} {r : β} (h : o = some a) (k : Ev (fun n => f n a) r) : Ev (fun n => o.bind (f n)) r := by
  subst h; simpa only [Option.bind_some] using k
theorem Ev.eq {α : Type} {g : Nat → Option α} {r r' : α} (h : Ev g r) (e : r = r') : Ev g r' := e ▸ h
theorem wrap_id {n : Int} (h0 : -9223372036854775808 ≤ n) (h1 : n < 9223372036854775808) : wrap64 n = n := by
  unfold wrap64; omega
theorem wrap_add1 {n : Nat} (h : n < 1099511627776) : wrap64 ((n : Int) + 1) = ((n + 1 : Nat) : Int) := by
  unfold wrap64; omega
theorem rd_nat (l : List Int) (j : Nat) : rd l (j : Int) = l.getD j 0 := by simp [rd]

open Go.ChangeShapes Go.WideShapes in
/-- the printed row names this lemma so: it is the words' own -/
theorem _root_.Go.Proofs.Ytndgogphgeefaaa.PrintWords.sized_ints {H : Type} {enc : TypeId × Value → H} {P : Program} {W : World} {base : Nat} {spare : Nat → Bool} {held : Bool} {t e : TypeId} {k : IntKind} {a : Option Addr} {len cap : Nat} {d : DataW H} {ps : List MemPlace} {ts : List TypeId} {ds : List (DataW H)} {j : Nat}
    (hsz : (DataW.weightsEach P ts ds).all (· ≤ reachBytes) = true) (ht : ts[j]? = some t) (hd : ds[j]? = some d) (hu : P.underlying t = some (.slice e)) (he : P.underlying e = some (.int k)) (hc : P.cellsOf e = 1) {B : Nat} (hB : P.bytesOf e = B)
    (h : DataW.Trod enc P W base spare held t (.slice a len cap) d ps) : len * B ≤ 140737488351232 :=
  Go.Proofs.YtndgogphgeefaaaV.PrintWords.sized_ints hsz ht hd hu he hc hB h

/-- whether one comes from a word to 0 within so many steps, over numbers of words or 0 alone -/
def walkOk (l : List Int) : Nat → Int → Bool
  | 0, a => decide (a ≤ 0)
  | m + 1, a => if a ≤ 0 then true else decide (0 ≤ rd l (a - 1) ∧ rd l (a - 1) ≤ l.length) && walkOk l m (rd l (a - 1))
def okAt (l : List Int) (i : Nat) : Bool := decide (0 ≤ rd l i ∧ rd l i ≤ l.length) && walkOk l l.length ((i : Int) + 1)
def zerosFrom (l : List Int) (j : Nat) : Nat := (l.drop j).count 0
def treeOk (l : List Int) : Bool := decide (1 ≤ l.length ∧ l.length ≤ 8) && (List.range l.length).all (okAt l) && decide (l.count 0 = 1)

theorem walkOk_self (l : List Int) (a : Int) (ha : 0 < a) (h : rd l (a - 1) = a) : ∀ m, walkOk l m a = false
  | 0 => by simp [walkOk]; omega
  | m + 1 => by
    unfold walkOk
    rw [if_neg (by omega), h, walkOk_self l a ha h m, Bool.and_false]

theorem zerosFrom_succ (l : List Int) (j : Nat) (h : j < l.length) : zerosFrom l j = (if rd l j = 0 then 1 else 0) + zerosFrom l (j + 1) := by
  unfold zerosFrom
  rw [List.drop_eq_getElem_cons h, List.count_cons]
  have e : rd l j = l[j] := by simp [rd_nat, h]
  rw [e]
  by_cases e : l[j] = 0 <;> simp [e, Nat.add_comm]
theorem zerosFrom_le (l : List Int) (j : Nat) : zerosFrom l j ≤ l.length := by
  unfold zerosFrom
  exact Nat.le_trans List.count_le_length (by simp)

theorem all_from (p : Nat → Bool) (n j : Nat) (h : j < n) : ((List.range' j (n - j)).all p) = (p j && (List.range' (j + 1) (n - (j + 1))).all p) := by
  obtain ⟨d, hd⟩ : ∃ d, n - j = d + 1 := ⟨n - j - 1, by omega⟩
  rw [hd, List.range'_succ, List.all_cons, show n - (j + 1) = d by omega]

def restOk (l : List Int) (r : Nat) (j : Nat) : Bool := (List.range' j (l.length - j)).all (okAt l) && decide (r + zerosFrom l j = 1)
theorem restOk_end (l : List Int) (r : Nat) (j : Nat) (h : j = l.length) : restOk l r j = ((r : Int) == 1) := by
  subst h
  unfold restOk zerosFrom
  simp
  rw [Bool.eq_iff_iff]; simp; omega
theorem restOk_bad (l : List Int) (r : Nat) (j : Nat) (h : j < l.length) (hb : okAt l j = false) : restOk l r j = false := by
  unfold restOk
  rw [all_from _ _ _ h, hb]; rfl
theorem restOk_good (l : List Int) (r : Nat) (j : Nat) (h : j < l.length) (hb : okAt l j = true) : restOk l r j = restOk l (r + if rd l j = 0 then 1 else 0) (j + 1) := by
  unfold restOk
  rw [all_from _ _ _ h, hb, Bool.true_and, zerosFrom_succ l j h, Nat.add_assoc]
theorem restOk_zero (l : List Int) (h : 1 ≤ l.length ∧ l.length ≤ 8) : restOk l 0 0 = treeOk l := by
  unfold restOk treeOk zerosFrom
  rw [decide_eq_true h]
  simp [List.range_eq_range']

def inRange (l : List Int) (i : Nat) : Bool := decide (0 ≤ rd l i ∧ rd l i ≤ l.length)
theorem mem_rd {l : List Int} {a : Int} (h0 : 0 ≤ a) (h1 : a < l.length) (h : (List.range l.length).all (inRange l) = true) : 0 ≤ rd l a ∧ rd l a ≤ l.length := by
  rw [List.all_eq_true] at h
  have := h a.toNat (by simp; omega)
  unfold inRange at this
  rw [show ((a.toNat : Nat) : Int) = a by omega] at this
  exact of_decide_eq_true this
/-- how many steps lead to 0, as the program counts them -/
def stepsOf (l : List Int) : Nat → Int → Nat → Int
  | 0, _, _ => -1
  | m + 1, w, i => if rd l (w - 1) = 0 then i else stepsOf l m (rd l (w - 1)) (i + 1)
theorem stepsOf_neg (l : List Int) (h : (List.range l.length).all (inRange l) = true) : ∀ (m : Nat) (w : Int) (i : Nat), 0 < w → w ≤ l.length → (decide (stepsOf l m w i < 0) = !walkOk l m w)
  | 0, w, i, h0, h1 => by simp [stepsOf, walkOk]; omega
  | m + 1, w, i, h0, h1 => by
    have hr := mem_rd (a := w - 1) (by omega) (by omega) h
    unfold stepsOf walkOk
    rw [if_neg (show ¬ w ≤ 0 by omega), decide_eq_true hr, Bool.true_and]
    by_cases e : rd l (w - 1) = 0
    · rw [if_pos e, e, decide_eq_false (by omega)]
      cases m <;> simp [walkOk]
    · rw [if_neg e]
      exact stepsOf_neg l h m _ _ (by omega) (by omega)

theorem impl_steps_l0 (l : List Int) (hl : l.length ≤ 8) (h : (List.range l.length).all (inRange l) = true) (d : Nat) : ∀ (w : Int) (j : Nat), j + d = l.length → 0 < w → w ≤ l.length →
    Ev (fun k => impl_steps.l0 k l w (l.length : Int) (j : Int)) (stepsOf l d w j) := by
  induction d with
  | zero =>
    intro w j hj h0 h1
    refine Ev.step (fun k => impl_steps.l0.eq_2 ..) ?_
    exact Ev.neg (by omega) (Ev.ret rfl)
  | succ d ih =>
    intro w j hj h0 h1
    have hr := mem_rd (a := w - 1) (by omega) (by omega) h
    refine Ev.step (fun k => impl_steps.l0.eq_2 ..) ?_
    rw [wrap_id (n := w - 1) (by omega) (by omega), wrap_add1 (by omega)]
    refine Ev.pos (by omega) (Ev.pos (by omega) (Ev.pos (by omega) (Ev.ite (fun e => ?_) (fun e => ?_))))
    · exact Ev.ret (by unfold stepsOf; rw [if_pos e])
    · exact Ev.eq (ih (rd l (w - 1)) (j + 1) (by omega) (by omega) (by omega)) (by rw [stepsOf, if_neg e])

theorem impl_steps_ev (l : List Int) (hl : l.length ≤ 8) (h : (List.range l.length).all (inRange l) = true) (w : Int) (h0 : 0 < w) (h1 : w ≤ l.length) :
    Ev (fun k => impl_steps.f k l w) (stepsOf l l.length w 0) := by
  unfold impl_steps.f
  exact impl_steps_l0 l hl h l.length w 0 (by omega) h0 h1

theorem impl_TreeOk_l1 (l : List Int) (hl : l.length ≤ 8) (h : (List.range l.length).all (inRange l) = true) (r : Nat) (d : Nat) : ∀ (j : Nat), j + d = l.length →
    Ev (fun k => impl_TreeOk.l1 k l (r : Int) (l.length : Int) (j : Int)) ((List.range' j (l.length - j)).all (fun i => walkOk l l.length ((i : Int) + 1)) && ((r : Int) == 1)) := by
  induction d with
  | zero =>
    intro j hj
    refine Ev.step (fun k => impl_TreeOk.l1.eq_2 ..) ?_
    exact Ev.neg (by omega) (Ev.ret (by rw [show l.length - j = 0 by omega]; rfl))
  | succ d ih =>
    intro j hj
    refine Ev.step (fun k => impl_TreeOk.l1.eq_2 ..) ?_
    rw [wrap_add1 (by omega)]
    refine Ev.pos (by omega) (Ev.bind (impl_steps_ev l hl h _ (by omega) (by omega)) ?_)
    have hs := stepsOf_neg l h l.length ((j + 1 : Nat) : Int) 0 (by omega) (by omega)
    refine Ev.ite (fun e => ?_) (fun e => ?_)
    · rw [decide_eq_true e] at hs
      refine Ev.ret ?_
      rw [all_from _ _ _ (by omega), show walkOk l l.length ((j : Int) + 1) = false by simpa using hs.symm]; rfl
    · rw [decide_eq_false e] at hs
      refine Ev.eq (ih (j + 1) (by omega)) ?_
      rw [all_from _ l.length j (by omega), show walkOk l l.length ((j : Int) + 1) = true by simpa using hs.symm, Bool.true_and]

theorem impl_TreeOk_l0 (l : List Int) (h1 : 1 ≤ l.length) (hl : l.length ≤ 8) (d : Nat) : ∀ (r j : Nat), j + d = l.length → r ≤ j → (∀ i, i < j → inRange l i = true) → r + zerosFrom l j = l.count 0 →
    Ev (fun k => impl_TreeOk.l0 k l (r : Int) l (l.length : Int) (j : Int)) (treeOk l) := by
  induction d with
  | zero =>
    intro r j hj hr hin hz
    have hall : (List.range l.length).all (inRange l) = true := by
      rw [List.all_eq_true]; intro i hi; exact hin i (by have := List.mem_range.mp hi; omega)
    refine Ev.step (fun k => impl_TreeOk.l0.eq_2 ..) ?_
    refine Ev.neg (by omega) (Ev.eq (impl_TreeOk_l1 l hl hall r l.length 0 (by omega)) ?_)
    have hz0 : zerosFrom l j = 0 := by unfold zerosFrom; rw [List.drop_eq_nil_of_le (by omega)]; rfl
    have hrc : r = l.count 0 := by omega
    unfold treeOk
    rw [decide_eq_true (show 1 ≤ l.length ∧ l.length ≤ 8 from ⟨h1, hl⟩), Bool.true_and, Nat.sub_zero, ← List.range_eq_range', hrc]
    congr 1
    · rw [Bool.eq_iff_iff, List.all_eq_true, List.all_eq_true]
      rw [List.all_eq_true] at hall
      constructor
      · intro hw i hi
        have := hall i hi
        unfold inRange at this
        unfold okAt; rw [this, hw i hi]; rfl
      · intro hw i hi
        have := hw i hi
        unfold okAt at this
        exact (Bool.and_eq_true_iff.mp this).2
    · rw [Bool.eq_iff_iff]; simp; omega
  | succ d ih =>
    intro r j hj hr hin hz
    refine Ev.step (fun k => impl_TreeOk.l0.eq_2 ..) ?_
    have hbad : ¬ (0 ≤ rd l (j : Int) ∧ rd l (j : Int) ≤ (l.length : Int)) → treeOk l = false := by
      intro hb
      unfold treeOk
      have : (List.range l.length).all (okAt l) = false := by
        rw [List.all_eq_false]
        exact ⟨j, by simp; omega, by unfold okAt; rw [decide_eq_false hb]; simp⟩
      rw [this]; simp
    refine Ev.pos (by omega) (Ev.pos (by omega) (Ev.pos (by omega) (Ev.ite (fun e => ?_) (fun e => ?_))))
    · refine Ev.step (fun k => impl_TreeOk.j2.eq_2 ..) (Ev.pos rfl (Ev.ret ?_))
      exact (hbad (by omega)).symm
    · refine Ev.step (fun k => impl_TreeOk.j2.eq_2 ..) (Ev.ite (fun e2 => ?_) (fun e2 => ?_))
      · have e2' := of_decide_eq_true e2
        exact Ev.ret (hbad (by omega)).symm
      · have e2' : ¬ rd l (j : Int) > (l.length : Int) := by simpa using e2
        have hin' : ∀ i, i < j + 1 → inRange l i = true := by
          intro i hi
          by_cases e' : i = j
          · subst e'; unfold inRange; exact decide_eq_true (by omega)
          · exact hin i (by omega)
        have hzs := zerosFrom_succ l j (by omega)
        rw [wrap_add1 (n := j) (by omega)]
        refine Ev.ite (fun e3 => ?_) (fun e3 => ?_)
        · rw [wrap_add1 (by omega)]
          rw [if_pos e3] at hzs
          exact ih (r + 1) (j + 1) (by omega) (by omega) hin' (by omega)
        · rw [if_neg e3] at hzs
          exact ih r (j + 1) (by omega) (by omega) hin' (by omega)

theorem impl_TreeOk_ev (l : List Int) : Ev (fun k => impl_TreeOk.f k l) (treeOk l) := by
  unfold impl_TreeOk.f
  have hbad : ¬ (1 ≤ l.length ∧ l.length ≤ 8) → treeOk l = false := by
    intro hb; unfold treeOk; rw [decide_eq_false hb]; rfl
  refine Ev.ite (fun e => ?_) (fun e => ?_)
  · refine Ev.step (fun k => impl_TreeOk.j0.eq_2 ..) (Ev.pos rfl (Ev.ret ?_))
    exact (hbad (by omega)).symm
  · refine Ev.step (fun k => impl_TreeOk.j0.eq_2 ..) (Ev.ite (fun e2 => ?_) (fun e2 => ?_))
    · have e2' := of_decide_eq_true e2
      exact Ev.ret (hbad (by omega)).symm
    · have e2' : ¬ (l.length : Int) > 8 := by simpa using e2
      exact impl_TreeOk_l0 l (by omega) (by omega) l.length 0 0 (by omega) (by omega) (fun i h => by omega) (by simp [zerosFrom])

theorem alive_ev : Ev (fun k => laws_alive.f k) true := by
  unfold laws_alive.f
  refine Ev.bind (impl_TreeOk_ev _) (Ev.pos (by decide +kernel) (Ev.bind (impl_TreeOk_ev _) (Ev.ret (by decide +kernel))))

/-! the reader of codes -/
theorem xor_small (a b : Int) (ha : 0 ≤ a) (ha2 : a < 4294967296) (hb : 0 ≤ b) (hb2 : b < 4294967296) : 0 ≤ Go.bits .xor .i64 a b ∧ Go.bits .xor .i64 a b < 4294967296 := by
  obtain ⟨x, rfl⟩ : ∃ x : Nat, a = x := ⟨a.toNat, by omega⟩
  obtain ⟨y, rfl⟩ : ∃ y : Nat, b = y := ⟨b.toNat, by omega⟩
  have h := Nat.xor_lt_two_pow (n := 32) (show x < 2 ^ 32 by omega) (show y < 2 ^ 32 by omega)
  have e : Go.bits .xor .i64 (x : Int) (y : Int) = ((x ^^^ y : Nat) : Int) := by
    have hx : x % 2 ^ 64 = x := Nat.mod_eq_of_lt (by omega)
    have hy : y % 2 ^ 64 = y := Nat.mod_eq_of_lt (by omega)
    have hv : (BitVec.ofNat 64 x ^^^ BitVec.ofNat 64 y).toNat = x ^^^ y := by rw [BitVec.toNat_xor, BitVec.toNat_ofNat, BitVec.toNat_ofNat, hx, hy]
    simp only [Go.bits, BitVec.ofInt_natCast, IntKind.bits]
    rw [i64_w]
    show wrap64 (((BitVec.ofNat 64 x ^^^ BitVec.ofNat 64 y).toNat : Nat) : Int) = _
    rw [hv]
    exact wrap_id (n := ((x ^^^ y : Nat) : Int)) (by omega) (by omega)
  rw [e]
  omega
structure Bytes (b : List Int) : Prop where
  small : ∀ x ∈ b, 0 ≤ x ∧ x ≤ 255
  len : b.length ≤ 2000
theorem Bytes.rd_le {b : List Int} (h : Bytes b) (i : Int) : 0 ≤ rd b i ∧ rd b i ≤ 255 := by
  unfold rd
  by_cases hi : i.toNat < b.length
  · have e : b.getD i.toNat 0 = b[i.toNat] := by simp [hi]
    rw [e]; exact h.small _ (List.getElem_mem hi)
  · have e : b.getD i.toNat 0 = 0 := by simp [Nat.le_of_not_lt hi]
    rw [e]; omega
theorem pick_ev {b : List Int} (hb : Bytes b) (p n : Int) (h0 : 0 ≤ p) (h1 : p ≤ 1000000) (hn : 1 ≤ n) (hn2 : n ≤ 1000000) :
    ∃ v, 0 ≤ v ∧ v < n ∧ Ev (fun k => spec_l20Rd_pick.f k b p n) (v, p + 1) := by
  unfold spec_l20Rd_pick.f
  have hl := hb.len
  rw [wrap_id (n := p + 1) (by omega) (by omega)]
  by_cases hz : b.length = 0
  · refine ⟨0, by omega, by omega, Ev.neg (by omega) (Ev.step (fun k => spec_l20Rd_pick.j0.eq_2 ..) (Ev.pos (by rw [hz]; rfl) (Ev.ret rfl)))⟩
  · by_cases hp : p < b.length
    · have hr := hb.rd_le p
      refine ⟨Int.tmod (rd b p) n, Int.tmod_nonneg _ hr.1, Int.tmod_lt_of_pos _ (by omega), ?_⟩
      refine Ev.neg (by omega) (Ev.step (fun k => spec_l20Rd_pick.j0.eq_2 ..) (Ev.neg (by simp; intro e; simp [e] at hz) ?_))
      rw [wrap_id (n := p + 1 - 1) (by omega) (by omega), show p + 1 - 1 = p by omega, wrap_id (n := rd b p) (by omega) (by omega)]
      exact Ev.pos hp (Ev.pos h0 (Ev.neg (by omega) (Ev.ret rfl)))
    · have e0 : wrap64 (p + 1 - 1) = p := by rw [wrap_id (by omega) (by omega)]; omega
      have hm1 : 0 ≤ Int.tmod p (b.length : Int) ∧ Int.tmod p (b.length : Int) < b.length := ⟨Int.tmod_nonneg _ h0, Int.tmod_lt_of_pos _ (by omega)⟩
      have e1 : wrap64 (wrap64 (p * 7) + 3) = p * 7 + 3 := by rw [wrap_id (n := p * 7) (by omega) (by omega), wrap_id (by omega) (by omega)]
      have hm2 : 0 ≤ Int.tmod (p * 7 + 3) (b.length : Int) ∧ Int.tmod (p * 7 + 3) (b.length : Int) < b.length := ⟨Int.tmod_nonneg _ (by omega), Int.tmod_lt_of_pos _ (by omega)⟩
      have hr1 := hb.rd_le (Int.tmod p (b.length : Int))
      have hr2 := hb.rd_le (Int.tmod (p * 7 + 3) (b.length : Int))
      have hd : 0 ≤ Int.tdiv p (b.length : Int) ∧ Int.tdiv p (b.length : Int) ≤ p := by
        rw [Int.tdiv_eq_ediv_of_nonneg h0]
        exact ⟨Int.ediv_nonneg h0 (by omega), Int.ediv_le_self _ h0⟩
      obtain ⟨u1, hu1⟩ : ∃ u, u = rd b (Int.tmod p (b.length : Int)) := ⟨_, rfl⟩
      obtain ⟨u2, hu2⟩ : ∃ u, u = rd b (Int.tmod (p * 7 + 3) (b.length : Int)) := ⟨_, rfl⟩
      obtain ⟨q, hq⟩ : ∃ u, u = Int.tdiv p (b.length : Int) := ⟨_, rfl⟩
      rw [← hu1] at hr1
      rw [← hu2] at hr2
      rw [← hq] at hd
      obtain ⟨x, hx⟩ : ∃ x, x = wrap64 (wrap64 (wrap64 (wrap64 (wrap64 u1 * 131) + wrap64 (wrap64 u2 * 1117)) + wrap64 (p * 29)) + wrap64 (wrap64 q * 53)) := ⟨_, rfl⟩
      have hxb : 0 ≤ x ∧ x < 4294967296 := by
        rw [hx, wrap_id (n := u1) (by omega) (by omega), wrap_id (n := u2) (by omega) (by omega), wrap_id (n := u1 * 131) (by omega) (by omega), wrap_id (n := u2 * 1117) (by omega) (by omega), wrap_id (n := u1 * 131 + _) (by omega) (by omega), wrap_id (n := p * 29) (by omega) (by omega), wrap_id (n := q) (by omega) (by omega), wrap_id (n := q * 53) (by omega) (by omega), wrap_id (n := u1 * 131 + u2 * 1117 + p * 29) (by omega) (by omega), wrap_id (by omega) (by omega)]
        omega
      have hy : 0 ≤ wrap64 (Int.tdiv x 64) ∧ wrap64 (Int.tdiv x 64) < 4294967296 := by
        rw [Int.tdiv_eq_ediv_of_nonneg hxb.1, wrap_id (by omega) (by omega)]
        omega
      have hz2 := xor_small x (wrap64 (Int.tdiv x 64)) hxb.1 hxb.2 hy.1 hy.2
      refine ⟨Int.tmod (Go.bits .xor .i64 x (wrap64 (Int.tdiv x 64))) n, Int.tmod_nonneg _ hz2.1, Int.tmod_lt_of_pos _ (by omega), ?_⟩
      refine Ev.neg (by omega) (Ev.step (fun k => spec_l20Rd_pick.j0.eq_2 ..) (Ev.neg (by simp; intro e; simp [e] at hz) ?_))
      rw [e0, e1, ← hu1, ← hu2, ← hq, ← hx]
      exact Ev.neg hp (Ev.neg (by omega) (Ev.pos hm1.1 (Ev.pos hm1.2 (Ev.pos hm2.1 (Ev.pos hm2.2 (Ev.neg (by omega) (Ev.ret rfl)))))))
theorem l20Open_ev (l : List Int) (hb : ∀ x ∈ l, (Lit.int .u8 x).wf = true) : ∃ b, Bytes b ∧ spec_l20Open.f l = some (b, 0) := by
  have hs : ∀ x ∈ l, 0 ≤ x ∧ x ≤ 255 := by
    intro x hx
    have := hb x hx
    simp [Lit.wf, IntKind.min, IntKind.max, IntKind.signed, IntKind.bits] at this
    omega
  unfold spec_l20Open.f
  by_cases h : (l.length : Int) > 2000
  · rw [if_pos h, if_pos (by omega)]
    exact ⟨l.take 2000, ⟨fun x hx => hs x (List.mem_of_mem_take hx), by simp; omega⟩, rfl⟩
  · rw [if_neg h]
    exact ⟨l, ⟨hs, by omega⟩, rfl⟩

theorem odd_ev {b : List Int} (hb : Bytes b) (p n : Int) (h0 : 0 ≤ p) (h1 : p ≤ 1000000) (hn : 1 ≤ n) (hn2 : n ≤ 1000000) :
    ∃ v, Ev (fun k => spec_l20Rd_odd.f k b p n) (v, p + 1) := by
  obtain ⟨v, _, _, hv⟩ := pick_ev hb p n h0 h1 hn hn2
  unfold spec_l20Rd_odd.f
  exact ⟨_, Ev.pos (by omega) (Ev.bind hv (Ev.ret rfl))⟩

/-! a row of rows, read -/
theorem rd1_nat (xs : List (List Int)) (j : Nat) : rd_L1 xs (j : Int) = xs.getD j [] := by simp [rd_L1]

/-! scores, as they are drawn -/
def Drawn (s : List (List Int)) (p : Int) : Prop := s.length ≤ 5 ∧ (∀ row ∈ s, row.length ≤ 6) ∧ 0 ≤ p ∧ p ≤ 200
theorem mem_row {s : List (List Int)} {i : Nat} (hi : i < s.length) : rd_L1 s (i : Int) ∈ s := by
  rw [rd1_nat, List.getD_eq_getElem?_getD, List.getElem?_eq_getElem hi]; exact List.getElem_mem ..
theorem scores_l1 {b : List Int} (hb : Bytes b) (n many high : Int) (hm : 1 ≤ many) (hm2 : many ≤ 5) (hh : 1 ≤ high) (hh2 : high ≤ 100) (x7 : List (List Int)) (x8 : Int) (h80 : 0 ≤ x8) (h8 : x8 < many) (hl : (x7.length : Int) = x8)
    (next : ∀ (row : List Int) (p : Int), (row.length : Int) = many + 1 → 0 ≤ p → p ≤ 100 + 10 * (x8 + 1) → ∃ r p', Ev (fun k => spec_l20Scores.l0 k n many high (x7 ++ [row]) (x8 + 1) b p) (r, p') ∧ Drawn r p') (d : Nat) :
    ∀ (x9 : List Int) (x10 p : Int), x10 + d = many + 1 → (x9.length : Int) = x10 → 0 ≤ p → p ≤ 100 + 10 * x8 + x10 → ∃ r p', Ev (fun k => spec_l20Scores.l1 k n many high x7 x8 x9 x10 b p) (r, p') ∧ Drawn r p' := by
  induction d with
  | zero =>
    intro x9 x10 p h10 h9 hp hp2
    obtain ⟨r, p', h1, h2⟩ := next x9 p (by omega) hp (by omega)
    refine ⟨r, p', Ev.step (fun k => spec_l20Scores.l1.eq_2 ..) (Ev.neg (by omega) (Ev.pos (by omega) ?_)), h2⟩
    rw [wrap_id (by omega) (by omega)]
    exact h1
  | succ d ih =>
    intro x9 x10 p h10 h9 hp hp2
    obtain ⟨v, _, _, hv⟩ := pick_ev hb p high hp (by omega) hh (by omega)
    obtain ⟨r, p', h1, h2⟩ := ih (x9 ++ [v]) (x10 + 1) (p + 1) (by omega) (by simp; omega) (by omega) (by omega)
    refine ⟨r, p', Ev.step (fun k => spec_l20Scores.l1.eq_2 ..) (Ev.pos (by omega) (Ev.bind hv (Ev.pos (by omega) ?_))), h2⟩
    rw [wrap_id (by omega) (by omega)]
    exact h1
theorem scores_l0 {b : List Int} (hb : Bytes b) (n many high : Int) (hn : 1 ≤ n) (hn2 : n ≤ 1000) (hm : 1 ≤ many) (hm2 : many ≤ 5) (hh : 1 ≤ high) (hh2 : high ≤ 100) (d : Nat) :
    ∀ (x7 : List (List Int)) (x8 p : Int), x8 + d = many → 0 ≤ x8 → (x7.length : Int) = x8 → (∀ row ∈ x7, (row.length : Int) = many + 1) → 0 ≤ p → p ≤ 100 + 10 * x8 →
    ∃ r p', Ev (fun k => spec_l20Scores.l0 k n many high x7 x8 b p) (r, p') ∧ Drawn r p' := by
  induction d with
  | zero =>
    intro x7 x8 p h8 h80 hl hr hp hp2
    have hsm : ∀ row ∈ x7, row.length ≤ 6 := fun row hrow => by have := hr row hrow; omega
    have h0 := hr _ (mem_row (s := x7) (i := 0) (by omega))
    have hset : ∀ row : List Int, row.length ≤ 6 → ∀ q : Int, 0 ≤ q → q ≤ 200 → Drawn (x7.set 0 row) q := by
      intro row hrow q hq hq2
      refine ⟨by rw [List.length_set]; omega, fun z hz => ?_, hq, hq2⟩
      rcases List.mem_or_eq_of_mem_set hz with h | h
      · exact hsm z h
      · rw [h]; exact hrow
    obtain ⟨o, ho⟩ := odd_ev hb p n hp (by omega) hn (by omega)
    by_cases ho1 : o = true
    · obtain ⟨u, hu0, hu1, hu⟩ := pick_ev hb (p + 1) 3 (by omega) (by omega) (by omega) (by omega)
      by_cases e0 : u = 0
      · exact ⟨[], p + 1 + 1, Ev.step (fun k => spec_l20Scores.l0.eq_2 ..) (Ev.neg (by omega) (Ev.bind ho (Ev.pos ho1 (Ev.bind hu (Ev.pos e0 (Ev.ret rfl)))))), by simp, by simp, by omega, by omega⟩
      · by_cases e1 : u = 1
        · refine ⟨_, p + 1 + 1, Ev.step (fun k => spec_l20Scores.l0.eq_2 ..) (Ev.neg (by omega) (Ev.bind ho (Ev.pos ho1 (Ev.bind hu (Ev.neg e0 (Ev.pos e1 (Ev.pos (by omega) (Ev.pos ?_ (Ev.ret rfl))))))))), hset _ ?_ _ (by omega) (by omega)⟩
          · rw [show (0 : Int) = ((0 : Nat) : Int) from rfl]; omega
          · rw [List.length_drop, show (0 : Int) = ((0 : Nat) : Int) from rfl]; omega
        · refine ⟨_, p + 1 + 1, Ev.step (fun k => spec_l20Scores.l0.eq_2 ..) (Ev.neg (by omega) (Ev.bind ho (Ev.pos ho1 (Ev.bind hu (Ev.neg e0 (Ev.neg e1 (Ev.pos (by omega) (Ev.pos ?_ (Ev.ret rfl))))))))), hset _ ?_ _ (by omega) (by omega)⟩
          · rw [show (0 : Int) = ((0 : Nat) : Int) from rfl]; omega
          · rw [List.length_set, show (0 : Int) = ((0 : Nat) : Int) from rfl]; omega
    · exact ⟨x7, p + 1, Ev.step (fun k => spec_l20Scores.l0.eq_2 ..) (Ev.neg (by omega) (Ev.bind ho (Ev.neg ho1 (Ev.ret rfl)))), by omega, hsm, by omega, by omega⟩
  | succ d ih =>
    intro x7 x8 p h8 h80 hl hr hp hp2
    obtain ⟨r, p', h1, h2⟩ := scores_l1 hb n many high hm hm2 hh hh2 x7 x8 h80 (by omega) hl (fun row q hrow hq hq2 => ih (x7 ++ [row]) (x8 + 1) q (by omega) (by omega) (by simp; omega) (fun z hz => by
      rcases List.mem_append.mp hz with h | h
      · exact hr z h
      · rw [List.mem_singleton.mp h]; exact hrow) hq hq2) (many + 1).toNat [] 0 p (by omega) rfl hp (by omega)
    exact ⟨r, p', Ev.step (fun k => spec_l20Scores.l0.eq_2 ..) (Ev.pos (by omega) h1), h2⟩
theorem scores_ev {b : List Int} (hb : Bytes b) (p n : Int) (hp : 0 ≤ p) (hp2 : p ≤ 10) (hn : 1 ≤ n) (hn2 : n ≤ 1000) :
    ∃ r p', Ev (fun k => spec_l20Scores.f k b p n) (r, p') ∧ Drawn r p' := by
  obtain ⟨u, hu0, hu1, hu⟩ := pick_ev hb p 4 hp (by omega) (by omega) (by omega)
  obtain ⟨v, hv0, hv1, hv⟩ := pick_ev hb (p + 1) 6 (by omega) (by omega) (by omega) (by omega)
  obtain ⟨t, ht0, ht1, ht⟩ := pick_ev hb (p + 1 + 1) 3 (by omega) (by omega) (by omega) (by omega)
  have e1 : Int.tdiv v 5 = v / 5 := Int.tdiv_eq_ediv_of_nonneg hv0
  have e2 : wrap64 (wrap64 (1 + u) + wrap64 (Int.tdiv v 5)) = 1 + u + v / 5 := by
    rw [e1, wrap_id (n := 1 + u) (by omega) (by omega), wrap_id (n := v / 5) (by omega) (by omega), wrap_id (by omega) (by omega)]
  have e3 : 1 ≤ rd [3, 10, 21] t ∧ rd [3, 10, 21] t ≤ 100 := by
    have : t = 0 ∨ t = 1 ∨ t = 2 := by omega
    rcases this with rfl | rfl | rfl <;> decide
  obtain ⟨r, p', h1, h2⟩ := scores_l0 hb n (1 + u + v / 5) (rd [3, 10, 21] t) hn hn2 (by omega) (by omega) e3.1 e3.2 (1 + u + v / 5).toNat [] 0 (p + 1 + 1 + 1) (by omega) (by omega) rfl (by simp) (by omega) (by omega)
  refine ⟨r, p', ?_, h2⟩
  unfold spec_l20Scores.f
  refine Ev.bind hu (Ev.bind hv ?_)
  simp only [Option.bind_some]
  refine Ev.bind ht (Ev.pos ht0 (Ev.pos (show t < (3 : Int) by omega) ?_))
  rw [e2]
  exact h1

theorem l1In_eq (a b c : Int) : spec_l1In.f a b c = some (decide (b ≤ a ∧ a ≤ c)) := by
  unfold spec_l1In.f
  split
  · rename_i h; congr 1; rw [decide_eq_decide]; omega
  · rename_i h; congr 1; symm; rw [decide_eq_false_iff_not]; omega

/-! scores -/
def scRow (n : Nat) (row : List Int) : Bool := decide (row.length = n + 1) && row.all (fun x => decide (0 ≤ x ∧ x ≤ 20))
def scoresOk (s : List (List Int)) : Bool := s.all (scRow s.length) && decide (1 ≤ s.length ∧ s.length ≤ 5)
theorem drop_all {α : Type} (p : α → Bool) (l : List α) (z : α) (j : Nat) (h : j < l.length) : (l.drop j).all p = (p (l.getD j z) && (l.drop (j + 1)).all p) := by
  rw [List.drop_eq_getElem_cons h, List.all_cons, List.getD_eq_getElem?_getD, List.getElem?_eq_getElem h]; rfl
theorem spec_ScoresOk_l1 (s : List (List Int)) (j : Nat) (hs : s.length ≤ 1048576) (hj : j < s.length) (hr : (rd_L1 s (j : Int)).length = s.length + 1) (b : Bool)
    (next : Ev (fun k => spec_ScoresOk.l0 k s ((j + 1 : Nat) : Int)) b) (d : Nat) : ∀ (i : Nat), i + d = s.length + 1 →
    Ev (fun k => spec_ScoresOk.l1 k s (j : Int) (i : Int)) (((rd_L1 s (j : Int)).drop i).all (fun x => decide (0 ≤ x ∧ x ≤ 20)) && b) := by
  induction d with
  | zero =>
    intro i hi
    refine Ev.step (fun k => spec_ScoresOk.l1.eq_2 ..) ?_
    refine Ev.pos (by omega) (Ev.pos (by omega) (Ev.neg (by omega) ?_))
    rw [wrap_add1 (by omega)]
    refine Ev.eq next ?_
    rw [List.drop_eq_nil_of_le (by omega)]; rfl
  | succ d ih =>
    intro i hi
    refine Ev.step (fun k => spec_ScoresOk.l1.eq_2 ..) ?_
    refine Ev.pos (by omega) (Ev.pos (by omega) (Ev.pos (by omega) (Ev.pos (by omega) (Ev.bind0 (l1In_eq ..) ?_))))
    rw [drop_all _ _ 0 i (by omega), ← rd_nat]
    refine Ev.ite (fun hc => ?_) (fun hc => ?_)
    · rw [wrap_add1 (by omega)]
      refine Ev.eq (ih (i + 1) (by omega)) ?_
      rw [hc, Bool.true_and]
    · refine Ev.ret ?_
      rw [show decide (0 ≤ rd (rd_L1 s (j : Int)) (i : Int) ∧ rd (rd_L1 s (j : Int)) (i : Int) ≤ 20) = false by simpa using hc]; rfl
theorem spec_ScoresOk_l0 (s : List (List Int)) (hs : s.length ≤ 1048576) (d : Nat) : ∀ (j : Nat), j + d = s.length →
    Ev (fun k => spec_ScoresOk.l0 k s (j : Int)) ((s.drop j).all (scRow s.length) && decide (1 ≤ s.length ∧ s.length ≤ 5)) := by
  induction d with
  | zero =>
    intro j hj
    refine Ev.step (fun k => spec_ScoresOk.l0.eq_2 ..) ?_
    refine Ev.neg (by omega) (Ev.bind0 (l1In_eq ..) (Ev.ret ?_))
    rw [List.drop_eq_nil_of_le (by omega), List.all_nil, Bool.true_and, decide_eq_decide]
    omega
  | succ d ih =>
    intro j hj
    refine Ev.step (fun k => spec_ScoresOk.l0.eq_2 ..) ?_
    rw [drop_all _ _ [] j (by omega), ← rd1_nat]
    refine Ev.pos (by omega) (Ev.pos (by omega) ?_)
    rw [wrap_add1 (by omega)]
    refine Ev.ite (fun hc => ?_) (fun hc => ?_)
    · refine Ev.eq (spec_ScoresOk_l1 s j hs (by omega) (by omega) _ (ih (j + 1) (by omega)) (s.length + 1) 0 (by omega)) ?_
      unfold scRow
      rw [decide_eq_true (show (rd_L1 s (j : Int)).length = s.length + 1 by omega), Bool.true_and, List.drop_zero, Bool.and_assoc]
    · refine Ev.ret ?_
      unfold scRow
      rw [decide_eq_false (show ¬ (rd_L1 s (j : Int)).length = s.length + 1 by omega)]; rfl
theorem spec_ScoresOk_ev (s : List (List Int)) (hs : s.length ≤ 1048576) : Ev (fun k => spec_ScoresOk.f k s) (scoresOk s) := by
  unfold spec_ScoresOk.f
  exact spec_ScoresOk_l0 s hs s.length 0 (by omega)
theorem impl_ScoresOk_l1 (s : List (List Int)) (j : Nat) (hs : s.length ≤ 1048576) (hj : j < s.length) (row : List Int) (hr : row.length = s.length + 1) (b : Bool)
    (next : Ev (fun k => impl_ScoresOk.l0 k s s (s.length : Int) ((j + 1 : Nat) : Int)) b) (d : Nat) : ∀ (i : Nat), i + d = s.length + 1 →
    Ev (fun k => impl_ScoresOk.l1 k s s (s.length : Int) (j : Int) row (row.length : Int) (i : Int)) ((row.drop i).all (fun x => decide (0 ≤ x ∧ x ≤ 20)) && b) := by
  induction d with
  | zero =>
    intro i hi
    refine Ev.step (fun k => impl_ScoresOk.l1.eq_2 ..) ?_
    refine Ev.neg (by omega) ?_
    rw [wrap_add1 (by omega)]
    refine Ev.eq next ?_
    rw [List.drop_eq_nil_of_le (by omega)]; rfl
  | succ d ih =>
    intro i hi
    refine Ev.step (fun k => impl_ScoresOk.l1.eq_2 ..) ?_
    refine Ev.pos (by omega) (Ev.pos (by omega) (Ev.pos (by omega) ?_))
    rw [drop_all _ _ 0 i (by omega), ← rd_nat]
    refine Ev.ite (fun hc => ?_) (fun hc => Ev.ite (fun hc2 => ?_) (fun hc2 => ?_))
    · refine Ev.ret ?_
      rw [decide_eq_false (by omega)]; rfl
    · refine Ev.ret ?_
      rw [decide_eq_false (by omega)]; rfl
    · rw [wrap_add1 (by omega)]
      refine Ev.eq (ih (i + 1) (by omega)) ?_
      rw [decide_eq_true (show 0 ≤ rd row (i : Int) ∧ rd row (i : Int) ≤ 20 by omega), Bool.true_and]
theorem impl_ScoresOk_l0 (s : List (List Int)) (hs : s.length ≤ 1048576) (d : Nat) : ∀ (j : Nat), j + d = s.length →
    Ev (fun k => impl_ScoresOk.l0 k s s (s.length : Int) (j : Int)) ((s.drop j).all (scRow s.length) && decide (1 ≤ s.length ∧ s.length ≤ 5)) := by
  induction d with
  | zero =>
    intro j hj
    refine Ev.step (fun k => impl_ScoresOk.l0.eq_2 ..) ?_
    refine Ev.neg (by omega) ?_
    rw [List.drop_eq_nil_of_le (by omega), List.all_nil, Bool.true_and]
    refine Ev.ite (fun h => Ev.ret ?_) (fun h => Ev.ret ?_)
    · rw [decide_eq_decide]; omega
    · rw [decide_eq_false (by omega)]
  | succ d ih =>
    intro j hj
    refine Ev.step (fun k => impl_ScoresOk.l0.eq_2 ..) ?_
    rw [drop_all _ _ [] j (by omega), ← rd1_nat]
    refine Ev.pos (by omega) (Ev.pos (by omega) (Ev.pos (by omega) ?_))
    rw [wrap_add1 (by omega)]
    refine Ev.ite (fun hc => ?_) (fun hc => ?_)
    · refine Ev.eq (impl_ScoresOk_l1 s j hs (by omega) _ (by omega) _ (ih (j + 1) (by omega)) (s.length + 1) 0 (by omega)) ?_
      unfold scRow
      rw [decide_eq_true (show (rd_L1 s (j : Int)).length = s.length + 1 by omega), Bool.true_and, List.drop_zero, Bool.and_assoc]
    · refine Ev.ret ?_
      unfold scRow
      rw [decide_eq_false (show ¬ (rd_L1 s (j : Int)).length = s.length + 1 by omega)]; rfl
theorem impl_ScoresOk_ev (s : List (List Int)) (hs : s.length ≤ 1048576) : Ev (fun k => impl_ScoresOk.f k s) (scoresOk s) := by
  unfold impl_ScoresOk.f
  exact impl_ScoresOk_l0 s hs s.length 0 (by omega)

theorem FnScoresOk : laws_FnScoresOk.Pure := by
  intro l hl hl2 hb
  refine Ev.rounds (g := fun k => laws_FnScoresOk.f k l) ?_
  unfold laws_FnScoresOk.f
  refine Ev.ite (fun _ => Ev.ret rfl) (fun _ => ?_)
  obtain ⟨b, hb1, hb2⟩ := l20Open_ev l hb
  obtain ⟨s, p, hs, hd⟩ := scores_ev hb1 0 2 (by omega) (by omega) (by omega) (by omega)
  obtain ⟨d1, d2, d3, d4⟩ := hd
  have hdraw : Ev (fun k => spec_DrawScoresOk.f k l) s := by
    unfold spec_DrawScoresOk.f
    exact Ev.bind0 hb2 (Ev.bind hs (Ev.ret rfl))
  have hlen : s.length ≤ 1048576 := by omega
  refine Ev.bind hdraw (Ev.bind (impl_ScoresOk_ev s hlen) (Ev.bind (spec_ScoresOk_ev s hlen) (Ev.neg (by simp) ?_)))
  refine Ev.bind (impl_ScoresOk_ev [[0, 0]] (by simp)) (Ev.pos (by decide) ?_)
  refine Ev.bind (impl_ScoresOk_ev [[20, 0]] (by simp)) (Ev.pos (by decide) ?_)
  refine Ev.bind (impl_ScoresOk_ev [] (by simp)) (Ev.neg (by decide) ?_)
  refine Ev.bind (impl_ScoresOk_ev [[0]] (by simp)) (Ev.neg (by decide) ?_)
  exact Ev.bind alive_ev (Ev.ret rfl)

end Go.Proofs.Ytndgogphgeefaaa.Pure
