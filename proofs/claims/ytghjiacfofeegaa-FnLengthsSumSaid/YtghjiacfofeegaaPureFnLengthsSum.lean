/- The plain statement of FnLengthsSum: the printed functions answer true for all arguments within the printed bounds; no other conditions. -/
import Derived.Test.YtghjiacfofeegaaLZx5
import Derived.ChangeSlices
import Derived.SizedLaws
import Derived.Test.YtghjiacfofeegaaUSized
namespace Go.Proofs.Ytghjiacfofeegaa.Pure
open Go.RowKit Go.Proofs.Ytghjiacfofeegaa.LZ Go.Proofs.YtghjiacfofeegaaV.PrintWords Go.Proofs.YtghjiacfofeegaaV.PrintLast
set_option linter.unusedVariables false
set_option linter.unusedSimpArgs false

theorem Ev.ret {α : Type} {r r' : α} (h : r = r') : Ev (fun _ => some r) r' := ⟨0, fun _ _ => by rw [h]⟩
theorem Ev.pos {α : Type} {c : Prop} [Decidable c] {g f : Nat → Option α} {r : α} (h : c) (k : Ev g r) : Ev (fun n => if c then g n else f n) r := by
  simpa only [if_pos h] using k
theorem Ev.neg {α : Type} {c : Prop} [Decidable c] {g f : Nat → Option α} {r : α} (h : ¬ c) (k : Ev f r) : Ev (fun n => if c then g n else f n) r := by
  simpa only [if_neg h] using k
theorem Ev.ite {α : Type} {c : Prop} [Decidable c] {g f : Nat → Option α} {r : α} (h : c → Ev g r) (k : ¬ c → Ev f r) : Ev (fun n => if c then g n else f n) r := by
  by_cases hc : c
  · exact Ev.pos hc (h hc)
  · exact Ev.neg hc (k hc)
theorem Ev.bind0 {α β : Type} {o : Option α} {f : Nat → α → Option β} {a : α} {r : β} (h : o = some a) (k : Ev (fun n => f n a) r) : Ev (fun n => o.bind (f n)) r := by
  subst h; simpa only [Option.bind_some] using k
theorem Ev.eq {α : Type} {g : Nat → Option α} {r r' : α} (h : Ev g r) (e : r = r') : Ev g r' := e ▸ h
theorem wrap_id {n : Int} (h0 : -9223372036854775808 ≤ n) (h1 : n < 9223372036854775808) : wrap64 n = n := by
  unfold wrap64; omega
theorem wrap_add1 {n : Nat} (h : n < 1099511627776) : wrap64 ((n : Int) + 1) = ((n + 1 : Nat) : Int) := by
  unfold wrap64; omega
theorem rd_nat (l : List Int) (j : Nat) : rd l (j : Int) = l.getD j 0 := by simp [rd]

open Go.ChangeShapes Go.WideShapes in
/-- the printed row names this lemma so: it is the words' own -/
theorem _root_.Go.Proofs.Ytghjiacfofeegaa.PrintWords.sized_ints {H : Type} {enc : TypeId × Value → H} {P : Program} {W : World} {base : Nat} {spare : Nat → Bool} {held : Bool} {t e : TypeId} {k : IntKind} {a : Option Addr} {len cap : Nat} {d : DataW H} {ps : List MemPlace} {ts : List TypeId} {ds : List (DataW H)} {j : Nat}
    (hsz : (DataW.weightsEach P ts ds).all (· ≤ reachBytes) = true) (ht : ts[j]? = some t) (hd : ds[j]? = some d) (hu : P.underlying t = some (.slice e)) (he : P.underlying e = some (.int k)) (hc : P.cellsOf e = 1) {B : Nat} (hB : P.bytesOf e = B)
    (h : DataW.Trod enc P W base spare held t (.slice a len cap) d ps) : len * B ≤ 140737488351232 :=
  Go.Proofs.YtghjiacfofeegaaV.PrintWords.sized_ints hsz ht hd hu he hc hB h

/-! the reader of codes -/
theorem xor_small (a b : Int) (ha : 0 ≤ a) (ha2 : a < 4294967296) (hb : 0 ≤ b) (hb2 : b < 4294967296) : 0 ≤ Go.bits .xor .i64 a b ∧ Go.bits .xor .i64 a b < 4294967296 := by
  obtain ⟨x, rfl⟩ : ∃ x : Nat, a = x := ⟨a.toNat, by omega⟩
  obtain ⟨y, rfl⟩ : ∃ y : Nat, b = y := ⟨b.toNat, by omega⟩
  have h := Nat.xor_lt_two_pow (n := 32) (show x < 2 ^ 32 by omega) (show y < 2 ^ 32 by omega)
  have e : Go.bits .xor .i64 (x : Int) (y : Int) = ((x ^^^ y : Nat) : Int) := by
    have hx : x % 2 ^ 64 = x := Nat.mod_eq_of_lt (by omega)
    have hy : y % 2 ^ 64 = y := Nat.mod_eq_of_lt (by omega)
    have hv : (BitVec.ofNat 64 x ^^^ BitVec.ofNat 64 y).toNat = x ^^^ y := by rw [BitVec.toNat_xor, BitVec.toNat_ofNat, BitVec.toNat_ofNat, hx, hy]
    simp only [Go.bits, BitVec.ofInt_natCast, IntKind.bits]
    rw [i64_w]
    show wrap64 (((BitVec.ofNat 64 x ^^^ BitVec.ofNat 64 y).toNat : Nat) : Int) = _
    rw [hv]
    exact wrap_id (n := ((x ^^^ y : Nat) : Int)) (by omega) (by omega)
  rw [e]
  omega
structure Bytes (b : List Int) : Prop where
  small : ∀ x ∈ b, 0 ≤ x ∧ x ≤ 255
  len : b.length ≤ 2000
theorem Bytes.rd_le {b : List Int} (h : Bytes b) (i : Int) : 0 ≤ rd b i ∧ rd b i ≤ 255 := by
  unfold rd
  by_cases hi : i.toNat < b.length
  · have e : b.getD i.toNat 0 = b[i.toNat] := by simp [hi]
    rw [e]; exact h.small _ (List.getElem_mem hi)
  · have e : b.getD i.toNat 0 = 0 := by simp [Nat.le_of_not_lt hi]
    rw [e]; omega
theorem pick_ev {b : List Int} (hb : Bytes b) (p n : Int) (h0 : 0 ≤ p) (h1 : p ≤ 1000000) (hn : 1 ≤ n) (hn2 : n ≤ 1000000) :
    ∃ v, 0 ≤ v ∧ v < n ∧ Ev (fun k => spec_l20Rd_pick.f k b p n) (v, p + 1) := by
  unfold spec_l20Rd_pick.f
  have hl := hb.len
  rw [wrap_id (n := p + 1) (by omega) (by omega)]
  by_cases hz : b.length = 0
  · refine ⟨0, by omega, by omega, Ev.neg (by omega) (Ev.step (fun k => spec_l20Rd_pick.j0.eq_2 ..) (Ev.pos (by rw [hz]; rfl) (Ev.ret rfl)))⟩
  · by_cases hp : p < b.length
    · have hr := hb.rd_le p
      refine ⟨Int.tmod (rd b p) n, Int.tmod_nonneg _ hr.1, Int.tmod_lt_of_pos _ (by omega), ?_⟩
      refine Ev.neg (by omega) (Ev.step (fun k => spec_l20Rd_pick.j0.eq_2 ..) (Ev.neg (by simp; intro e; simp [e] at hz) ?_))
      rw [wrap_id (n := p + 1 - 1) (by omega) (by omega), show p + 1 - 1 = p by omega, wrap_id (n := rd b p) (by omega) (by omega)]
      exact Ev.pos hp (Ev.pos h0 (Ev.neg (by omega) (Ev.ret rfl)))
    · have e0 : wrap64 (p + 1 - 1) = p := by rw [wrap_id (by omega) (by omega)]; omega
      have hm1 : 0 ≤ Int.tmod p (b.length : Int) ∧ Int.tmod p (b.length : Int) < b.length := ⟨Int.tmod_nonneg _ h0, Int.tmod_lt_of_pos _ (by omega)⟩
      have e1 : wrap64 (wrap64 (p * 7) + 3) = p * 7 + 3 := by rw [wrap_id (n := p * 7) (by omega) (by omega), wrap_id (by omega) (by omega)]
      have hm2 : 0 ≤ Int.tmod (p * 7 + 3) (b.length : Int) ∧ Int.tmod (p * 7 + 3) (b.length : Int) < b.length := ⟨Int.tmod_nonneg _ (by omega), Int.tmod_lt_of_pos _ (by omega)⟩
      have hr1 := hb.rd_le (Int.tmod p (b.length : Int))
      have hr2 := hb.rd_le (Int.tmod (p * 7 + 3) (b.length : Int))
      have hd : 0 ≤ Int.tdiv p (b.length : Int) ∧ Int.tdiv p (b.length : Int) ≤ p := by
        rw [Int.tdiv_eq_ediv_of_nonneg h0]
        exact ⟨Int.ediv_nonneg h0 (by omega), Int.ediv_le_self _ h0⟩
      obtain ⟨u1, hu1⟩ : ∃ u, u = rd b (Int.tmod p (b.length : Int)) := ⟨_, rfl⟩
      obtain ⟨u2, hu2⟩ : ∃ u, u = rd b (Int.tmod (p * 7 + 3) (b.length : Int)) := ⟨_, rfl⟩
      obtain ⟨q, hq⟩ : ∃ u, u = Int.tdiv p (b.length : Int) := ⟨_, rfl⟩
      rw [← hu1] at hr1
      rw [← hu2] at hr2
      rw [← hq] at hd
      obtain ⟨x, hx⟩ : ∃ x, x = wrap64 (wrap64 (wrap64 (wrap64 (wrap64 u1 * 131) + wrap64 (wrap64 u2 * 1117)) + wrap64 (p * 29)) + wrap64 (wrap64 q * 53)) := ⟨_, rfl⟩
      have hxb : 0 ≤ x ∧ x < 4294967296 := by
        rw [hx, wrap_id (n := u1) (by omega) (by omega), wrap_id (n := u2) (by omega) (by omega), wrap_id (n := u1 * 131) (by omega) (by omega), wrap_id (n := u2 * 1117) (by omega) (by omega), wrap_id (n := u1 * 131 + _) (by omega) (by omega), wrap_id (n := p * 29) (by omega) (by omega), wrap_id (n := q) (by omega) (by omega), wrap_id (n := q * 53) (by omega) (by omega), wrap_id (n := u1 * 131 + u2 * 1117 + p * 29) (by omega) (by omega), wrap_id (by omega) (by omega)]
        omega
      have hy : 0 ≤ wrap64 (Int.tdiv x 64) ∧ wrap64 (Int.tdiv x 64) < 4294967296 := by
        rw [Int.tdiv_eq_ediv_of_nonneg hxb.1, wrap_id (by omega) (by omega)]
        omega
      have hz2 := xor_small x (wrap64 (Int.tdiv x 64)) hxb.1 hxb.2 hy.1 hy.2
      refine ⟨Int.tmod (Go.bits .xor .i64 x (wrap64 (Int.tdiv x 64))) n, Int.tmod_nonneg _ hz2.1, Int.tmod_lt_of_pos _ (by omega), ?_⟩
      refine Ev.neg (by omega) (Ev.step (fun k => spec_l20Rd_pick.j0.eq_2 ..) (Ev.neg (by simp; intro e; simp [e] at hz) ?_))
      rw [e0, e1, ← hu1, ← hu2, ← hq, ← hx]
      exact Ev.neg hp (Ev.neg (by omega) (Ev.pos hm1.1 (Ev.pos hm1.2 (Ev.pos hm2.1 (Ev.pos hm2.2 (Ev.neg (by omega) (Ev.ret rfl)))))))
theorem l20Open_ev (l : List Int) (hb : ∀ x ∈ l, (Lit.int .u8 x).wf = true) : ∃ b, Bytes b ∧ spec_l20Open.f l = some (b, 0) := by
  have hs : ∀ x ∈ l, 0 ≤ x ∧ x ≤ 255 := by
    intro x hx
    have := hb x hx
    simp [Lit.wf, IntKind.min, IntKind.max, IntKind.signed, IntKind.bits] at this
    omega
  unfold spec_l20Open.f
  by_cases h : (l.length : Int) > 2000
  · rw [if_pos h, if_pos (by omega)]
    exact ⟨l.take 2000, ⟨fun x hx => hs x (List.mem_of_mem_take hx), by simp; omega⟩, rfl⟩
  · rw [if_neg h]
    exact ⟨l, ⟨hs, by omega⟩, rfl⟩

/-- whether one comes from a word to 0 within so many steps, over numbers of words or 0 alone -/
def walkOk (l : List Int) : Nat → Int → Bool
  | 0, a => decide (a ≤ 0)
  | m + 1, a => if a ≤ 0 then true else decide (0 ≤ rd l (a - 1) ∧ rd l (a - 1) ≤ l.length) && walkOk l m (rd l (a - 1))
def okAt (l : List Int) (i : Nat) : Bool := decide (0 ≤ rd l i ∧ rd l i ≤ l.length) && walkOk l l.length ((i : Int) + 1)
def zerosFrom (l : List Int) (j : Nat) : Nat := (l.drop j).count 0
def treeOk (l : List Int) : Bool := decide (1 ≤ l.length ∧ l.length ≤ 8) && (List.range l.length).all (okAt l) && decide (l.count 0 = 1)

theorem walkOk_self (l : List Int) (a : Int) (ha : 0 < a) (h : rd l (a - 1) = a) : ∀ m, walkOk l m a = false
  | 0 => by simp [walkOk]; omega
  | m + 1 => by
    unfold walkOk
    rw [if_neg (by omega), h, walkOk_self l a ha h m, Bool.and_false]

theorem zerosFrom_succ (l : List Int) (j : Nat) (h : j < l.length) : zerosFrom l j = (if rd l j = 0 then 1 else 0) + zerosFrom l (j + 1) := by
  unfold zerosFrom
  rw [List.drop_eq_getElem_cons h, List.count_cons]
  have e : rd l j = l[j] := by simp [rd_nat, h]
  rw [e]
  by_cases e : l[j] = 0 <;> simp [e, Nat.add_comm]
theorem zerosFrom_le (l : List Int) (j : Nat) : zerosFrom l j ≤ l.length := by
  unfold zerosFrom
  exact Nat.le_trans List.count_le_length (by simp)

theorem all_from (p : Nat → Bool) (n j : Nat) (h : j < n) : ((List.range' j (n - j)).all p) = (p j && (List.range' (j + 1) (n - (j + 1))).all p) := by
  obtain ⟨d, hd⟩ : ∃ d, n - j = d + 1 := ⟨n - j - 1, by omega⟩
  rw [hd, List.range'_succ, List.all_cons, show n - (j + 1) = d by omega]

def restOk (l : List Int) (r : Nat) (j : Nat) : Bool := (List.range' j (l.length - j)).all (okAt l) && decide (r + zerosFrom l j = 1)
theorem restOk_end (l : List Int) (r : Nat) (j : Nat) (h : j = l.length) : restOk l r j = ((r : Int) == 1) := by
  subst h
  unfold restOk zerosFrom
  simp
  rw [Bool.eq_iff_iff]; simp; omega
theorem restOk_bad (l : List Int) (r : Nat) (j : Nat) (h : j < l.length) (hb : okAt l j = false) : restOk l r j = false := by
  unfold restOk
  rw [all_from _ _ _ h, hb]; rfl
theorem restOk_good (l : List Int) (r : Nat) (j : Nat) (h : j < l.length) (hb : okAt l j = true) : restOk l r j = restOk l (r + if rd l j = 0 then 1 else 0) (j + 1) := by
  unfold restOk
  rw [all_from _ _ _ h, hb, Bool.true_and, zerosFrom_succ l j h, Nat.add_assoc]
theorem restOk_zero (l : List Int) (h : 1 ≤ l.length ∧ l.length ≤ 8) : restOk l 0 0 = treeOk l := by
  unfold restOk treeOk zerosFrom
  rw [decide_eq_true h]
  simp [List.range_eq_range']

def inRange (l : List Int) (i : Nat) : Bool := decide (0 ≤ rd l i ∧ rd l i ≤ l.length)
theorem mem_rd {l : List Int} {a : Int} (h0 : 0 ≤ a) (h1 : a < l.length) (h : (List.range l.length).all (inRange l) = true) : 0 ≤ rd l a ∧ rd l a ≤ l.length := by
  rw [List.all_eq_true] at h
  have := h a.toNat (by simp; omega)
  unfold inRange at this
  rw [show ((a.toNat : Nat) : Int) = a by omega] at this
  exact of_decide_eq_true this
/-- how many steps lead to 0, as the program counts them -/
def stepsOf (l : List Int) : Nat → Int → Nat → Int
  | 0, _, _ => -1
  | m + 1, w, i => if rd l (w - 1) = 0 then i else stepsOf l m (rd l (w - 1)) (i + 1)
theorem stepsOf_neg (l : List Int) (h : (List.range l.length).all (inRange l) = true) : ∀ (m : Nat) (w : Int) (i : Nat), 0 < w → w ≤ l.length → (decide (stepsOf l m w i < 0) = !walkOk l m w)
  | 0, w, i, h0, h1 => by simp [stepsOf, walkOk]; omega
  | m + 1, w, i, h0, h1 => by
    have hr := mem_rd (a := w - 1) (by omega) (by omega) h
    unfold stepsOf walkOk
    rw [if_neg (show ¬ w ≤ 0 by omega), decide_eq_true hr, Bool.true_and]
    by_cases e : rd l (w - 1) = 0
    · rw [if_pos e, e, decide_eq_false (by omega)]
      cases m <;> simp [walkOk]
    · rw [if_neg e]
      exact stepsOf_neg l h m _ _ (by omega) (by omega)

theorem impl_steps_l0 (l : List Int) (hl : l.length ≤ 8) (h : (List.range l.length).all (inRange l) = true) (d : Nat) : ∀ (w : Int) (j : Nat), j + d = l.length → 0 < w → w ≤ l.length →
    Ev (fun k => impl_steps.l0 k l w (l.length : Int) (j : Int)) (stepsOf l d w j) := by
  induction d with
  | zero =>
    intro w j hj h0 h1
    refine Ev.step (fun k => impl_steps.l0.eq_2 ..) ?_
    exact Ev.neg (by omega) (Ev.ret rfl)
  | succ d ih =>
    intro w j hj h0 h1
    have hr := mem_rd (a := w - 1) (by omega) (by omega) h
    refine Ev.step (fun k => impl_steps.l0.eq_2 ..) ?_
    rw [wrap_id (n := w - 1) (by omega) (by omega), wrap_add1 (by omega)]
    refine Ev.pos (by omega) (Ev.pos (by omega) (Ev.pos (by omega) (Ev.ite (fun e => ?_) (fun e => ?_))))
    · exact Ev.ret (by unfold stepsOf; rw [if_pos e])
    · exact Ev.eq (ih (rd l (w - 1)) (j + 1) (by omega) (by omega) (by omega)) (by rw [stepsOf, if_neg e])

theorem impl_steps_ev (l : List Int) (hl : l.length ≤ 8) (h : (List.range l.length).all (inRange l) = true) (w : Int) (h0 : 0 < w) (h1 : w ≤ l.length) :
    Ev (fun k => impl_steps.f k l w) (stepsOf l l.length w 0) := by
  unfold impl_steps.f
  exact impl_steps_l0 l hl h l.length w 0 (by omega) h0 h1

theorem impl_TreeOk_l1 (l : List Int) (hl : l.length ≤ 8) (h : (List.range l.length).all (inRange l) = true) (r : Nat) (d : Nat) : ∀ (j : Nat), j + d = l.length →
    Ev (fun k => impl_TreeOk.l1 k l (r : Int) (l.length : Int) (j : Int)) ((List.range' j (l.length - j)).all (fun i => walkOk l l.length ((i : Int) + 1)) && ((r : Int) == 1)) := by
  induction d with
  | zero =>
    intro j hj
    refine Ev.step (fun k => impl_TreeOk.l1.eq_2 ..) ?_
    exact Ev.neg (by omega) (Ev.ret (by rw [show l.length - j = 0 by omega]; rfl))
  | succ d ih =>
    intro j hj
    refine Ev.step (fun k => impl_TreeOk.l1.eq_2 ..) ?_
    rw [wrap_add1 (by omega)]
    refine Ev.pos (by omega) (Ev.bind (impl_steps_ev l hl h _ (by omega) (by omega)) ?_)
    have hs := stepsOf_neg l h l.length ((j + 1 : Nat) : Int) 0 (by omega) (by omega)
    refine Ev.ite (fun e => ?_) (fun e => ?_)
    · rw [decide_eq_true e] at hs
      refine Ev.ret ?_
      rw [all_from _ _ _ (by omega), show walkOk l l.length ((j : Int) + 1) = false by simpa using hs.symm]; rfl
    · rw [decide_eq_false e] at hs
      refine Ev.eq (ih (j + 1) (by omega)) ?_
      rw [all_from _ l.length j (by omega), show walkOk l l.length ((j : Int) + 1) = true by simpa using hs.symm, Bool.true_and]

theorem impl_TreeOk_l0 (l : List Int) (h1 : 1 ≤ l.length) (hl : l.length ≤ 8) (d : Nat) : ∀ (r j : Nat), j + d = l.length → r ≤ j → (∀ i, i < j → inRange l i = true) → r + zerosFrom l j = l.count 0 →
    Ev (fun k => impl_TreeOk.l0 k l (r : Int) l (l.length : Int) (j : Int)) (treeOk l) := by
  induction d with
  | zero =>
    intro r j hj hr hin hz
    have hall : (List.range l.length).all (inRange l) = true := by
      rw [List.all_eq_true]; intro i hi; exact hin i (by have := List.mem_range.mp hi; omega)
    refine Ev.step (fun k => impl_TreeOk.l0.eq_2 ..) ?_
    refine Ev.neg (by omega) (Ev.eq (impl_TreeOk_l1 l hl hall r l.length 0 (by omega)) ?_)
    have hz0 : zerosFrom l j = 0 := by unfold zerosFrom; rw [List.drop_eq_nil_of_le (by omega)]; rfl
    have hrc : r = l.count 0 := by omega
    unfold treeOk
    rw [decide_eq_true (show 1 ≤ l.length ∧ l.length ≤ 8 from ⟨h1, hl⟩), Bool.true_and, Nat.sub_zero, ← List.range_eq_range', hrc]
    congr 1
    · rw [Bool.eq_iff_iff, List.all_eq_true, List.all_eq_true]
      rw [List.all_eq_true] at hall
      constructor
      · intro hw i hi
        have := hall i hi
        unfold inRange at this
        unfold okAt; rw [this, hw i hi]; rfl
      · intro hw i hi
        have := hw i hi
        unfold okAt at this
        exact (Bool.and_eq_true_iff.mp this).2
    · rw [Bool.eq_iff_iff]; simp; omega
  | succ d ih =>
    intro r j hj hr hin hz
    refine Ev.step (fun k => impl_TreeOk.l0.eq_2 ..) ?_
    have hbad : ¬ (0 ≤ rd l (j : Int) ∧ rd l (j : Int) ≤ (l.length : Int)) → treeOk l = false := by
      intro hb
      unfold treeOk
      have : (List.range l.length).all (okAt l) = false := by
        rw [List.all_eq_false]
        exact ⟨j, by simp; omega, by unfold okAt; rw [decide_eq_false hb]; simp⟩
      rw [this]; simp
    refine Ev.pos (by omega) (Ev.pos (by omega) (Ev.pos (by omega) (Ev.ite (fun e => ?_) (fun e => ?_))))
    · refine Ev.step (fun k => impl_TreeOk.j2.eq_2 ..) (Ev.pos rfl (Ev.ret ?_))
      exact (hbad (by omega)).symm
    · refine Ev.step (fun k => impl_TreeOk.j2.eq_2 ..) (Ev.ite (fun e2 => ?_) (fun e2 => ?_))
      · have e2' := of_decide_eq_true e2
        exact Ev.ret (hbad (by omega)).symm
      · have e2' : ¬ rd l (j : Int) > (l.length : Int) := by simpa using e2
        have hin' : ∀ i, i < j + 1 → inRange l i = true := by
          intro i hi
          by_cases e' : i = j
          · subst e'; unfold inRange; exact decide_eq_true (by omega)
          · exact hin i (by omega)
        have hzs := zerosFrom_succ l j (by omega)
        rw [wrap_add1 (n := j) (by omega)]
        refine Ev.ite (fun e3 => ?_) (fun e3 => ?_)
        · rw [wrap_add1 (by omega)]
          rw [if_pos e3] at hzs
          exact ih (r + 1) (j + 1) (by omega) (by omega) hin' (by omega)
        · rw [if_neg e3] at hzs
          exact ih r (j + 1) (by omega) (by omega) hin' (by omega)

theorem impl_TreeOk_ev (l : List Int) : Ev (fun k => impl_TreeOk.f k l) (treeOk l) := by
  unfold impl_TreeOk.f
  have hbad : ¬ (1 ≤ l.length ∧ l.length ≤ 8) → treeOk l = false := by
    intro hb; unfold treeOk; rw [decide_eq_false hb]; rfl
  refine Ev.ite (fun e => ?_) (fun e => ?_)
  · refine Ev.step (fun k => impl_TreeOk.j0.eq_2 ..) (Ev.pos rfl (Ev.ret ?_))
    exact (hbad (by omega)).symm
  · refine Ev.step (fun k => impl_TreeOk.j0.eq_2 ..) (Ev.ite (fun e2 => ?_) (fun e2 => ?_))
    · have e2' := of_decide_eq_true e2
      exact Ev.ret (hbad (by omega)).symm
    · have e2' : ¬ (l.length : Int) > 8 := by simpa using e2
      exact impl_TreeOk_l0 l (by omega) (by omega) l.length 0 0 (by omega) (by omega) (fun i h => by omega) (by simp [zerosFrom])

theorem alive_ev : Ev (fun k => laws_alive.f k) true := by
  unfold laws_alive.f
  refine Ev.bind (impl_TreeOk_ev _) (Ev.pos (by decide +kernel) (Ev.bind (impl_TreeOk_ev _) (Ev.ret (by decide +kernel))))

/-! orders -/
@[reducible] def goodAt (o : List Int) (many : Int) (i : Nat) : Prop := (1 ≤ rd o i ∧ rd o i ≤ many) ∧ ∀ j : Nat, j < i → rd o j ≠ rd o i
def orderOk (o : List Int) (many : Int) : Bool := decide ((1 ≤ many ∧ many ≤ 8) ∧ (o.length : Int) = many ∧ ∀ i : Nat, i < o.length → goodAt o many i)
theorem orderOk_bad {o : List Int} {many : Int} {i : Nat} (hi : i < o.length) (h : ¬ goodAt o many i) : orderOk o many = false := by
  unfold orderOk
  rw [decide_eq_false_iff_not]
  exact fun h2 => h (h2.2.2 i hi)
theorem orderOk_iff {o : List Int} {many : Int} : orderOk o many = true ↔ ((1 ≤ many ∧ many ≤ 8) ∧ (o.length : Int) = many ∧ ∀ i : Nat, i < o.length → goodAt o many i) := by
  unfold orderOk
  rw [decide_eq_true_iff]

/-! folds over places -/
def foldFrom {β : Type} (f : β → Nat → β) (n j : Nat) (b : β) : β := (List.range' j (n - j)).foldl f b
theorem foldFrom_end {β : Type} (f : β → Nat → β) {n j : Nat} (b : β) (h : n ≤ j) : foldFrom f n j b = b := by
  unfold foldFrom; rw [show n - j = 0 by omega]; rfl
theorem foldFrom_step {β : Type} (f : β → Nat → β) {n j : Nat} (b : β) (h : j < n) : foldFrom f n j b = foldFrom f n (j + 1) (f b j) := by
  unfold foldFrom
  obtain ⟨d, hd⟩ : ∃ d, n - j = d + 1 := ⟨n - j - 1, by omega⟩
  rw [hd, List.range'_succ, List.foldl_cons, show n - (j + 1) = d by omega]
theorem mx_max (a b : Int) : mx a b = max a b := by unfold mx; split <;> omega
theorem mn_min (a b : Int) : mn a b = min a b := by unfold mn; split <;> omega
theorem treeOk_len {l : List Int} (h : treeOk l = true) : 1 ≤ l.length ∧ l.length ≤ 8 := by
  unfold treeOk at h
  rw [Bool.and_eq_true, Bool.and_eq_true] at h
  exact of_decide_eq_true h.1.1
theorem treeOk_rd {l : List Int} (h : treeOk l = true) {j : Nat} (hj : j < l.length) : 0 ≤ rd l j ∧ rd l j ≤ l.length := by
  unfold treeOk at h
  rw [Bool.and_eq_true, Bool.and_eq_true] at h
  have := List.all_eq_true.mp h.1.2 j (List.mem_range.mpr hj)
  unfold okAt at this
  rw [Bool.and_eq_true] at this
  exact of_decide_eq_true this.1
theorem treeOk_walk {l : List Int} (h : treeOk l = true) {j : Nat} (hj : j < l.length) : walkOk l l.length ((j : Int) + 1) = true := by
  unfold treeOk at h
  rw [Bool.and_eq_true, Bool.and_eq_true] at h
  have := List.all_eq_true.mp h.1.2 j (List.mem_range.mpr hj)
  unfold okAt at this
  rw [Bool.and_eq_true] at this
  exact this.2
theorem treeOk_ne {l : List Int} (h : treeOk l = true) {j : Nat} (hj : j < l.length) : rd l j ≠ (j : Int) + 1 := by
  intro e
  have := treeOk_walk h hj
  rw [walkOk_self l _ (by omega) (by rw [show (j : Int) + 1 - 1 = (j : Int) by omega]; exact e)] at this
  cases this
theorem treeOk_zero {l : List Int} (h : treeOk l = true) : l.count 0 = 1 := by
  unfold treeOk at h
  rw [Bool.and_eq_true] at h
  exact of_decide_eq_true h.2

/-! a tree in another order -/
def placeOf (o : List Int) (v : Int) : Int := match (List.range o.length).find? (fun i : Nat => decide (rd o i = v)) with | some i => (i : Int) + 1 | none => 0
def putOf (l o : List Int) : List Int := o.map (fun w => placeOf o (rd l (w - 1)))
theorem order_inj {o : List Int} {many : Int} (h : orderOk o many = true) {i j : Nat} (hi : i < o.length) (hj : j < o.length) (e : rd o i = rd o j) : i = j := by
  obtain ⟨_, _, h3⟩ := orderOk_iff.mp h
  rcases Nat.lt_trichotomy i j with h4 | h4 | h4
  · exact absurd e ((h3 j hj).2 i h4)
  · exact h4
  · exact absurd e.symm ((h3 i hi).2 j h4)
theorem placeOf_at {o : List Int} {many : Int} (h : orderOk o many = true) {i : Nat} (hi : i < o.length) : placeOf o (rd o i) = (i : Int) + 1 := by
  unfold placeOf
  cases hf : (List.range o.length).find? (fun k : Nat => decide (rd o k = rd o i)) with
  | some k =>
    have h1 := List.mem_range.mp (List.mem_of_find?_eq_some hf)
    have h2 : rd o k = rd o i := by simpa using List.find?_some hf
    rw [order_inj h h1 hi h2]
  | none => exact absurd (decide_eq_true rfl) (List.find?_eq_none.mp hf i (List.mem_range.mpr hi))
theorem placeOf_none {o : List Int} {v : Int} (h : ∀ i : Nat, i < o.length → rd o i ≠ v) : placeOf o v = 0 := by
  unfold placeOf
  cases hf : (List.range o.length).find? (fun k : Nat => decide (rd o k = v)) with
  | some k => exact absurd (by simpa using List.find?_some hf) (h k (List.mem_range.mp (List.mem_of_find?_eq_some hf)))
  | none => rfl
/-- the places, as far as they are told -/
def PlacesTo (o : List Int) (j : Nat) (y : List Int) : Prop := ∀ v : Nat, v < y.length → y[v]? = some (match (List.range j).find? (fun i : Nat => decide (rd o i = (v : Int))) with | some i => (i : Int) + 1 | none => 0)
theorem find_range_succ (p : Nat → Bool) (j : Nat) : (List.range (j + 1)).find? p = ((List.range j).find? p).or (if p j then some j else none) := by
  rw [List.range_succ, List.find?_append]
  congr 1
  by_cases h : p j = true
  · rw [if_pos h, List.find?_cons_of_pos h]
  · rw [if_neg h, List.find?_cons_of_neg h]; rfl
theorem PlacesTo.set {o : List Int} {many : Int} (h : orderOk o many = true) {j : Nat} (hj : j < o.length) {y : List Int} (hy : PlacesTo o j y) : PlacesTo o (j + 1) (y.set (rd o j).toNat ((j : Int) + 1)) := by
  have hg := (orderOk_iff.mp h).2.2 j hj
  intro v hv
  rw [List.length_set] at hv
  rw [find_range_succ]
  by_cases e : v = (rd o j).toNat
  · subst e
    rw [List.getElem?_set_self hv]
    have e2 : ((rd o j).toNat : Int) = rd o j := by omega
    rw [e2]
    have hn : (List.range j).find? (fun i : Nat => decide (rd o i = rd o j)) = none := by
      rw [List.find?_eq_none]
      intro i hi
      simp [hg.2 i (List.mem_range.mp hi)]
    rw [hn]
    simp
  · rw [List.getElem?_set_ne (by omega), hy v hv]
    have e2 : ¬ (rd o j = (v : Int)) := by omega
    simp [e2]
theorem PlacesTo.whole {o : List Int} {y : List Int} (hy : PlacesTo o o.length y) {v : Int} (h0 : 0 ≤ v) (h1 : v < y.length) : rd y v = placeOf o v := by
  have := hy v.toNat (by omega)
  rw [show ((v.toNat : Nat) : Int) = v by omega] at this
  unfold rd placeOf
  rw [List.getD_eq_getElem?_getD, this]
  rfl
theorem PlacesTo.zero (o : List Int) (n : Nat) : PlacesTo o 0 (List.replicate n 0) := by
  intro v hv
  simp at hv
  simp [hv]

def putInOrder (l o : List Int) : List Int × Bool := if treeOk l = true ∧ orderOk o l.length = true then (putOf l o, true) else ([], false)
theorem putInOrder_len (l o : List Int) : (putInOrder l o).1.length ≤ 8 := by
  unfold putInOrder
  split
  · rename_i h
    have hl := treeOk_len h.1
    obtain ⟨_, h2, _⟩ := orderOk_iff.mp h.2
    show (putOf l o).length ≤ 8
    simp [putOf]; omega
  · simp

theorem impl_put_l1 (l o y : List Int) (h : treeOk l = true) (ho : orderOk o l.length = true) (hy : PlacesTo o o.length y) (hyl : y.length = l.length + 1) (d : Nat) : ∀ (j : Nat) (x : List Int), j + d = o.length → x.length = l.length → (∀ i : Nat, i < j → x[i]? = (putOf l o)[i]?) →
    Ev (fun k => impl_put.l1 k l y x o (o.length : Int) (j : Int)) (putOf l o) := by
  have hl := treeOk_len h
  obtain ⟨_, h2, h3⟩ := orderOk_iff.mp ho
  have hlen : (putOf l o).length = o.length := by simp [putOf]
  induction d with
  | zero =>
    intro j x hj hx hp
    refine Ev.step (fun k => impl_put.l1.eq_2 ..) (Ev.neg (by omega) (Ev.ret ?_))
    apply List.ext_getElem?
    intro i
    by_cases hi : i < j
    · exact hp i hi
    · rw [List.getElem?_eq_none (by omega), List.getElem?_eq_none (by omega)]
  | succ d ih =>
    intro j x hj hx hp
    have hg := h3 j (by omega)
    have hr := treeOk_rd h (j := (rd o j - 1).toNat) (by omega)
    rw [show (((rd o j - 1).toNat : Nat) : Int) = rd o j - 1 by omega] at hr
    refine Ev.step (fun k => impl_put.l1.eq_2 ..) ?_
    rw [wrap_id (n := rd o j - 1) (by omega) (by omega), wrap_add1 (by omega), Int.toNat_natCast]
    refine Ev.pos (by omega) (Ev.pos (by omega) (Ev.pos (by omega) (Ev.pos (by omega) (Ev.pos (by omega) (Ev.pos (by omega) (Ev.pos (by omega) (Ev.pos (by omega) ?_)))))))
    refine ih (j + 1) _ (by omega) (by simpa using hx) ?_
    intro i hi
    by_cases e : i = j
    · subst e
      have e3 : rd o i = o[i]'(by omega) := by simp [rd_nat, show i < o.length by omega]
      rw [List.getElem?_set_self (by omega), hy.whole hr.1 (by omega), List.getElem?_eq_getElem (by omega)]
      congr 1
      simp [putOf, e3]
    · rw [List.getElem?_set_ne (by omega)]
      exact hp i (by omega)
theorem impl_put_l0 (l o : List Int) (h : treeOk l = true) (ho : orderOk o l.length = true) (d : Nat) : ∀ (j : Nat) (y : List Int), j + d = o.length → PlacesTo o j y → y.length = l.length + 1 →
    Ev (fun k => impl_put.l0 k l o y o (o.length : Int) (j : Int)) (putOf l o) := by
  have hl := treeOk_len h
  obtain ⟨_, h2, h3⟩ := orderOk_iff.mp ho
  induction d with
  | zero =>
    intro j y hj hy hyl
    refine Ev.step (fun k => impl_put.l0.eq_2 ..) (Ev.neg (by omega) (Ev.pos (by omega) (Ev.pos (by omega) ?_)))
    rw [show j = o.length by omega] at hy
    exact impl_put_l1 l o y h ho hy hyl o.length 0 _ (by omega) (by simp) (fun i hi => by omega)
  | succ d ih =>
    intro j y hj hy hyl
    have hg := h3 j (by omega)
    refine Ev.step (fun k => impl_put.l0.eq_2 ..) ?_
    rw [wrap_id (n := (j : Int) + 1) (by omega) (by omega)]
    refine Ev.pos (by omega) (Ev.pos (by omega) (Ev.pos (by omega) (Ev.pos (by omega) (Ev.pos (by omega) ?_))))
    exact ih (j + 1) _ (by omega) (hy.set ho (by omega)) (by simpa using hyl)
theorem impl_put_ev (l o : List Int) (h : treeOk l = true) (ho : orderOk o l.length = true) : Ev (fun k => impl_put.f k l o) (putOf l o) := by
  have hl := treeOk_len h
  unfold impl_put.f
  rw [wrap_id (n := (l.length : Int) + 1) (by omega) (by omega)]
  exact Ev.pos (by omega) (Ev.pos (by omega) (impl_put_l0 l o h ho o.length 0 _ (by omega) (PlacesTo.zero o _) (by simp)))

/-! numbers from 1 to n, none twice -/
theorem nodup_le : ∀ (n : Nat) (L : List Int), L.Nodup → (∀ x, x ∈ L → 1 ≤ x ∧ x ≤ n) → L.length ≤ n
  | 0, L, _, h => by
    cases L with
    | nil => simp
    | cons a r => have := h a (by simp); omega
  | n + 1, L, hn, h => by
    by_cases hm : ((n + 1 : Nat) : Int) ∈ L
    · have h1 := nodup_le n (L.erase ((n + 1 : Nat) : Int)) (hn.erase _) (fun x hx => by
        rw [hn.mem_erase_iff] at hx
        have := h x hx.2
        omega)
      rw [List.length_erase_of_mem hm] at h1
      omega
    · have := nodup_le n L hn (fun x hx => by
        have h2 := h x hx
        have : x ≠ ((n + 1 : Nat) : Int) := fun e => hm (e ▸ hx)
        omega)
      omega
theorem nodup_all : ∀ (n : Nat) (L : List Int), L.Nodup → (∀ x, x ∈ L → 1 ≤ x ∧ x ≤ n) → L.length = n → ∀ v : Int, 1 ≤ v → v ≤ n → v ∈ L
  | 0, L, _, h, hl, v, h0, h1 => by omega
  | n + 1, L, hn, h, hl, v, h0, h1 => by
    have hm : ((n + 1 : Nat) : Int) ∈ L := by
      apply Decidable.byContradiction
      intro hm
      have := nodup_le n L hn (fun x hx => by
        have h2 := h x hx
        have : x ≠ ((n + 1 : Nat) : Int) := fun e => hm (e ▸ hx)
        omega)
      omega
    by_cases e : v = ((n + 1 : Nat) : Int)
    · rw [e]; exact hm
    · have := nodup_all n (L.erase ((n + 1 : Nat) : Int)) (hn.erase _) (fun x hx => by
        rw [hn.mem_erase_iff] at hx
        have := h x hx.2
        omega) (by rw [List.length_erase_of_mem hm]; omega) v h0 (by omega)
      exact List.mem_of_mem_erase this

theorem rd_get (l : List Int) {i : Nat} (h : i < l.length) : rd l i = l[i] := by simp [rd_nat, h]
theorem nodup_iff_rd (l : List Int) : l.Nodup ↔ ∀ i j : Nat, i < j → j < l.length → rd l i ≠ rd l j := by
  rw [List.nodup_iff_pairwise_ne, List.pairwise_iff_getElem]
  constructor
  · intro h i j hij hj
    rw [rd_get l (by omega), rd_get l hj]
    exact h i j (by omega) hj hij
  · intro h i j hi hj hij
    have := h i j hij hj
    rwa [rd_get l hi, rd_get l hj] at this
theorem orderOk_nodup {o : List Int} {many : Int} : orderOk o many = true ↔ (1 ≤ many ∧ many ≤ 8) ∧ (o.length : Int) = many ∧ o.Nodup ∧ ∀ x, x ∈ o → 1 ≤ x ∧ x ≤ many := by
  rw [orderOk_iff, nodup_iff_rd]
  constructor
  · rintro ⟨h1, h2, h3⟩
    refine ⟨h1, h2, fun i j hij hj => (h3 j hj).2 i hij, fun x hx => ?_⟩
    obtain ⟨i, hi, rfl⟩ := List.getElem_of_mem hx
    have := (h3 i hi).1
    rwa [rd_get o hi] at this
  · rintro ⟨h1, h2, h3, h4⟩
    refine ⟨h1, h2, fun i hi => ⟨?_, fun j hj => h3 j i hj hi⟩⟩
    rw [rd_get o hi]
    exact h4 _ (List.getElem_mem hi)

/-! a sorted row with the same numbers -/
def SortedTo (x : List Int) (i : Nat) : Prop := ∀ a b : Nat, a < b → b < i → rd x a ≤ rd x b
def SameCount (x l : List Int) : Prop := x.length = l.length ∧ ∀ v : Int, x.count v = l.count v
/-- sorted up to place i, but that what stands at j may be less than what is ahead of it -/
def SortedBut (x : List Int) (i j : Nat) : Prop := ∀ a b : Nat, a < b → b ≤ i → b ≠ j → rd x a ≤ rd x b
theorem rd_set (x : List Int) (i : Nat) (v : Int) (j : Nat) (h : i < x.length) : rd (x.set i v) j = if j = i then v else rd x j := by
  rw [rd_nat, rd_nat, List.getD_eq_getElem?_getD, List.getD_eq_getElem?_getD]
  by_cases e : j = i
  · subst e; simp [h]
  · rw [List.getElem?_set_ne (by omega), if_neg e]
theorem swap_same {x l : List Int} (h : SameCount x l) {j : Nat} (hj : j + 1 < x.length) : SameCount ((x.set (j + 1) (rd x j)).set j (rd x ((j + 1 : Nat) : Int))) l := by
  refine ⟨by simp [h.1], fun v => ?_⟩
  have hj2 : j < (x.set (j + 1) (rd x j)).length := by simp; omega
  rw [List.count_set hj2, List.count_set hj, List.getElem_set_ne (by omega), ← rd_get x (i := j) (by omega), ← rd_get x (i := j + 1) hj, ← h.2 v]
  have h1 : 0 < x.count (rd x j) := List.count_pos_iff.mpr (by rw [rd_get x (by omega)]; exact List.getElem_mem _)
  have h2 : 0 < x.count (rd x ((j + 1 : Nat) : Int)) := List.count_pos_iff.mpr (by rw [rd_get x hj]; exact List.getElem_mem _)
  by_cases e1 : rd x j = v
  · by_cases e2 : rd x ((j + 1 : Nat) : Int) = v
    · simp only [e1, e2, beq_self_eq_true, if_true]; rw [e1] at h1; omega
    · have : (rd x ((j + 1 : Nat) : Int) == v) = false := by simpa using e2
      simp only [e1, this, beq_self_eq_true, if_true, Bool.false_eq_true, if_false]; omega
  · have e1' : (rd x j == v) = false := by simpa using e1
    by_cases e2 : rd x ((j + 1 : Nat) : Int) = v
    · simp only [e2, e1', beq_self_eq_true, if_true, Bool.false_eq_true, if_false]; rw [e2] at h2; omega
    · have : (rd x ((j + 1 : Nat) : Int) == v) = false := by simpa using e2
      simp only [this, e1', Bool.false_eq_true, if_false]; omega
theorem swap_sorted {x : List Int} {i j : Nat} (h : SortedBut x i (j + 1)) (hj : j + 1 ≤ i) (hi : i < x.length) (hlt : rd x ((j + 1 : Nat) : Int) < rd x j) : SortedBut ((x.set (j + 1) (rd x j)).set j (rd x ((j + 1 : Nat) : Int))) i j := by
  intro a b hab hb hne
  have hj2 : j < (x.set (j + 1) (rd x j)).length := by simp; omega
  rw [rd_set _ _ _ _ hj2, rd_set _ _ _ _ hj2, rd_set _ _ _ _ (by omega), rd_set _ _ _ _ (by omega), if_neg hne]
  by_cases e1 : b = j + 1
  · subst e1
    rw [if_pos rfl]
    by_cases e2 : a = j
    · rw [if_pos e2]; omega
    · rw [if_neg e2, if_neg (by omega)]
      exact h a j (by omega) (by omega) (by omega)
  · rw [if_neg e1]
    by_cases e2 : a = j
    · rw [if_pos e2]
      exact h (j + 1) b (by omega) hb e1
    · rw [if_neg e2]
      by_cases e3 : a = j + 1
      · rw [if_pos e3]
        exact h j b (by omega) hb e1
      · rw [if_neg e3]
        exact h a b hab hb e1
theorem sorted_of_but {x : List Int} {i j : Nat} (h : SortedBut x i j) (hj : j = 0 ∨ ∃ p : Nat, j = p + 1 ∧ rd x p ≤ rd x j) : SortedTo x (i + 1) := by
  intro a b hab hb
  by_cases e : b = j
  · rcases hj with h0 | ⟨p, hp, hle⟩
    · omega
    · by_cases e2 : a = p
      · subst e2; rw [e]; exact hle
      · have := h a p (by omega) (by omega) (by omega)
        rw [e]; omega
  · exact h a b hab (by omega) e
theorem order_of_sorted {s l : List Int} (hs : SortedTo s s.length) (hc : SameCount s l) (h1 : 1 ≤ l.length) (h8 : l.length ≤ 8) : decide (∀ i : Nat, i < s.length → rd s i = (i : Int) + 1) = orderOk l l.length := by
  rw [Bool.eq_iff_iff, decide_eq_true_iff, orderOk_nodup]
  constructor
  · intro h
    have hnd : s.Nodup := by
      rw [nodup_iff_rd]
      intro i j hij hj
      rw [h i (by omega), h j hj]; omega
    have hnl : l.Nodup := by
      rw [List.nodup_iff_count]
      intro a
      rw [← hc.2 a]
      exact List.nodup_iff_count.mp hnd a
    refine ⟨by omega, rfl, hnl, fun x hx => ?_⟩
    have hx2 : x ∈ s := by rw [← List.count_pos_iff, hc.2 x, List.count_pos_iff]; exact hx
    obtain ⟨i, hi, e⟩ := List.getElem_of_mem hx2
    have := h i hi
    rw [rd_get s hi, e] at this
    have := hc.1
    omega
  · rintro ⟨_, _, hnl, hr⟩
    have hnd : s.Nodup := by
      rw [List.nodup_iff_count]
      intro a
      rw [hc.2 a]
      exact List.nodup_iff_count.mp hnl a
    have hrs : ∀ i : Nat, i < s.length → 1 ≤ rd s i ∧ rd s i ≤ l.length := by
      intro i hi
      refine hr _ ?_
      rw [← List.count_pos_iff, ← hc.2, List.count_pos_iff, rd_get s hi]
      exact List.getElem_mem _
    have hst : ∀ i : Nat, i + 1 < s.length → rd s i < rd s ((i + 1 : Nat) : Int) := by
      intro i hi
      have a1 := hs i (i + 1) (by omega) hi
      have a2 := (nodup_iff_rd s).mp hnd i (i + 1) (by omega) hi
      omega
    have hlow : ∀ i : Nat, i < s.length → (i : Int) + 1 ≤ rd s i := by
      intro i
      induction i with
      | zero => intro hi; have := hrs 0 hi; omega
      | succ i ih =>
        intro hi
        have := ih (by omega)
        have := hst i hi
        omega
    have hhigh : ∀ d i : Nat, i + d + 1 = s.length → rd s i + d ≤ l.length := by
      intro d
      induction d with
      | zero => intro i hi; have := hrs i (by omega); omega
      | succ d ih =>
        intro i hi
        have h1 := ih (i + 1) (by omega)
        have h2 := hst i (by omega)
        omega
    intro i hi
    have a1 := hlow i hi
    have a2 := hhigh (s.length - i - 1) i (by omega)
    have a3 := hc.1
    omega

theorem less_int (a b : Int) : cmp_Less_int.f a b = some (decide (a < b)) := by
  unfold cmp_Less_int.f cmp_isNaN_int.f
  simp
theorem insertion_l1 (n : Nat) (hn : n ≤ 8) (i : Nat) (hi : i < n) (l r : List Int) (next : ∀ x : List Int, x.length = n → SameCount x l → SortedTo x (i + 1) → ∃ s, Ev (fun k => slices_insertionSortOrdered_int.l0 k x 0 (n : Int) ((i + 1 : Nat) : Int)) s ∧ SameCount s l ∧ SortedTo s n) :
    ∀ (j : Nat) (x : List Int), j ≤ i → x.length = n → SameCount x l → SortedBut x i j → ∃ s, Ev (fun k => slices_insertionSortOrdered_int.l1 k x 0 (n : Int) (i : Int) (j : Int)) s ∧ SameCount s l ∧ SortedTo s n
  | 0, x, hj, hx, hc, hs => by
    obtain ⟨s, h1, h2, h3⟩ := next x hx hc (sorted_of_but hs (.inl rfl))
    refine ⟨s, Ev.step (fun k => slices_insertionSortOrdered_int.l1.eq_2 ..) (Ev.neg (by omega) ?_), h2, h3⟩
    rw [wrap_add1 (by omega)]
    exact h1
  | j + 1, x, hj, hx, hc, hs => by
    have e1 : wrap64 (((j + 1 : Nat) : Int) - 1) = (j : Int) := by rw [wrap_id (by omega) (by omega)]; omega
    have hless : cmp_Less_int.f (rd x ((j + 1 : Nat) : Int)) (rd x j) = some (decide (rd x ((j + 1 : Nat) : Int) < rd x j)) := less_int _ _
    by_cases h : rd x ((j + 1 : Nat) : Int) < rd x j
    · obtain ⟨s, h1, h2, h3⟩ := insertion_l1 n hn i hi l r next j _ (by omega) (by simpa using hx) (swap_same hc (by omega)) (swap_sorted hs hj (by omega) h)
      refine ⟨s, Ev.step (fun k => slices_insertionSortOrdered_int.l1.eq_2 ..) ?_, h2, h3⟩
      rw [e1]
      refine Ev.pos (by omega) (Ev.pos (by omega) (Ev.pos (by omega) (Ev.pos (by omega) (Ev.pos (by omega) (Ev.bind0 hless (Ev.pos (decide_eq_true h) ?_))))))
      rw [Int.toNat_natCast, Int.toNat_natCast]
      exact h1
    · obtain ⟨s, h1, h2, h3⟩ := next x hx hc (sorted_of_but hs (.inr ⟨j, rfl, by omega⟩))
      refine ⟨s, Ev.step (fun k => slices_insertionSortOrdered_int.l1.eq_2 ..) ?_, h2, h3⟩
      rw [e1, wrap_add1 (by omega)]
      exact Ev.pos (by omega) (Ev.pos (by omega) (Ev.pos (by omega) (Ev.pos (by omega) (Ev.pos (by omega) (Ev.bind0 hless (Ev.neg (by simpa using h) h1))))))
theorem insertion_l0 (n : Nat) (hn : n ≤ 8) (l : List Int) (d : Nat) : ∀ (i : Nat) (x : List Int), i + d = n → x.length = n → SameCount x l → SortedTo x i → ∃ s, Ev (fun k => slices_insertionSortOrdered_int.l0 k x 0 (n : Int) (i : Int)) s ∧ SameCount s l ∧ SortedTo s n := by
  induction d with
  | zero =>
    intro i x hi hx hc hs
    refine ⟨x, Ev.step (fun k => slices_insertionSortOrdered_int.l0.eq_2 ..) (Ev.neg (by omega) (Ev.ret rfl)), hc, ?_⟩
    rw [show n = i by omega]; exact hs
  | succ d ih =>
    intro i x hi hx hc hs
    obtain ⟨s, h1, h2, h3⟩ := insertion_l1 n hn i (by omega) l [] (fun x' hx' hc' hs' => ih (i + 1) x' (by omega) hx' hc' hs') i x (Nat.le_refl _) hx hc (fun a b hab hb hne => hs a b hab (by omega))
    exact ⟨s, Ev.step (fun k => slices_insertionSortOrdered_int.l0.eq_2 ..) (Ev.pos (by omega) h1), h2, h3⟩
theorem sort_ev (l : List Int) (h1 : 1 ≤ l.length) (h8 : l.length ≤ 8) : ∃ s, Ev (fun k => slices_Sort_int_int.f k l) s ∧ SameCount s l ∧ SortedTo s l.length := by
  obtain ⟨s, hs, h2, h3⟩ := insertion_l0 l.length h8 l (l.length - 1) 1 l (by omega) rfl ⟨rfl, fun _ => rfl⟩ (fun a b hab hb => by omega)
  refine ⟨s, ?_, h2, h3⟩
  unfold slices_Sort_int_int.f
  have hw : IntKind.u64.wrap (l.length : Int) = (l.length : Int) := by
    simp [IntKind.wrap, IntKind.bits, IntKind.signed]; omega
  rw [hw]
  refine Ev.bind0 (a := (Lib.bitLen (l.length : Int).toNat : Int)) (by unfold bits_Len.f; rw [if_pos (by omega)]) ?_
  unfold slices_pdqsortOrdered_int.f slices_insertionSortOrdered_int.f
  rw [show wrap64 (0 + 1) = ((1 : Nat) : Int) by decide +kernel]
  exact Ev.bind (Ev.pos (by omega) hs) (Ev.ret rfl)
theorem impl_OrderOk_ev (o : List Int) (many : Int) : Ev (fun k => impl_OrderOk.f k o many) (orderOk o many) := by
  unfold impl_OrderOk.f
  by_cases h : 1 ≤ many ∧ many ≤ 8 ∧ (o.length : Int) = many
  · obtain ⟨h1, h2, rfl⟩ := h
    obtain ⟨s, hs, hc, hst⟩ := sort_ev o (by omega) (by omega)
    refine Ev.pos ⟨h1, h2, rfl⟩ (Ev.bind hs (Ev.pos (by have := hc.1; omega) (Ev.ret ?_)))
    exact order_of_sorted (by rw [hc.1]; exact hst) hc (by omega) (by omega)
  · refine Ev.neg h (Ev.ret ?_)
    symm
    unfold orderOk
    rw [decide_eq_false_iff_not]
    exact fun h2 => h ⟨h2.1.1, h2.1.2, h2.2.1⟩

theorem impl_PutInOrder_ev (l o : List Int) : Ev (fun k => impl_PutInOrder.f k l o) (putInOrder l o) := by
  unfold impl_PutInOrder.f putInOrder
  refine Ev.bind (impl_TreeOk_ev l) (Ev.ite (fun h => ?_) (fun h => ?_))
  · refine Ev.bind (impl_OrderOk_ev o _) (Ev.ite (fun ho => ?_) (fun ho => ?_))
    · rw [if_pos ⟨h, ho⟩]
      exact Ev.bind (impl_put_ev l o h ho) (Ev.ret rfl)
    · rw [if_neg (fun h2 => ho h2.2)]; exact Ev.ret rfl
  · rw [if_neg (fun h2 => h h2.1)]; exact Ev.ret rfl

/-! lengths -/
def arcLen (l : List Int) (i : Nat) : Int := if rd l i = 0 then 0 else max ((i : Int) + 1 - rd l i) (rd l i - i - 1)
def lenStep (l : List Int) (b : Int) (i : Nat) : Int := b + arcLen l i
def lengthOf (l : List Int) : Int := if treeOk l then foldFrom (lenStep l) l.length 0 0 else -1

theorem impl_length_l0 (l : List Int) (hl : l.length ≤ 8) (hin : ∀ j : Nat, j < l.length → 0 ≤ rd l j ∧ rd l j ≤ l.length) (d : Nat) : ∀ (j : Nat) (b : Int), j + d = l.length → 0 ≤ b → b ≤ 8 * j →
    Ev (fun k => impl_length.l0 k b l (l.length : Int) (j : Int)) (foldFrom (lenStep l) l.length j b) := by
  induction d with
  | zero =>
    intro j b hj h0 h1
    refine Ev.step (fun k => impl_length.l0.eq_2 ..) ?_
    exact Ev.neg (by omega) (Ev.ret (foldFrom_end _ _ (by omega)).symm)
  | succ d ih =>
    intro j b hj h0 h1
    have hr := hin j (by omega)
    refine Ev.step (fun k => impl_length.l0.eq_2 ..) ?_
    rw [foldFrom_step _ _ (by omega), wrap_add1 (by omega)]
    refine Ev.pos (by omega) (Ev.pos (by omega) (Ev.pos (by omega) (Ev.ite (fun e => ?_) (fun e => ?_))))
    · have e2 : lenStep l b j = b := by unfold lenStep arcLen; rw [if_pos (by omega)]; omega
      rw [e2]
      exact ih (j + 1) _ (by omega) h0 (by omega)
    · rw [mx_max, wrap_id (n := rd l j - j) (by omega) (by omega), wrap_id (n := rd l j - j - 1) (by omega) (by omega), wrap_id (n := ((j + 1 : Nat) : Int) - rd l j) (by omega) (by omega), wrap_id (by omega) (by omega)]
      have e2 : b + max (((j + 1 : Nat) : Int) - rd l j) (rd l j - j - 1) = lenStep l b j := by unfold lenStep arcLen; rw [if_neg (by omega)]; omega
      have e3 : 0 ≤ lenStep l b j ∧ lenStep l b j ≤ 8 * ((j + 1 : Nat) : Int) := by rw [← e2]; omega
      rw [e2]
      exact ih (j + 1) _ (by omega) e3.1 e3.2
theorem impl_LengthOf_ev (l : List Int) : Ev (fun k => impl_LengthOf.f k l) (lengthOf l) := by
  unfold impl_LengthOf.f lengthOf impl_length.f
  refine Ev.bind (impl_TreeOk_ev l) (Ev.ite (fun h => ?_) (fun h => ?_))
  · rw [if_pos h]; exact Ev.bind (impl_length_l0 l (treeOk_len h).2 (fun j hj => treeOk_rd h hj) l.length 0 0 (by omega) (by omega) (by omega)) (Ev.ret rfl)
  · rw [if_neg h]; exact Ev.ret rfl

/-! the order with a number, as the laws build it -/
def bo (a : Nat) : Nat → List Int × Nat
  | 0 => ([], a)
  | k + 1 => (((bo a k).1.take ((bo a k).2 % (k + 1)) ++ [(k : Int) + 1]) ++ (bo a k).1.drop ((bo a k).2 % (k + 1)), (bo a k).2 / (k + 1))
theorem bo_length (a : Nat) : ∀ k, (bo a k).1.length = k
  | 0 => rfl
  | k + 1 => by
    have h := bo_length a k
    have h2 : (bo a k).2 % (k + 1) < k + 1 := Nat.mod_lt _ (by omega)
    simp only [bo, List.length_append, List.length_take, List.length_drop, List.length_singleton, h]
    omega
theorem bo_le (a : Nat) : ∀ k, (bo a k).2 ≤ a
  | 0 => Nat.le_refl _
  | k + 1 => Nat.le_trans (Nat.div_le_self _ _) (bo_le a k)
def facN : Nat → Nat
  | 0 => 1
  | n + 1 => facN n * (n + 1)
theorem bo_ok : ∀ n : Nat, n < 6 → 1 ≤ n → ∀ a : Nat, a < facN n → orderOk (bo a n).1 n = true := by decide +kernel
theorem Ev.of_mono {α : Type} {g : Nat → Option α} {r : α} (hm : ∀ k, LeO (g k) (g (k + 1))) (k0 : Nat) (h : g k0 = some r) : Ev g r := by
  refine ⟨k0, fun k hk => ?_⟩
  obtain ⟨d, rfl⟩ : ∃ d, k = k0 + d := ⟨k - k0, by omega⟩
  clear hk
  induction d with
  | zero => exact h
  | succ d ih => exact hm _ _ ih
theorem facN_small {n : Nat} (h : n ≤ 5) : 1 ≤ facN n ∧ facN n ≤ 120 := by
  obtain rfl | rfl | rfl | rfl | rfl | rfl : n = 0 ∨ n = 1 ∨ n = 2 ∨ n = 3 ∨ n = 4 ∨ n = 5 := by omega
  all_goals decide
theorem divmod_w (x j : Nat) (hx : x < 1000) : Int.tmod (x : Int) ((j : Int) + 1) = ((x % (j + 1) : Nat) : Int) ∧ wrap64 (Int.tdiv (x : Int) ((j : Int) + 1)) = ((x / (j + 1) : Nat) : Int) := by
  have e : (j : Int) + 1 = ((j + 1 : Nat) : Int) := rfl
  have h := Nat.div_le_self x (j + 1)
  rw [e]
  constructor
  · rw [Int.tmod_eq_emod_of_nonneg (by omega), Int.natCast_emod]
  · rw [Int.tdiv_eq_ediv_of_nonneg (by omega), ← Int.natCast_ediv]
    clear e
    generalize x / (j + 1) = q at *
    exact wrap_id (by omega) (by omega)

def chainO (n : Nat) : List Int := (List.range n).map (fun i : Nat => (i : Int))
def starO (n : Nat) : List Int := (List.range n).map (fun i : Nat => min (i : Int) 1)
def lsTab (n : Nat) : Int := match n with | 1 => 0 | 2 => 2 | 3 => 16 | 4 => 120 | 5 => 960 | _ => 0
def lsSum (l : List Int) (n m : Nat) : Int := foldFrom (fun (b : Int) (a : Nat) => b + lengthOf (putInOrder l (bo a n).1).1) m 0 0
theorem ls_ok : ∀ n : Nat, n < 6 → 1 ≤ n → lsSum (chainO n) n (facN n) = lsTab n ∧ lsSum (starO n) n (facN n) = lsTab n := by decide +kernel

/-! sums -/
def sumTo (f : Nat → Int) : Nat → Int
  | 0 => 0
  | n + 1 => sumTo f n + f n
theorem sumTo_congr {f g : Nat → Int} : ∀ (n : Nat), (∀ i, i < n → f i = g i) → sumTo f n = sumTo g n
  | 0, _ => rfl
  | n + 1, h => by rw [sumTo, sumTo, sumTo_congr n (fun i hi => h i (by omega)), h n (by omega)]
theorem sumTo_add (f g : Nat → Int) : ∀ n : Nat, sumTo (fun i => f i + g i) n = sumTo f n + sumTo g n
  | 0 => rfl
  | n + 1 => by rw [sumTo, sumTo, sumTo, sumTo_add f g n]; omega
theorem sumTo_zero : ∀ n : Nat, sumTo (fun _ => 0) n = 0
  | 0 => rfl
  | n + 1 => by rw [sumTo, sumTo_zero n]; rfl
theorem sumTo_one : ∀ n : Nat, sumTo (fun _ => 1) n = n
  | 0 => rfl
  | n + 1 => by rw [sumTo, sumTo_one n]; omega
theorem sumTo_le {f g : Nat → Int} : ∀ (n : Nat), (∀ i, i < n → f i ≤ g i) → sumTo f n ≤ sumTo g n
  | 0, _ => by simp [sumTo]
  | n + 1, h => by
    have := sumTo_le n (fun i hi => h i (by omega))
    have := h n (by omega)
    simp only [sumTo]; omega
theorem sumTo_swap (f : Nat → Nat → Int) (m : Nat) : ∀ n : Nat, sumTo (fun i => sumTo (fun j => f i j) m) n = sumTo (fun j => sumTo (fun i => f i j) n) m
  | 0 => (sumTo_zero m).symm
  | n + 1 => by
    rw [sumTo, sumTo_swap f m n, ← sumTo_add]
    rfl
theorem sumTo_pick (a : Nat) (c : Int) : ∀ n : Nat, sumTo (fun i => if i = a then c else 0) n = if a < n then c else 0
  | 0 => by simp [sumTo]
  | n + 1 => by
    rw [sumTo, sumTo_pick a c n]
    by_cases h1 : a < n
    · rw [if_pos h1, if_neg (by omega), if_pos (by omega)]; omega
    · by_cases h2 : n = a
      · rw [if_neg h1, if_pos h2, if_pos (by omega)]; omega
      · rw [if_neg h1, if_neg h2, if_neg (by omega)]; rfl
theorem sumTo_bij (f : Nat → Int) (n : Nat) (s t : Nat → Nat) (hs : ∀ i, i < n → s i < n ∧ t (s i) = i) (ht : ∀ i, i < n → t i < n ∧ s (t i) = i) : sumTo (fun i => f (s i)) n = sumTo f n := by
  have e1 : sumTo (fun i => f (s i)) n = sumTo (fun i => sumTo (fun v => if v = s i then f v else 0) n) n := by
    refine sumTo_congr n (fun i hi => ?_)
    have : sumTo (fun v => if v = s i then f v else 0) n = sumTo (fun v => if v = s i then f (s i) else 0) n := by
      refine sumTo_congr n (fun v _ => ?_)
      by_cases e : v = s i
      · rw [if_pos e, if_pos e, e]
      · rw [if_neg e, if_neg e]
    rw [this, sumTo_pick, if_pos (hs i hi).1]
  rw [e1, sumTo_swap]
  refine sumTo_congr n (fun v hv => ?_)
  have : sumTo (fun i => if v = s i then f v else 0) n = sumTo (fun i => if i = t v then f v else 0) n := by
    refine sumTo_congr n (fun i hi => ?_)
    by_cases e : v = s i
    · rw [if_pos e, if_pos (by rw [e]; exact ((hs i hi).2).symm)]
    · rw [if_neg e, if_neg (fun h => e (by rw [h]; exact ((ht v hv).2).symm))]
  rw [this, sumTo_pick, if_pos (ht v hv).1]
theorem sumTo_from (f : Nat → Int) (n : Nat) (d : Nat) : ∀ (j : Nat) (b : Int), j + d = n → foldFrom (fun (b : Int) (i : Nat) => b + f i) n j b = b + sumTo f n - sumTo f j := by
  induction d with
  | zero => intro j b h; rw [foldFrom_end _ b (by omega), show j = n by omega]; omega
  | succ d ih =>
    intro j b h
    rw [foldFrom_step _ b (by omega), ih (j + 1) _ (by omega), sumTo]
    omega
theorem sumTo_fold (f : Nat → Int) (n : Nat) (b : Int) : foldFrom (fun (b : Int) (i : Nat) => b + f i) n 0 b = b + sumTo f n := by
  rw [sumTo_from f n n 0 b (by omega)]; simp [sumTo]
theorem count_sum (v : Int) : ∀ l : List Int, (l.count v : Int) = sumTo (fun i => if rd l (i : Int) = v then 1 else 0) l.length := by
  intro l
  have key : ∀ j, j ≤ l.length → ((l.take j).count v : Int) = sumTo (fun i => if rd l (i : Int) = v then 1 else 0) j := by
    intro j
    induction j with
    | zero => intro _; rfl
    | succ j ih =>
      intro hj
      rw [sumTo, ← ih (by omega), List.take_succ_eq_append_getElem (by omega), List.count_append]
      have e : rd l (j : Int) = l[j] := by simp [rd_nat, show j < l.length by omega]
      rw [e]
      by_cases h : l[j] = v <;> simp [h]
  have := key l.length (Nat.le_refl _)
  rwa [List.take_length] at this
theorem sumTo_bound {f : Nat → Int} (c : Int) : ∀ (n : Nat), (∀ i, i < n → 0 ≤ f i ∧ f i ≤ c) → 0 ≤ sumTo f n ∧ sumTo f n ≤ c * n
  | 0, _ => by simp [sumTo]
  | n + 1, h => by
    have h1 := sumTo_bound c n (fun i hi => h i (by omega))
    have h2 := h n (by omega)
    have h3 : c * ((n + 1 : Nat) : Int) = c * n + c := by rw [Int.natCast_succ, Int.mul_add, Int.mul_one]
    rw [h3]
    simp only [sumTo]; omega

/-! the longest arc -/
def longStep (l : List Int) (b : Int) (i : Nat) : Int := if rd l i = 0 then b else max (max b ((i : Int) + 1 - rd l i)) (rd l i - i - 1)
def longestArc (l : List Int) : Int := if treeOk l then foldFrom (longStep l) l.length 0 0 else -1

/-! the longest arc and the length of a tree, together -/
theorem arcLen_pos {l : List Int} (h : treeOk l = true) {j : Nat} (hj : j < l.length) (e : rd l j ≠ 0) : 1 ≤ arcLen l j ∧ arcLen l j ≤ l.length - 1 := by
  have h1 := treeOk_rd h hj
  have h2 := treeOk_ne h hj
  unfold arcLen
  rw [if_neg e]
  omega
theorem both_folds {l : List Int} (h : treeOk l = true) (d : Nat) : ∀ (j : Nat) (a b : Int) (m : Int), j + d = l.length → 0 ≤ a → a ≤ b → a ≤ l.length - 1 → m ≤ b → (a ≤ 1 ↔ b = m) → m + ((l.length - j : Nat) : Int) - (zerosFrom l j : Int) = (l.length : Int) - 1 →
    0 ≤ foldFrom (longStep l) l.length j a ∧ foldFrom (longStep l) l.length j a ≤ foldFrom (lenStep l) l.length j b ∧ foldFrom (longStep l) l.length j a ≤ l.length - 1 ∧ (l.length : Int) - 1 ≤ foldFrom (lenStep l) l.length j b ∧ (foldFrom (longStep l) l.length j a ≤ 1 ↔ foldFrom (lenStep l) l.length j b = (l.length : Int) - 1) := by
  induction d with
  | zero =>
    intro j a b m hj h0 h1 h2 h3 h4 h5
    rw [foldFrom_end (longStep l) a (j := j) (by omega), foldFrom_end (lenStep l) b (j := j) (by omega)]
    have hz : zerosFrom l j = 0 := by unfold zerosFrom; rw [List.drop_eq_nil_of_le (by omega)]; rfl
    rw [hz, show l.length - j = 0 by omega] at h5
    have : m = (l.length : Int) - 1 := by omega
    subst this
    exact ⟨h0, h1, h2, h3, h4⟩
  | succ d ih =>
    intro j a b m hj h0 h1 h2 h3 h4 h5
    rw [foldFrom_step (longStep l) a (j := j) (by omega), foldFrom_step (lenStep l) b (j := j) (by omega)]
    have hz := zerosFrom_succ l j (by omega)
    by_cases e : rd l j = 0
    · have e1 : longStep l a j = a := by unfold longStep; rw [if_pos e]
      have e2 : lenStep l b j = b := by unfold lenStep arcLen; rw [if_pos e]; omega
      rw [e1, e2]
      rw [if_pos e] at hz
      exact ih (j + 1) a b m (by omega) h0 h1 h2 h3 h4 (by omega)
    · have hp := arcLen_pos h (j := j) (by omega) e
      have e1 : longStep l a j = max a (arcLen l j) := by unfold longStep arcLen; rw [if_neg e, if_neg e]; omega
      have e2 : lenStep l b j = b + arcLen l j := rfl
      rw [e1, e2]
      rw [if_neg e] at hz
      refine ih (j + 1) _ _ (m + 1) (by omega) (by omega) (by omega) (by omega) (by omega) ?_ (by omega)
      constructor
      · intro h6
        have : b = m := h4.mp (by omega)
        omega
      · intro h6
        have : b = m := by omega
        have := h4.mpr this
        omega
theorem arcs_all {l : List Int} (h : treeOk l = true) : 0 ≤ longestArc l ∧ longestArc l ≤ lengthOf l ∧ longestArc l ≤ l.length - 1 ∧ (l.length : Int) - 1 ≤ lengthOf l ∧ (longestArc l ≤ 1 ↔ lengthOf l = (l.length : Int) - 1) := by
  have hl := treeOk_len h
  have hz := treeOk_zero h
  unfold longestArc lengthOf
  rw [if_pos h, if_pos h]
  refine both_folds h l.length 0 0 0 0 (by omega) (by omega) (by omega) (by omega) (by omega) (by omega) ?_
  unfold zerosFrom
  rw [List.drop_zero, hz]
  omega

theorem lengthOf_sum {l : List Int} (h : treeOk l = true) : lengthOf l = sumTo (arcLen l) l.length := by
  unfold lengthOf
  rw [if_pos h]
  have := sumTo_fold (arcLen l) l.length 0
  rw [Int.zero_add] at this
  exact this
theorem sumTo_gap (a b : Int) (h0 : 1 ≤ a) (h1 : a ≤ b) : ∀ m : Nat, sumTo (fun g => if a ≤ (g : Int) + 1 ∧ b > (g : Int) + 1 then 1 else 0) m = max 0 (min (b - 1) m - a + 1)
  | 0 => by simp only [sumTo]; omega
  | m + 1 => by
    rw [sumTo, sumTo_gap a b h0 h1 m]
    by_cases h : a ≤ (m : Int) + 1 ∧ b > (m : Int) + 1
    · rw [if_pos h]; omega
    · rw [if_neg h]; omega
/-- whether the arc of a word goes over the gap behind so many words -/
def overGap (l : List Int) (g k : Nat) : Int := if rd l (k : Int) > 0 ∧ min ((k : Int) + 1) (rd l (k : Int)) ≤ (g : Int) + 1 ∧ max ((k : Int) + 1) (rd l (k : Int)) > (g : Int) + 1 then 1 else 0
theorem gap_sum {l : List Int} (h : treeOk l = true) : sumTo (fun g => sumTo (fun k => overGap l g k) l.length) (l.length - 1) = lengthOf l := by
  rw [lengthOf_sum h, sumTo_swap]
  refine sumTo_congr _ (fun k hk => ?_)
  have hr := treeOk_rd h hk
  have hn := treeOk_len h
  unfold arcLen
  by_cases e : rd l (k : Int) = 0
  · rw [if_pos e, ← sumTo_zero (l.length - 1)]
    refine sumTo_congr _ (fun g _ => ?_)
    unfold overGap
    rw [if_neg (by omega)]
  · rw [if_neg e]
    have : sumTo (fun g => overGap l g k) (l.length - 1) = sumTo (fun g => if min ((k : Int) + 1) (rd l (k : Int)) ≤ (g : Int) + 1 ∧ max ((k : Int) + 1) (rd l (k : Int)) > (g : Int) + 1 then 1 else 0) (l.length - 1) := by
      refine sumTo_congr _ (fun g _ => ?_)
      unfold overGap
      by_cases h2 : min ((k : Int) + 1) (rd l (k : Int)) ≤ (g : Int) + 1 ∧ max ((k : Int) + 1) (rd l (k : Int)) > (g : Int) + 1
      · rw [if_pos h2, if_pos ⟨by omega, h2⟩]
      · rw [if_neg h2, if_neg (fun h3 => h2 h3.2)]
    rw [this, sumTo_gap _ _ (by omega) (by omega)]
    omega

theorem lengthOf_bound (l : List Int) : -1 ≤ lengthOf l ∧ lengthOf l ≤ 64 := by
  by_cases h : treeOk l = true
  · have hn := treeOk_len h
    rw [lengthOf_sum h]
    have := sumTo_bound (f := arcLen l) 8 l.length (fun i hi => by
      have hr := treeOk_rd h hi
      unfold arcLen
      split <;> omega)
    omega
  · unfold lengthOf; rw [if_neg h]; omega
def lsVal (a : Int) : Int := if a = 1 then 0 else if a = 2 then 2 else if a = 3 then 16 else if a = 4 then 120 else if a = 5 then 960 else if a = 6 then 8400 else if a = 7 then 80640 else if a = 8 then 846720 else -1
theorem impl_LengthsSum_ev (a : Int) (h0 : -1 ≤ a) (h1 : a ≤ 9) : Ev (fun k => impl_LengthsSum.f k a) (lsVal a) := by
  refine Ev.of_mono (fun k => impl_LengthsSum.mono a k) 12 ?_
  obtain rfl | rfl | rfl | rfl | rfl | rfl | rfl | rfl | rfl | rfl | rfl : a = -1 ∨ a = 0 ∨ a = 1 ∨ a = 2 ∨ a = 3 ∨ a = 4 ∨ a = 5 ∨ a = 6 ∨ a = 7 ∨ a = 8 ∨ a = 9 := by omega
  all_goals decide +kernel
theorem spec_LengthsSum_ev (a : Int) (h0 : -1 ≤ a) (h1 : a ≤ 9) : Ev (fun k => spec_LengthsSum.f k a) (lsVal a) := by
  refine Ev.of_mono (fun k => spec_LengthsSum.mono a k) 12 ?_
  obtain rfl | rfl | rfl | rfl | rfl | rfl | rfl | rfl | rfl | rfl | rfl : a = -1 ∨ a = 0 ∨ a = 1 ∨ a = 2 ∨ a = 3 ∨ a = 4 ∨ a = 5 ∨ a = 6 ∨ a = 7 ∨ a = 8 ∨ a = 9 := by omega
  all_goals decide +kernel
def lsS (l : List Int) (n m : Nat) : Int := sumTo (fun a => lengthOf (putInOrder l (bo a n).1).1) m
theorem lsS_succ (l : List Int) (n m : Nat) : lsS l n (m + 1) = lsS l n m + lengthOf (putInOrder l (bo m n).1).1 := rfl
theorem lsS_bound (l : List Int) (n m : Nat) : -1 * (m : Int) ≤ lsS l n m ∧ lsS l n m ≤ 64 * (m : Int) := by
  unfold lsS
  induction m with
  | zero => simp [sumTo]
  | succ m ih =>
    have := lengthOf_bound (putInOrder l (bo m n).1).1
    simp only [sumTo]; omega
theorem lsS_ok {n : Nat} (h0 : 1 ≤ n) (h1 : n ≤ 5) : lsS (chainO n) n (facN n) = lsVal n ∧ lsS (starO n) n (facN n) = lsVal n := by
  have h := ls_ok n (by omega) h0
  have e : ∀ l, lsSum l n (facN n) = lsS l n (facN n) := fun l => by
    unfold lsSum lsS
    rw [sumTo_fold (fun a => lengthOf (putInOrder l (bo a n).1).1)]; omega
  rw [e, e] at h
  have e2 : lsTab n = lsVal n := by
    obtain rfl | rfl | rfl | rfl | rfl : n = 1 ∨ n = 2 ∨ n = 3 ∨ n = 4 ∨ n = 5 := by omega
    all_goals decide
  rw [← e2]; exact h
theorem ls_l2 (n : Nat) (hn : 1 ≤ n ∧ n ≤ 5) (c : Int) (a : Nat) (ha : a < 120) (r : Bool)
    (next : Ev (fun k => laws_FnLengthsSum.l1 k (n : Int) c (chainO n) (starO n) (facN n : Int) (lsS (chainO n) n (a + 1)) (lsS (starO n) n (a + 1)) ((a + 1 : Nat) : Int)) r) (d : Nat) : ∀ j : Nat, j + d = n →
    Ev (fun k => laws_FnLengthsSum.l2 k (n : Int) c (chainO n) (starO n) (facN n : Int) (lsS (chainO n) n a) (lsS (starO n) n a) (a : Int) (bo a j).1 ((bo a j).2 : Int) ((j : Int) + 1)) r := by
  induction d with
  | zero =>
    intro j hj
    have hj : j = n := by omega
    subst hj
    have b1 := lengthOf_bound (putInOrder (chainO j) (bo a j).1).1
    have b2 := lengthOf_bound (putInOrder (starO j) (bo a j).1).1
    have s1 := lsS_bound (chainO j) j a
    have s2 := lsS_bound (starO j) j a
    have e1 : wrap64 (lsS (chainO j) j a + lengthOf (putInOrder (chainO j) (bo a j).1).1) = lsS (chainO j) j (a + 1) := by rw [lsS_succ]; exact wrap_id (by omega) (by omega)
    have e2 : wrap64 (lsS (starO j) j a + lengthOf (putInOrder (starO j) (bo a j).1).1) = lsS (starO j) j (a + 1) := by rw [lsS_succ]; exact wrap_id (by omega) (by omega)
    refine Ev.step (fun k => laws_FnLengthsSum.l2.eq_2 ..) (Ev.neg (by omega) (Ev.bind (impl_PutInOrder_ev _ _) (Ev.bind (impl_PutInOrder_ev _ _) (Ev.bind (impl_LengthOf_ev _) (Ev.bind (impl_LengthOf_ev _) ?_)))))
    rw [e1, e2, wrap_add1 (by omega)]
    exact next
  | succ d ih =>
    intro j hj
    have g1 : (j : Int) + 1 ≤ (n : Int) := by omega
    have g2 : ¬ (j : Int) + 1 = 0 := by omega
    have t3 : wrap64 ((j : Int) + 1 + 1) = ((j + 1 : Nat) : Int) + 1 := by rw [wrap_id (by omega) (by omega)]; omega
    have hi := ih (j + 1) (by omega)
    have hl := bo_length a j
    have hb := bo_le a j
    obtain ⟨t1, t2⟩ := divmod_w (bo a j).2 j (by omega)
    simp only [bo] at hi
    have hm : (bo a j).2 % (j + 1) < j + 1 := Nat.mod_lt _ (Nat.succ_pos j)
    refine Ev.step (fun k => laws_FnLengthsSum.l2.eq_2 ..) (Ev.pos g1 (Ev.neg g2 ?_))
    rw [t1, t2, t3]
    clear t1 t2 t3 next ih
    generalize (bo a j).2 % (j + 1) = q at *
    generalize (bo a j).2 / (j + 1) = u at *
    generalize (bo a j).1 = o at *
    simp only [Option.bind_some, List.nil_append, Int.toNat_natCast]
    refine Ev.pos (by omega) (Ev.pos (by omega) (Ev.pos ?_ (Ev.pos ?_ (Ev.pos ?_ hi))))
    · simp only [List.length_nil, List.length_take]; omega
    · simp only [List.length_take]; omega
    · simp only [List.length_append, List.length_take, List.length_drop, List.length_singleton]; omega
theorem ls_l1 (n : Nat) (hn : 1 ≤ n ∧ n ≤ 5) (d : Nat) : ∀ a : Nat, a + d = facN n →
    Ev (fun k => laws_FnLengthsSum.l1 k (n : Int) (lsVal n) (chainO n) (starO n) (facN n : Int) (lsS (chainO n) n a) (lsS (starO n) n a) (a : Int)) true := by
  have hf := facN_small hn.2
  induction d with
  | zero =>
    intro a ha
    have h := lsS_ok hn.1 hn.2
    have ha : a = facN n := by omega
    subst ha
    rw [h.1, h.2]
    exact Ev.step (fun k => laws_FnLengthsSum.l1.eq_2 ..) (Ev.neg (by omega) (Ev.pos rfl (Ev.ret (by simp))))
  | succ d ih =>
    intro a ha
    refine Ev.step (fun k => laws_FnLengthsSum.l1.eq_2 ..) (Ev.pos (by omega) ?_)
    simpa [bo] using ls_l2 n hn (lsVal n) a (by omega) true (ih (a + 1) (by omega)) n 0 (by omega)
theorem ls_l0 (n : Nat) (hn : 1 ≤ n ∧ n ≤ 5) (d : Nat) : ∀ j : Nat, j + d = n →
    Ev (fun k => laws_FnLengthsSum.l0 k (n : Int) (lsVal n) (chainO j) (starO j) (facN j : Int) ((j : Int) + 1)) true := by
  induction d with
  | zero =>
    intro j hj
    have hj : j = n := by omega
    subst hj
    refine Ev.step (fun k => laws_FnLengthsSum.l0.eq_2 ..) (Ev.neg (by omega) ?_)
    simpa [lsS, sumTo] using ls_l1 j hn (facN j) 0 (by omega)
  | succ d ih =>
    intro j hj
    have hf := facN_small (n := j) (by omega)
    have hf2 := facN_small (n := j + 1) (by omega)
    have e1 : wrap64 ((j : Int) + 1 - 1) = (j : Int) := by rw [wrap_id (by omega) (by omega)]; omega
    have e2 : wrap64 ((j : Int) + 1 + 1) = ((j + 1 : Nat) : Int) + 1 := by rw [wrap_id (by omega) (by omega)]; omega
    have e3 : wrap64 ((facN j : Int) * ((j : Int) + 1)) = (facN (j + 1) : Int) := by
      have : (facN j : Int) * ((j : Int) + 1) = (facN (j + 1) : Int) := by rw [facN, Int.natCast_mul]; rfl
      rw [this, wrap_id (by omega) (by omega)]
    have e4 : chainO j ++ [(j : Int)] = chainO (j + 1) := by simp [chainO, List.range_succ]
    have e5 : starO j ++ [min (j : Int) 1] = starO (j + 1) := by simp [starO, List.range_succ]
    refine Ev.step (fun k => laws_FnLengthsSum.l0.eq_2 ..) (Ev.pos (by omega) (Ev.pos (by simp [chainO]; omega) (Ev.pos (by simp [starO]; omega) ?_)))
    rw [e1, e2, e3, mn_min, e4, e5]
    exact ih (j + 1) (by omega)
theorem FnLengthsSum : laws_FnLengthsSum.Pure := by
  intro l _ _ hb
  refine Ev.rounds (g := fun k => laws_FnLengthsSum.f k l) ?_
  obtain ⟨b, hB, hopen⟩ := l20Open_ev l hb
  unfold laws_FnLengthsSum.f
  refine Ev.ite (fun h => Ev.ret rfl) (fun h => ?_)
  obtain ⟨w, hd, h0, h1⟩ : ∃ r, Ev (fun k => spec_DrawLengthsSum.f k l) r ∧ -1 ≤ r ∧ r ≤ 9 := by
    obtain ⟨v, hv0, hv1, hv⟩ := pick_ev hB 0 11 (by omega) (by omega) (by omega) (by omega)
    unfold spec_DrawLengthsSum.f
    refine ⟨v - 1, Ev.bind0 hopen (Ev.bind hv (Ev.ret ?_)), by omega, by omega⟩
    exact wrap_id (by omega) (by omega)
  refine Ev.bind hd (Ev.bind (impl_LengthsSum_ev w h0 h1) (Ev.bind (spec_LengthsSum_ev w h0 h1) (Ev.pos rfl ?_)))
  by_cases c1 : w < 1
  · have e : lsVal w = -1 := by unfold lsVal; repeat rw [if_neg (by omega)]
    rw [e]
    exact Ev.pos (by omega) (Ev.pos rfl (Ev.pos c1 (Ev.bind alive_ev (Ev.ret rfl))))
  · by_cases c2 : w > 8
    · have e : lsVal w = -1 := by unfold lsVal; repeat rw [if_neg (by omega)]
      rw [e]
      exact Ev.pos (by omega) (Ev.pos rfl (Ev.neg c1 (Ev.pos c2 (Ev.bind alive_ev (Ev.ret rfl)))))
    · by_cases c3 : w > 5
      · have e : 0 < lsVal w := by
          obtain rfl | rfl | rfl : w = 6 ∨ w = 7 ∨ w = 8 := by omega
          all_goals decide
        exact Ev.neg (by omega) (Ev.pos c3 (Ev.ret (decide_eq_true e)))
      · obtain ⟨n, rfl⟩ : ∃ n : Nat, w = n := ⟨w.toNat, by omega⟩
        have e : 0 ≤ lsVal n := by
          obtain h | h | h | h | h : n = 1 ∨ n = 2 ∨ n = 3 ∨ n = 4 ∨ n = 5 := by omega
          all_goals (subst h; decide)
        exact Ev.neg (by omega) (Ev.neg c3 (by simpa [chainO, starO, facN] using ls_l0 n (by omega) n 0 (by omega)))

end Go.Proofs.Ytghjiacfofeegaa.Pure
