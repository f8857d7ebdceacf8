/- The plain statement of FnExactJournalText: the printed functions answer true for all arguments within the printed bounds; no other conditions. -/
import Derived.Test.YtopfhdhdpnenpaaDoorLAx5
import Derived.Lib.ItoaNum
namespace Go.Proofs.YtopfhdhdpnenpaaDoor.Pure
open Go.RowKit Go.Proofs.YtopfhdhdpnenpaaDoor.LA Go.Proofs.YtopfhdhdpnenpaaDoorV.PrintWords Go.Proofs.YtopfhdhdpnenpaaDoorV.PrintLast
set_option linter.unusedVariables false
set_option linter.unusedSimpArgs false

theorem Ev.ret {α : Type} {r r' : α} (h : r = r') : Ev (fun _ => some r) r' := ⟨0, fun _ _ => by rw [h]⟩
theorem Ev.pos {α : Type} {c : Prop} [Decidable c] {g f : Nat → Option α} {r : α} (h : c) (k : Ev g r) : Ev (fun n => if c then g n else f n) r := by
  simpa only [if_pos h] using k
theorem Ev.neg {α : Type} {c : Prop} [Decidable c] {g f : Nat → Option α} {r : α} (h : ¬ c) (k : Ev f r) : Ev (fun n => if c then g n else f n) r := by
  simpa only [if_neg h] using k
theorem Ev.ite {α : Type} {c : Prop} [Decidable c] {g f : Nat → Option α} {r : α} (h : c → Ev g r) (k : ¬ c → Ev f r) : Ev (fun n => if c then g n else f n) r := by
  by_cases hc : c
  · exact Ev.pos hc (h hc)
  · exact Ev.neg hc (k hc)
theorem Ev.bind0 {α β : Type} {o : Option α} {f : Nat → α → Option β} {a : α} {r : β} (h : o = some a) (k : Ev (fun n => f n a) r) : Ev (fun n => o.bind (f n)) r := by
  subst h; simpa only [Option.bind_some] using k
theorem Ev.eq {α : Type} {g : Nat → Option α} {r r' : α} (h : Ev g r) (e : r = r') : Ev g r' := e ▸ h
theorem wrap_id {n : Int} (h0 : -9223372036854775808 ≤ n) (h1 : n < 9223372036854775808) : wrap64 n = n := by
  unfold wrap64; omega
theorem wrap_add1 {n : Nat} (h : n < 1099511627776) : wrap64 ((n : Int) + 1) = ((n + 1 : Nat) : Int) := by
  unfold wrap64; omega
theorem rd_nat (l : List Int) (j : Nat) : rd l (j : Int) = l.getD j 0 := by simp [rd]

theorem l1In_eq (a b c : Int) : spec_l1In.f a b c = some (decide (b ≤ a ∧ a ≤ c)) := by
  unfold spec_l1In.f
  split
  · rename_i h; congr 1; rw [decide_eq_decide]; omega
  · rename_i h; congr 1; symm; rw [decide_eq_false_iff_not]; omega

/-- The numeral of a number below 100. -/
def num (u : Nat) : ByteArray := ⟨(if u < 10 then [UInt8.ofNat (48 + u)] else [UInt8.ofNat (48 + u / 10), UInt8.ofNat (48 + u % 10)]).toArray⟩
theorem num_size (u : Nat) : (num u).size ≤ 2 := by
  unfold num
  split <;> simp [ByteArray.size]
theorem digits_num {u : Nat} (h : u < 100) : (⟨(Lib.decDigits u).toArray⟩ : ByteArray) = num u := by
  unfold num
  rw [Lib.decDigits]
  split
  · rfl
  · rw [Lib.decDigits, dif_pos (by omega)]; rfl
theorem strOfNums_one (u : Nat) : strOfNums [(u : Int)] = ⟨#[UInt8.ofNat u]⟩ := by simp [strOfNums]
theorem mx0 {n : Int} (h : 0 ≤ n) : mx n 0 = n := by unfold mx; split <;> omega
theorem l1Number_ev {n : Int} (h0 : 0 ≤ n) (h1 : n ≤ 99) : Ev (fun k => spec_l1Number.f k n) (num n.toNat) := by
  obtain ⟨u, rfl⟩ : ∃ u : Nat, n = (u : Int) := ⟨n.toNat, by omega⟩
  simp only [Int.toNat_natCast]
  have small : ∀ v : Nat, v < 10 → Ev (fun k => spec_l1Number.f k (v : Int)) (num v) := by
    intro v hv
    refine ⟨1, fun k hk => ?_⟩
    obtain ⟨m, rfl⟩ : ∃ m, k = m + 1 := ⟨k - 1, by omega⟩
    show spec_l1Number.f (m + 1) (v : Int) = _
    unfold spec_l1Number.f
    rw [if_pos (by omega), mx0 (by omega)]
    have e : (wrap64 (48 + (v : Int))) % 256 = ((48 + v : Nat) : Int) := by unfold wrap64; omega
    rw [e, strOfNums_one]
    congr 1
    unfold num
    rw [if_pos hv]
  by_cases hu : u < 10
  · exact small u hu
  · obtain ⟨K, hK⟩ := small (u / 10) (by omega)
    refine ⟨K + 1, fun k hk => ?_⟩
    obtain ⟨m, rfl⟩ : ∃ m, k = m + 1 := ⟨k - 1, by omega⟩
    show spec_l1Number.f (m + 1) (u : Int) = _
    unfold spec_l1Number.f
    have e1 : wrap64 (Int.tdiv (u : Int) 10) = ((u / 10 : Nat) : Int) := by
      rw [Int.tdiv_eq_ediv_of_nonneg (by omega)]; unfold wrap64; omega
    have e2 : (wrap64 (48 + Int.tmod (u : Int) 10)) % 256 = ((48 + u % 10 : Nat) : Int) := by
      rw [Int.tmod_eq_emod_of_nonneg (by omega)]; unfold wrap64; omega
    rw [if_neg (by omega), e1, e2, show spec_l1Number.f m ((u / 10 : Nat) : Int) = some (num (u / 10)) from hK m (by omega)]
    simp only [Option.bind_some, strOfNums_one]
    have hs := num_size (u / 10)
    rw [if_pos (by have : (⟨#[UInt8.ofNat (48 + u % 10)]⟩ : ByteArray).size = 1 := rfl; omega)]
    congr 1
    unfold num
    rw [if_pos (show u / 10 < 10 by omega), if_neg hu]
    rfl
/-- The text of a deed. -/
def deedOf (a b c : Int) : ByteArray :=
  if a = 0 ∧ (0 ≤ b ∧ b ≤ 99) ∧ (0 ≤ c ∧ c ≤ 99) then (((⟨#[104, 101, 97, 100, 32]⟩ : ByteArray) ++ num b.toNat) ++ (⟨#[32]⟩ : ByteArray)) ++ num c.toNat
  else if a = 1 ∧ (0 ≤ b ∧ b ≤ 99) ∧ c = 0 then (⟨#[97, 100, 100, 32]⟩ : ByteArray) ++ num b.toNat
  else if a = 2 ∧ b = 0 ∧ c = 0 then ⟨#[100, 114, 111, 112]⟩
  else if a = 3 ∧ b = 0 ∧ c = 0 then ⟨#[116, 117, 114, 110]⟩
  else if a = 4 ∧ b = 0 ∧ c = 0 then ⟨#[102, 108, 97, 116]⟩
  else if a = 5 ∧ b = 0 ∧ c = 0 then ⟨#[98, 97, 99, 107]⟩
  else ⟨#[]⟩
theorem specDeedText_ev (a b c : Int) : Ev (fun k => spec_DeedText.f k a b c) (deedOf a b c) := by
  have j1 : ∀ x : Bool, (x = true → a = 1 ∧ (0 ≤ b ∧ b ≤ 99) ∧ c = 0) → (x = false → ¬ (a = 1 ∧ (0 ≤ b ∧ b ≤ 99) ∧ c = 0)) → ¬ (a = 0 ∧ (0 ≤ b ∧ b ≤ 99) ∧ (0 ≤ c ∧ c ≤ 99)) → Ev (fun k => spec_DeedText.j1 k x a b c) (deedOf a b c) := by
    intro x hx hy hn
    refine Ev.step (fun k => by rw [spec_DeedText.j1]) ?_
    unfold deedOf
    rw [if_neg hn]
    cases x with
    | true =>
      have h := hx rfl
      rw [if_pos h]
      refine Ev.pos rfl (Ev.bind (l1Number_ev h.2.1.1 h.2.1.2) (Ev.pos ?_ (Ev.ret rfl)))
      have := num_size b.toNat; omega
    | false =>
      rw [if_neg (hy rfl)]
      refine Ev.neg (by simp) ?_
      by_cases h2 : a = 2 ∧ b = 0 ∧ c = 0
      · rw [if_pos h2]; obtain ⟨rfl, rfl, rfl⟩ := h2; exact Ev.pos (by decide) (Ev.ret rfl)
      rw [if_neg h2]
      refine Ev.neg (by simp only [Bool.and_eq_true, beq_iff_eq]; exact h2) ?_
      by_cases h3 : a = 3 ∧ b = 0 ∧ c = 0
      · rw [if_pos h3]; obtain ⟨rfl, rfl, rfl⟩ := h3; exact Ev.pos (by decide) (Ev.ret rfl)
      rw [if_neg h3]
      refine Ev.neg (by simp only [Bool.and_eq_true, beq_iff_eq]; exact h3) ?_
      by_cases h4 : a = 4 ∧ b = 0 ∧ c = 0
      · rw [if_pos h4]; obtain ⟨rfl, rfl, rfl⟩ := h4; exact Ev.pos (by decide) (Ev.ret rfl)
      rw [if_neg h4]
      refine Ev.neg (by simp only [Bool.and_eq_true, beq_iff_eq]; exact h4) ?_
      by_cases h5 : a = 5 ∧ b = 0 ∧ c = 0
      · rw [if_pos h5]; obtain ⟨rfl, rfl, rfl⟩ := h5; exact Ev.pos (by decide) (Ev.ret rfl)
      rw [if_neg h5]
      refine Ev.neg (by simp only [Bool.and_eq_true, beq_iff_eq]; exact h5) (Ev.ret rfl)
  have j0 : ∀ x : Bool, (x = true → a = 0 ∧ (0 ≤ b ∧ b ≤ 99) ∧ (0 ≤ c ∧ c ≤ 99)) → (x = false → ¬ (a = 0 ∧ (0 ≤ b ∧ b ≤ 99) ∧ (0 ≤ c ∧ c ≤ 99))) → Ev (fun k => spec_DeedText.j0 k x a b c) (deedOf a b c) := by
    intro x hx hy
    refine Ev.step (fun k => by rw [spec_DeedText.j0]) ?_
    cases x with
    | true =>
      have h := hx rfl
      have s1 := num_size b.toNat
      have s2 := num_size c.toNat
      have s3 : (⟨#[104, 101, 97, 100, 32]⟩ : ByteArray).size = 5 := rfl
      have s4 : (⟨#[32]⟩ : ByteArray).size = 1 := rfl
      refine Ev.pos rfl (Ev.bind (l1Number_ev h.2.1.1 h.2.1.2) (Ev.pos (by omega) (Ev.pos (by rw [ByteArray.size_append]; omega) (Ev.bind (l1Number_ev h.2.2.1 h.2.2.2) (Ev.pos (by rw [ByteArray.size_append, ByteArray.size_append]; omega) (Ev.ret ?_))))))
      unfold deedOf; rw [if_pos h]
    | false =>
      refine Ev.neg (by simp) ?_
      by_cases h1 : a = 1
      · refine Ev.pos h1 (Ev.bind0 (l1In_eq _ _ _) ?_)
        by_cases hb : 0 ≤ b ∧ b ≤ 99
        · refine Ev.pos (by simpa using hb) (j1 _ (fun e => ⟨h1, hb, by simpa using e⟩) (fun e h => ?_) (hy rfl))
          rw [h.2.2] at e; simp at e
        · refine Ev.neg (by simpa using hb) (j1 _ (by simp) (fun _ h => hb h.2.1) (hy rfl))
      · exact Ev.neg h1 (j1 _ (by simp) (fun _ h => h1 h.1) (hy rfl))
  unfold spec_DeedText.f
  by_cases h0 : a = 0
  · refine Ev.pos h0 (Ev.bind0 (l1In_eq _ _ _) ?_)
    by_cases hb : 0 ≤ b ∧ b ≤ 99
    · refine Ev.pos (by simpa using hb) (Ev.bind0 (l1In_eq _ _ _) ?_)
      exact j0 _ (fun e => ⟨h0, hb, by simpa using e⟩) (fun e h => by simp at e; omega)
    · exact Ev.neg (by simpa using hb) (j0 _ (by simp) (fun _ h => hb h.2.1))
  · exact Ev.neg h0 (j0 _ (by simp) (fun _ h => h0 h.1))

/-- Whether a deed's unnamed numbers are 0. -/
def namedP (a b c : Int) : Prop := a = 0 ∨ (a = 1 ∧ c = 0) ∨ ((a = 2 ∨ a = 3 ∨ a = 4 ∨ a = 5) ∧ b = 0 ∧ c = 0)
instance (a b c : Int) : Decidable (namedP a b c) := by unfold namedP; infer_instance
theorem named_eq (a b c : Int) : impl_Deed_named.f a b c = some (decide (namedP a b c)) := by
  unfold impl_Deed_named.f namedP
  by_cases h0 : a = 0
  · rw [if_pos h0]; simp [h0]
  rw [if_neg h0]
  by_cases h1 : a = 1
  · subst h1; simp; by_cases hc : c = 0 <;> simp [hc]
  rw [if_neg h1]
  have go : ∀ (x : Int), (x = 2 ∨ x = 3 ∨ x = 4 ∨ x = 5) → (if b = 0 then some (c == 0) else some false) = some (decide (x = 0 ∨ (x = 1 ∧ c = 0) ∨ ((x = 2 ∨ x = 3 ∨ x = 4 ∨ x = 5) ∧ b = 0 ∧ c = 0))) := by
    intro x hx
    have n0 : x ≠ 0 := by omega
    have n1 : x ≠ 1 := by omega
    by_cases hb : b = 0
    · by_cases hc : c = 0 <;> simp [hb, hc, n0, n1, hx]
    · simp [hb, n0, n1]
  by_cases h2 : a = 2
  · rw [if_pos h2]; exact go a (by omega)
  rw [if_neg h2]
  by_cases h3 : a = 3
  · rw [if_pos h3]; exact go a (by omega)
  rw [if_neg h3]
  by_cases h4 : a = 4
  · rw [if_pos h4]; exact go a (by omega)
  rw [if_neg h4]
  by_cases h5 : a = 5
  · rw [if_pos h5]; exact go a (by omega)
  rw [if_neg h5]
  simp [h0, h1, h2, h3, h4, h5]
theorem itoa_eq {n : Int} (h0 : 0 ≤ n) (h1 : n ≤ 99) : strconv_Itoa.f n = some (num n.toNat) := by
  unfold strconv_Itoa.f
  rw [if_pos (by omega), digits_num (by omega)]
theorem implDeedText_ev (a b c : Int) : Ev (fun k => impl_DeedText.f k a b c) (deedOf a b c) := by
  have j0 : ∀ x : Bool, (x = false → namedP a b c ∧ (0 ≤ b ∧ b ≤ 99) ∧ (0 ≤ c ∧ c ≤ 99)) → (x = true → ¬ (namedP a b c ∧ (0 ≤ b ∧ b ≤ 99) ∧ (0 ≤ c ∧ c ≤ 99))) → Ev (fun k => impl_DeedText.j0 k x a b c) (deedOf a b c) := by
    intro x hx hy
    refine Ev.step (fun k => by rw [impl_DeedText.j0]) ?_
    cases x with
    | true =>
      have h := hy rfl
      unfold namedP at h
      refine Ev.pos rfl (Ev.ret ?_)
      unfold deedOf
      rw [if_neg (by omega), if_neg (by omega), if_neg (by omega), if_neg (by omega), if_neg (by omega), if_neg (by omega)]
    | false =>
      obtain ⟨hn, hb, hc⟩ := hx rfl
      refine Ev.neg (by simp) ?_
      have s1 := num_size b.toNat
      have s2 := num_size c.toNat
      have s3 : (⟨#[104, 101, 97, 100, 32]⟩ : ByteArray).size = 5 := rfl
      have s4 : (⟨#[32]⟩ : ByteArray).size = 1 := rfl
      by_cases h0 : a = 0
      · refine Ev.pos h0 (Ev.bind0 (itoa_eq hb.1 hb.2) (Ev.pos (by omega) (Ev.pos (by rw [ByteArray.size_append]; omega) (Ev.bind0 (itoa_eq hc.1 hc.2) (Ev.pos (by rw [ByteArray.size_append, ByteArray.size_append]; omega) (Ev.ret ?_))))))
        unfold deedOf; rw [if_pos ⟨h0, hb, hc⟩]
      · refine Ev.neg h0 ?_
        unfold namedP at hn
        by_cases h1 : a = 1
        · refine Ev.pos h1 (Ev.bind0 (itoa_eq hb.1 hb.2) (Ev.pos (by omega) (Ev.ret ?_)))
          unfold deedOf
          rw [if_neg (by omega), if_pos (by omega)]
        · refine Ev.neg h1 ⟨0, fun _ _ => ?_⟩
          have hz : b = 0 ∧ c = 0 := by omega
          obtain ⟨rfl, rfl⟩ := hz
          have h4 : a = 2 ∨ a = 3 ∨ a = 4 ∨ a = 5 := by omega
          rcases h4 with rfl | rfl | rfl | rfl <;> rfl
  unfold impl_DeedText.f
  refine Ev.bind0 (named_eq a b c) ?_
  by_cases hn : namedP a b c
  · refine Ev.pos (by simpa using hn) ?_
    by_cases h1 : b < 0
    · exact Ev.pos h1 (j0 _ (by simp) (fun _ h => by omega))
    refine Ev.neg h1 ?_
    by_cases h2 : b > 99
    · exact Ev.pos h2 (j0 _ (by simp) (fun _ h => by omega))
    refine Ev.neg h2 ?_
    by_cases h3 : c < 0
    · exact Ev.pos h3 (j0 _ (by simp) (fun _ h => by omega))
    refine Ev.neg h3 (j0 _ (fun e => ?_) (fun e h => ?_))
    · have := of_decide_eq_false e; exact ⟨hn, by omega, by omega⟩
    · have := of_decide_eq_true e; omega
  · exact Ev.neg (by simpa using hn) (j0 _ (by simp) (fun _ h => hn h.1))

theorem getD_lt {α : Type} {l : List α} {i : Nat} {z : α} (h : i < l.length) : l.getD i z = l[i] := by
  rw [List.getD_eq_getElem?_getD, List.getElem?_eq_getElem h]; rfl
/-- A deed of the laws' own kind, as one of the program's. -/
def deed (x : S23) : S25 := ⟨x.f0, x.f1, x.f2⟩
theorem rd23 (l : List S23) (i : Nat) : rd_T23 l (i : Int) = l.getD i z23 := by simp [rd_T23]
theorem rd25 (l : List S25) (i : Nat) : rd_T25 l (i : Int) = l.getD i z25 := by simp [rd_T25]
theorem toDeedS_loop (l : List S23) (hl : l.length < 1099511627776) : ∀ d i : Nat, i + d = l.length → ∀ out : List S25, out.length = l.length → out.take i = (l.take i).map deed →
    Ev (fun k => laws_toDeedS.l0 k l out (i : Int)) (l.map deed) := by
  intro d
  induction d with
  | zero =>
    intro i hi out ho ht
    refine Ev.step (fun k => by rw [laws_toDeedS.l0]) ?_
    refine Ev.neg (by omega) (Ev.ret ?_)
    rw [List.take_of_length_le (by omega), List.take_of_length_le (by omega)] at ht
    exact ht
  | succ d ih =>
    intro i hi out ho ht
    refine Ev.step (fun k => by rw [laws_toDeedS.l0]) ?_
    refine Ev.pos (by omega) (Ev.pos (by omega) (Ev.bind0 (o := laws_toDeed.f _ _ _) rfl (Ev.pos (by omega) ?_)))
    rw [wrap_add1 (by omega), Int.toNat_natCast]
    refine ih (i + 1) (by omega) _ (by simpa using ho) ?_
    rw [List.take_add_one, List.take_add_one, List.map_append, List.take_set_of_le (Nat.le_refl _), ht]
    congr 1
    rw [List.getElem?_set_self (by omega), List.getElem?_eq_getElem (show i < l.length by omega), rd23, getD_lt (show i < l.length by omega)]
    rfl
theorem toDeedS_ev (l : List S23) (hl : l.length ≤ 1048576) : Ev (fun k => laws_toDeedS.f k l) (l.map deed) := by
  unfold laws_toDeedS.f
  refine Ev.pos (by omega) (Ev.pos (by omega) ?_)
  exact toDeedS_loop l (by omega) l.length 0 (by omega) _ (by simp) (by simp)
theorem eqDeed_self (a b c : Int) : laws_eqDeed.f a b c a b c = some true := by simp [laws_eqDeed.f]
theorem eqDeedS_loop (l : List S25) (hl : l.length < 1099511627776) : ∀ d i : Nat, i + d = l.length → Ev (fun k => laws_eqDeedS.l0 k l l (i : Int)) true := by
  intro d
  induction d with
  | zero =>
    intro i hi
    refine Ev.step (fun k => by rw [laws_eqDeedS.l0]) ?_
    exact Ev.neg (by omega) (Ev.ret rfl)
  | succ d ih =>
    intro i hi
    refine Ev.step (fun k => by rw [laws_eqDeedS.l0]) ?_
    refine Ev.pos (by omega) (Ev.pos (by omega) (Ev.pos (by omega) (Ev.bind0 (eqDeed_self _ _ _) (Ev.pos rfl ?_))))
    rw [wrap_add1 (by omega)]
    exact ih (i + 1) (by omega)
theorem eqDeedS_ev (l : List S25) (hl : l.length < 1099511627776) : Ev (fun k => laws_eqDeedS.f k l l) true := by
  unfold laws_eqDeedS.f
  exact Ev.pos rfl (eqDeedS_loop l hl l.length 0 (by omega))
theorem szDeedS_eq (l : List S23) (hl : l.length ≤ maxLen) : ∃ r, laws_szDeedS.f l 1048576 = some r ∧ (¬ r < 0 → l.length ≤ 1048576) := by
  unfold laws_szDeedS.f
  unfold maxLen at hl
  have e : wrap64 (1048576 - (l.length : Int)) = 1048576 - (l.length : Int) := wrap_id (by omega) (by omega)
  rw [e]
  split
  · exact ⟨_, rfl, by simp⟩
  · exact ⟨_, rfl, fun h => by omega⟩

def deedTxt (d : S25) : ByteArray := deedOf d.f0 d.f1 d.f2
/-- The text of a journal behind what was written. -/
def jOf : List S25 → ByteArray → ByteArray
  | [], acc => acc
  | d :: r, acc => if (deedTxt d).toList = ([] : List UInt8) then ⟨#[]⟩ else jOf r ((acc ++ deedTxt d) ++ (⟨#[10]⟩ : ByteArray))
theorem deedOf_size (a b c : Int) : (deedOf a b c).size ≤ 10 := by
  have s1 := num_size b.toNat
  have s2 := num_size c.toNat
  have s3 : (⟨#[104, 101, 97, 100, 32]⟩ : ByteArray).size = 5 := rfl
  have s4 : (⟨#[32]⟩ : ByteArray).size = 1 := rfl
  have s5 : (⟨#[97, 100, 100, 32]⟩ : ByteArray).size = 4 := rfl
  unfold deedOf
  split
  · rw [ByteArray.size_append, ByteArray.size_append, ByteArray.size_append]; omega
  split
  · rw [ByteArray.size_append]; omega
  split
  · decide
  split
  · decide
  split
  · decide
  split
  · decide
  · decide
theorem getD_drop25 {l : List S25} {i : Nat} (h : i < l.length) : l.drop i = l.getD i z25 :: l.drop (i + 1) := by
  rw [getD_lt h]; exact List.drop_eq_getElem_cons h
theorem specJournal_loop (l : List S25) (hl : l.length ≤ 1048576) : ∀ d i : Nat, i + d = l.length → ∀ acc : ByteArray, acc.size ≤ 11 * i → Ev (fun k => spec_JournalText.l0 k l acc (i : Int)) (jOf (l.drop i) acc) := by
  intro d
  induction d with
  | zero =>
    intro i hi acc _
    rw [List.drop_eq_nil_of_le (by omega)]
    refine Ev.step (fun k => by rw [spec_JournalText.l0]) ?_
    exact Ev.neg (by omega) (Ev.ret rfl)
  | succ d ih =>
    intro i hi acc ha
    rw [getD_drop25 (by omega)]
    refine Ev.step (fun k => by rw [spec_JournalText.l0]) ?_
    rw [rd25]
    refine Ev.pos (by omega) (Ev.pos (by omega) (Ev.bind (specDeedText_ev _ _ _) ?_))
    have hs : (deedTxt (l.getD i z25)).size ≤ 10 := deedOf_size _ _ _
    have s1 : (⟨#[10]⟩ : ByteArray).size = 1 := rfl
    by_cases he : (deedTxt (l.getD i z25)).toList = ([] : List UInt8)
    · refine Ev.pos he (Ev.ret ?_)
      show _ = jOf (_ :: _) _
      rw [jOf, if_pos he]
    · refine Ev.neg he (Ev.bind (specDeedText_ev _ _ _) (Ev.pos (by have : (deedOf (l.getD i z25).f0 (l.getD i z25).f1 (l.getD i z25).f2).size ≤ 10 := hs; omega) (Ev.pos (by rw [ByteArray.size_append]; have : (deedOf (l.getD i z25).f0 (l.getD i z25).f1 (l.getD i z25).f2).size ≤ 10 := hs; omega) ?_)))
      rw [wrap_add1 (by omega), jOf, if_neg he]
      refine ih (i + 1) (by omega) _ ?_
      rw [ByteArray.size_append, ByteArray.size_append]
      have : (deedOf (l.getD i z25).f0 (l.getD i z25).f1 (l.getD i z25).f2).size ≤ 10 := hs
      omega
theorem implJournal_loop (l : List S25) (hl : l.length ≤ 1048576) : ∀ d i : Nat, i + d = l.length → ∀ acc : ByteArray, acc.size ≤ 11 * i → Ev (fun k => impl_JournalText.l0 k acc l (l.length : Int) (i : Int)) (jOf (l.drop i) acc) := by
  intro d
  induction d with
  | zero =>
    intro i hi acc _
    rw [List.drop_eq_nil_of_le (by omega)]
    refine Ev.step (fun k => by rw [impl_JournalText.l0]) ?_
    exact Ev.neg (by omega) (Ev.ret rfl)
  | succ d ih =>
    intro i hi acc ha
    rw [getD_drop25 (by omega)]
    refine Ev.step (fun k => by rw [impl_JournalText.l0]) ?_
    rw [rd25]
    refine Ev.pos (by omega) (Ev.pos (by omega) (Ev.pos (by omega) (Ev.bind (implDeedText_ev _ _ _) ?_)))
    have hs : (deedOf (l.getD i z25).f0 (l.getD i z25).f1 (l.getD i z25).f2).size ≤ 10 := deedOf_size _ _ _
    have s1 : (⟨#[10]⟩ : ByteArray).size = 1 := rfl
    by_cases he : (deedTxt (l.getD i z25)).toList = ([] : List UInt8)
    · refine Ev.pos he (Ev.ret ?_)
      rw [jOf, if_pos he]
    · refine Ev.neg he (Ev.pos (by omega) (Ev.pos (by rw [ByteArray.size_append]; omega) ?_))
      rw [wrap_add1 (by omega), jOf, if_neg he, ← ByteArray.append_assoc]
      refine ih (i + 1) (by omega) _ ?_
      rw [ByteArray.size_append, ByteArray.size_append]
      omega

theorem FnExactJournalText : ∀ (l0 : List (S23)), l0.length ≤ maxLen → (∀ x ∈ l0, (Lit.int .i64 x.f0).wf = true ∧ (Lit.int .i64 x.f1).wf = true ∧ (Lit.int .i64 x.f2).wf = true) → ∃ k, laws_FnExactJournalText.f k l0 = some true := by
  intro l hl _
  refine Ev.rounds (g := fun k => laws_FnExactJournalText.f k l) ?_
  unfold laws_FnExactJournalText.f
  obtain ⟨r, h1, h2⟩ := szDeedS_eq l hl
  refine Ev.bind0 h1 (Ev.ite (fun _ => Ev.ret rfl) (fun h => ?_))
  have hn := h2 h
  have hm : (l.map deed).length ≤ 1048576 := by simpa using hn
  have e1 : Ev (fun k => spec_JournalText.f k (l.map deed)) (jOf (l.map deed) ⟨#[]⟩) := by
    unfold spec_JournalText.f
    exact specJournal_loop _ hm (l.map deed).length 0 (by omega) _ (by decide)
  have e2 : Ev (fun k => impl_JournalText.f k (l.map deed)) (jOf (l.map deed) ⟨#[]⟩) := by
    unfold impl_JournalText.f
    exact implJournal_loop _ hm (l.map deed).length 0 (by omega) _ (by decide)
  exact Ev.bind (toDeedS_ev l hn) (Ev.bind e1 (Ev.bind (toDeedS_ev l hn) (Ev.bind e2 (Ev.pos rfl (Ev.bind (toDeedS_ev l hn) (Ev.bind (eqDeedS_ev _ (by omega)) (Ev.pos rfl (Ev.ret rfl))))))))

end Go.Proofs.YtopfhdhdpnenpaaDoor.Pure
