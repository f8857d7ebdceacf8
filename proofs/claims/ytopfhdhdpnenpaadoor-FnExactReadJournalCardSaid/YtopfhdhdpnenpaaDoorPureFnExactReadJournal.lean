/- The plain statement of FnExactReadJournal: the printed functions answer true for all arguments within the printed bounds; no other conditions. -/
import Derived.Test.YtopfhdhdpnenpaaDoorLEx9
import Derived.Lib.CutLaws
import Derived.Lib.IndexBytes
import Derived.Lib.ItoaNum
import Derived.Lib.SplitLaws
import Derived.Lib.Strings
namespace Go.Proofs.YtopfhdhdpnenpaaDoor.Pure
open Go.RowKit Go.Proofs.YtopfhdhdpnenpaaDoor.LE Go.Proofs.YtopfhdhdpnenpaaDoorV.PrintWords Go.Proofs.YtopfhdhdpnenpaaDoorV.PrintLast
set_option linter.unusedVariables false
set_option linter.unusedSimpArgs false

theorem Ev.ret {α : Type} {r r' : α} (h : r = r') : Ev (fun _ => some r) r' := ⟨0, fun _ _ => by rw [h]⟩
theorem Ev.pos {α : Type} {c : Prop} [Decidable c] {g f : Nat → Option α} {r : α} (h : c) (k : Ev g r) : Ev (fun n => if c then g n else f n) r := by
  simpa only [if_pos h] using k
theorem Ev.neg {α : Type} {c : Prop} [Decidable c] {g f : Nat → Option α} {r : α} (h : ¬ c) (k : Ev f r) : Ev (fun n => if c then g n else f n) r := by
  simpa only [if_neg h] using k
theorem Ev.ite {α : Type} {c : Prop} [Decidable c] {g f : Nat → Option α} {r : α} (h : c → Ev g r) (k : ¬ c → Ev f r) : Ev (fun n => if c then g n else f n) r := by
  by_cases hc : c
  · exact Ev.pos hc (h hc)
  · exact Ev.neg hc (k hc)
theorem Ev.bind0 {α β : Type} {o : Option α} {f : Nat → α → Option β} {a : α} {r : β} (h : o = some a) (k : Ev (fun n => f n a) r) : Ev (fun n => o.bind (f n)) r := by
  subst h; simpa only [Option.bind_some] using k
theorem Ev.eq {α : Type} {g : Nat → Option α} {r r' : α} (h : Ev g r) (e : r = r') : Ev g r' := e ▸ h
theorem wrap_id {n : Int} (h0 : -9223372036854775808 ≤ n) (h1 : n < 9223372036854775808) : wrap64 n = n := by
  unfold wrap64; omega
theorem wrap_add1 {n : Nat} (h : n < 1099511627776) : wrap64 ((n : Int) + 1) = ((n + 1 : Nat) : Int) := by
  unfold wrap64; omega
theorem rd_nat (l : List Int) (j : Nat) : rd l (j : Int) = l.getD j 0 := by simp [rd]

/-- A text, cut at each space. -/
def cutL : List UInt8 → List (List UInt8)
  | [] => [[]]
  | c :: r => if c = 32 then [] :: cutL r else match cutL r with | [] => [[c]] | h :: t => (c :: h) :: t
theorem cutL_ne : ∀ l : List UInt8, cutL l ≠ []
  | [] => by simp [cutL]
  | c :: r => by
    rw [cutL]
    split
    · simp
    · split <;> simp
theorem cutL_word : ∀ {w : List UInt8}, 32 ∉ w → cutL w = [w]
  | [], _ => rfl
  | c :: r, h => by
    rw [cutL, if_neg (fun e => h (by simp [e])), cutL_word (w := r) (fun e => h (List.mem_cons_of_mem _ e))]
theorem cutL_app : ∀ {w r : List UInt8}, 32 ∉ w → cutL (w ++ 32 :: r) = w :: cutL r
  | [], r, _ => by simp [cutL]
  | c :: w, r, h => by
    rw [List.cons_append, cutL, if_neg (fun e => h (by simp [e])), cutL_app (w := w) (fun e => h (List.mem_cons_of_mem _ e))]
theorem cutL_len : ∀ (l : List UInt8) (w : List UInt8), w ∈ cutL l → w.length ≤ l.length
  | [], w, h => by simp [cutL] at h; simp [h]
  | c :: r, w, h => by
    rw [cutL] at h
    split at h
    · rcases List.mem_cons.1 h with h | h
      · simp [h]
      · have := cutL_len r w h; simp; omega
    · split at h
      · simp at h; simp [h]
      · rename_i a t e
        rcases List.mem_cons.1 h with h | h
        · have := cutL_len r a (by rw [e]; simp); simp [h]; omega
        · have := cutL_len r w (by rw [e]; simp [h]); simp; omega
theorem splitK_cutL : ∀ l : List UInt8, Lib.splitK [32] 0 (l.count 32) l = cutL l
  | [] => rfl
  | b :: l => by
    have ih := splitK_cutL l
    by_cases h : b = 32
    · subst h
      have hix : Lib.index ((32 : UInt8) :: l) [32] = 0 := by rw [Lib.index]; simp [List.isPrefixOf]
      rw [List.count_cons_self, Lib.splitK, hix, if_neg (by decide), cutL, if_pos rfl]
      simp [ih]
    · have hp : ([32] : List UInt8).isPrefixOf (b :: l) = false := by simp [List.isPrefixOf, Ne.symm h]
      have hix : Lib.index (b :: l) [32] = if Lib.index l [32] == -1 then -1 else Lib.index l [32] + 1 := by rw [Lib.index, hp]; simp
      rw [List.count_cons_of_ne (by simpa using h), cutL, if_neg h, ← ih]
      cases hc : l.count 32 with
      | zero => rfl
      | succ m =>
        have hge := Lib.index_ge l [32]
        by_cases hm : Lib.index l [32] = -1
        · rw [Lib.splitK, Lib.splitK, hix, hm]; simp
        · obtain ⟨j, hj⟩ : ∃ j : Nat, Lib.index l [32] = j := ⟨(Lib.index l [32]).toNat, by omega⟩
          rw [Lib.splitK, Lib.splitK, hix, hj, if_neg (show ¬ ((j : Int) == -1) = true by simp), if_neg (show ¬ ((j : Int) == -1) = true by simp)]
          rw [if_neg (show ¬ ((j : Int) + 1 == -1) = true by simp; omega)]
          have e1 : ((j : Int) + 1).toNat = j + 1 := by omega
          simp [e1]
theorem split_cutL (s : ByteArray) : (Lib.splitB (⟨#[32]⟩ : ByteArray) 0 (Lib.countB s (⟨#[32]⟩ : ByteArray)) s).map (·.data.toList) = cutL s.data.toList := by
  rw [Lib.splitB_data]
  have : Lib.countB s (⟨#[32]⟩ : ByteArray) = s.data.toList.count 32 := by
    show Lib.count s.data.toList [32] = _
    exact Lib.count_one 32 _
  rw [this]
  exact splitK_cutL _
/-- The same, behind what was read of a word. -/
def cutP (p l : List UInt8) : List (List UInt8) := match cutL l with | [] => [p] | h :: t => (p ++ h) :: t
theorem cutP_nil (l : List UInt8) : cutP [] l = cutL l := by
  unfold cutP
  cases h : cutL l with
  | nil => exact absurd h (cutL_ne l)
  | cons a t => rfl
theorem cutP_end (p : List UInt8) : cutP p [] = [p] := by simp [cutP, cutL]
theorem cutP_space (p r : List UInt8) : cutP p (32 :: r) = p :: cutP [] r := by rw [cutP_nil]; simp [cutP, cutL]
theorem cutP_byte (p r : List UInt8) {c : UInt8} (h : c ≠ 32) : cutP p (c :: r) = cutP (p ++ [c]) r := by
  unfold cutP
  rw [cutL, if_neg h]
  cases e : cutL r with
  | nil => exact absurd e (cutL_ne r)
  | cons a t => simp
theorem bt_get {s : ByteArray} {i : Nat} (h : i < s.size) : ∃ c : UInt8, s.data.toList[i]? = some c ∧ bt s (i : Int) = (c.toNat : Int) := by
  refine ⟨s[i], ?_, ?_⟩
  · rw [List.getElem?_eq_getElem (by rw [← Lib.size_eq]; exact h)]
    rfl
  · rw [← bt_at s (i : Int) (by simpa using h)]
    simp
theorem extract_data (s : ByteArray) (a b : Nat) : (s.extract a b).data.toList = (s.data.toList.drop a).take (b - a) := by rw [Lib.extract_eq]
theorem l1Cut_loop (s : ByteArray) (hs : s.size ≤ 1048577) : ∀ d i : Nat, i + d = s.size → ∀ (from_ : Nat) (out : List ByteArray), from_ ≤ i → out.length ≤ i →
    ∃ r, Ev (fun k => spec_l1Cut.l0 k s 32 out (from_ : Int) (i : Int)) r ∧ r.map (·.data.toList) = out.map (·.data.toList) ++ cutP ((s.data.toList.drop from_).take (i - from_)) (s.data.toList.drop i) := by
  intro d
  induction d with
  | zero =>
    intro i hi from_ out hf ho
    refine ⟨_, Ev.step (fun k => by rw [spec_l1Cut.l0]) (Ev.neg (by omega) (Ev.pos (by omega) (Ev.pos (by omega) (Ev.pos (by omega) (Ev.ret rfl))))), ?_⟩
    have e : s.data.toList.drop i = [] := List.drop_eq_nil_of_le (by rw [← Lib.size_eq]; omega)
    rw [List.map_append, e, cutP_end]
    simp only [List.map_cons, List.map_nil, extract_data, Int.toNat_natCast]
    rw [show i = s.size by omega]
  | succ d ih =>
    intro i hi from_ out hf ho
    obtain ⟨c, hc, hb⟩ := bt_get (s := s) (i := i) (by omega)
    have hd : s.data.toList.drop i = c :: s.data.toList.drop (i + 1) := by
      obtain ⟨hl, he⟩ := List.getElem?_eq_some_iff.1 hc
      rw [List.drop_eq_getElem_cons hl, he]
    by_cases h32 : c = 32
    · subst h32
      obtain ⟨r, h1, h2⟩ := ih (i + 1) (by omega) (i + 1) (out ++ [s.extract from_ i]) (Nat.le_refl _) (by simp; omega)
      refine ⟨r, Ev.step (fun k => by rw [spec_l1Cut.l0]) (Ev.pos (by omega) (Ev.pos (by omega) (Ev.pos (by rw [hb]; rfl) (Ev.pos (by omega) (Ev.pos (by omega) (Ev.pos (by omega) (Ev.pos (by omega) ?_))))))), ?_⟩
      · rw [wrap_add1 (by omega)]; simpa using h1
      · rw [h2, hd, cutP_space]
        simp [extract_data]
    · obtain ⟨r, h1, h2⟩ := ih (i + 1) (by omega) from_ out (by omega) (by omega)
      refine ⟨r, Ev.step (fun k => by rw [spec_l1Cut.l0]) (Ev.pos (by omega) (Ev.pos (by omega) (Ev.neg (by rw [hb]; intro e; apply h32; apply UInt8.toNat_inj.1; show c.toNat = 32; omega) ?_))), ?_⟩
      · rw [wrap_add1 (by omega)]; exact h1
      · rw [h2, hd, cutP_byte _ _ h32]
        congr 2
        rw [show i + 1 - from_ = (i - from_) + 1 by omega, List.take_add_one, List.getElem?_drop, show from_ + (i - from_) = i by omega, hc]
        rfl
theorem l1Cut_ev (s : ByteArray) (hs : s.size ≤ 1048577) : ∃ r, Ev (fun k => spec_l1Cut.f k s 32) r ∧ r.map (·.data.toList) = cutL s.data.toList := by
  obtain ⟨r, h1, h2⟩ := l1Cut_loop s hs s.size 0 (by omega) 0 [] (Nat.le_refl _) (Nat.le_refl _)
  refine ⟨r, by unfold spec_l1Cut.f; exact h1, ?_⟩
  simpa [cutP_nil] using h2

theorem l1In_eq (a b c : Int) : spec_l1In.f a b c = some (decide (b ≤ a ∧ a ≤ c)) := by
  unfold spec_l1In.f
  split
  · rename_i h; congr 1; rw [decide_eq_decide]; omega
  · rename_i h; congr 1; symm; rw [decide_eq_false_iff_not]; omega

/-- The numeral of a number below 100. -/
def num (u : Nat) : ByteArray := ⟨(if u < 10 then [UInt8.ofNat (48 + u)] else [UInt8.ofNat (48 + u / 10), UInt8.ofNat (48 + u % 10)]).toArray⟩
theorem num_size (u : Nat) : (num u).size ≤ 2 := by
  unfold num
  split <;> simp [ByteArray.size]
theorem digits_num {u : Nat} (h : u < 100) : (⟨(Lib.decDigits u).toArray⟩ : ByteArray) = num u := by
  unfold num
  rw [Lib.decDigits]
  split
  · rfl
  · rw [Lib.decDigits, dif_pos (by omega)]; rfl
theorem strOfNums_one (u : Nat) : strOfNums [(u : Int)] = ⟨#[UInt8.ofNat u]⟩ := by simp [strOfNums]
theorem mx0 {n : Int} (h : 0 ≤ n) : mx n 0 = n := by unfold mx; split <;> omega
theorem l1Number_ev {n : Int} (h0 : 0 ≤ n) (h1 : n ≤ 99) : Ev (fun k => spec_l1Number.f k n) (num n.toNat) := by
  obtain ⟨u, rfl⟩ : ∃ u : Nat, n = (u : Int) := ⟨n.toNat, by omega⟩
  simp only [Int.toNat_natCast]
  have small : ∀ v : Nat, v < 10 → Ev (fun k => spec_l1Number.f k (v : Int)) (num v) := by
    intro v hv
    refine ⟨1, fun k hk => ?_⟩
    obtain ⟨m, rfl⟩ : ∃ m, k = m + 1 := ⟨k - 1, by omega⟩
    show spec_l1Number.f (m + 1) (v : Int) = _
    unfold spec_l1Number.f
    rw [if_pos (by omega), mx0 (by omega)]
    have e : (wrap64 (48 + (v : Int))) % 256 = ((48 + v : Nat) : Int) := by unfold wrap64; omega
    rw [e, strOfNums_one]
    congr 1
    unfold num
    rw [if_pos hv]
  by_cases hu : u < 10
  · exact small u hu
  · obtain ⟨K, hK⟩ := small (u / 10) (by omega)
    refine ⟨K + 1, fun k hk => ?_⟩
    obtain ⟨m, rfl⟩ : ∃ m, k = m + 1 := ⟨k - 1, by omega⟩
    show spec_l1Number.f (m + 1) (u : Int) = _
    unfold spec_l1Number.f
    have e1 : wrap64 (Int.tdiv (u : Int) 10) = ((u / 10 : Nat) : Int) := by
      rw [Int.tdiv_eq_ediv_of_nonneg (by omega)]; unfold wrap64; omega
    have e2 : (wrap64 (48 + Int.tmod (u : Int) 10)) % 256 = ((48 + u % 10 : Nat) : Int) := by
      rw [Int.tmod_eq_emod_of_nonneg (by omega)]; unfold wrap64; omega
    rw [if_neg (by omega), e1, e2, show spec_l1Number.f m ((u / 10 : Nat) : Int) = some (num (u / 10)) from hK m (by omega)]
    simp only [Option.bind_some, strOfNums_one]
    have hs := num_size (u / 10)
    rw [if_pos (by have : (⟨#[UInt8.ofNat (48 + u % 10)]⟩ : ByteArray).size = 1 := rfl; omega)]
    congr 1
    unfold num
    rw [if_pos (show u / 10 < 10 by omega), if_neg hu]
    rfl
/-- The text of a deed. -/
def deedOf (a b c : Int) : ByteArray :=
  if a = 0 ∧ (0 ≤ b ∧ b ≤ 99) ∧ (0 ≤ c ∧ c ≤ 99) then (((⟨#[104, 101, 97, 100, 32]⟩ : ByteArray) ++ num b.toNat) ++ (⟨#[32]⟩ : ByteArray)) ++ num c.toNat
  else if a = 1 ∧ (0 ≤ b ∧ b ≤ 99) ∧ c = 0 then (⟨#[97, 100, 100, 32]⟩ : ByteArray) ++ num b.toNat
  else if a = 2 ∧ b = 0 ∧ c = 0 then ⟨#[100, 114, 111, 112]⟩
  else if a = 3 ∧ b = 0 ∧ c = 0 then ⟨#[116, 117, 114, 110]⟩
  else if a = 4 ∧ b = 0 ∧ c = 0 then ⟨#[102, 108, 97, 116]⟩
  else if a = 5 ∧ b = 0 ∧ c = 0 then ⟨#[98, 97, 99, 107]⟩
  else ⟨#[]⟩
theorem specDeedText_ev (a b c : Int) : Ev (fun k => spec_DeedText.f k a b c) (deedOf a b c) := by
  have j1 : ∀ x : Bool, (x = true → a = 1 ∧ (0 ≤ b ∧ b ≤ 99) ∧ c = 0) → (x = false → ¬ (a = 1 ∧ (0 ≤ b ∧ b ≤ 99) ∧ c = 0)) → ¬ (a = 0 ∧ (0 ≤ b ∧ b ≤ 99) ∧ (0 ≤ c ∧ c ≤ 99)) → Ev (fun k => spec_DeedText.j1 k x a b c) (deedOf a b c) := by
    intro x hx hy hn
    refine Ev.step (fun k => by rw [spec_DeedText.j1]) ?_
    unfold deedOf
    rw [if_neg hn]
    cases x with
    | true =>
      have h := hx rfl
      rw [if_pos h]
      refine Ev.pos rfl (Ev.bind (l1Number_ev h.2.1.1 h.2.1.2) (Ev.pos ?_ (Ev.ret rfl)))
      have := num_size b.toNat; omega
    | false =>
      rw [if_neg (hy rfl)]
      refine Ev.neg (by simp) ?_
      by_cases h2 : a = 2 ∧ b = 0 ∧ c = 0
      · rw [if_pos h2]; obtain ⟨rfl, rfl, rfl⟩ := h2; exact Ev.pos (by decide) (Ev.ret rfl)
      rw [if_neg h2]
      refine Ev.neg (by simp only [Bool.and_eq_true, beq_iff_eq]; exact h2) ?_
      by_cases h3 : a = 3 ∧ b = 0 ∧ c = 0
      · rw [if_pos h3]; obtain ⟨rfl, rfl, rfl⟩ := h3; exact Ev.pos (by decide) (Ev.ret rfl)
      rw [if_neg h3]
      refine Ev.neg (by simp only [Bool.and_eq_true, beq_iff_eq]; exact h3) ?_
      by_cases h4 : a = 4 ∧ b = 0 ∧ c = 0
      · rw [if_pos h4]; obtain ⟨rfl, rfl, rfl⟩ := h4; exact Ev.pos (by decide) (Ev.ret rfl)
      rw [if_neg h4]
      refine Ev.neg (by simp only [Bool.and_eq_true, beq_iff_eq]; exact h4) ?_
      by_cases h5 : a = 5 ∧ b = 0 ∧ c = 0
      · rw [if_pos h5]; obtain ⟨rfl, rfl, rfl⟩ := h5; exact Ev.pos (by decide) (Ev.ret rfl)
      rw [if_neg h5]
      refine Ev.neg (by simp only [Bool.and_eq_true, beq_iff_eq]; exact h5) (Ev.ret rfl)
  have j0 : ∀ x : Bool, (x = true → a = 0 ∧ (0 ≤ b ∧ b ≤ 99) ∧ (0 ≤ c ∧ c ≤ 99)) → (x = false → ¬ (a = 0 ∧ (0 ≤ b ∧ b ≤ 99) ∧ (0 ≤ c ∧ c ≤ 99))) → Ev (fun k => spec_DeedText.j0 k x a b c) (deedOf a b c) := by
    intro x hx hy
    refine Ev.step (fun k => by rw [spec_DeedText.j0]) ?_
    cases x with
    | true =>
      have h := hx rfl
      have s1 := num_size b.toNat
      have s2 := num_size c.toNat
      have s3 : (⟨#[104, 101, 97, 100, 32]⟩ : ByteArray).size = 5 := rfl
      have s4 : (⟨#[32]⟩ : ByteArray).size = 1 := rfl
      refine Ev.pos rfl (Ev.bind (l1Number_ev h.2.1.1 h.2.1.2) (Ev.pos (by omega) (Ev.pos (by rw [ByteArray.size_append]; omega) (Ev.bind (l1Number_ev h.2.2.1 h.2.2.2) (Ev.pos (by rw [ByteArray.size_append, ByteArray.size_append]; omega) (Ev.ret ?_))))))
      unfold deedOf; rw [if_pos h]
    | false =>
      refine Ev.neg (by simp) ?_
      by_cases h1 : a = 1
      · refine Ev.pos h1 (Ev.bind0 (l1In_eq _ _ _) ?_)
        by_cases hb : 0 ≤ b ∧ b ≤ 99
        · refine Ev.pos (by simpa using hb) (j1 _ (fun e => ⟨h1, hb, by simpa using e⟩) (fun e h => ?_) (hy rfl))
          rw [h.2.2] at e; simp at e
        · refine Ev.neg (by simpa using hb) (j1 _ (by simp) (fun _ h => hb h.2.1) (hy rfl))
      · exact Ev.neg h1 (j1 _ (by simp) (fun _ h => h1 h.1) (hy rfl))
  unfold spec_DeedText.f
  by_cases h0 : a = 0
  · refine Ev.pos h0 (Ev.bind0 (l1In_eq _ _ _) ?_)
    by_cases hb : 0 ≤ b ∧ b ≤ 99
    · refine Ev.pos (by simpa using hb) (Ev.bind0 (l1In_eq _ _ _) ?_)
      exact j0 _ (fun e => ⟨h0, hb, by simpa using e⟩) (fun e h => by simp at e; omega)
    · exact Ev.neg (by simpa using hb) (j0 _ (by simp) (fun _ h => hb h.2.1))
  · exact Ev.neg h0 (j0 _ (by simp) (fun _ h => h0 h.1))

/-- Whether a deed's unnamed numbers are 0. -/
def namedP (a b c : Int) : Prop := a = 0 ∨ (a = 1 ∧ c = 0) ∨ ((a = 2 ∨ a = 3 ∨ a = 4 ∨ a = 5) ∧ b = 0 ∧ c = 0)
instance (a b c : Int) : Decidable (namedP a b c) := by unfold namedP; infer_instance
theorem named_eq (a b c : Int) : impl_Deed_named.f a b c = some (decide (namedP a b c)) := by
  unfold impl_Deed_named.f namedP
  by_cases h0 : a = 0
  · rw [if_pos h0]; simp [h0]
  rw [if_neg h0]
  by_cases h1 : a = 1
  · subst h1; simp; by_cases hc : c = 0 <;> simp [hc]
  rw [if_neg h1]
  have go : ∀ (x : Int), (x = 2 ∨ x = 3 ∨ x = 4 ∨ x = 5) → (if b = 0 then some (c == 0) else some false) = some (decide (x = 0 ∨ (x = 1 ∧ c = 0) ∨ ((x = 2 ∨ x = 3 ∨ x = 4 ∨ x = 5) ∧ b = 0 ∧ c = 0))) := by
    intro x hx
    have n0 : x ≠ 0 := by omega
    have n1 : x ≠ 1 := by omega
    by_cases hb : b = 0
    · by_cases hc : c = 0 <;> simp [hb, hc, n0, n1, hx]
    · simp [hb, n0, n1]
  by_cases h2 : a = 2
  · rw [if_pos h2]; exact go a (by omega)
  rw [if_neg h2]
  by_cases h3 : a = 3
  · rw [if_pos h3]; exact go a (by omega)
  rw [if_neg h3]
  by_cases h4 : a = 4
  · rw [if_pos h4]; exact go a (by omega)
  rw [if_neg h4]
  by_cases h5 : a = 5
  · rw [if_pos h5]; exact go a (by omega)
  rw [if_neg h5]
  simp [h0, h1, h2, h3, h4, h5]
theorem itoa_eq {n : Int} (h0 : 0 ≤ n) (h1 : n ≤ 99) : strconv_Itoa.f n = some (num n.toNat) := by
  unfold strconv_Itoa.f
  rw [if_pos (by omega), digits_num (by omega)]
theorem implDeedText_ev (a b c : Int) : Ev (fun k => impl_DeedText.f k a b c) (deedOf a b c) := by
  have j0 : ∀ x : Bool, (x = false → namedP a b c ∧ (0 ≤ b ∧ b ≤ 99) ∧ (0 ≤ c ∧ c ≤ 99)) → (x = true → ¬ (namedP a b c ∧ (0 ≤ b ∧ b ≤ 99) ∧ (0 ≤ c ∧ c ≤ 99))) → Ev (fun k => impl_DeedText.j0 k x a b c) (deedOf a b c) := by
    intro x hx hy
    refine Ev.step (fun k => by rw [impl_DeedText.j0]) ?_
    cases x with
    | true =>
      have h := hy rfl
      unfold namedP at h
      refine Ev.pos rfl (Ev.ret ?_)
      unfold deedOf
      rw [if_neg (by omega), if_neg (by omega), if_neg (by omega), if_neg (by omega), if_neg (by omega), if_neg (by omega)]
    | false =>
      obtain ⟨hn, hb, hc⟩ := hx rfl
      refine Ev.neg (by simp) ?_
      have s1 := num_size b.toNat
      have s2 := num_size c.toNat
      have s3 : (⟨#[104, 101, 97, 100, 32]⟩ : ByteArray).size = 5 := rfl
      have s4 : (⟨#[32]⟩ : ByteArray).size = 1 := rfl
      by_cases h0 : a = 0
      · refine Ev.pos h0 (Ev.bind0 (itoa_eq hb.1 hb.2) (Ev.pos (by omega) (Ev.pos (by rw [ByteArray.size_append]; omega) (Ev.bind0 (itoa_eq hc.1 hc.2) (Ev.pos (by rw [ByteArray.size_append, ByteArray.size_append]; omega) (Ev.ret ?_))))))
        unfold deedOf; rw [if_pos ⟨h0, hb, hc⟩]
      · refine Ev.neg h0 ?_
        unfold namedP at hn
        by_cases h1 : a = 1
        · refine Ev.pos h1 (Ev.bind0 (itoa_eq hb.1 hb.2) (Ev.pos (by omega) (Ev.ret ?_)))
          unfold deedOf
          rw [if_neg (by omega), if_pos (by omega)]
        · refine Ev.neg h1 ⟨0, fun _ _ => ?_⟩
          have hz : b = 0 ∧ c = 0 := by omega
          obtain ⟨rfl, rfl⟩ := hz
          have h4 : a = 2 ∨ a = 3 ∨ a = 4 ∨ a = 5 := by omega
          rcases h4 with rfl | rfl | rfl | rfl <;> rfl
  unfold impl_DeedText.f
  refine Ev.bind0 (named_eq a b c) ?_
  by_cases hn : namedP a b c
  · refine Ev.pos (by simpa using hn) ?_
    by_cases h1 : b < 0
    · exact Ev.pos h1 (j0 _ (by simp) (fun _ h => by omega))
    refine Ev.neg h1 ?_
    by_cases h2 : b > 99
    · exact Ev.pos h2 (j0 _ (by simp) (fun _ h => by omega))
    refine Ev.neg h2 ?_
    by_cases h3 : c < 0
    · exact Ev.pos h3 (j0 _ (by simp) (fun _ h => by omega))
    refine Ev.neg h3 (j0 _ (fun e => ?_) (fun e h => ?_))
    · have := of_decide_eq_false e; exact ⟨hn, by omega, by omega⟩
    · have := of_decide_eq_true e; omega
  · exact Ev.neg (by simpa using hn) (j0 _ (by simp) (fun _ h => hn h.1))

theorem num_all : (List.range 100).all (fun b => decide (32 ∉ (num b).data.toList) && decide (atoiVal (num b) = (b : Int)) && decide (spec_l1Digits.f 6 (num b) = some (b : Int))) = true := by decide +kernel
theorem num_facts {b : Int} (h0 : 0 ≤ b) (h1 : b ≤ 99) : 32 ∉ (num b.toNat).data.toList ∧ atoiVal (num b.toNat) = b ∧ Ev (fun k => spec_l1Digits.f k (num b.toNat)) b := by
  obtain ⟨u, rfl⟩ : ∃ u : Nat, b = (u : Int) := ⟨b.toNat, by omega⟩
  simp only [Int.toNat_natCast]
  have h := List.all_eq_true.1 num_all u (List.mem_range.2 (by omega))
  simp only [Bool.and_eq_true, decide_eq_true_eq] at h
  exact ⟨h.1.1, h.1.2, Ev.of (fun k => spec_l1Digits.mono _ k) h.2⟩
/-- Which word of the table a word is. -/
def findI (w : ByteArray) : Nat → Nat → Int
  | 0, _ => -1
  | d + 1, i => if w.toList = (rdOf ByteArray.empty wordsL (i : Int)).toList then (i : Int) else findI w d (i + 1)
theorem index_ev (w : ByteArray) : Ev (fun k => slices_Index_string_string.f k wordsL w) (findI w 6 0) := by
  have loop : ∀ d i : Nat, i + d = 6 → Ev (fun k => slices_Index_string_string.l0 k wordsL w (wordsL.length : Int) (i : Int)) (findI w d i) := by
    intro d
    induction d with
    | zero => 
      intro i hi
      refine Ev.step (fun k => by rw [slices_Index_string_string.l0]) ?_
      exact Ev.neg (by show ¬ ((i : Int) < 6); omega) (Ev.ret rfl)
    | succ d ih =>
      intro i hi
      refine Ev.step (fun k => by rw [slices_Index_string_string.l0]) ?_
      refine Ev.pos (by show (i : Int) < 6; omega) (Ev.pos (by omega) (Ev.pos (by show (i : Int) < 6; omega) ?_))
      unfold findI
      by_cases h : w.toList = (rdOf ByteArray.empty wordsL (i : Int)).toList
      · rw [if_pos h]; exact Ev.pos h (Ev.ret rfl)
      · rw [if_neg h]
        refine Ev.neg h ?_
        rw [wrap_add1 (by omega)]
        exact ih (i + 1) (by omega)
  unfold slices_Index_string_string.f
  exact loop 6 0 rfl
theorem rdS (l : List ByteArray) (i : Nat) : rdOf ByteArray.empty l (i : Int) = l.getD i ByteArray.empty := by simp [rdOf]
/-- The pieces of a text. -/
def pieces (s : ByteArray) : List ByteArray := Lib.splitB (⟨#[32]⟩ : ByteArray) 0 (Lib.countB s (⟨#[32]⟩ : ByteArray)) s
theorem pieces_data (s : ByteArray) : (pieces s).map (·.data.toList) = cutL s.data.toList := split_cutL s
theorem pieces_pos (s : ByteArray) : 0 < (pieces s).length := by
  have h := congrArg List.length (pieces_data s)
  rw [List.length_map] at h
  have := cutL_ne s.data.toList
  cases e : cutL s.data.toList with
  | nil => exact absurd e this
  | cons a t => rw [e] at h; simp at h; omega
theorem piece_size (s : ByteArray) (i : Nat) : ((pieces s).getD i ByteArray.empty).size ≤ s.size := by
  by_cases h : i < (pieces s).length
  · rw [List.getD_eq_getElem?_getD, List.getElem?_eq_getElem h, Option.getD_some, Lib.size_eq, Lib.size_eq]
    refine cutL_len _ _ ?_
    rw [← pieces_data]
    exact List.mem_map.2 ⟨_, List.getElem_mem h, rfl⟩
  · rw [List.getD_eq_getElem?_getD, List.getElem?_eq_none (by omega)]
    exact Nat.zero_le _
/-- What the program takes a text for. -/
def candA (s : ByteArray) : Int := findI ((pieces s).getD 0 ByteArray.empty) 6 0
def candB (s : ByteArray) : Int := if 1 < (pieces s).length then atoiVal ((pieces s).getD 1 ByteArray.empty) else 0
def candC (s : ByteArray) : Int := if 2 < (pieces s).length then atoiVal ((pieces s).getD 2 ByteArray.empty) else 0
def readI (s : ByteArray) : Int × Int × Int × Bool :=
  if s.toList = ([] : List UInt8) then (0, 0, 0, false) else if (deedOf (candA s) (candB s) (candC s)).toList = s.toList then (candA s, candB s, candC s, true) else (0, 0, 0, false)
theorem implReadDeed_ev (s : ByteArray) (hs : s.size ≤ 1048577) : Ev (fun k => impl_ReadDeed.f k s) (readI s) := by
  have at1 : ∀ i : Nat, strconv_Atoi.f (rdOf ByteArray.empty (pieces s) (i : Int)) = some (atoiVal ((pieces s).getD i ByteArray.empty), 0) := by
    intro i
    unfold strconv_Atoi.f
    have := piece_size s i
    rw [rdS, if_pos (by omega)]
  have tail : ∀ c : Int, Ev (fun k => if s.toList = ([] : List UInt8) then (some ((0 : Int), (0 : Int), (0 : Int), false)) else ((impl_DeedText.f k (candA s) (candB s) c).bind fun t121 => (if t121.toList = s.toList then (some (candA s, candB s, c, true)) else (some (0, 0, 0, false)))))
      (if s.toList = ([] : List UInt8) then (0, 0, 0, false) else if (deedOf (candA s) (candB s) c).toList = s.toList then (candA s, candB s, c, true) else (0, 0, 0, false)) := by
    intro c
    by_cases h : s.toList = ([] : List UInt8)
    · rw [if_pos h]; exact Ev.pos h (Ev.ret rfl)
    · rw [if_neg h]
      refine Ev.neg h (Ev.bind (implDeedText_ev _ _ _) ?_)
      by_cases h2 : (deedOf (candA s) (candB s) c).toList = s.toList
      · simp only [if_pos h2]; exact Ev.ret rfl
      · simp only [if_neg h2]; exact Ev.ret rfl
  have j0 : Ev (fun k => impl_ReadDeed.j0 k s (pieces s) (candA s) (candB s) 0) (readI s) := by
    refine Ev.step (fun k => by rw [impl_ReadDeed.j0]) ?_
    unfold readI
    by_cases h2 : 2 < (pieces s).length
    · have hc : candC s = atoiVal ((pieces s).getD 2 ByteArray.empty) := by unfold candC; rw [if_pos h2]
      rw [hc]
      exact Ev.pos (by omega) (Ev.pos (by omega) (Ev.bind0 (at1 2) (tail _)))
    · have hc : candC s = 0 := by unfold candC; rw [if_neg h2]
      rw [hc]
      exact Ev.neg (by omega) (tail 0)
  unfold impl_ReadDeed.f
  refine Ev.bind0 (a := pieces s) (by unfold strings_Split.f; rw [if_pos ⟨by omega, by decide⟩]; rfl) ?_
  have hp := pieces_pos s
  refine Ev.pos (by omega) (Ev.bind (a := candA s) ?_ ?_)
  · have := index_ev ((pieces s).getD 0 ByteArray.empty)
    rw [show rdOf ByteArray.empty (pieces s) 0 = (pieces s).getD 0 ByteArray.empty from rdS _ 0]
    exact this
  · by_cases h1 : 1 < (pieces s).length
    · have hb : candB s = atoiVal ((pieces s).getD 1 ByteArray.empty) := by unfold candB; rw [if_pos h1]
      refine Ev.pos (by omega) (Ev.pos (by omega) (Ev.bind0 (at1 1) ?_))
      rw [hb] at j0
      exact j0
    · have hb : candB s = 0 := by unfold candB; rw [if_neg h1]
      refine Ev.neg (by omega) ?_
      rw [hb] at j0
      exact j0

theorem getD_lt {α : Type} {l : List α} {i : Nat} {z : α} (h : i < l.length) : l.getD i z = l[i] := by
  rw [List.getD_eq_getElem?_getD, List.getElem?_eq_getElem h]; rfl
theorem rd25 (l : List S25) (i : Nat) : rd_T25 l (i : Int) = l.getD i z25 := by simp [rd_T25]
theorem eqDeed_self (a b c : Int) : laws_eqDeed.f a b c a b c = some true := by simp [laws_eqDeed.f]

theorem data_inj {s t : ByteArray} (h : s.data.toList = t.data.toList) : s = t := by
  obtain ⟨⟨l⟩⟩ := s
  obtain ⟨⟨m⟩⟩ := t
  simp at h
  rw [h]
theorem toList_inj {s t : ByteArray} (h : s.toList = t.toList) : s = t := data_inj (by rw [← Lib.toList_data, ← Lib.toList_data]; exact h)
theorem toList_nil {s : ByteArray} (h : s = ⟨#[]⟩) : s.toList = ([] : List UInt8) := by rw [h, Lib.toList_data]
/-- The pieces of a deed's text. -/
theorem cut_head {b c : Int} (hb : 0 ≤ b ∧ b ≤ 99) (hc : 0 ≤ c ∧ c ≤ 99) :
    cutL ((((⟨#[104, 101, 97, 100, 32]⟩ : ByteArray) ++ num b.toNat) ++ (⟨#[32]⟩ : ByteArray)) ++ num c.toNat).data.toList = [[104, 101, 97, 100], (num b.toNat).data.toList, (num c.toNat).data.toList] := by
  have e : ((((⟨#[104, 101, 97, 100, 32]⟩ : ByteArray) ++ num b.toNat) ++ (⟨#[32]⟩ : ByteArray)) ++ num c.toNat).data.toList = [104, 101, 97, 100] ++ 32 :: ((num b.toNat).data.toList ++ 32 :: (num c.toNat).data.toList) := by
    simp [ByteArray.data_append]
  rw [e, cutL_app (by decide), cutL_app (num_facts hb.1 hb.2).1, cutL_word (num_facts hc.1 hc.2).1]
theorem cut_add {b : Int} (hb : 0 ≤ b ∧ b ≤ 99) : cutL ((⟨#[97, 100, 100, 32]⟩ : ByteArray) ++ num b.toNat).data.toList = [[97, 100, 100], (num b.toNat).data.toList] := by
  have e : ((⟨#[97, 100, 100, 32]⟩ : ByteArray) ++ num b.toNat).data.toList = [97, 100, 100] ++ 32 :: (num b.toNat).data.toList := by
    simp [ByteArray.data_append]
  rw [e, cutL_app (by decide), cutL_word (num_facts hb.1 hb.2).1]
theorem list_of_data {L M : List ByteArray} (h : L.map (·.data.toList) = M.map (·.data.toList)) : L = M := by
  induction L generalizing M with
  | nil => cases M with
    | nil => rfl
    | cons => simp at h
  | cons a l ih => cases M with
    | nil => simp at h
    | cons b m =>
      simp only [List.map_cons, List.cons.injEq] at h
      rw [data_inj h.1, ih h.2]
/-- A deed that has a text. -/
def hasText (a b c : Int) : Prop := (a = 0 ∧ (0 ≤ b ∧ b ≤ 99) ∧ (0 ≤ c ∧ c ≤ 99)) ∨ (a = 1 ∧ (0 ≤ b ∧ b ≤ 99) ∧ c = 0) ∨ ((a = 2 ∨ a = 3 ∨ a = 4 ∨ a = 5) ∧ b = 0 ∧ c = 0)
theorem hasText_of {a b c : Int} (h : (deedOf a b c).toList ≠ ([] : List UInt8)) : hasText a b c := by
  unfold hasText
  by_cases h1 : a = 0 ∧ (0 ≤ b ∧ b ≤ 99) ∧ (0 ≤ c ∧ c ≤ 99)
  · exact Or.inl h1
  by_cases h2 : a = 1 ∧ (0 ≤ b ∧ b ≤ 99) ∧ c = 0
  · exact Or.inr (Or.inl h2)
  by_cases h3 : (a = 2 ∨ a = 3 ∨ a = 4 ∨ a = 5) ∧ b = 0 ∧ c = 0
  · exact Or.inr (Or.inr h3)
  · exfalso
    apply h
    apply toList_nil
    unfold deedOf
    rw [if_neg h1, if_neg h2, if_neg (fun e => h3 ⟨Or.inl e.1, e.2⟩), if_neg (fun e => h3 ⟨Or.inr (Or.inl e.1), e.2⟩), if_neg (fun e => h3 ⟨Or.inr (Or.inr (Or.inl e.1)), e.2⟩), if_neg (fun e => h3 ⟨Or.inr (Or.inr (Or.inr e.1)), e.2⟩)]
theorem deedOf0 {b c : Int} (hb : 0 ≤ b ∧ b ≤ 99) (hc : 0 ≤ c ∧ c ≤ 99) : deedOf 0 b c = (((⟨#[104, 101, 97, 100, 32]⟩ : ByteArray) ++ num b.toNat) ++ (⟨#[32]⟩ : ByteArray)) ++ num c.toNat := by
  unfold deedOf; rw [if_pos ⟨rfl, hb, hc⟩]
theorem deedOf1 {b : Int} (hb : 0 ≤ b ∧ b ≤ 99) : deedOf 1 b 0 = (⟨#[97, 100, 100, 32]⟩ : ByteArray) ++ num b.toNat := by
  unfold deedOf; rw [if_neg (by omega), if_pos ⟨rfl, hb, rfl⟩]
theorem pieces_of {s : ByteArray} {M : List ByteArray} (h : cutL s.data.toList = M.map (·.data.toList)) : pieces s = M := list_of_data (by rw [pieces_data, h])
theorem cand_of {a b c : Int} (h : hasText a b c) : candA (deedOf a b c) = a ∧ candB (deedOf a b c) = b ∧ candC (deedOf a b c) = c := by
  rcases h with ⟨rfl, hb, hc⟩ | ⟨rfl, hb, rfl⟩ | ⟨ha, rfl, rfl⟩
  · have p : pieces (deedOf 0 b c) = [⟨#[104, 101, 97, 100]⟩, num b.toNat, num c.toNat] := pieces_of (by rw [deedOf0 hb hc, cut_head hb hc]; rfl)
    unfold candA candB candC
    rw [p]
    exact ⟨by show findI (⟨#[104, 101, 97, 100]⟩ : ByteArray) 6 0 = 0; decide +kernel, (num_facts hb.1 hb.2).2.1, (num_facts hc.1 hc.2).2.1⟩
  · have p : pieces (deedOf 1 b 0) = [⟨#[97, 100, 100]⟩, num b.toNat] := pieces_of (by rw [deedOf1 hb, cut_add hb]; rfl)
    unfold candA candB candC
    rw [p]
    exact ⟨by show findI (⟨#[97, 100, 100]⟩ : ByteArray) 6 0 = 1; decide +kernel, (num_facts hb.1 hb.2).2.1, rfl⟩
  · have go : ∀ w : ByteArray, 32 ∉ w.data.toList → pieces w = [w] := fun w hw => pieces_of (by rw [cutL_word hw]; rfl)
    rcases ha with rfl | rfl | rfl | rfl
    · have p := go (deedOf 2 0 0) (by decide +kernel)
      unfold candA candB candC
      rw [p]
      exact ⟨by decide +kernel, rfl, rfl⟩
    · have p := go (deedOf 3 0 0) (by decide +kernel)
      unfold candA candB candC
      rw [p]
      exact ⟨by decide +kernel, rfl, rfl⟩
    · have p := go (deedOf 4 0 0) (by decide +kernel)
      unfold candA candB candC
      rw [p]
      exact ⟨by decide +kernel, rfl, rfl⟩
    · have p := go (deedOf 5 0 0) (by decide +kernel)
      unfold candA candB candC
      rw [p]
      exact ⟨by decide +kernel, rfl, rfl⟩
/-- What is read: the deed whose text it is. -/
theorem readI_text {a b c : Int} (h : (deedOf a b c).toList ≠ ([] : List UInt8)) : readI (deedOf a b c) = (a, b, c, true) := by
  have hc := cand_of (hasText_of h)
  unfold readI
  rw [if_neg h, hc.1, hc.2.1, hc.2.2, if_pos rfl]
theorem readI_none {s : ByteArray} (h : ∀ a b c : Int, (deedOf a b c).toList ≠ ([] : List UInt8) → deedOf a b c ≠ s) : readI s = (0, 0, 0, false) := by
  unfold readI
  by_cases h0 : s.toList = ([] : List UInt8)
  · rw [if_pos h0]
  · rw [if_neg h0, if_neg]
    intro e
    have e' := toList_inj e
    exact h _ _ _ (by rw [e]; exact h0) e'
theorem deedOf_inj {a b c a' b' c' : Int} (h : (deedOf a b c).toList ≠ ([] : List UInt8)) (e : deedOf a b c = deedOf a' b' c') : a = a' ∧ b = b' ∧ c = c' := by
  have h1 := readI_text h
  have h2 := readI_text (a := a') (b := b') (c := c') (by rw [← e]; exact h)
  rw [e, h2] at h1
  simp only [Prod.mk.injEq, and_true] at h1
  exact ⟨h1.1.symm, h1.2.1.symm, h1.2.2.symm⟩
theorem l1Digits_ev (s : ByteArray) : ∃ v, Ev (fun k => spec_l1Digits.f k s) v := by
  have loop : ∀ d i : Nat, i + d = s.size → s.size ≤ 6 → ∀ n : Int, ∃ v, Ev (fun k => spec_l1Digits.l0 k s n (i : Int)) v := by
    intro d
    induction d with
    | zero =>
      intro i hi _ n
      exact ⟨_, Ev.step (fun k => by rw [spec_l1Digits.l0]) (Ev.neg (show ¬ ((i : Int) < (s.size : Int)) by omega) (Ev.ret rfl))⟩
    | succ d ih =>
      intro i hi h6 n
      by_cases h1 : bt s (i : Int) < 48
      · exact ⟨_, Ev.step (fun k => by rw [spec_l1Digits.l0]) (Ev.pos (show (i : Int) < (s.size : Int) by omega) (Ev.pos (show (0 : Int) ≤ (i : Int) by omega) (Ev.pos h1 (Ev.ret rfl))))⟩
      by_cases h2 : bt s (i : Int) > 57
      · exact ⟨_, Ev.step (fun k => by rw [spec_l1Digits.l0]) (Ev.pos (show (i : Int) < (s.size : Int) by omega) (Ev.pos (show (0 : Int) ≤ (i : Int) by omega) (Ev.neg h1 (Ev.pos h2 (Ev.ret rfl)))))⟩
      obtain ⟨v, hv⟩ := ih (i + 1) (by omega) h6 (wrap64 ((wrap64 (10 * n)) + (((bt s (i : Int)) - 48) % 256)))
      refine ⟨v, Ev.step (fun k => by rw [spec_l1Digits.l0]) (Ev.pos (show (i : Int) < (s.size : Int) by omega) (Ev.pos (show (0 : Int) ≤ (i : Int) by omega) (Ev.neg h1 (Ev.neg h2 ?_))))⟩
      rw [wrap_add1 (by omega)]
      exact hv
  have j0 : s.size ≤ 6 → ∀ x : Bool, ∃ v, Ev (fun k => spec_l1Digits.j0 k s x) v := by
    intro h6 x
    cases x with
    | true => exact ⟨_, Ev.step (fun k => by rw [spec_l1Digits.j0]) (Ev.pos rfl (Ev.ret rfl))⟩
    | false =>
      obtain ⟨v, hv⟩ := loop s.size 0 (by omega) h6 0
      refine ⟨v, ?_⟩
      refine Ev.step (fun k => by rw [spec_l1Digits.j0]) ?_
      refine Ev.neg (by simp) ?_
      simpa using hv
  unfold spec_l1Digits.f
  by_cases h : (1 : Int) ≤ (s.size : Int) ∧ (s.size : Int) ≤ 6
  · by_cases h1 : (s.size : Int) > 1
    · obtain ⟨v, hv⟩ := j0 (by omega) (bt s 0 == 48)
      exact ⟨v, Ev.bind0 (l1In_eq _ _ _) (Ev.pos (by simpa using h) (Ev.pos h1 (Ev.pos (by omega) hv)))⟩
    · obtain ⟨v, hv⟩ := j0 (by omega) false
      exact ⟨v, Ev.bind0 (l1In_eq _ _ _) (Ev.pos (by simpa using h) (Ev.neg h1 hv))⟩
  · exact ⟨-1, Ev.bind0 (l1In_eq _ _ _) (Ev.neg (by simpa using h) (Ev.step (fun k => by rw [spec_l1Digits.j0]) (Ev.pos rfl (Ev.ret rfl))))⟩
/-- The reference goes through what the text may be. -/
def firstR (s : ByteArray) : List S25 → Int × Int × Int × Bool
  | [] => (0, 0, 0, false)
  | d :: r => if s.toList = ([] : List UInt8) then firstR s r else if (deedOf d.f0 d.f1 d.f2).toList = s.toList then (d.f0, d.f1, d.f2, true) else firstR s r
theorem firstR_ev (s : ByteArray) (l : List S25) (hl : l.length < 1099511627776) : ∀ d i : Nat, i + d = l.length → Ev (fun k => spec_ReadDeed.l0 k s l (i : Int)) (firstR s (l.drop i)) := by
  intro d
  induction d with
  | zero =>
    intro i hi
    rw [List.drop_eq_nil_of_le (by omega)]
    refine Ev.step (fun k => by rw [spec_ReadDeed.l0]) ?_
    exact Ev.neg (by omega) (Ev.ret rfl)
  | succ d ih =>
    intro i hi
    have hd : l.drop i = l.getD i z25 :: l.drop (i + 1) := by rw [getD_lt (show i < l.length by omega)]; exact List.drop_eq_getElem_cons (by omega)
    rw [hd, firstR]
    refine Ev.step (fun k => by rw [spec_ReadDeed.l0]) ?_
    rw [rd25]
    refine Ev.pos (by omega) ?_
    by_cases h : s.toList = ([] : List UInt8)
    · rw [if_pos h]
      refine Ev.pos h ?_
      rw [wrap_add1 (by omega)]
      exact ih (i + 1) (by omega)
    · rw [if_neg h]
      refine Ev.neg h (Ev.pos (by omega) (Ev.bind (specDeedText_ev _ _ _) ?_))
      by_cases h2 : (deedOf (l.getD i z25).f0 (l.getD i z25).f1 (l.getD i z25).f2).toList = s.toList
      · rw [if_pos h2]; exact Ev.pos h2 (Ev.ret rfl)
      · rw [if_neg h2]
        refine Ev.neg h2 ?_
        rw [wrap_add1 (by omega)]
        exact ih (i + 1) (by omega)
theorem firstR_none (s : ByteArray) (h : ∀ a b c : Int, (deedOf a b c).toList ≠ ([] : List UInt8) → deedOf a b c ≠ s) : ∀ l, firstR s l = (0, 0, 0, false)
  | [] => rfl
  | d :: r => by
    rw [firstR]
    by_cases h0 : s.toList = ([] : List UInt8)
    · rw [if_pos h0]; exact firstR_none s h r
    · rw [if_neg h0, if_neg]
      · exact firstR_none s h r
      · intro e
        exact h _ _ _ (by rw [e]; exact h0) (toList_inj e)
theorem firstR_text {a b c : Int} (h : (deedOf a b c).toList ≠ ([] : List UInt8)) : ∀ l, (⟨a, b, c⟩ : S25) ∈ l → firstR (deedOf a b c) l = (a, b, c, true)
  | [], hm => by cases hm
  | d :: r, hm => by
    rw [firstR, if_neg h]
    by_cases h2 : (deedOf d.f0 d.f1 d.f2).toList = (deedOf a b c).toList
    · rw [if_pos h2]
      obtain ⟨rfl, rfl, rfl⟩ := deedOf_inj (a := a) (b := b) (c := c) h (toList_inj h2).symm
      rfl
    · rw [if_neg h2]
      rcases List.mem_cons.1 hm with e | e
      · rw [← e] at h2; exact absurd rfl h2
      · exact firstR_text h r e
theorem specReadDeed_ev (s : ByteArray) (hs : s.size ≤ 1048577) : Ev (fun k => spec_ReadDeed.f k s) (readI s) := by
  obtain ⟨L, hL, hd⟩ := l1Cut_ev s hs
  obtain ⟨v1, e1⟩ := l1Digits_ev (L.getD 1 ByteArray.empty)
  obtain ⟨v2, e2⟩ := l1Digits_ev (L.getD 2 ByteArray.empty)
  have uniq : ∀ {g : Nat → Option Int} {x y : Int}, Ev g x → Ev g y → x = y := by
    rintro g x y ⟨K, h1⟩ ⟨K', h2⟩
    have a := h1 (max K K') (by omega)
    have b := h2 (max K K') (by omega)
    rw [a] at b
    exact Option.some.inj b
  -- whatever the list is, with what the text may be in it
  have fin : ∀ l : List S25, l.length < 1099511627776 → (∀ a b c : Int, (deedOf a b c).toList ≠ ([] : List UInt8) → deedOf a b c = s → (⟨a, b, c⟩ : S25) ∈ l) → firstR s l = readI s := by
    intro l _ hm
    by_cases hx : ∃ a b c : Int, (deedOf a b c).toList ≠ ([] : List UInt8) ∧ deedOf a b c = s
    · obtain ⟨a, b, c, h0, rfl⟩ := hx
      rw [readI_text h0, firstR_text h0 l (hm a b c h0 rfl)]
    · have hn : ∀ a b c : Int, (deedOf a b c).toList ≠ ([] : List UInt8) → deedOf a b c ≠ s := fun a b c h0 e => hx ⟨a, b, c, h0, e⟩
      rw [readI_none hn, firstR_none s hn]
  have j1 : ∀ l : List S25, l.length < 1099511627776 → (∀ a b c : Int, (deedOf a b c).toList ≠ ([] : List UInt8) → deedOf a b c = s → (⟨a, b, c⟩ : S25) ∈ l) → Ev (fun k => spec_ReadDeed.j1 k s l) (readI s) := by
    intro l hl hm
    refine Ev.step (fun k => by rw [spec_ReadDeed.j1]) ?_
    rw [← fin l hl hm]
    have := firstR_ev s l hl l.length 0 (by omega)
    simpa using this
  have hlist : ∀ {M : List ByteArray}, cutL s.data.toList = M.map (·.data.toList) → L = M := fun h => list_of_data (by rw [hd, h])
  have four : ∀ {a b c : Int}, (a = 2 ∨ a = 3 ∨ a = 4 ∨ a = 5) ∧ b = 0 ∧ c = 0 → (⟨a, b, c⟩ : S25) ∈ [(⟨2, 0, 0⟩ : S25), (⟨3, 0, 0⟩ : S25), (⟨4, 0, 0⟩ : S25), (⟨5, 0, 0⟩ : S25)] := by
    rintro a b c ⟨h | h | h | h, rfl, rfl⟩ <;> subst h <;> simp
  have head3 : ∀ {b c : Int}, (0 ≤ b ∧ b ≤ 99) → (0 ≤ c ∧ c ≤ 99) → deedOf 0 b c = s → L.length = 3 ∧ v1 = b ∧ v2 = c := by
    rintro b c hb hc rfl
    have p : L = [⟨#[104, 101, 97, 100]⟩, num b.toNat, num c.toNat] := hlist (by rw [deedOf0 hb hc, cut_head hb hc]; rfl)
    subst p
    exact ⟨rfl, uniq e1 (num_facts hb.1 hb.2).2.2, uniq e2 (num_facts hc.1 hc.2).2.2⟩
  have add2 : ∀ {b : Int}, (0 ≤ b ∧ b ≤ 99) → deedOf 1 b 0 = s → L.length = 2 ∧ v1 = b := by
    rintro b hb rfl
    have p : L = [⟨#[97, 100, 100]⟩, num b.toNat] := hlist (by rw [deedOf1 hb, cut_add hb]; rfl)
    subst p
    exact ⟨rfl, uniq e1 (num_facts hb.1 hb.2).2.2⟩
  unfold spec_ReadDeed.f
  refine Ev.bind hL (Ev.bind0 rfl ?_)
  have r1 : rdOf ByteArray.empty L 1 = L.getD 1 ByteArray.empty := rdS L 1
  have r2 : rdOf ByteArray.empty L 2 = L.getD 2 ByteArray.empty := rdS L 2
  by_cases h3 : (L.length : Int) = 3
  · refine Ev.pos h3 (Ev.pos (by omega) (Ev.bind (a := v1) (by rw [r1]; exact e1) (Ev.pos (by omega) (Ev.bind (a := v2) (by rw [r2]; exact e2) (Ev.pos (by decide) ?_)))))
    refine Ev.step (fun k => by rw [spec_ReadDeed.j0]) ?_
    refine Ev.neg (by omega) (j1 _ (by simp) ?_)
    intro a b c h0 e
    rcases hasText_of h0 with ⟨rfl, hb, hc⟩ | ⟨rfl, hb, rfl⟩ | h
    · obtain ⟨_, rfl, rfl⟩ := head3 hb hc e
      simp
    · have := add2 hb e; omega
    · exact List.mem_append_left _ (four h)
  · refine Ev.neg h3 ?_
    by_cases h2 : (L.length : Int) = 2
    · refine Ev.step (fun k => by rw [spec_ReadDeed.j0]) ?_
      refine Ev.pos h2 (Ev.pos (by omega) (Ev.bind (a := v1) (by rw [r1]; exact e1) (Ev.pos (by decide) (j1 _ (by simp) ?_))))
      intro a b c h0 e
      rcases hasText_of h0 with ⟨rfl, hb, hc⟩ | ⟨rfl, hb, rfl⟩ | h
      · have := head3 hb hc e; omega
      · obtain ⟨_, rfl⟩ := add2 hb e
        simp
      · exact List.mem_append_left _ (four h)
    · refine Ev.step (fun k => by rw [spec_ReadDeed.j0]) ?_
      refine Ev.neg h2 (j1 _ (by simp) ?_)
      intro a b c h0 e
      rcases hasText_of h0 with ⟨rfl, hb, hc⟩ | ⟨rfl, hb, rfl⟩ | h
      · have := head3 hb hc e; omega
      · have := add2 hb e; omega
      · exact four h

/-- Where the first newline stands. -/
def nl : List UInt8 → Option Nat
  | [] => none
  | c :: r => if c = 10 then some 0 else (nl r).map (· + 1)
theorem nl_index : ∀ l : List UInt8, Lib.index l [10] = match nl l with | none => -1 | some i => (i : Int)
  | [] => rfl
  | c :: r => by
    have ih := nl_index r
    rw [Lib.index_one] at ih ⊢
    rw [Lib.indexByte, nl]
    by_cases h : c = 10
    · subst h; simp
    · rw [if_neg (by simpa using h), if_neg h]
      cases e : nl r with
      | none => rw [e] at ih; rw [ih]; rfl
      | some i =>
        rw [e] at ih
        rw [ih]
        rw [if_neg (by simp)]
        rfl
theorem nl_lt : ∀ {l : List UInt8} {i : Nat}, nl l = some i → i < l.length
  | [], i, h => by simp [nl] at h
  | c :: r, i, h => by
    rw [nl] at h
    split at h
    · cases h; simp
    · cases e : nl r with
      | none => rw [e] at h; cases h
      | some j =>
        rw [e] at h
        have := nl_lt e
        simp at h
        simp; omega
theorem cut_nl (l : List UInt8) : Lib.cut l [10] = match nl l with | none => (l, [], false) | some i => (l.take i, l.drop (i + 1), true) := by
  unfold Lib.cut
  rw [nl_index]
  cases e : nl l with
  | none => rfl
  | some i => simp
/-- The deeds of the lines with which a text begins, behind a place. -/
def JR : Nat → ByteArray → Nat → List S25 → List S25 × Int
  | 0, _, i, out => (out, (i : Int))
  | n + 1, s, i, out => match nl (s.data.toList.drop i) with
    | none => (out, (i : Int))
    | some j => if (readI (s.extract i (i + j))).2.2.2 = true then JR n s (i + j + 1) (out ++ [(⟨(readI (s.extract i (i + j))).1, (readI (s.extract i (i + j))).2.1, (readI (s.extract i (i + j))).2.2.1⟩ : S25)]) else (out, (i : Int))
theorem drop_len (s : ByteArray) (i : Nat) : (s.data.toList.drop i).length = s.size - i := by rw [List.length_drop, ← Lib.size_eq]
theorem JR_len (s : ByteArray) : ∀ (n i : Nat) (out : List S25), i ≤ s.size → out.length ≤ i → (JR n s i out).1.length ≤ s.size
  | 0, i, out, h, h2 => by show out.length ≤ _; omega
  | n + 1, i, out, h, h2 => by
    rw [JR]
    cases e : nl (s.data.toList.drop i) with
    | none => show out.length ≤ _; omega
    | some j =>
      have hj := nl_lt e
      rw [drop_len] at hj
      simp only
      split
      · exact JR_len s n _ _ (by omega) (by simp; omega)
      · show out.length ≤ _; omega
theorem implJournalRead_loop (s : ByteArray) (hs : s.size ≤ 1048577) : ∀ (n i : Nat) (out : List S25), i ≤ s.size → s.size - i < n → out.length ≤ i →
    Ev (fun k => impl_ReadJournal.l0 k s out (i : Int)) (JR n s i out) := by
  intro n
  induction n with
  | zero => intro i out _ h _; omega
  | succ n ih =>
    intro i out hi hn ho
    refine Ev.step (fun k => by rw [impl_ReadJournal.l0]) ?_
    have hsz : (s.extract (i : Int).toNat s.size).size = s.size - i := by rw [ByteArray.size_extract]; simp
    have hd : (s.extract (i : Int).toNat s.size).data.toList = s.data.toList.drop i := by
      rw [extract_data, Int.toNat_natCast]
      exact List.take_of_length_le (by rw [drop_len]; omega)
    have hcut : strings_Cut.f (s.extract (i : Int).toNat s.size) (⟨#[10]⟩ : ByteArray) = some (⟨(Lib.cut (s.data.toList.drop i) [10]).1.toArray⟩, ⟨(Lib.cut (s.data.toList.drop i) [10]).2.1.toArray⟩, (Lib.cut (s.data.toList.drop i) [10]).2.2) := by
      unfold strings_Cut.f
      rw [if_pos (by rw [hsz]; omega), hd]
    refine Ev.pos (by omega) (Ev.pos (by omega) (Ev.bind0 hcut ?_))
    rw [cut_nl, JR]
    cases e : nl (s.data.toList.drop i) with
    | none =>
      simp only
      refine Ev.bind (implReadDeed_ev _ ?_) (Ev.neg (by simp) (Ev.bind0 (o := impl_Deed.f out) rfl (Ev.ret rfl)))
      rw [Lib.size_eq]; simp only [drop_len]; omega
    | some j =>
      have hj := nl_lt e
      rw [drop_len] at hj
      have hx : (⟨((s.data.toList.drop i).take j).toArray⟩ : ByteArray) = s.extract i (i + j) := by
        rw [Lib.extract_eq, show i + j - i = j by omega]
      have hz : (s.extract i (i + j)).size = j := by rw [ByteArray.size_extract]; omega
      simp only [hx]
      refine Ev.bind (implReadDeed_ev _ (by rw [hz]; omega)) (Ev.pos trivial ?_)
      by_cases hr : (readI (s.extract i (i + j))).2.2.2 = true
      · rw [if_pos hr]
        refine Ev.pos hr (Ev.pos (by omega) ?_)
        rw [hz, show wrap64 ((i : Int) + wrap64 ((j : Int) + 1)) = ((i + j + 1 : Nat) : Int) by unfold wrap64; omega]
        exact ih (i + j + 1) _ (by omega) (by omega) (by simp; omega)
      · rw [if_neg hr]
        exact Ev.neg hr (Ev.bind0 (o := impl_Deed.f out) rfl (Ev.ret rfl))
theorem specJournalRead_loop (s : ByteArray) (hs : s.size ≤ 1048577) : ∀ d i : Nat, i + d = s.size → ∀ (n a : Nat) (out : List S25), a ≤ i → s.size - a < n → out.length ≤ a →
    nl (s.data.toList.drop a) = (nl (s.data.toList.drop i)).map (· + (i - a)) → Ev (fun k => spec_ReadJournal.l0 k s out (a : Int) (i : Int)) (JR n s a out) := by
  intro d
  induction d with
  | zero =>
    intro i hi n a out ha hn ho hnl
    have e : s.data.toList.drop i = [] := List.drop_eq_nil_of_le (by rw [← Lib.size_eq]; omega)
    rw [e] at hnl
    refine Ev.step (fun k => by rw [spec_ReadJournal.l0]) ?_
    refine Ev.neg (by omega) (Ev.ret ?_)
    cases n with
    | zero => omega
    | succ n => rw [JR, hnl]; rfl
  | succ d ih =>
    intro i hi n a out ha hn ho hnl
    obtain ⟨c, hc, hb⟩ := bt_get (s := s) (i := i) (by omega)
    have hd : s.data.toList.drop i = c :: s.data.toList.drop (i + 1) := by
      obtain ⟨hl, he⟩ := List.getElem?_eq_some_iff.1 hc
      rw [List.drop_eq_getElem_cons hl, he]
    refine Ev.step (fun k => by rw [spec_ReadJournal.l0]) ?_
    refine Ev.pos (by omega) (Ev.pos (by omega) ?_)
    by_cases h10 : c = 10
    · subst h10
      have h0 : nl (s.data.toList.drop a) = some (i - a) := by rw [hnl, hd, nl, if_pos rfl]; simp
      have hz : (s.extract (a : Int).toNat (i : Int).toNat).size = i - a := by rw [ByteArray.size_extract]; simp; omega
      refine Ev.pos (by rw [hb]; rfl) (Ev.pos (by omega) (Ev.pos (by omega) (Ev.pos (by omega) (Ev.bind (specReadDeed_ev _ (by rw [hz]; omega)) ?_))))
      cases n with
      | zero => omega
      | succ n =>
        rw [JR, h0]
        simp only [Int.toNat_natCast, show a + (i - a) = i by omega]
        by_cases hr : (readI (s.extract a i)).2.2.2 = true
        · rw [if_pos hr]
          refine Ev.pos hr (Ev.pos (by omega) ?_)
          rw [wrap_add1 (by omega)]
          exact ih (i + 1) (by omega) n (i + 1) _ (Nat.le_refl _) (by omega) (by simp; omega) (by simp)
        · rw [if_neg hr]
          exact Ev.neg hr (Ev.ret rfl)
    · refine Ev.neg (by rw [hb]; intro e; apply h10; apply UInt8.toNat_inj.1; show c.toNat = 10; omega) ?_
      rw [wrap_add1 (by omega)]
      refine ih (i + 1) (by omega) n a out (by omega) hn ho ?_
      rw [hnl, hd, nl, if_neg h10, Option.map_map]
      congr 1
      funext x
      show x + 1 + (i - a) = x + (i + 1 - a)
      omega
/-- What is read of a journal. -/
def readJ (s : ByteArray) : List S25 × Int := JR (s.size + 1) s 0 []
theorem implReadJournal_ev (s : ByteArray) (hs : s.size ≤ 1048577) : Ev (fun k => impl_ReadJournal.f k s) (readJ s) := by
  unfold impl_ReadJournal.f
  exact implJournalRead_loop s hs (s.size + 1) 0 [] (by omega) (by omega) (by simp)
theorem specReadJournal_ev (s : ByteArray) (hs : s.size ≤ 1048577) : Ev (fun k => spec_ReadJournal.f k s) (readJ s) := by
  unfold spec_ReadJournal.f
  exact specJournalRead_loop s hs s.size 0 (by omega) (s.size + 1) 0 [] (by omega) (by omega) (by simp) (by simp)
theorem readJ_len (s : ByteArray) : (readJ s).1.length ≤ s.size := JR_len s _ 0 [] (by omega) (by simp)

/-- What was made is marked, number by number. -/
def marksD (n : Nat) : List S25 := (List.range n).map fun (i : Nat) => (⟨1 + 3 * (i : Int), 1 + 3 * (i : Int) + 1, 1 + 3 * (i : Int) + 1 + 1⟩ : S25)
theorem marksD_len (n : Nat) : (marksD n).length = n := by simp [marksD]
theorem marksD_succ (n : Nat) : marksD (n + 1) = marksD n ++ [(⟨1 + 3 * (n : Int), 1 + 3 * (n : Int) + 1, 1 + 3 * (n : Int) + 1 + 1⟩ : S25)] := by
  simp [marksD, List.range_succ]
theorem rd25_set {l : List S25} {i : Nat} {a : S25} (h : i < l.length) : rd_T25 (l.set i a) (i : Int) = a := by
  rw [rd25, getD_lt (by simpa using h)]; simp
theorem wrap_add1' {n : Int} (h0 : 0 ≤ n) (h1 : n < 1099511627776) : wrap64 (n + 1) = n + 1 := by unfold wrap64; omega
theorem marks_set (l : List S25) {i : Nat} (h : i < l.length) (a : S25) : (marksD i ++ l.drop i).set i a = marksD i ++ [a] ++ l.drop (i + 1) := by
  rw [List.set_append_right _ _ (by rw [marksD_len]; exact Nat.le_refl _), marksD_len, Nat.sub_self, List.append_assoc]
  congr 1
  rw [List.drop_eq_getElem_cons h]
  rfl
theorem markDeedS_loop (l : List S25) (hl : l.length ≤ 1048577) : ∀ d i : Nat, i + d = l.length → Ev (fun k => laws_markDeedS.l0 k (marksD i ++ l.drop i) (1 + 3 * (i : Int)) (i : Int)) (1 + 3 * (l.length : Int), marksD l.length) := by
  intro d
  induction d with
  | zero =>
    intro i hi
    have e : i = l.length := by omega
    subst e
    refine Ev.step (fun k => by rw [laws_markDeedS.l0]) ?_
    refine Ev.neg (by simp [marksD_len]) (Ev.ret ?_)
    simp
  | succ d ih =>
    intro i hi
    have hil : i < l.length := by omega
    have hlen : (marksD i ++ l.drop i).length = l.length := by simp [marksD_len]; omega
    refine Ev.step (fun k => by rw [laws_markDeedS.l0]) ?_
    refine Ev.pos (by rw [hlen]; omega) (Ev.pos (by omega) (Ev.bind0 rfl (Ev.bind0 rfl ?_)))
    rw [wrap_add1' (by omega) (by omega), wrap_id (n := 1 + 3 * (i : Int) + 1 + 1) (by omega) (by omega), wrap_id (n := 1 + 3 * (i : Int) + 1 + 1 + 1) (by omega) (by omega), wrap_add1 (by omega)]
    simp only [Int.toNat_natCast]
    rw [rd25_set (by rw [hlen]; exact hil)]
    simp only [List.set_set]
    rw [rd25_set (by rw [hlen]; exact hil)]
    rw [marks_set l hil, ← marksD_succ, show (1 + 3 * (i : Int) + 1 + 1 + 1) = 1 + 3 * ((i + 1 : Nat) : Int) by omega]
    exact ih (i + 1) (by omega)
theorem markDeedS_ev (l : List S25) (hl : l.length ≤ 1048577) : Ev (fun k => laws_markDeedS.f k l 1) (1 + 3 * (l.length : Int), marksD l.length) := by
  unfold laws_markDeedS.f
  have := markDeedS_loop l hl l.length 0 (by omega)
  simpa [marksD] using this
theorem heldDeedS_loop (n : Nat) (hn : n ≤ 1048577) : ∀ d i : Nat, i + d = n → Ev (fun k => laws_heldDeedS.l0 k (marksD n) (1 + 3 * (i : Int)) (i : Int)) (1 + 3 * (n : Int)) := by
  intro d
  induction d with
  | zero =>
    intro i hi
    have e : i = n := by omega
    subst e
    refine Ev.step (fun k => by rw [laws_heldDeedS.l0]) ?_
    exact Ev.neg (by rw [marksD_len]; omega) (Ev.ret rfl)
  | succ d ih =>
    intro i hi
    have hr : rd_T25 (marksD n) (i : Int) = (⟨1 + 3 * (i : Int), 1 + 3 * (i : Int) + 1, 1 + 3 * (i : Int) + 1 + 1⟩ : S25) := by
      rw [rd25, getD_lt (by rw [marksD_len]; omega)]
      simp [marksD]
    refine Ev.step (fun k => by rw [laws_heldDeedS.l0]) ?_
    rw [hr, wrap_add1' (by omega) (by omega), wrap_id (n := 1 + 3 * (i : Int) + 1 + 1) (by omega) (by omega), wrap_id (n := 1 + 3 * (i : Int) + 1 + 1 + 1) (by omega) (by omega), wrap_add1 (by omega)]
    refine Ev.pos (by rw [marksD_len]; omega) (Ev.pos (by omega) (Ev.pos rfl (Ev.pos rfl (Ev.pos rfl ?_))))
    rw [show (1 + 3 * (i : Int) + 1 + 1 + 1) = 1 + 3 * ((i + 1 : Nat) : Int) by omega]
    exact ih (i + 1) (by omega)
theorem heldDeedS_ev (n : Nat) (hn : n ≤ 1048577) : Ev (fun k => laws_heldDeedS.f k (marksD n) 1) (1 + 3 * (n : Int)) := by
  unfold laws_heldDeedS.f
  have := heldDeedS_loop n hn n 0 (by omega)
  simpa using this

theorem eqDeedS_loop (l : List S25) (hl : l.length < 1099511627776) : ∀ d i : Nat, i + d = l.length → Ev (fun k => laws_eqDeedS.l0 k l l (i : Int)) true := by
  intro d
  induction d with
  | zero =>
    intro i hi
    refine Ev.step (fun k => by rw [laws_eqDeedS.l0]) ?_
    exact Ev.neg (by omega) (Ev.ret rfl)
  | succ d ih =>
    intro i hi
    refine Ev.step (fun k => by rw [laws_eqDeedS.l0]) ?_
    refine Ev.pos (by omega) (Ev.pos (by omega) (Ev.pos (by omega) (Ev.bind0 (eqDeed_self _ _ _) (Ev.pos rfl ?_))))
    rw [wrap_add1 (by omega)]
    exact ih (i + 1) (by omega)
theorem eqDeedS_ev (l : List S25) (hl : l.length < 1099511627776) : Ev (fun k => laws_eqDeedS.f k l l) true := by
  unfold laws_eqDeedS.f
  exact Ev.pos rfl (eqDeedS_loop l hl l.length 0 (by omega))

theorem FnExactReadJournal : laws_FnExactReadJournal.Pure := by
  intro s _
  refine Ev.rounds (g := fun k => laws_FnExactReadJournal.f k s) ?_
  unfold laws_FnExactReadJournal.f
  by_cases h : (s.size : Int) > 1048576
  · exact Ev.pos h (Ev.ret rfl)
  have hs : s.size ≤ 1048577 := by omega
  have hl := readJ_len s
  have he := eqDeedS_ev (readJ s).1 (by omega)
  have hn : (readJ s).1.length ≤ 1048577 := by omega
  refine Ev.neg h (Ev.bind (specReadJournal_ev s hs) (Ev.bind (implReadJournal_ev s hs) (Ev.bind he (Ev.pos rfl ?_))))
  rw [show ((readJ s).2 != (readJ s).2) = false by simp]
  refine Ev.step (fun k => by rw [laws_FnExactReadJournal.j0]) ?_
  refine Ev.neg (by simp) (Ev.bind (markDeedS_ev _ hn) (Ev.bind (heldDeedS_ev _ hn) (Ev.neg (by omega) (Ev.pos rfl (Ev.bind (implReadJournal_ev s hs) (Ev.bind he (Ev.pos rfl ?_)))))))
  rw [show ((readJ s).2 != (readJ s).2) = false by simp]
  refine Ev.step (fun k => by rw [laws_FnExactReadJournal.j1]) ?_
  exact Ev.neg (by simp) (Ev.bind (heldDeedS_ev _ hn) (Ev.neg (by omega) (Ev.pos rfl (Ev.ret rfl))))

end Go.Proofs.YtopfhdhdpnenpaaDoor.Pure
