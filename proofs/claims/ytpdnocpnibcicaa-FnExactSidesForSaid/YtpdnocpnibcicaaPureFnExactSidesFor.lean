/- The plain statement of FnExactSidesFor: the printed functions answer true for all arguments within the printed bounds; no other conditions. -/
import Derived.Test.YtpdnocpnibcicaaLPx7
import Derived.ChangeSlices
import Derived.SizedLaws
import Derived.Test.YtpdnocpnibcicaaVSized
namespace Go.Proofs.Ytpdnocpnibcicaa.Pure
open Go.RowKit Go.Proofs.Ytpdnocpnibcicaa.LP Go.Proofs.YtpdnocpnibcicaaV.PrintWords Go.Proofs.YtpdnocpnibcicaaV.PrintLast
set_option linter.unusedVariables false
set_option linter.unusedSimpArgs false

theorem Ev.ret {α : Type} {r r' : α} (h : r = r') : Ev (fun _ => some r) r' := ⟨0, fun _ _ => by rw [h]⟩
theorem Ev.pos {α : Type} {c : Prop} [Decidable c] {g f : Nat → Option α} {r : α} (h : c) (k : Ev g r) : Ev (fun n => if c then g n else f n) r := by
  simpa only [if_pos h] using k
theorem Ev.neg {α : Type} {c : Prop} [Decidable c] {g f : Nat → Option α} {r : α} (h : ¬ c) (k : Ev f r) : Ev (fun n => if c then g n else f n) r := by
  simpa only [if_neg h] using k
theorem Ev.ite {α : Type} {c : Prop} [Decidable c] {g f : Nat → Option α} {r : α} (h : c → Ev g r) (k : ¬ c → Ev f r) : Ev (fun n => if c then g n else f n) r := by
  by_cases hc : c
  · exact Ev.pos hc (h hc)
  · exact Ev.neg hc (k hc)
theorem Ev.bind0 {α β : Type} {o : Option α} {f : Nat → α → Option β} {a : α} {r : β} (h : o = some a) (k : Ev (fun n => f n a) r) : Ev (fun n => o.bind (f n)) r := by
  subst h; simpa only [Option.bind_some] using k
theorem Ev.eq {α : Type} {g : Nat → Option α} {r r' : α} (h : Ev g r) (e : r = r') : Ev g r' := e ▸ h
theorem wrap_id {n : Int} (h0 : -9223372036854775808 ≤ n) (h1 : n < 9223372036854775808) : wrap64 n = n := by
  unfold wrap64; omega
theorem wrap_add1 {n : Nat} (h : n < 1099511627776) : wrap64 ((n : Int) + 1) = ((n + 1 : Nat) : Int) := by
  unfold wrap64; omega
theorem rd_nat (l : List Int) (j : Nat) : rd l (j : Int) = l.getD j 0 := by simp [rd]

open Go.ChangeShapes Go.WideShapes in
/-- the printed row names this lemma so: it is the words' own -/
theorem _root_.Go.Proofs.Ytpdnocpnibcicaa.PrintWords.sized_ints {H : Type} {enc : TypeId × Value → H} {P : Program} {W : World} {base : Nat} {spare : Nat → Bool} {held : Bool} {t e : TypeId} {k : IntKind} {a : Option Addr} {len cap : Nat} {d : DataW H} {ps : List MemPlace} {ts : List TypeId} {ds : List (DataW H)} {j : Nat}
    (hsz : (DataW.weightsEach P ts ds).all (· ≤ reachBytes) = true) (ht : ts[j]? = some t) (hd : ds[j]? = some d) (hu : P.underlying t = some (.slice e)) (he : P.underlying e = some (.int k)) (hc : P.cellsOf e = 1) {B : Nat} (hB : P.bytesOf e = B)
    (h : DataW.Trod enc P W base spare held t (.slice a len cap) d ps) : len * B ≤ 140737488351232 :=
  Go.Proofs.YtpdnocpnibcicaaV.PrintWords.sized_ints hsz ht hd hu he hc hB h

theorem toIntS_l0 (l : List Int) (hl : l.length ≤ 1099511627776) (d : Nat) : ∀ (j : Nat) (y : List Int), j + d = l.length → y.length = l.length → (∀ i, i < j → y[i]? = l[i]?) → Ev (fun k => laws_toIntS.l0 k l y (j : Int)) l := by
  induction d with
  | zero =>
    intro j y hj hy h
    refine Ev.step (fun k => laws_toIntS.l0.eq_2 ..) ?_
    refine Ev.neg (by omega) (Ev.ret ?_)
    apply List.ext_getElem?
    intro i
    by_cases hi : i < j
    · exact h i hi
    · rw [List.getElem?_eq_none (by omega), List.getElem?_eq_none (by omega)]
  | succ d ih =>
    intro j y hj hy h
    refine Ev.step (fun k => laws_toIntS.l0.eq_2 ..) ?_
    refine Ev.pos (by omega) (Ev.pos (by omega) (Ev.pos (by omega) ?_))
    rw [wrap_add1 (by omega)]
    refine ih (j + 1) _ (by omega) (by simpa using hy) ?_
    intro i hi
    rw [rd_nat, Int.toNat_natCast]
    by_cases e : i = j
    · subst e
      simp [hy, show i < l.length by omega]
    · rw [List.getElem?_set_ne (by omega)]
      exact h i (by omega)

theorem toIntS_ev (l : List Int) (hl : l.length ≤ 1048576) : Ev (fun k => laws_toIntS.f k l) l := by
  unfold laws_toIntS.f
  refine Ev.pos (by omega) (Ev.pos (by omega) ?_)
  exact toIntS_l0 l (by omega) l.length 0 _ (by omega) (by simp) (fun i h => by omega)

theorem eqIntS_l0 (l m : List Int) (hl : l.length ≤ 1099511627776) (hm : l.length = m.length) (d : Nat) : ∀ (j : Nat), j + d = l.length → (∀ i, i < j → l[i]? = m[i]?) → Ev (fun k => laws_eqIntS.l0 k l m (j : Int)) (decide (l = m)) := by
  induction d with
  | zero =>
    intro j hj h
    refine Ev.step (fun k => laws_eqIntS.l0.eq_2 ..) ?_
    refine Ev.neg (by omega) (Ev.ret ?_)
    symm
    rw [decide_eq_true_iff]
    apply List.ext_getElem?
    intro i
    by_cases hi : i < j
    · exact h i hi
    · rw [List.getElem?_eq_none (by omega), List.getElem?_eq_none (by omega)]
  | succ d ih =>
    intro j hj h
    refine Ev.step (fun k => laws_eqIntS.l0.eq_2 ..) ?_
    refine Ev.pos (by omega) (Ev.pos (by omega) (Ev.pos (by omega) (Ev.ite ?_ ?_)))
    · intro e
      rw [wrap_add1 (by omega)]
      refine ih (j + 1) (by omega) ?_
      intro i hi
      by_cases e' : i = j
      · subst e'
        rw [rd_nat, rd_nat] at e
        rw [List.getElem?_eq_getElem (by omega), List.getElem?_eq_getElem (by omega)]
        simpa [List.getD_eq_getElem?_getD, show i < l.length by omega, show i < m.length by omega] using e
      · exact h i (by omega)
    · intro e
      refine Ev.ret ?_
      symm
      rw [decide_eq_false_iff_not]
      intro e'; subst e'; exact e rfl

theorem eqIntS_ev (l m : List Int) (hl : l.length ≤ 1048576) : Ev (fun k => laws_eqIntS.f k l m) (decide (l = m)) := by
  unfold laws_eqIntS.f
  refine Ev.ite (fun h => ?_) (fun h => ?_)
  · exact eqIntS_l0 l m (by omega) (by omega) l.length 0 (by omega) (fun i h => by omega)
  · refine Ev.ret ?_
    symm
    rw [decide_eq_false_iff_not]
    intro e; subst e; exact h rfl

/-! marks -/
def marks (n : Nat) : List Int := (List.range n).map (fun i : Nat => (i : Int) + 1)
theorem marks_length (n : Nat) : (marks n).length = n := by simp [marks]
theorem markIntS_l0 (n : Nat) (hn : n ≤ 1048576) (d : Nat) : ∀ (j : Nat) (y : List Int), j + d = n → y.length = n → (∀ i, i < j → y[i]? = some ((i : Int) + 1)) →
    Ev (fun k => laws_markIntS.l0 k y ((j : Int) + 1) (j : Int)) ((n : Int) + 1, marks n) := by
  induction d with
  | zero =>
    intro j y hj hy h
    refine Ev.step (fun k => laws_markIntS.l0.eq_2 ..) ?_
    refine Ev.neg (by omega) (Ev.ret ?_)
    have e : y = marks n := by
      apply List.ext_getElem?
      intro i
      by_cases hi : i < j
      · rw [h i hi]; simp [marks, show i < n by omega]
      · rw [List.getElem?_eq_none (by omega), List.getElem?_eq_none (by rw [marks_length]; omega)]
    rw [e, show (j : Int) = n by omega]
  | succ d ih =>
    intro j y hj hy h
    refine Ev.step (fun k => laws_markIntS.l0.eq_2 ..) ?_
    refine Ev.pos (by omega) (Ev.pos (by omega) ?_)
    rw [wrap_add1 (by omega), wrap_id (by omega) (by omega)]
    refine ih (j + 1) _ (by omega) (by simpa using hy) ?_
    intro i hi
    rw [Int.toNat_natCast]
    by_cases e : i = j
    · subst e
      simp [hy, show i < n by omega]
    · rw [List.getElem?_set_ne (by omega)]
      exact h i (by omega)
theorem markIntS_ev (l : List Int) (hl : l.length ≤ 1048576) : Ev (fun k => laws_markIntS.f k l 1) ((l.length : Int) + 1, marks l.length) := by
  unfold laws_markIntS.f
  exact markIntS_l0 l.length hl l.length 0 l (by omega) rfl (fun i h => by omega)
theorem heldIntS_l0 (n : Nat) (hn : n ≤ 1048576) (d : Nat) : ∀ (j : Nat), j + d = n → Ev (fun k => laws_heldIntS.l0 k (marks n) ((j : Int) + 1) (j : Int)) ((n : Int) + 1) := by
  induction d with
  | zero =>
    intro j hj
    refine Ev.step (fun k => laws_heldIntS.l0.eq_2 ..) ?_
    exact Ev.neg (by rw [marks_length]; omega) (Ev.ret (by omega))
  | succ d ih =>
    intro j hj
    refine Ev.step (fun k => laws_heldIntS.l0.eq_2 ..) ?_
    refine Ev.pos (by rw [marks_length]; omega) (Ev.pos (by omega) (Ev.pos ?_ ?_))
    · rw [rd_nat]; simp [marks, show j < n by omega]
    · rw [wrap_add1 (by omega), wrap_id (by omega) (by omega)]
      exact ih (j + 1) (by omega)
theorem heldIntS_ev (n : Nat) (hn : n ≤ 1048576) : Ev (fun k => laws_heldIntS.f k (marks n) 1) ((n : Int) + 1) := by
  unfold laws_heldIntS.f
  exact heldIntS_l0 n hn n 0 (by omega)

/-! two sides: points that are linked lie on different ones; of all that are linked, from one to the next one, the first one lies on side 0 -/
def TwoSides (V : Nat → Prop) (E : Nat → Nat → Prop) (c : Nat → Int) : Prop := (∀ i, V i → c i = 0 ∨ c i = 1) ∧ ∀ i j, V i → V j → E i j → c i + c j = 1
def Tied (V : Nat → Prop) (E : Nat → Nat → Prop) (r v : Nat) (b : Int) : Prop := ∀ c, TwoSides V E c → (b = 0 → c v = c r) ∧ (b = 1 → c v + c r = 1)
def FirstUp (V : Nat → Prop) (E : Nat → Nat → Prop) (s : Nat → Int) : Prop := TwoSides V E s ∧ ∀ v, V v → ∃ r, V r ∧ r ≤ v ∧ s r = 0 ∧ Tied V E r v (s v)
theorem firstUp_unique {V : Nat → Prop} {E : Nat → Nat → Prop} {s t : Nat → Int} (hs : FirstUp V E s) (ht : FirstUp V E t) : ∀ v, V v → s v = t v := by
  intro v
  induction v using Nat.strongRecOn with
  | ind v ih =>
    intro hv
    obtain ⟨r, hrV, hr, h0, h1⟩ := hs.2 v hv
    obtain ⟨q, hqV, hq, g0, g1⟩ := ht.2 v hv
    have a := h1 t ht.1
    have b := g1 s hs.1
    have c1 := hs.1.1 v hv
    have c2 := ht.1.1 v hv
    by_cases e : r < v
    · have e1 := ih r e hrV
      rcases c1 with z | z
      · have := a.1 z; omega
      · have := a.2 z; omega
    · by_cases e2 : q < v
      · have e1 := ih q e2 hqV
        rcases c2 with z | z
        · have := b.1 z; omega
        · have := b.2 z; omega
      · obtain rfl : r = v := by omega
        obtain rfl : q = r := by omega
        omega
theorem tied_link {V : Nat → Prop} {E : Nat → Nat → Prop} {r v u : Nat} {b : Int} (h : Tied V E r v b) (hv : V v) (hu : V u) (hr : V r) (hb : b = 0 ∨ b = 1) (e : E v u) : Tied V E r u (1 - b) := by
  intro c hc
  have h1 := h c hc
  have h2 := hc.2 v u hv hu e
  have h3 := hc.1 r hr
  rcases hb with z | z
  · have := h1.1 z
    exact ⟨fun _ => by omega, fun _ => by omega⟩
  · have := h1.2 z
    exact ⟨fun _ => by omega, fun _ => by omega⟩
theorem tied_clash {V : Nat → Prop} {E : Nat → Nat → Prop} {r v : Nat} {b b' : Int} (hv : V v) (h : Tied V E r v b) (h' : Tied V E r v b') (hb : b = 0 ∨ b = 1) (hb' : b' = 0 ∨ b' = 1) (hn : b ≠ b') : ¬ ∃ c, TwoSides V E c := by
  rintro ⟨c, hc⟩
  have h1 := h c hc
  have h2 := h' c hc
  have h3 := hc.1 v hv
  rcases hb with z | z <;> rcases hb' with y | y
  · omega
  · have := h1.1 z; have := h2.2 y; omega
  · have := h1.2 z; have := h2.1 y; omega
  · omega
/-- what is told of a list of sides, -1 where none is told yet -/
def sd (s : List Int) (i : Nat) : Int := s.getD i (-1)
theorem sd_set_eq {s : List Int} {i : Nat} (h : i < s.length) (a : Int) : sd (s.set i a) i = a := by
  unfold sd; rw [List.getD_eq_getElem?_getD, List.getElem?_set_self h]; rfl
theorem sd_set_ne {s : List Int} {i j : Nat} (h : j ≠ i) (a : Int) : sd (s.set i a) j = sd s j := by
  unfold sd; rw [List.getD_eq_getElem?_getD, List.getD_eq_getElem?_getD, List.getElem?_set_ne (by omega)]
def Grew (s t : List Int) : Prop := t.length = s.length ∧ ∀ i, 0 ≤ sd s i → sd t i = sd s i
theorem Grew.refl (s : List Int) : Grew s s := ⟨rfl, fun _ _ => rfl⟩
theorem Grew.trans {s t u : List Int} (h : Grew s t) (k : Grew t u) : Grew s u :=
  ⟨k.1.trans h.1, fun i hi => by rw [k.2 i (by rw [h.2 i hi]; exact hi), h.2 i hi]⟩
theorem Grew.set {s : List Int} {i : Nat} (hi : i < s.length) (h : sd s i < 0) (a : Int) : Grew s (s.set i a) :=
  ⟨by simp, fun j hj => sd_set_ne (fun e => by subst e; omega) a⟩
/-- how many have no side yet -/
def bare : List Int → Nat
  | [] => 0
  | a :: l => (if a < 0 then 1 else 0) + bare l
theorem bare_set : ∀ {s : List Int} {i : Nat} {a : Int}, i < s.length → sd s i < 0 → 0 ≤ a → bare (s.set i a) + 1 = bare s
  | b :: s, 0, a, _, h, ha => by
    have h : b < 0 := h
    show (if a < 0 then 1 else 0) + bare s + 1 = (if b < 0 then 1 else 0) + bare s
    rw [if_neg (by omega), if_pos h]; omega
  | b :: s, i + 1, a, hi, h, ha => by
    have := bare_set (s := s) (i := i) (a := a) (by simpa using hi) h ha
    show (if b < 0 then 1 else 0) + bare (s.set i a) + 1 = (if b < 0 then 1 else 0) + bare s
    omega
theorem bare_grew : ∀ {s t : List Int}, Grew s t → bare t ≤ bare s
  | [], t, h => by
    have : t = [] := List.length_eq_zero_iff.1 h.1
    subst this; exact Nat.le_refl _
  | a :: s, [], h => by have := h.1; simp at this
  | a :: s, b :: t, h => by
    have h1 := bare_grew (s := s) (t := t) ⟨by simpa using h.1, fun i hi => h.2 (i + 1) hi⟩
    have h2 : 0 ≤ a → b = a := fun hi => h.2 0 hi
    show (if b < 0 then 1 else 0) + bare t ≤ (if a < 0 then 1 else 0) + bare s
    by_cases z : a < 0
    · rw [if_pos z]; split <;> omega
    · rw [if_neg z, if_neg (by have := h2 (by omega); omega)]; omega
theorem bare_le : ∀ (s : List Int), bare s ≤ s.length
  | [] => Nat.le_refl _
  | a :: s => by
    have := bare_le s
    show (if a < 0 then 1 else 0) + bare s ≤ s.length + 1
    split <;> omega
/-- all sides told so far: 0 or 1, of points; those of old, or tied to the root -/
def Sided (V : Nat → Prop) (E : Nat → Nat → Prop) (n : Nat) (s0 : List Int) (r : Nat) (s : List Int) : Prop :=
  s.length = n ∧ (∀ i, 0 ≤ sd s i → V i ∧ (sd s i = 0 ∨ sd s i = 1)) ∧ ∀ i, 0 ≤ sd s i → 0 ≤ sd s0 i ∨ (sd s0 i < 0 ∧ Tied V E r i (sd s i))
/-- each of these has all that it is linked with on the other side -/
def Shut (V : Nat → Prop) (E : Nat → Nat → Prop) (s t : List Int) : Prop := ∀ i, sd s i < 0 → 0 ≤ sd t i → ∀ j, V j → E i j → sd t i + sd t j = 1
theorem Shut.grew {V : Nat → Prop} {E : Nat → Nat → Prop} {s t u : List Int} (hv : ∀ i, 0 ≤ sd t i → sd t i = 0 ∨ sd t i = 1) (h : Shut V E s t) (h2 : Shut V E t u) (hg : Grew t u) : Shut V E s u := by
  intro i h0 h1 j hj e
  by_cases z : 0 ≤ sd t i
  · have a := h i h0 z j hj e
    have b := hv i z
    rw [hg.2 i z, hg.2 j (by omega)]
    exact a
  · exact h2 i (by omega) h1 j hj e
theorem Sided.val {V : Nat → Prop} {E : Nat → Nat → Prop} {n : Nat} {s0 s : List Int} {r : Nat} (h : Sided V E n s0 r s) {i : Nat} (hi : 0 ≤ sd s i) : sd s i = 0 ∨ sd s i = 1 := (h.2.1 i hi).2
/-- what a search tells: all that grew, and either all that was reached is shut, or there is no way at all -/
structure Reached (V : Nat → Prop) (E : Nat → Nat → Prop) (n : Nat) (s0 : List Int) (r : Nat) (s t : List Int) (b : Bool) : Prop where
  sided : Sided V E n s0 r t
  grew : Grew s t
  shut : b = true → Shut V E s t
  none : b = false → ¬ ∃ c, TwoSides V E c
theorem Sided.set {V : Nat → Prop} {E : Nat → Nat → Prop} {n : Nat} {s0 s : List Int} {r i : Nat} {on : Int} (h : Sided V E n s0 r s) (hi : i < n) (hV : V i) (h0 : sd s0 i < 0) (hon : on = 0 ∨ on = 1) (ht : Tied V E r i on) : Sided V E n s0 r (s.set i on) := by
  have hl : i < s.length := by rw [h.1]; exact hi
  refine ⟨by simp [h.1], fun j hj => ?_, fun j hj => ?_⟩
  · by_cases e : j = i
    · subst e; rw [sd_set_eq hl]; exact ⟨hV, hon⟩
    · rw [sd_set_ne e] at hj ⊢; exact h.2.1 j hj
  · by_cases e : j = i
    · subst e; rw [sd_set_eq hl]; exact .inr ⟨h0, ht⟩
    · rw [sd_set_ne e] at hj ⊢; exact h.2.2 j hj
/-- a point that is reached, and has a side: the side fits, or there is no way -/
theorem reached_seen {V : Nat → Prop} {E : Nat → Nat → Prop} {n : Nat} {s0 s : List Int} {r i : Nat} {on : Int} (h : Sided V E n s0 r s) (hV : V i) (h0 : sd s0 i < 0) (hon : on = 0 ∨ on = 1) (ht : Tied V E r i on) (hi : 0 ≤ sd s i) :
    Reached V E n s0 r s s (decide (sd s i = on)) where
  sided := h
  grew := Grew.refl s
  shut := fun _ j h1 h2 => by omega
  none := fun hb => by
    have hb := of_decide_eq_false hb
    rcases h.2.2 i hi with h1 | ⟨_, h1⟩
    · omega
    · exact tied_clash hV h1 ht (h.val hi) hon hb
theorem not_tied_two {V : Nat → Prop} {E : Nat → Nat → Prop} {r : Nat} : Tied V E r r 0 := fun c _ => ⟨fun _ => rfl, fun h => absurd h (by decide)⟩
/-- what is told at the head of a round: all told are shut, and each is tied to a first one -/
structure Heads (V : Nat → Prop) (E : Nat → Nat → Prop) (n : Nat) (s : List Int) (j : Nat) : Prop where
  len : s.length = n
  val : ∀ i, 0 ≤ sd s i → V i ∧ (sd s i = 0 ∨ sd s i = 1)
  shut : ∀ i x, 0 ≤ sd s i → V x → E i x → sd s i + sd s x = 1
  first : ∀ i, 0 ≤ sd s i → ∃ r, V r ∧ r ≤ i ∧ sd s r = 0 ∧ Tied V E r i (sd s i)
  all : ∀ i, i < j → V i → 0 ≤ sd s i
theorem sd_bare (n i : Nat) : ¬ 0 ≤ sd (List.replicate n (-1)) i := by
  unfold sd
  rw [List.getD_eq_getElem?_getD, List.getElem?_replicate]
  split <;> simp
section
variable {V : Nat → Prop} {E : Nat → Nat → Prop} {n : Nat}
theorem Heads.start (V : Nat → Prop) (E : Nat → Nat → Prop) (n : Nat) : Heads V E n (List.replicate n (-1)) 0 :=
  ⟨by simp, fun i hi => absurd hi (sd_bare n i), fun i _ hi => absurd hi (sd_bare n i), fun i hi => absurd hi (sd_bare n i), fun i hi => absurd hi (Nat.not_lt_zero i)⟩
/-- one part more is drawn: from its first word -/
theorem Heads.step {s t : List Int} {j : Nat} (h : Heads V E n s j) (hj : V j) (h0 : sd s j < 0) (r : Reached V E n s j s t true) (ht : sd t j = 0) : Heads V E n t (j + 1) where
  len := r.sided.1
  val := r.sided.2.1
  shut := by
    intro i x hi hx hE
    by_cases e : 0 ≤ sd s i
    · have h1 := h.shut i x e hx hE
      have h2 := (h.val i e).2
      rw [r.grew.2 i e, r.grew.2 x (by omega)]
      exact h1
    · exact r.shut rfl i (by omega) hi x hx hE
  first := by
    intro i hi
    by_cases e : 0 ≤ sd s i
    · obtain ⟨q, h1, h2, h3, h4⟩ := h.first i e
      exact ⟨q, h1, h2, by rw [r.grew.2 q (by omega)]; exact h3, by rw [r.grew.2 i e]; exact h4⟩
    · rcases r.sided.2.2 i hi with h1 | ⟨_, h1⟩
      · omega
      · refine ⟨j, hj, ?_, ht, h1⟩
        apply Decidable.byContradiction
        intro hlt
        exact e (h.all i (by omega) (r.sided.2.1 i hi).1)
  all := by
    intro i hi hV
    by_cases e : i = j
    · subst e; omega
    · have := h.all i (by omega) hV
      rw [r.grew.2 i this]; exact this
theorem Heads.next {s : List Int} {j : Nat} (h : Heads V E n s j) (hj : V j → 0 ≤ sd s j) : Heads V E n s (j + 1) where
  len := h.len
  val := h.val
  shut := h.shut
  first := h.first
  all := fun i hi hV => by
    by_cases e : i = j
    · subst e; exact hj hV
    · exact h.all i (by omega) hV
theorem Heads.done {s : List Int} (h : Heads V E n s n) (hV : ∀ i, V i → i < n) : FirstUp V E (sd s) :=
  ⟨⟨fun i h1 => (h.val i (h.all i (hV i h1) h1)).2, fun i x h1 hx hE => h.shut i x (h.all i (hV i h1) h1) hx hE⟩, fun v h1 => h.first v (h.all v (hV v h1) h1)⟩
end
theorem rd_sd' {s : List Int} {i : Nat} (h : i < s.length) : rd s (i : Int) = sd s i := by
  rw [rd_nat]; unfold sd
  rw [List.getD_eq_getElem?_getD, List.getD_eq_getElem?_getD, List.getElem?_eq_getElem h]; rfl

/-! orders -/
@[reducible] def goodAt (o : List Int) (many : Int) (i : Nat) : Prop := (1 ≤ rd o i ∧ rd o i ≤ many) ∧ ∀ j : Nat, j < i → rd o j ≠ rd o i
def orderOk (o : List Int) (many : Int) : Bool := decide ((1 ≤ many ∧ many ≤ 8) ∧ (o.length : Int) = many ∧ ∀ i : Nat, i < o.length → goodAt o many i)
theorem orderOk_bad {o : List Int} {many : Int} {i : Nat} (hi : i < o.length) (h : ¬ goodAt o many i) : orderOk o many = false := by
  unfold orderOk
  rw [decide_eq_false_iff_not]
  exact fun h2 => h (h2.2.2 i hi)
theorem orderOk_iff {o : List Int} {many : Int} : orderOk o many = true ↔ ((1 ≤ many ∧ many ≤ 8) ∧ (o.length : Int) = many ∧ ∀ i : Nat, i < o.length → goodAt o many i) := by
  unfold orderOk
  rw [decide_eq_true_iff]

/-- whether one comes from a word to 0 within so many steps, over numbers of words or 0 alone -/
def walkOk (l : List Int) : Nat → Int → Bool
  | 0, a => decide (a ≤ 0)
  | m + 1, a => if a ≤ 0 then true else decide (0 ≤ rd l (a - 1) ∧ rd l (a - 1) ≤ l.length) && walkOk l m (rd l (a - 1))
def okAt (l : List Int) (i : Nat) : Bool := decide (0 ≤ rd l i ∧ rd l i ≤ l.length) && walkOk l l.length ((i : Int) + 1)
def zerosFrom (l : List Int) (j : Nat) : Nat := (l.drop j).count 0
def treeOk (l : List Int) : Bool := decide (1 ≤ l.length ∧ l.length ≤ 8) && (List.range l.length).all (okAt l) && decide (l.count 0 = 1)

theorem walkOk_self (l : List Int) (a : Int) (ha : 0 < a) (h : rd l (a - 1) = a) : ∀ m, walkOk l m a = false
  | 0 => by simp [walkOk]; omega
  | m + 1 => by
    unfold walkOk
    rw [if_neg (by omega), h, walkOk_self l a ha h m, Bool.and_false]

theorem zerosFrom_succ (l : List Int) (j : Nat) (h : j < l.length) : zerosFrom l j = (if rd l j = 0 then 1 else 0) + zerosFrom l (j + 1) := by
  unfold zerosFrom
  rw [List.drop_eq_getElem_cons h, List.count_cons]
  have e : rd l j = l[j] := by simp [rd_nat, h]
  rw [e]
  by_cases e : l[j] = 0 <;> simp [e, Nat.add_comm]
theorem zerosFrom_le (l : List Int) (j : Nat) : zerosFrom l j ≤ l.length := by
  unfold zerosFrom
  exact Nat.le_trans List.count_le_length (by simp)

theorem all_from (p : Nat → Bool) (n j : Nat) (h : j < n) : ((List.range' j (n - j)).all p) = (p j && (List.range' (j + 1) (n - (j + 1))).all p) := by
  obtain ⟨d, hd⟩ : ∃ d, n - j = d + 1 := ⟨n - j - 1, by omega⟩
  rw [hd, List.range'_succ, List.all_cons, show n - (j + 1) = d by omega]

def restOk (l : List Int) (r : Nat) (j : Nat) : Bool := (List.range' j (l.length - j)).all (okAt l) && decide (r + zerosFrom l j = 1)
theorem restOk_end (l : List Int) (r : Nat) (j : Nat) (h : j = l.length) : restOk l r j = ((r : Int) == 1) := by
  subst h
  unfold restOk zerosFrom
  simp
  rw [Bool.eq_iff_iff]; simp; omega
theorem restOk_bad (l : List Int) (r : Nat) (j : Nat) (h : j < l.length) (hb : okAt l j = false) : restOk l r j = false := by
  unfold restOk
  rw [all_from _ _ _ h, hb]; rfl
theorem restOk_good (l : List Int) (r : Nat) (j : Nat) (h : j < l.length) (hb : okAt l j = true) : restOk l r j = restOk l (r + if rd l j = 0 then 1 else 0) (j + 1) := by
  unfold restOk
  rw [all_from _ _ _ h, hb, Bool.true_and, zerosFrom_succ l j h, Nat.add_assoc]
theorem restOk_zero (l : List Int) (h : 1 ≤ l.length ∧ l.length ≤ 8) : restOk l 0 0 = treeOk l := by
  unfold restOk treeOk zerosFrom
  rw [decide_eq_true h]
  simp [List.range_eq_range']

/-! folds over places -/
def foldFrom {β : Type} (f : β → Nat → β) (n j : Nat) (b : β) : β := (List.range' j (n - j)).foldl f b
theorem foldFrom_end {β : Type} (f : β → Nat → β) {n j : Nat} (b : β) (h : n ≤ j) : foldFrom f n j b = b := by
  unfold foldFrom; rw [show n - j = 0 by omega]; rfl
theorem foldFrom_step {β : Type} (f : β → Nat → β) {n j : Nat} (b : β) (h : j < n) : foldFrom f n j b = foldFrom f n (j + 1) (f b j) := by
  unfold foldFrom
  obtain ⟨d, hd⟩ : ∃ d, n - j = d + 1 := ⟨n - j - 1, by omega⟩
  rw [hd, List.range'_succ, List.foldl_cons, show n - (j + 1) = d by omega]
theorem mx_max (a b : Int) : mx a b = max a b := by unfold mx; split <;> omega
theorem mn_min (a b : Int) : mn a b = min a b := by unfold mn; split <;> omega
theorem treeOk_len {l : List Int} (h : treeOk l = true) : 1 ≤ l.length ∧ l.length ≤ 8 := by
  unfold treeOk at h
  rw [Bool.and_eq_true, Bool.and_eq_true] at h
  exact of_decide_eq_true h.1.1
theorem treeOk_rd {l : List Int} (h : treeOk l = true) {j : Nat} (hj : j < l.length) : 0 ≤ rd l j ∧ rd l j ≤ l.length := by
  unfold treeOk at h
  rw [Bool.and_eq_true, Bool.and_eq_true] at h
  have := List.all_eq_true.mp h.1.2 j (List.mem_range.mpr hj)
  unfold okAt at this
  rw [Bool.and_eq_true] at this
  exact of_decide_eq_true this.1
theorem treeOk_walk {l : List Int} (h : treeOk l = true) {j : Nat} (hj : j < l.length) : walkOk l l.length ((j : Int) + 1) = true := by
  unfold treeOk at h
  rw [Bool.and_eq_true, Bool.and_eq_true] at h
  have := List.all_eq_true.mp h.1.2 j (List.mem_range.mpr hj)
  unfold okAt at this
  rw [Bool.and_eq_true] at this
  exact this.2
theorem treeOk_ne {l : List Int} (h : treeOk l = true) {j : Nat} (hj : j < l.length) : rd l j ≠ (j : Int) + 1 := by
  intro e
  have := treeOk_walk h hj
  rw [walkOk_self l _ (by omega) (by rw [show (j : Int) + 1 - 1 = (j : Int) by omega]; exact e)] at this
  cases this
theorem treeOk_zero {l : List Int} (h : treeOk l = true) : l.count 0 = 1 := by
  unfold treeOk at h
  rw [Bool.and_eq_true] at h
  exact of_decide_eq_true h.2

/-! a tree in another order -/
def placeOf (o : List Int) (v : Int) : Int := match (List.range o.length).find? (fun i : Nat => decide (rd o i = v)) with | some i => (i : Int) + 1 | none => 0
def putOf (l o : List Int) : List Int := o.map (fun w => placeOf o (rd l (w - 1)))
theorem order_inj {o : List Int} {many : Int} (h : orderOk o many = true) {i j : Nat} (hi : i < o.length) (hj : j < o.length) (e : rd o i = rd o j) : i = j := by
  obtain ⟨_, _, h3⟩ := orderOk_iff.mp h
  rcases Nat.lt_trichotomy i j with h4 | h4 | h4
  · exact absurd e ((h3 j hj).2 i h4)
  · exact h4
  · exact absurd e.symm ((h3 i hi).2 j h4)
theorem placeOf_at {o : List Int} {many : Int} (h : orderOk o many = true) {i : Nat} (hi : i < o.length) : placeOf o (rd o i) = (i : Int) + 1 := by
  unfold placeOf
  cases hf : (List.range o.length).find? (fun k : Nat => decide (rd o k = rd o i)) with
  | some k =>
    have h1 := List.mem_range.mp (List.mem_of_find?_eq_some hf)
    have h2 : rd o k = rd o i := by simpa using List.find?_some hf
    rw [order_inj h h1 hi h2]
  | none => exact absurd (decide_eq_true rfl) (List.find?_eq_none.mp hf i (List.mem_range.mpr hi))
theorem placeOf_none {o : List Int} {v : Int} (h : ∀ i : Nat, i < o.length → rd o i ≠ v) : placeOf o v = 0 := by
  unfold placeOf
  cases hf : (List.range o.length).find? (fun k : Nat => decide (rd o k = v)) with
  | some k => exact absurd (by simpa using List.find?_some hf) (h k (List.mem_range.mp (List.mem_of_find?_eq_some hf)))
  | none => rfl
/-- the places, as far as they are told -/
def PlacesTo (o : List Int) (j : Nat) (y : List Int) : Prop := ∀ v : Nat, v < y.length → y[v]? = some (match (List.range j).find? (fun i : Nat => decide (rd o i = (v : Int))) with | some i => (i : Int) + 1 | none => 0)
theorem find_range_succ (p : Nat → Bool) (j : Nat) : (List.range (j + 1)).find? p = ((List.range j).find? p).or (if p j then some j else none) := by
  rw [List.range_succ, List.find?_append]
  congr 1
  by_cases h : p j = true
  · rw [if_pos h, List.find?_cons_of_pos h]
  · rw [if_neg h, List.find?_cons_of_neg h]; rfl
theorem PlacesTo.set {o : List Int} {many : Int} (h : orderOk o many = true) {j : Nat} (hj : j < o.length) {y : List Int} (hy : PlacesTo o j y) : PlacesTo o (j + 1) (y.set (rd o j).toNat ((j : Int) + 1)) := by
  have hg := (orderOk_iff.mp h).2.2 j hj
  intro v hv
  rw [List.length_set] at hv
  rw [find_range_succ]
  by_cases e : v = (rd o j).toNat
  · subst e
    rw [List.getElem?_set_self hv]
    have e2 : ((rd o j).toNat : Int) = rd o j := by omega
    rw [e2]
    have hn : (List.range j).find? (fun i : Nat => decide (rd o i = rd o j)) = none := by
      rw [List.find?_eq_none]
      intro i hi
      simp [hg.2 i (List.mem_range.mp hi)]
    rw [hn]
    simp
  · rw [List.getElem?_set_ne (by omega), hy v hv]
    have e2 : ¬ (rd o j = (v : Int)) := by omega
    simp [e2]
theorem PlacesTo.whole {o : List Int} {y : List Int} (hy : PlacesTo o o.length y) {v : Int} (h0 : 0 ≤ v) (h1 : v < y.length) : rd y v = placeOf o v := by
  have := hy v.toNat (by omega)
  rw [show ((v.toNat : Nat) : Int) = v by omega] at this
  unfold rd placeOf
  rw [List.getD_eq_getElem?_getD, this]
  rfl
theorem PlacesTo.zero (o : List Int) (n : Nat) : PlacesTo o 0 (List.replicate n 0) := by
  intro v hv
  simp at hv
  simp [hv]

/-! numbers from 1 to n, none twice -/
theorem nodup_le : ∀ (n : Nat) (L : List Int), L.Nodup → (∀ x, x ∈ L → 1 ≤ x ∧ x ≤ n) → L.length ≤ n
  | 0, L, _, h => by
    cases L with
    | nil => simp
    | cons a r => have := h a (by simp); omega
  | n + 1, L, hn, h => by
    by_cases hm : ((n + 1 : Nat) : Int) ∈ L
    · have h1 := nodup_le n (L.erase ((n + 1 : Nat) : Int)) (hn.erase _) (fun x hx => by
        rw [hn.mem_erase_iff] at hx
        have := h x hx.2
        omega)
      rw [List.length_erase_of_mem hm] at h1
      omega
    · have := nodup_le n L hn (fun x hx => by
        have h2 := h x hx
        have : x ≠ ((n + 1 : Nat) : Int) := fun e => hm (e ▸ hx)
        omega)
      omega
theorem nodup_all : ∀ (n : Nat) (L : List Int), L.Nodup → (∀ x, x ∈ L → 1 ≤ x ∧ x ≤ n) → L.length = n → ∀ v : Int, 1 ≤ v → v ≤ n → v ∈ L
  | 0, L, _, h, hl, v, h0, h1 => by omega
  | n + 1, L, hn, h, hl, v, h0, h1 => by
    have hm : ((n + 1 : Nat) : Int) ∈ L := by
      apply Decidable.byContradiction
      intro hm
      have := nodup_le n L hn (fun x hx => by
        have h2 := h x hx
        have : x ≠ ((n + 1 : Nat) : Int) := fun e => hm (e ▸ hx)
        omega)
      omega
    by_cases e : v = ((n + 1 : Nat) : Int)
    · rw [e]; exact hm
    · have := nodup_all n (L.erase ((n + 1 : Nat) : Int)) (hn.erase _) (fun x hx => by
        rw [hn.mem_erase_iff] at hx
        have := h x hx.2
        omega) (by rw [List.length_erase_of_mem hm]; omega) v h0 (by omega)
      exact List.mem_of_mem_erase this

theorem rd_get (l : List Int) {i : Nat} (h : i < l.length) : rd l i = l[i] := by simp [rd_nat, h]
theorem nodup_iff_rd (l : List Int) : l.Nodup ↔ ∀ i j : Nat, i < j → j < l.length → rd l i ≠ rd l j := by
  rw [List.nodup_iff_pairwise_ne, List.pairwise_iff_getElem]
  constructor
  · intro h i j hij hj
    rw [rd_get l (by omega), rd_get l hj]
    exact h i j (by omega) hj hij
  · intro h i j hi hj hij
    have := h i j hij hj
    rwa [rd_get l hi, rd_get l hj] at this
theorem orderOk_nodup {o : List Int} {many : Int} : orderOk o many = true ↔ (1 ≤ many ∧ many ≤ 8) ∧ (o.length : Int) = many ∧ o.Nodup ∧ ∀ x, x ∈ o → 1 ≤ x ∧ x ≤ many := by
  rw [orderOk_iff, nodup_iff_rd]
  constructor
  · rintro ⟨h1, h2, h3⟩
    refine ⟨h1, h2, fun i j hij hj => (h3 j hj).2 i hij, fun x hx => ?_⟩
    obtain ⟨i, hi, rfl⟩ := List.getElem_of_mem hx
    have := (h3 i hi).1
    rwa [rd_get o hi] at this
  · rintro ⟨h1, h2, h3, h4⟩
    refine ⟨h1, h2, fun i hi => ⟨?_, fun j hj => h3 j i hj hi⟩⟩
    rw [rd_get o hi]
    exact h4 _ (List.getElem_mem hi)

def indexFrom (l : List Int) (v : Int) (n j : Nat) : Int := match (List.range' j (n - j)).find? (fun i : Nat => decide (rd l i = v)) with | some i => i | none => -1

def rootOf (l : List Int) : Int := if treeOk l then indexFrom l 0 l.length 0 + 1 else -1
theorem indexFrom_step (l : List Int) (v : Int) {n j : Nat} (h : j < n) : indexFrom l v n j = if rd l j = v then (j : Int) else indexFrom l v n (j + 1) := by
  unfold indexFrom
  have hr : List.range' j (n - j) = j :: List.range' (j + 1) (n - (j + 1)) := by
    rw [show n - j = (n - (j + 1)) + 1 by omega, List.range'_succ]
  rw [hr]
  by_cases e : rd l j = v
  · rw [List.find?_cons_of_pos (by simpa using e), if_pos e]
  · rw [List.find?_cons_of_neg (by simpa using e), if_neg e]
theorem indexFrom_end (l : List Int) (v : Int) {n j : Nat} (h : n ≤ j) : indexFrom l v n j = -1 := by
  unfold indexFrom
  rw [show n - j = 0 by omega]
  rfl
theorem indexFrom_spec (l : List Int) (v : Int) (n : Nat) (d : Nat) : ∀ j, j + d = n → (∃ i : Nat, j ≤ i ∧ i < n ∧ rd l i = v ∧ indexFrom l v n j = i) ∨ ((∀ i : Nat, j ≤ i → i < n → rd l i ≠ v) ∧ indexFrom l v n j = -1) := by
  induction d with
  | zero => intro j hj; exact .inr ⟨fun i h1 h2 => by omega, indexFrom_end l v (by omega)⟩
  | succ d ih =>
    intro j hj
    rw [indexFrom_step l v (by omega)]
    by_cases e : rd l j = v
    · rw [if_pos e]; exact .inl ⟨j, by omega, by omega, e, rfl⟩
    · rw [if_neg e]
      rcases ih (j + 1) (by omega) with ⟨i, h1, h2, h3, h4⟩ | ⟨h1, h2⟩
      · exact .inl ⟨i, by omega, h2, h3, h4⟩
      · refine .inr ⟨fun i h3 h4 => ?_, h2⟩
        by_cases e2 : i = j
        · subst e2; exact e
        · exact h1 i (by omega) h4
theorem exists_root {l : List Int} (h : treeOk l = true) : ∃ i : Nat, i < l.length ∧ rd l i = 0 := by
  have hz := treeOk_zero h
  have hm : (0 : Int) ∈ l := by
    apply List.count_pos_iff.mp; omega
  obtain ⟨i, hi, e⟩ := List.getElem_of_mem hm
  exact ⟨i, hi, by simp [rd_nat, hi, e]⟩
theorem rootOf_spec {l : List Int} (h : treeOk l = true) : ∃ i : Nat, i < l.length ∧ rd l i = 0 ∧ rootOf l = (i : Int) + 1 := by
  unfold rootOf
  rw [if_pos h]
  rcases indexFrom_spec l 0 l.length l.length 0 (by omega) with ⟨i, _, h2, h3, h4⟩ | ⟨h1, _⟩
  · exact ⟨i, h2, h3, by rw [h4]⟩
  · obtain ⟨i, hi, e⟩ := exists_root h
    exact absurd e (h1 i (by omega) hi)

/-! how deep a word is -/
def Deep (l : List Int) : Nat → Int → Prop
  | 0, w => rd l (w - 1) = 0
  | d + 1, w => 1 ≤ rd l (w - 1) ∧ rd l (w - 1) ≤ l.length ∧ Deep l d (rd l (w - 1))
theorem deep_of_walk (l : List Int) : ∀ (m : Nat) (w : Int), 0 < w → walkOk l m w = true → ∃ d, d < m ∧ Deep l d w
  | 0, w, h0, h => by simp [walkOk] at h; omega
  | m + 1, w, h0, h => by
    unfold walkOk at h
    rw [if_neg (by omega), Bool.and_eq_true, decide_eq_true_eq] at h
    by_cases e : rd l (w - 1) = 0
    · exact ⟨0, by omega, e⟩
    · obtain ⟨d, hd, hd2⟩ := deep_of_walk l m _ (by omega) h.2
      exact ⟨d + 1, by omega, by omega, h.1.2, hd2⟩
theorem tree_deep {l : List Int} (h : treeOk l = true) {w : Int} (h0 : 1 ≤ w) (h1 : w ≤ l.length) : ∃ d, d < l.length ∧ Deep l d w := by
  have := treeOk_walk h (j := (w - 1).toNat) (by omega)
  rw [show (((w - 1).toNat : Nat) : Int) + 1 = w by omega] at this
  exact deep_of_walk l _ w (by omega) this
theorem deep_unique (l : List Int) : ∀ (d d' : Nat) (w : Int), Deep l d w → Deep l d' w → d = d'
  | 0, 0, _, _, _ => rfl
  | 0, d' + 1, w, h, h' => by
    have h : rd l (w - 1) = 0 := h
    have := h'.1
    omega
  | d + 1, 0, w, h, h' => by
    have h' : rd l (w - 1) = 0 := h'
    have := h.1
    omega
  | d + 1, d' + 1, w, h, h' => by rw [deep_unique l d d' _ h.2.2 h'.2.2]
theorem deep_lt {l : List Int} (h : treeOk l = true) {w : Int} (h0 : 1 ≤ w) (h1 : w ≤ l.length) {d : Nat} (hd : Deep l d w) : d < l.length := by
  obtain ⟨d', h2, h3⟩ := tree_deep h h0 h1
  rw [deep_unique l d d' w hd h3]
  exact h2

theorem deep_kid {l : List Int} {w : Int} (hw : 1 ≤ w ∧ w ≤ l.length) {d : Nat} (hd : Deep l d w) {i : Nat} (e : rd l i = w) : Deep l (d + 1) ((i : Int) + 1) := by
  have e' : rd l ((i : Int) + 1 - 1) = w := by rw [show (i : Int) + 1 - 1 = (i : Int) by omega]; exact e
  exact ⟨by omega, by omega, by rw [e']; exact hd⟩

/-! ways up -/
def up (l : List Int) : Nat → Int → Int
  | 0, v => v
  | k + 1, v => up l k (rd l (v - 1))
theorem up_succ (l : List Int) : ∀ (k : Nat) (v : Int), up l (k + 1) v = rd l (up l k v - 1)
  | 0, v => rfl
  | k + 1, v => by rw [up, up_succ l k, ← up]
theorem deep_up (l : List Int) : ∀ (k e : Nat) (v : Int), Deep l (e + k) v → Deep l e (up l k v)
  | 0, e, v, h => h
  | k + 1, e, v, h => deep_up l k e _ (show Deep l (e + k + 1) v from h).2.2
theorem up_range (l : List Int) : ∀ (k e : Nat) (v : Int), Deep l (e + k) v → (1 ≤ v ∧ v ≤ l.length) → 1 ≤ up l k v ∧ up l k v ≤ l.length
  | 0, e, v, h, hv => hv
  | k + 1, e, v, h, hv => by
    have h' : Deep l (e + k + 1) v := h
    exact up_range l k e _ h'.2.2 ⟨h'.1, h'.2.1⟩
theorem deep_top {l : List Int} : ∀ (d : Nat) (v : Int), Deep l d v → rd l (up l d v - 1) = 0
  | 0, v, h => h
  | d + 1, v, h => deep_top d _ h.2.2
theorem zero_unique {l : List Int} (h : treeOk l = true) {i j : Nat} (hi : i < l.length) (hj : j < l.length) (e1 : rd l i = 0) (e2 : rd l j = 0) : i = j := by
  have hz := treeOk_zero h
  have key : ∀ a b : Nat, a < b → b < l.length → rd l a = 0 → rd l b = 0 → False := by
    intro a b hab hb ha0 hb0
    have h1 := zerosFrom_succ l a (by omega)
    rw [if_pos ha0] at h1
    have h2 : ∀ q : Nat, a + 1 ≤ q → q ≤ b → zerosFrom l b ≤ zerosFrom l q := by
      intro q hq hqb
      obtain ⟨d, hd⟩ : ∃ d, q + d = b := ⟨b - q, by omega⟩
      clear hq
      induction d generalizing q with
      | zero => rw [show q = b by omega]; exact Nat.le_refl _
      | succ d ih =>
        have h3 := zerosFrom_succ l q (by omega)
        have h4 := ih (q + 1) (by omega) (by omega)
        omega
    have h3 := h2 (a + 1) (by omega) (by omega)
    have h4 := zerosFrom_succ l b hb
    rw [if_pos hb0] at h4
    have h5 : zerosFrom l a ≤ l.count 0 := by
      unfold zerosFrom
      exact (List.drop_sublist a l).count_le 0
    omega
  rcases Nat.lt_trichotomy i j with h1 | h1 | h1
  · exact absurd (key i j h1 hj e1 e2) id
  · exact h1
  · exact absurd (key j i h1 hi e2 e1) id
theorem up_root {l : List Int} (h : treeOk l = true) {v : Int} (hv : 1 ≤ v ∧ v ≤ l.length) {d : Nat} (hd : Deep l d v) : up l d v = rootOf l := by
  obtain ⟨i, h1, h2, h3⟩ := rootOf_spec h
  have h4 := up_range l d 0 v (by rw [Nat.zero_add]; exact hd) hv
  have h5 := deep_top d v hd
  have := zero_unique h (i := (up l d v - 1).toNat) (j := i) (by omega) h1 (by rw [show (((up l d v - 1).toNat : Nat) : Int) = up l d v - 1 by omega]; exact h5) h2
  omega

/-! a tree whose words are put in another order is a tree -/
theorem orderOk_len {o : List Int} {n : Nat} (h : orderOk o n = true) : o.length = n := by
  have := (orderOk_iff.mp h).2.1; omega
theorem orderOk_rd {o : List Int} {n : Nat} (h : orderOk o n = true) {i : Nat} (hi : i < n) : 1 ≤ rd o i ∧ rd o i ≤ n :=
  ((orderOk_iff.mp h).2.2 i (by rw [orderOk_len h]; exact hi)).1
theorem placeOf_spec {o : List Int} {n : Nat} (h : orderOk o n = true) {v : Int} (h0 : 1 ≤ v) (h1 : v ≤ n) : ∃ i : Nat, i < n ∧ rd o i = v ∧ placeOf o v = (i : Int) + 1 := by
  obtain ⟨_, h2, h3, h4⟩ := orderOk_nodup.mp h
  have hm := nodup_all n o h3 h4 (by omega) v h0 h1
  obtain ⟨i, hi, e⟩ := List.getElem_of_mem hm
  have e2 : rd o i = v := by rw [rd_get o hi]; exact e
  exact ⟨i, by omega, e2, by rw [← e2]; exact placeOf_at h hi⟩
theorem placeOf_zero {o : List Int} {n : Nat} (h : orderOk o n = true) : placeOf o 0 = 0 :=
  placeOf_none (fun i hi e => by have := orderOk_rd h (i := i) (by rw [← orderOk_len h]; exact hi); omega)
theorem placeOf_range {o : List Int} {n : Nat} (h : orderOk o n = true) {v : Int} (h0 : 0 ≤ v) (h1 : v ≤ n) : 0 ≤ placeOf o v ∧ placeOf o v ≤ n ∧ (placeOf o v ≤ 0 ↔ v ≤ 0) := by
  by_cases e : v = 0
  · subst e; rw [placeOf_zero h]; omega
  · obtain ⟨i, h2, _, h3⟩ := placeOf_spec h (v := v) (by omega) h1
    omega
theorem rd_placeOf {o : List Int} {n : Nat} (h : orderOk o n = true) {v : Int} (h0 : 1 ≤ v) (h1 : v ≤ n) : rd o (placeOf o v - 1) = v := by
  obtain ⟨i, h2, h3, h4⟩ := placeOf_spec h h0 h1
  rw [h4, show (i : Int) + 1 - 1 = i by omega]; exact h3
theorem putOf_length (l o : List Int) : (putOf l o).length = o.length := by simp [putOf]
theorem putOf_rd {l o : List Int} {n : Nat} (h : orderOk o n = true) {i : Nat} (hi : i < n) : rd (putOf l o) i = placeOf o (rd l (rd o i - 1)) := by
  rw [rd_get _ (by rw [putOf_length, orderOk_len h]; exact hi)]
  have hi' : i < o.length := by rw [orderOk_len h]; exact hi
  simp only [putOf, List.getElem_map, rd_get o hi']
theorem putOf_at {l o : List Int} {n : Nat} (h : orderOk o n = true) {v : Int} (h0 : 1 ≤ v) (h1 : v ≤ n) : rd (putOf l o) (placeOf o v - 1) = placeOf o (rd l (v - 1)) := by
  obtain ⟨i, h2, h3, h4⟩ := placeOf_spec h h0 h1
  rw [h4, show (i : Int) + 1 - 1 = i by omega, putOf_rd h h2, h3]
theorem treeOk_rd' {l : List Int} (h : treeOk l = true) {v : Int} (h0 : 1 ≤ v) (h1 : v ≤ l.length) : 0 ≤ rd l (v - 1) ∧ rd l (v - 1) ≤ l.length := by
  have := treeOk_rd h (j := (v - 1).toNat) (by omega)
  rwa [show (((v - 1).toNat : Nat) : Int) = v - 1 by omega] at this
theorem walk_put {l o : List Int} (hl : treeOk l = true) (h : orderOk o l.length = true) : ∀ (m : Nat) (v : Int), 0 ≤ v → v ≤ l.length → walkOk (putOf l o) m (placeOf o v) = walkOk l m v
  | 0, v, h0, h1 => by
    unfold walkOk
    rw [decide_eq_decide]; exact (placeOf_range h h0 h1).2.2
  | m + 1, v, h0, h1 => by
    unfold walkOk
    have hr := placeOf_range h h0 h1
    by_cases e : v ≤ 0
    · rw [if_pos e, if_pos (hr.2.2.mpr e)]
    · rw [if_neg e, if_neg (fun h2 => e (hr.2.2.mp h2)), putOf_at h (by omega) h1]
      have h3 := treeOk_rd' hl (v := v) (by omega) h1
      have h4 := placeOf_range h h3.1 h3.2
      rw [putOf_length, orderOk_len h, decide_eq_true h3, decide_eq_true (show 0 ≤ placeOf o (rd l (v - 1)) ∧ placeOf o (rd l (v - 1)) ≤ (l.length : Int) from ⟨h4.1, h4.2.1⟩), walk_put hl h m _ h3.1 h3.2]
theorem count_zero_one {l : List Int} {i : Nat} (hi : i < l.length) (h0 : rd l i = 0) (hu : ∀ j : Nat, j < l.length → rd l j = 0 → j = i) : l.count 0 = 1 := by
  have key : ∀ d j, j + d = l.length → zerosFrom l j = if j ≤ i then 1 else 0 := by
    intro d
    induction d with
    | zero => intro j hj; unfold zerosFrom; rw [List.drop_eq_nil_of_le (by omega), if_neg (by omega)]; rfl
    | succ d ih =>
      intro j hj
      rw [zerosFrom_succ l j (by omega), ih (j + 1) (by omega)]
      by_cases e : j = i
      · subst e; rw [if_pos h0, if_neg (by omega), if_pos (by omega)]
      · rw [if_neg (fun h => e (hu j (by omega) h))]
        split <;> split <;> omega
  have := key l.length 0 (by omega)
  rw [if_pos (by omega)] at this
  simpa [zerosFrom] using this
theorem treeOk_put {l o : List Int} (hl : treeOk l = true) (h : orderOk o l.length = true) : treeOk (putOf l o) = true := by
  have hlen : (putOf l o).length = l.length := by rw [putOf_length, orderOk_len h]
  unfold treeOk
  rw [hlen, decide_eq_true (treeOk_len hl), Bool.true_and, Bool.and_eq_true]
  constructor
  · rw [List.all_eq_true]
    intro i hi
    have hi := List.mem_range.mp hi
    have h1 := orderOk_rd h hi
    have h2 := treeOk_rd' hl h1.1 h1.2
    have h3 := placeOf_range h h2.1 h2.2
    unfold okAt
    rw [putOf_rd h hi, hlen, decide_eq_true ⟨h3.1, h3.2.1⟩, Bool.true_and]
    have h4 : placeOf o (rd o i) = (i : Int) + 1 := placeOf_at h (by rw [orderOk_len h]; exact hi)
    rw [← h4, walk_put hl h _ _ (by omega) h1.2]
    have := treeOk_walk hl (j := (rd o i - 1).toNat) (by omega)
    rwa [show (((rd o i - 1).toNat : Nat) : Int) + 1 = rd o i by omega] at this
  · rw [decide_eq_true_iff]
    obtain ⟨i, h1, h2⟩ := exists_root hl
    obtain ⟨j, h3, h4, h5⟩ := placeOf_spec h (v := (i : Int) + 1) (by omega) (by omega)
    refine count_zero_one (i := j) (by omega) ?_ ?_
    · rw [putOf_rd h h3, h4, show (i : Int) + 1 - 1 = i by omega, h2, placeOf_zero h]
    · intro k hk hk0
      have hk' : k < l.length := by omega
      rw [putOf_rd h hk'] at hk0
      have h6 := orderOk_rd h hk'
      have h7 := treeOk_rd' hl h6.1 h6.2
      have h8 := (placeOf_range h h7.1 h7.2).2.2.mp (by omega)
      have h9 := zero_unique hl (i := (rd o k - 1).toNat) (j := i) (by omega) h1 (by rw [show (((rd o k - 1).toNat : Nat) : Int) = rd o k - 1 by omega]; omega) h2
      exact order_inj h (by rw [orderOk_len h]; omega) (by rw [orderOk_len h]; omega) (by omega)

/-! sums -/
def sumTo (f : Nat → Int) : Nat → Int
  | 0 => 0
  | n + 1 => sumTo f n + f n
theorem sumTo_congr {f g : Nat → Int} : ∀ (n : Nat), (∀ i, i < n → f i = g i) → sumTo f n = sumTo g n
  | 0, _ => rfl
  | n + 1, h => by rw [sumTo, sumTo, sumTo_congr n (fun i hi => h i (by omega)), h n (by omega)]
theorem sumTo_add (f g : Nat → Int) : ∀ n : Nat, sumTo (fun i => f i + g i) n = sumTo f n + sumTo g n
  | 0 => rfl
  | n + 1 => by rw [sumTo, sumTo, sumTo, sumTo_add f g n]; omega
theorem sumTo_zero : ∀ n : Nat, sumTo (fun _ => 0) n = 0
  | 0 => rfl
  | n + 1 => by rw [sumTo, sumTo_zero n]; rfl
theorem sumTo_one : ∀ n : Nat, sumTo (fun _ => 1) n = n
  | 0 => rfl
  | n + 1 => by rw [sumTo, sumTo_one n]; omega
theorem sumTo_le {f g : Nat → Int} : ∀ (n : Nat), (∀ i, i < n → f i ≤ g i) → sumTo f n ≤ sumTo g n
  | 0, _ => by simp [sumTo]
  | n + 1, h => by
    have := sumTo_le n (fun i hi => h i (by omega))
    have := h n (by omega)
    simp only [sumTo]; omega
theorem sumTo_swap (f : Nat → Nat → Int) (m : Nat) : ∀ n : Nat, sumTo (fun i => sumTo (fun j => f i j) m) n = sumTo (fun j => sumTo (fun i => f i j) n) m
  | 0 => (sumTo_zero m).symm
  | n + 1 => by
    rw [sumTo, sumTo_swap f m n, ← sumTo_add]
    rfl
theorem sumTo_pick (a : Nat) (c : Int) : ∀ n : Nat, sumTo (fun i => if i = a then c else 0) n = if a < n then c else 0
  | 0 => by simp [sumTo]
  | n + 1 => by
    rw [sumTo, sumTo_pick a c n]
    by_cases h1 : a < n
    · rw [if_pos h1, if_neg (by omega), if_pos (by omega)]; omega
    · by_cases h2 : n = a
      · rw [if_neg h1, if_pos h2, if_pos (by omega)]; omega
      · rw [if_neg h1, if_neg h2, if_neg (by omega)]; rfl
theorem sumTo_bij (f : Nat → Int) (n : Nat) (s t : Nat → Nat) (hs : ∀ i, i < n → s i < n ∧ t (s i) = i) (ht : ∀ i, i < n → t i < n ∧ s (t i) = i) : sumTo (fun i => f (s i)) n = sumTo f n := by
  have e1 : sumTo (fun i => f (s i)) n = sumTo (fun i => sumTo (fun v => if v = s i then f v else 0) n) n := by
    refine sumTo_congr n (fun i hi => ?_)
    have : sumTo (fun v => if v = s i then f v else 0) n = sumTo (fun v => if v = s i then f (s i) else 0) n := by
      refine sumTo_congr n (fun v _ => ?_)
      by_cases e : v = s i
      · rw [if_pos e, if_pos e, e]
      · rw [if_neg e, if_neg e]
    rw [this, sumTo_pick, if_pos (hs i hi).1]
  rw [e1, sumTo_swap]
  refine sumTo_congr n (fun v hv => ?_)
  have : sumTo (fun i => if v = s i then f v else 0) n = sumTo (fun i => if i = t v then f v else 0) n := by
    refine sumTo_congr n (fun i hi => ?_)
    by_cases e : v = s i
    · rw [if_pos e, if_pos (by rw [e]; exact ((hs i hi).2).symm)]
    · rw [if_neg e, if_neg (fun h => e (by rw [h]; exact ((ht v hv).2).symm))]
  rw [this, sumTo_pick, if_pos (ht v hv).1]
theorem sumTo_from (f : Nat → Int) (n : Nat) (d : Nat) : ∀ (j : Nat) (b : Int), j + d = n → foldFrom (fun (b : Int) (i : Nat) => b + f i) n j b = b + sumTo f n - sumTo f j := by
  induction d with
  | zero => intro j b h; rw [foldFrom_end _ b (by omega), show j = n by omega]; omega
  | succ d ih =>
    intro j b h
    rw [foldFrom_step _ b (by omega), ih (j + 1) _ (by omega), sumTo]
    omega
theorem sumTo_fold (f : Nat → Int) (n : Nat) (b : Int) : foldFrom (fun (b : Int) (i : Nat) => b + f i) n 0 b = b + sumTo f n := by
  rw [sumTo_from f n n 0 b (by omega)]; simp [sumTo]
theorem count_sum (v : Int) : ∀ l : List Int, (l.count v : Int) = sumTo (fun i => if rd l (i : Int) = v then 1 else 0) l.length := by
  intro l
  have key : ∀ j, j ≤ l.length → ((l.take j).count v : Int) = sumTo (fun i => if rd l (i : Int) = v then 1 else 0) j := by
    intro j
    induction j with
    | zero => intro _; rfl
    | succ j ih =>
      intro hj
      rw [sumTo, ← ih (by omega), List.take_succ_eq_append_getElem (by omega), List.count_append]
      have e : rd l (j : Int) = l[j] := by simp [rd_nat, show j < l.length by omega]
      rw [e]
      by_cases h : l[j] = v <;> simp [h]
  have := key l.length (Nat.le_refl _)
  rwa [List.take_length] at this
theorem sumTo_bound {f : Nat → Int} (c : Int) : ∀ (n : Nat), (∀ i, i < n → 0 ≤ f i ∧ f i ≤ c) → 0 ≤ sumTo f n ∧ sumTo f n ≤ c * n
  | 0, _ => by simp [sumTo]
  | n + 1, h => by
    have h1 := sumTo_bound c n (fun i hi => h i (by omega))
    have h2 := h n (by omega)
    have h3 : c * ((n + 1 : Nat) : Int) = c * n + c := by rw [Int.natCast_succ, Int.mul_add, Int.mul_one]
    rw [h3]
    simp only [sumTo]; omega
theorem sumTo_gap (a b : Int) (h0 : 1 ≤ a) (h1 : a ≤ b) : ∀ m : Nat, sumTo (fun g => if a ≤ (g : Int) + 1 ∧ b > (g : Int) + 1 then 1 else 0) m = max 0 (min (b - 1) m - a + 1)
  | 0 => by simp only [sumTo]; omega
  | m + 1 => by
    rw [sumTo, sumTo_gap a b h0 h1 m]
    by_cases h : a ≤ (m : Int) + 1 ∧ b > (m : Int) + 1
    · rw [if_pos h]; omega
    · rw [if_neg h]; omega

/-! a tree read from its end -/
def downO (n : Nat) : List Int := (List.range n).map (fun i : Nat => (n : Int) - i)
theorem downO_length (n : Nat) : (downO n).length = n := by simp [downO]
theorem downO_rd {n i : Nat} (h : i < n) : rd (downO n) (i : Int) = (n : Int) - i := by
  rw [rd_get _ (by rw [downO_length]; exact h)]; simp [downO]
theorem downO_ok {n : Nat} (h1 : 1 ≤ n) (h2 : n ≤ 8) : orderOk (downO n) n = true := by
  rw [orderOk_iff]
  refine ⟨by omega, by rw [downO_length], ?_⟩
  intro i hi
  rw [downO_length] at hi
  refine ⟨by rw [downO_rd hi]; omega, fun j hj => ?_⟩
  rw [downO_rd hi, downO_rd (show j < n by omega)]; omega
theorem placeOf_down {n : Nat} (h1 : 1 ≤ n) (h2 : n ≤ 8) {v : Int} (h3 : 1 ≤ v) (h4 : v ≤ n) : placeOf (downO n) v = (n : Int) + 1 - v := by
  obtain ⟨i, h5, h6, h7⟩ := placeOf_spec (downO_ok h1 h2) h3 h4
  rw [downO_rd h5] at h6; omega
def backOf (l : List Int) : List Int := if treeOk l then putOf l (downO l.length) else []
theorem backOf_ok {l : List Int} (h : treeOk l = true) : treeOk (backOf l) = true ∧ (backOf l).length = l.length := by
  have hn := treeOk_len h
  unfold backOf
  rw [if_pos h]
  exact ⟨treeOk_put h (downO_ok hn.1 hn.2), by rw [putOf_length, downO_length]⟩
theorem backOf_rd {l : List Int} (h : treeOk l = true) {i : Nat} (hi : i < l.length) : rd (backOf l) (i : Int) = if rd l (((l.length - 1 - i : Nat)) : Int) = 0 then 0 else (l.length : Int) + 1 - rd l (((l.length - 1 - i : Nat)) : Int) := by
  have hn := treeOk_len h
  have hr := treeOk_rd h (j := l.length - 1 - i) (by omega)
  unfold backOf
  rw [if_pos h, putOf_rd (downO_ok hn.1 hn.2) hi, downO_rd hi, show (l.length : Int) - i - 1 = ((l.length - 1 - i : Nat) : Int) by omega]
  by_cases e : rd l (((l.length - 1 - i : Nat)) : Int) = 0
  · rw [if_pos e, e, placeOf_zero (downO_ok hn.1 hn.2)]
  · rw [if_neg e, placeOf_down hn.1 hn.2 (by omega) hr.2]
theorem sumTo_rev (f : Nat → Int) (n : Nat) : sumTo (fun i => f (n - 1 - i)) n = sumTo f n :=
  sumTo_bij f n (fun i => n - 1 - i) (fun i => n - 1 - i) (fun i hi => ⟨by omega, by omega⟩) (fun i hi => ⟨by omega, by omega⟩)

/-! ends of arcs -/
def cnt (l : List Int) (v : Int) : Nat := l.count v
def endsOf (l : List Int) : List Int := if treeOk l then (List.range l.length).map (fun i : Nat => (if rd l i = 0 then 0 else 1) + (l.count ((i : Int) + 1) : Int)) else []
theorem take_count (l : List Int) (j : Nat) (v : Int) (h : j < l.length) : (l.take (j + 1)).count v = (l.take j).count v + if rd l j = v then 1 else 0 := by
  rw [List.take_succ_eq_append_getElem h, List.count_append]
  congr 1
  have e : rd l j = l[j] := by simp [rd_nat, h]
  rw [e, List.count_singleton]
  by_cases e : l[j] = v <;> simp [e]
theorem drop_count (l : List Int) (j : Nat) (v : Int) (h : j < l.length) : (l.drop j).count v = (if rd l j = v then 1 else 0) + (l.drop (j + 1)).count v := by
  rw [List.drop_eq_getElem_cons h, List.count_cons]
  have e : rd l j = l[j] := by simp [rd_nat, h]
  rw [e]
  by_cases e : l[j] = v <;> simp [e, Nat.add_comm]
theorem drop_count_le (l : List Int) (j : Nat) (v : Int) : (l.drop j).count v ≤ l.length - j := by
  have : (l.drop j).count v ≤ (l.drop j).length := List.count_le_length
  simpa using this

theorem endsOf_len (l : List Int) : (endsOf l).length ≤ 8 := by
  unfold endsOf
  split
  · rename_i h; have := treeOk_len h; simp; omega
  · simp
theorem endsOf_small (l : List Int) : (endsOf l).length ≤ 1048576 := Nat.le_trans (endsOf_len l) (by omega)
theorem endsOf_rd {l : List Int} (h : treeOk l = true) {j : Nat} (hj : j < l.length) : rd (endsOf l) j = (if rd l j = 0 then 0 else 1) + (l.count ((j : Int) + 1) : Int) := by
  unfold endsOf
  rw [rd_nat, if_pos h]
  simp [hj]
theorem endsOf_bound {l : List Int} {j : Nat} (hj : j < (endsOf l).length) : 0 ≤ rd (endsOf l) j ∧ rd (endsOf l) j ≤ 9 := by
  by_cases h : treeOk l = true
  · have hl := treeOk_len h
    have e : (endsOf l).length = l.length := by unfold endsOf; rw [if_pos h]; simp
    rw [endsOf_rd h (by omega)]
    have : l.count ((j : Int) + 1) ≤ l.length := List.count_le_length
    split <;> omega
  · have e : endsOf l = [] := by unfold endsOf; rw [if_neg h]
    rw [e] at hj; simp at hj

theorem endsOf_length {l : List Int} (h : treeOk l = true) : (endsOf l).length = l.length := by unfold endsOf; rw [if_pos h]; simp
theorem count_back {l : List Int} (h : treeOk l = true) {v : Int} (h0 : 1 ≤ v) (h1 : v ≤ l.length) : (backOf l).count ((l.length : Int) + 1 - v) = l.count v := by
  have e : ((backOf l).count ((l.length : Int) + 1 - v) : Int) = (l.count v : Int) := by
    rw [count_sum, count_sum, (backOf_ok h).2, ← sumTo_rev (fun i => if rd l (i : Int) = v then 1 else 0)]
    refine sumTo_congr _ (fun i hi => ?_)
    have hr := treeOk_rd h (j := l.length - 1 - i) (by omega)
    rw [backOf_rd h hi]
    by_cases e : rd l (((l.length - 1 - i : Nat)) : Int) = 0
    · rw [if_pos e, if_neg (by omega), if_neg (by omega)]
    · rw [if_neg e]
      by_cases e2 : rd l (((l.length - 1 - i : Nat)) : Int) = v
      · rw [if_pos e2, if_pos (by omega)]
      · rw [if_neg e2, if_neg (by omega)]
  omega
theorem ends_back {l : List Int} (h : treeOk l = true) {k : Nat} (hk : k < l.length) : rd (endsOf (backOf l)) (((l.length - 1 - k : Nat)) : Int) = rd (endsOf l) (k : Int) := by
  obtain ⟨h1, h2⟩ := backOf_ok h
  have hr := treeOk_rd h hk
  rw [endsOf_rd h1 (j := l.length - 1 - k) (by omega), endsOf_rd h hk, backOf_rd h (by omega), show l.length - 1 - (l.length - 1 - k) = k by omega]
  have := count_back h (v := (k : Int) + 1) (by omega) (by omega)
  rw [show (l.length : Int) + 1 - ((k : Int) + 1) = ((l.length - 1 - k : Nat) : Int) + 1 by omega] at this
  rw [this]
  by_cases e : rd l (k : Int) = 0
  · rw [e]; simp
  · rw [if_neg e, if_neg (by omega), if_neg e]
theorem root_kid {l : List Int} (h : treeOk l = true) (hn : 1 < l.length) {j : Nat} (hj : j < l.length) (e : rd l (j : Int) = 0) : 1 ≤ l.count ((j : Int) + 1) := by
  obtain ⟨i, hi, hij⟩ : ∃ i : Nat, i < l.length ∧ i ≠ j := by
    by_cases h0 : j = 0
    · exact ⟨1, by omega, by omega⟩
    · exact ⟨0, by omega, by omega⟩
  obtain ⟨d, hd, hdd⟩ := tree_deep h (w := (i : Int) + 1) (by omega) (by omega)
  cases d with
  | zero =>
    have h3 : rd l ((i : Int) + 1 - 1) = 0 := hdd
    rw [show (i : Int) + 1 - 1 = i by omega] at h3
    exact absurd (zero_unique h hi hj h3 e) hij
  | succ d =>
    have h4 := deep_up l d 1 ((i : Int) + 1) (by rw [Nat.add_comm]; exact hdd)
    have h5 := up_range l d 1 ((i : Int) + 1) (by rw [Nat.add_comm]; exact hdd) (by omega)
    have h6 : rd l (rd l (up l d ((i : Int) + 1) - 1) - 1) = 0 := h4.2.2
    have h7 := zero_unique h (i := (rd l (up l d ((i : Int) + 1) - 1) - 1).toNat) (j := j) (by have := h4.1; have := h4.2.1; omega) hj (by
      rw [show (((rd l (up l d ((i : Int) + 1) - 1) - 1).toNat : Nat) : Int) = rd l (up l d ((i : Int) + 1) - 1) - 1 by have := h4.1; omega]; exact h6) e
    have h8 : rd l (up l d ((i : Int) + 1) - 1) = (j : Int) + 1 := by have := h4.1; omega
    have h9 : (j : Int) + 1 ∈ l := by
      have hlt : (up l d ((i : Int) + 1) - 1).toNat < l.length := by omega
      rw [← h8, show up l d ((i : Int) + 1) - 1 = (((up l d ((i : Int) + 1) - 1).toNat : Nat) : Int) by omega, rd_get l hlt]
      exact List.getElem_mem ..
    exact List.count_pos_iff.mpr h9
theorem ends_pos {l : List Int} (h : treeOk l = true) (hn : 1 < l.length) {j : Nat} (hj : j < l.length) : 1 ≤ rd (endsOf l) (j : Int) := by
  rw [endsOf_rd h hj]
  by_cases e : rd l (j : Int) = 0
  · have := root_kid h hn hj e
    rw [if_pos e]; omega
  · rw [if_neg e]; omega
theorem nonzero_sum {l : List Int} (h : treeOk l = true) : sumTo (fun i => if rd l (i : Int) = 0 then 0 else 1) l.length = (l.length : Int) - 1 := by
  have h1 := count_sum 0 l
  rw [treeOk_zero h] at h1
  have h2 := sumTo_add (fun i => if rd l (i : Int) = 0 then 0 else 1) (fun i => if rd l (i : Int) = 0 then 1 else 0) l.length
  have h3 : sumTo (fun i => (if rd l (i : Int) = 0 then 0 else 1) + (if rd l (i : Int) = 0 then 1 else 0)) l.length = sumTo (fun _ => 1) l.length := by
    refine sumTo_congr _ (fun i _ => ?_)
    split <;> rfl
  rw [h3, sumTo_one] at h2
  omega
theorem kids_sum {l : List Int} (h : treeOk l = true) : sumTo (fun k => (l.count ((k : Int) + 1) : Int)) l.length = (l.length : Int) - 1 := by
  rw [← nonzero_sum h]
  have : sumTo (fun k => (l.count ((k : Int) + 1) : Int)) l.length = sumTo (fun k => sumTo (fun i => if rd l (i : Int) = (k : Int) + 1 then 1 else 0) l.length) l.length := sumTo_congr _ (fun k _ => count_sum _ l)
  rw [this, sumTo_swap]
  refine sumTo_congr _ (fun i hi => ?_)
  have hr := treeOk_rd h hi
  by_cases e : rd l (i : Int) = 0
  · rw [if_pos e]
    refine Eq.trans (sumTo_congr _ (fun k _ => ?_)) (sumTo_zero l.length)
    rw [if_neg (by omega)]
  · rw [if_neg e]
    have : sumTo (fun k : Nat => if rd l (i : Int) = (k : Int) + 1 then 1 else 0) l.length = sumTo (fun k : Nat => if k = (rd l (i : Int) - 1).toNat then 1 else 0) l.length := by
      refine sumTo_congr _ (fun k _ => ?_)
      by_cases e2 : rd l (i : Int) = (k : Int) + 1
      · rw [if_pos e2, if_pos (by omega)]
      · rw [if_neg e2, if_neg (by omega)]
    rw [this, sumTo_pick, if_pos (by omega)]
theorem ends_sum {l : List Int} (h : treeOk l = true) : sumTo (fun k => rd (endsOf l) (k : Int)) l.length = 2 * ((l.length : Int) - 1) := by
  have : sumTo (fun k => rd (endsOf l) (k : Int)) l.length = sumTo (fun k => (if rd l (k : Int) = 0 then 0 else 1) + (l.count ((k : Int) + 1) : Int)) l.length := sumTo_congr _ (fun k hk => endsOf_rd h hk)
  rw [this, sumTo_add, nonzero_sum h, kids_sum h]
  omega

/-! pairs of arcs -/
def pairStep (e : List Int) (b : Int) (i : Nat) : Int := b - rd e i * (rd e i - 1) / 2
def pairsApart (l : List Int) : Int := if treeOk l then foldFrom (pairStep (endsOf l)) (endsOf l).length 0 (((l.length : Int) - 1) * ((l.length : Int) - 2) / 2) else -1
theorem half_of (e : Int) (h0 : 0 ≤ e) (h1 : e ≤ 9) : wrap64 (Int.tdiv (wrap64 (e * wrap64 (e - 1))) 2) = e * (e - 1) / 2 ∧ 0 ≤ e * (e - 1) / 2 ∧ e * (e - 1) / 2 ≤ 36 := by
  obtain rfl | rfl | rfl | rfl | rfl | rfl | rfl | rfl | rfl | rfl : e = 0 ∨ e = 1 ∨ e = 2 ∨ e = 3 ∨ e = 4 ∨ e = 5 ∨ e = 6 ∨ e = 7 ∨ e = 8 ∨ e = 9 := by omega
  all_goals decide +kernel
theorem half_len (n : Int) (h0 : 1 ≤ n) (h1 : n ≤ 8) : wrap64 (Int.tdiv (wrap64 (wrap64 (n - 1) * wrap64 (n - 2))) 2) = (n - 1) * (n - 2) / 2 ∧ wrap64 (Int.tdiv (wrap64 (wrap64 (n - 1) * wrap64 (wrap64 (n - 1) - 1))) 2) = (n - 1) * (n - 2) / 2 ∧ 0 ≤ (n - 1) * (n - 2) / 2 ∧ (n - 1) * (n - 2) / 2 ≤ 21 := by
  obtain rfl | rfl | rfl | rfl | rfl | rfl | rfl | rfl : n = 1 ∨ n = 2 ∨ n = 3 ∨ n = 4 ∨ n = 5 ∨ n = 6 ∨ n = 7 ∨ n = 8 := by omega
  all_goals decide +kernel

theorem half_even (e : Int) (h0 : 0 ≤ e) (h1 : e ≤ 9) : 2 * (e * (e - 1) / 2) = e * e - e := by
  obtain rfl | rfl | rfl | rfl | rfl | rfl | rfl | rfl | rfl | rfl : e = 0 ∨ e = 1 ∨ e = 2 ∨ e = 3 ∨ e = 4 ∨ e = 5 ∨ e = 6 ∨ e = 7 ∨ e = 8 ∨ e = 9 := by omega
  all_goals decide
theorem half_even2 (e : Int) (h0 : 1 ≤ e) (h1 : e ≤ 9) : 2 * ((e - 1) * (e - 2) / 2) = (e - 1) * (e - 2) := by
  obtain rfl | rfl | rfl | rfl | rfl | rfl | rfl | rfl | rfl : e = 1 ∨ e = 2 ∨ e = 3 ∨ e = 4 ∨ e = 5 ∨ e = 6 ∨ e = 7 ∨ e = 8 ∨ e = 9 := by omega
  all_goals decide
theorem pairsApart_sum {l : List Int} (h : treeOk l = true) : pairsApart l = ((l.length : Int) - 1) * ((l.length : Int) - 2) / 2 + sumTo (fun v => -(rd (endsOf l) (v : Int) * (rd (endsOf l) (v : Int) - 1) / 2)) l.length := by
  unfold pairsApart
  rw [if_pos h, endsOf_length h, ← sumTo_fold]
  congr 1
theorem sumTo_neg (f : Nat → Int) : ∀ n : Nat, sumTo (fun i => - f i) n = - sumTo f n
  | 0 => rfl
  | n + 1 => by rw [sumTo, sumTo, sumTo_neg f n]; omega
theorem sumTo_two (f : Nat → Int) : ∀ n : Nat, 2 * sumTo f n = sumTo (fun i => 2 * f i) n
  | 0 => rfl
  | n + 1 => by rw [sumTo, sumTo, ← sumTo_two f n]; omega
theorem sumTo_less (f g : Nat → Int) : ∀ n : Nat, sumTo (fun i => f i - g i) n = sumTo f n - sumTo g n
  | 0 => rfl
  | n + 1 => by rw [sumTo, sumTo, sumTo, sumTo_less f g n]; omega
theorem two_formula {l : List Int} (h : treeOk l = true) : 2 * pairsApart l = ((l.length : Int) - 1) * ((l.length : Int) - 2) - sumTo (fun v => rd (endsOf l) (v : Int) * rd (endsOf l) (v : Int)) l.length + sumTo (fun v => rd (endsOf l) (v : Int)) l.length := by
  have hn := treeOk_len h
  rw [pairsApart_sum h, sumTo_neg, Int.mul_add, half_even2 _ (by omega) (by omega), Int.mul_neg, sumTo_two]
  have : sumTo (fun v => 2 * (rd (endsOf l) (v : Int) * (rd (endsOf l) (v : Int) - 1) / 2)) l.length = sumTo (fun v => rd (endsOf l) (v : Int) * rd (endsOf l) (v : Int) - rd (endsOf l) (v : Int)) l.length := by
    refine sumTo_congr _ (fun v hv => ?_)
    have hb := endsOf_bound (l := l) (j := v) (by rw [endsOf_length h]; exact hv)
    exact half_even _ hb.1 hb.2
  rw [this, sumTo_less]
  omega
theorem pairs_back {l : List Int} (h : treeOk l = true) : pairsApart (backOf l) = pairsApart l := by
  obtain ⟨h1, h2⟩ := backOf_ok h
  rw [pairsApart_sum h1, pairsApart_sum h, h2]
  congr 1
  rw [← sumTo_rev (fun v => -(rd (endsOf (backOf l)) (v : Int) * (rd (endsOf (backOf l)) (v : Int) - 1) / 2))]
  refine sumTo_congr _ (fun v hv => ?_)
  rw [ends_back h hv]

/-! pairs of arcs that have no end in common, counted -/
/-- whether a word is an end of the arc of another one -/
@[reducible] def incP (l : List Int) (i v : Nat) : Prop := rd l (i : Int) ≠ 0 ∧ (i = v ∨ rd l (i : Int) = (v : Int) + 1)
def inc (l : List Int) (i v : Nat) : Int := if incP l i v then 1 else 0
@[reducible] def meetP (l : List Int) (i k : Nat) : Prop := rd l (i : Int) = rd l (k : Int) ∨ rd l (i : Int) = (k : Int) + 1 ∨ rd l (k : Int) = (i : Int) + 1
@[reducible] def apartP (l : List Int) (i k : Nat) : Prop := i ≠ k ∧ rd l (i : Int) ≠ 0 ∧ rd l (k : Int) ≠ 0 ∧ ¬ meetP l i k
def apart (l : List Int) (i k : Nat) : Int := if apartP l i k then 1 else 0
theorem no_two {l : List Int} (h : treeOk l = true) {i k : Nat} (hi : i < l.length) (hk : k < l.length) (e1 : rd l (i : Int) = (k : Int) + 1) (e2 : rd l (k : Int) = (i : Int) + 1) : False := by
  obtain ⟨d, _, hd⟩ := tree_deep h (w := (i : Int) + 1) (by omega) (by omega)
  have h1 := deep_kid (l := l) (w := (i : Int) + 1) (by omega) hd e2
  have h2 := deep_kid (l := l) (w := (k : Int) + 1) (by omega) h1 e1
  have := deep_unique l _ _ _ hd h2
  omega
theorem no_three {l : List Int} (h : treeOk l = true) {i k j : Nat} (hi : i < l.length) (hk : k < l.length) (hj : j < l.length) (e1 : rd l (i : Int) = (k : Int) + 1) (e2 : rd l (k : Int) = (j : Int) + 1) (e3 : rd l (j : Int) = (i : Int) + 1) : False := by
  obtain ⟨d, _, hd⟩ := tree_deep h (w := (i : Int) + 1) (by omega) (by omega)
  have h1 := deep_kid (l := l) (w := (i : Int) + 1) (by omega) hd e3
  have h2 := deep_kid (l := l) (w := (j : Int) + 1) (by omega) h1 e2
  have h3 := deep_kid (l := l) (w := (k : Int) + 1) (by omega) h2 e1
  have := deep_unique l _ _ _ hd h3
  omega
theorem ends_inc {l : List Int} (h : treeOk l = true) {v : Nat} (hv : v < l.length) : rd (endsOf l) (v : Int) = sumTo (fun i => inc l i v) l.length := by
  rw [endsOf_rd h hv, count_sum]
  have e1 : (if rd l (v : Int) = 0 then (0 : Int) else 1) = sumTo (fun i => if i = v then (if rd l (v : Int) = 0 then 0 else 1) else 0) l.length := by
    rw [sumTo_pick, if_pos hv]
  rw [e1, ← sumTo_add]
  refine sumTo_congr _ (fun i hi => ?_)
  have hne := treeOk_ne h hi
  unfold inc
  by_cases e : i = v
  · subst e
    by_cases e0 : rd l (i : Int) = 0
    · rw [if_pos rfl, if_pos e0, if_neg (by omega), if_neg (fun h2 => h2.1 e0)]; rfl
    · rw [if_pos rfl, if_neg e0, if_neg hne, if_pos ⟨e0, .inl rfl⟩]; rfl
  · rw [if_neg e]
    by_cases e2 : rd l (i : Int) = (v : Int) + 1
    · rw [if_pos e2, if_pos ⟨by omega, .inr e2⟩]; rfl
    · rw [if_neg e2, if_neg (fun h2 => h2.2.elim e e2)]; rfl
theorem sumTo_mul (c : Int) (f : Nat → Int) : ∀ n : Nat, sumTo (fun i => c * f i) n = c * sumTo f n
  | 0 => by simp [sumTo]
  | n + 1 => by rw [sumTo, sumTo, sumTo_mul c f n, Int.mul_add]
theorem sumTo_mul2 (f g : Nat → Int) (n m : Nat) : sumTo f n * sumTo g m = sumTo (fun i => sumTo (fun k => f i * g k) m) n := by
  have : sumTo (fun i => sumTo (fun k => f i * g k) m) n = sumTo (fun i => sumTo g m * f i) n := sumTo_congr _ (fun i _ => by rw [sumTo_mul, Int.mul_comm])
  rw [this, sumTo_mul, Int.mul_comm]
theorem inc_mul (l : List Int) (i k v : Nat) : inc l i v * inc l k v = if incP l i v ∧ incP l k v then 1 else 0 := by
  unfold inc
  by_cases h1 : incP l i v
  · by_cases h2 : incP l k v
    · rw [if_pos h1, if_pos h2, if_pos ⟨h1, h2⟩]; rfl
    · rw [if_pos h1, if_neg h2, if_neg (fun h => h2 h.2)]; rfl
  · rw [if_neg h1, if_neg (show ¬ (incP l i v ∧ incP l k v) from fun h => h1 h.1), Int.zero_mul]
/-- how many ends two arcs have in common -/
theorem shared {l : List Int} (h : treeOk l = true) {i k : Nat} (hi : i < l.length) (hk : k < l.length) : sumTo (fun v => inc l i v * inc l k v) l.length = (if i = k then 2 * (if rd l (i : Int) = 0 then 0 else 1) else (if rd l (i : Int) = 0 then 0 else 1) * (if rd l (k : Int) = 0 then 0 else 1) - apart l i k) := by
  have hri := treeOk_rd h hi
  have hrk := treeOk_rd h hk
  have hni := treeOk_ne h hi
  have hnk := treeOk_ne h hk
  have e : sumTo (fun v => inc l i v * inc l k v) l.length = sumTo (fun v => if incP l i v ∧ incP l k v then 1 else 0) l.length := sumTo_congr _ (fun v _ => inc_mul l i k v)
  rw [e]
  have none : (∀ v : Nat, v < l.length → ¬ (incP l i v ∧ incP l k v)) → sumTo (fun v => if incP l i v ∧ incP l k v then (1 : Int) else 0) l.length = 0 := fun hh =>
    Eq.trans (sumTo_congr _ (fun v hv => if_neg (hh v hv))) (sumTo_zero _)
  have one : ∀ a : Nat, a < l.length → (∀ v : Nat, v < l.length → ((incP l i v ∧ incP l k v) ↔ v = a)) → sumTo (fun v => if incP l i v ∧ incP l k v then (1 : Int) else 0) l.length = 1 := fun a ha hh => by
    have : sumTo (fun v => if incP l i v ∧ incP l k v then (1 : Int) else 0) l.length = sumTo (fun v => if v = a then (1 : Int) else 0) l.length := by
      refine sumTo_congr _ (fun v hv => ?_)
      by_cases e : v = a
      · rw [if_pos e, if_pos ((hh v hv).mpr e)]
      · rw [if_neg e, if_neg (fun h2 => e ((hh v hv).mp h2))]
    rw [this, sumTo_pick, if_pos ha]
  by_cases e0 : rd l (i : Int) = 0
  · rw [none (fun v _ h2 => h2.1.1 e0), if_pos e0]
    have : apart l i k = 0 := by unfold apart; rw [if_neg (fun h2 => h2.2.1 e0)]
    rw [this]; split <;> simp
  · by_cases e1 : rd l (k : Int) = 0
    · rw [none (fun v _ h2 => h2.2.1 e1), if_neg e0, if_pos e1, if_neg (by intro h2; subst h2; exact e0 e1)]
      have : apart l i k = 0 := by unfold apart; rw [if_neg (fun h2 => h2.2.2.1 e1)]
      rw [this]; rfl
    · rw [if_neg e0, if_neg e1]
      by_cases e2 : i = k
      · subst e2
        rw [if_pos rfl]
        have : sumTo (fun v => if incP l i v ∧ incP l i v then (1 : Int) else 0) l.length = sumTo (fun v => (if v = i then 1 else 0) + (if v = (rd l (i : Int) - 1).toNat then 1 else 0)) l.length := by
          refine sumTo_congr _ (fun v hv => ?_)
          by_cases a1 : v = i
          · rw [if_pos a1, if_pos (show incP l i v ∧ incP l i v from ⟨⟨e0, .inl a1.symm⟩, ⟨e0, .inl a1.symm⟩⟩), if_neg (by omega)]; rfl
          · by_cases a2 : v = (rd l (i : Int) - 1).toNat
            · rw [if_neg a1, if_pos a2, if_pos (show incP l i v ∧ incP l i v from ⟨⟨e0, .inr (by omega)⟩, ⟨e0, .inr (by omega)⟩⟩)]; rfl
            · rw [if_neg a1, if_neg a2, if_neg (show ¬ (incP l i v ∧ incP l i v) from fun h2 => h2.1.2.elim (fun h3 => a1 h3.symm) (fun h3 => a2 (by omega)))]; rfl
        rw [this, sumTo_add, sumTo_pick, sumTo_pick, if_pos hi, if_pos (by omega)]; rfl
      · rw [if_neg e2]
        by_cases m1 : rd l (i : Int) = rd l (k : Int)
        · have : apart l i k = 0 := by unfold apart; rw [if_neg (fun h2 => h2.2.2.2 (.inl m1))]
          rw [this, one (rd l (i : Int) - 1).toNat (by omega) (fun v hv => ⟨fun h2 => by rcases h2.1.2 with a | a <;> rcases h2.2.2 with b | b <;> omega, fun h2 => ⟨⟨e0, .inr (by omega)⟩, ⟨e1, .inr (by omega)⟩⟩⟩)]; rfl
        · by_cases m2 : rd l (i : Int) = (k : Int) + 1
          · have : apart l i k = 0 := by unfold apart; rw [if_neg (fun h2 => h2.2.2.2 (.inr (.inl m2)))]
            rw [this, one k hk (fun v hv => ⟨fun h2 => by
              rcases h2.1.2 with a | a <;> rcases h2.2.2 with b | b
              · omega
              · exact (no_two h hi hk m2 (by omega)).elim
              · omega
              · omega, fun h2 => ⟨⟨e0, .inr (by omega)⟩, ⟨e1, .inl (by omega)⟩⟩⟩)]; rfl
          · by_cases m3 : rd l (k : Int) = (i : Int) + 1
            · have : apart l i k = 0 := by unfold apart; rw [if_neg (fun h2 => h2.2.2.2 (.inr (.inr m3)))]
              rw [this, one i hi (fun v hv => ⟨fun h2 => by rcases h2.1.2 with a | a <;> rcases h2.2.2 with b | b <;> omega, fun h2 => ⟨⟨e0, .inl (by omega)⟩, ⟨e1, .inr (by omega)⟩⟩⟩)]; rfl
            · have : apart l i k = 1 := by unfold apart; rw [if_pos ⟨e2, e0, e1, fun h2 => by rcases h2 with a | a | a <;> omega⟩]
              rw [this, none (fun v hv h2 => by rcases h2.1.2 with a | a <;> rcases h2.2.2 with b | b <;> omega)]; rfl
theorem sumTo_sub (f g : Nat → Int) : ∀ n : Nat, sumTo (fun i => f i - g i) n = sumTo f n - sumTo g n
  | 0 => rfl
  | n + 1 => by rw [sumTo, sumTo, sumTo, sumTo_sub f g n]; omega
/-- the squares of how many arcs end at each word -/
theorem squares {l : List Int} (h : treeOk l = true) : sumTo (fun v => rd (endsOf l) (v : Int) * rd (endsOf l) (v : Int)) l.length = ((l.length : Int) - 1) * ((l.length : Int) - 1) + ((l.length : Int) - 1) - sumTo (fun i => sumTo (fun k => apart l i k) l.length) l.length := by
  have e1 : sumTo (fun v => rd (endsOf l) (v : Int) * rd (endsOf l) (v : Int)) l.length = sumTo (fun v => sumTo (fun i => sumTo (fun k => inc l i v * inc l k v) l.length) l.length) l.length := sumTo_congr _ (fun v hv => by rw [ends_inc h hv, sumTo_mul2])
  have e2 : sumTo (fun v => sumTo (fun i => sumTo (fun k => inc l i v * inc l k v) l.length) l.length) l.length = sumTo (fun i => sumTo (fun k => sumTo (fun v => inc l i v * inc l k v) l.length) l.length) l.length := by
    rw [sumTo_swap]
    exact sumTo_congr _ (fun i _ => sumTo_swap _ _ _)
  have e3 : sumTo (fun i => sumTo (fun k => sumTo (fun v => inc l i v * inc l k v) l.length) l.length) l.length = sumTo (fun i => sumTo (fun k => ((if rd l (i : Int) = 0 then 0 else 1) * (if rd l (k : Int) = 0 then 0 else 1) + (if k = i then (if rd l (i : Int) = 0 then 0 else 1) else 0)) - apart l i k) l.length) l.length := by
    refine sumTo_congr _ (fun i hi => sumTo_congr _ (fun k hk => ?_))
    rw [shared h hi hk]
    by_cases e : i = k
    · subst e
      have : apart l i i = 0 := by unfold apart; rw [if_neg (fun h2 => h2.1 rfl)]
      rw [this, if_pos rfl, if_pos rfl]; split <;> rfl
    · rw [if_neg e, if_neg (show ¬ k = i from fun h2 => e h2.symm)]; omega
  have e4 : ∀ i, i < l.length → sumTo (fun k => ((if rd l (i : Int) = 0 then 0 else 1) * (if rd l (k : Int) = 0 then 0 else 1) + (if k = i then (if rd l (i : Int) = 0 then (0 : Int) else 1) else 0)) - apart l i k) l.length = (if rd l (i : Int) = 0 then 0 else 1) * ((l.length : Int) - 1) + (if rd l (i : Int) = 0 then 0 else 1) - sumTo (fun k => apart l i k) l.length := by
    intro i hi
    rw [sumTo_sub, sumTo_add, sumTo_mul, nonzero_sum h, sumTo_pick, if_pos hi]
  rw [e1, e2, e3, sumTo_congr _ e4, sumTo_sub, sumTo_add, nonzero_sum h]
  have : sumTo (fun i => (if rd l (i : Int) = 0 then 0 else 1) * ((l.length : Int) - 1)) l.length = ((l.length : Int) - 1) * ((l.length : Int) - 1) := by
    rw [show (fun i : Nat => (if rd l (i : Int) = 0 then (0 : Int) else 1) * ((l.length : Int) - 1)) = (fun i : Nat => ((l.length : Int) - 1) * (if rd l (i : Int) = 0 then 0 else 1)) from funext (fun i => Int.mul_comm _ _), sumTo_mul, nonzero_sum h]
  rw [this]
theorem two_pairs {l : List Int} (h : treeOk l = true) : 2 * pairsApart l = sumTo (fun i => sumTo (fun k => apart l i k) l.length) l.length := by
  rw [two_formula h, squares h, ends_sum h]
  have : ((l.length : Int) - 1) * ((l.length : Int) - 2) = ((l.length : Int) - 1) * ((l.length : Int) - 1) - ((l.length : Int) - 1) := by
    rw [show (l.length : Int) - 2 = ((l.length : Int) - 1) - 1 by omega, Int.mul_sub, Int.mul_one]
  omega

/-! crossings -/
@[reducible] def crossP (a b c d : Int) : Prop := ((1 ≤ a ∧ 1 ≤ b) ∧ (1 ≤ c ∧ 1 ≤ d)) ∧ (a ≠ b ∧ c ≠ d) ∧ (((min a b < c ∧ c < max a b) ∧ (d < min a b ∨ max a b < d)) ∨ ((min a b < d ∧ d < max a b) ∧ (c < min a b ∨ max a b < c)))
@[reducible] def crossAt (l : List Int) (i k : Nat) : Prop := crossP ((i : Int) + 1) (rd l (i : Int)) ((k : Int) + 1) (rd l (k : Int))
def crossN (l : List Int) (i k : Nat) : Int := if crossAt l i k then 1 else 0
theorem crossP_symm {a b c d : Int} (h : crossP a b c d) : crossP c d a b := by
  obtain ⟨⟨⟨h1, h2⟩, h3, h4⟩, ⟨h5, h6⟩, h7⟩ := h
  refine ⟨⟨⟨h3, h4⟩, h1, h2⟩, ⟨h6, h5⟩, ?_⟩
  omega
theorem crossN_symm (l : List Int) (i k : Nat) : crossN l i k = crossN l k i := by
  unfold crossN
  by_cases h : crossAt l i k
  · rw [if_pos h, if_pos (crossP_symm h)]
  · rw [if_neg h, if_neg (fun h2 => h (crossP_symm h2))]
theorem cross_apart {l : List Int} {i k : Nat} (h : crossAt l i k) : apartP l i k := by
  obtain ⟨⟨⟨h1, h2⟩, h3, h4⟩, ⟨h5, h6⟩, h7⟩ := h
  refine ⟨?_, by omega, by omega, ?_⟩
  · intro e; subst e; omega
  · intro h8; rcases h8 with e | e | e <;> omega
theorem crossN_le (l : List Int) (i k : Nat) : 0 ≤ crossN l i k ∧ crossN l i k ≤ 1 ∧ crossN l i k ≤ apart l i k := by
  unfold crossN apart
  by_cases h : crossAt l i k
  · rw [if_pos h, if_pos (cross_apart h)]; omega
  · rw [if_neg h]; split <;> omega
theorem crossN_self (l : List Int) (i : Nat) : crossN l i i = 0 := by
  unfold crossN
  rw [if_neg (fun h => (cross_apart h).1 rfl)]
theorem sumTo_square (f : Nat → Nat → Int) (hs : ∀ i k, f i k = f k i) (hz : ∀ i, f i i = 0) : ∀ n : Nat, sumTo (fun i => sumTo (fun k => f i k) n) n = 2 * sumTo (fun i => sumTo (fun k => f i k) i) n
  | 0 => rfl
  | n + 1 => by
    have e : sumTo (fun i => sumTo (fun k => f i k) (n + 1)) n = sumTo (fun i => sumTo (fun k => f i k) n) n + sumTo (fun i => f i n) n := by
      rw [← sumTo_add]; rfl
    have e2 : sumTo (fun i => f i n) n = sumTo (fun k => f n k) n := sumTo_congr _ (fun i _ => hs i n)
    have e3 : sumTo (fun k => f n k) (n + 1) = sumTo (fun k => f n k) n + f n n := rfl
    show sumTo (fun i => sumTo (fun k => f i k) (n + 1)) n + sumTo (fun k => f n k) (n + 1) = 2 * (sumTo (fun i => sumTo (fun k => f i k) i) n + sumTo (fun k => f n k) n)
    rw [e, e2, e3, hz, sumTo_square f hs hz n]
    omega
def crossings (l : List Int) : Int := if treeOk l then sumTo (fun i => sumTo (fun k => crossN l i k) i) l.length else -1
theorem crossings_le {l : List Int} (h : treeOk l = true) : 0 ≤ crossings l ∧ crossings l ≤ pairsApart l := by
  have e : crossings l = sumTo (fun i => sumTo (fun k => crossN l i k) i) l.length := by unfold crossings; rw [if_pos h]
  have h1 := two_pairs h
  have h2 := sumTo_square (crossN l) (crossN_symm l) (crossN_self l) l.length
  have h3 : sumTo (fun i => sumTo (fun k => crossN l i k) l.length) l.length ≤ sumTo (fun i => sumTo (fun k => apart l i k) l.length) l.length := sumTo_le _ (fun i _ => sumTo_le _ (fun k _ => (crossN_le l i k).2.2))
  have h4 : 0 ≤ crossings l := by
    rw [e, ← sumTo_zero l.length]
    refine sumTo_le _ (fun i _ => ?_)
    have := sumTo_bound (f := fun k => crossN l i k) 1 i (fun k _ => ⟨(crossN_le l i k).1, (crossN_le l i k).2.1⟩)
    exact this.1
  omega

def inRange (l : List Int) (i : Nat) : Bool := decide (0 ≤ rd l i ∧ rd l i ≤ l.length)
theorem mem_rd {l : List Int} {a : Int} (h0 : 0 ≤ a) (h1 : a < l.length) (h : (List.range l.length).all (inRange l) = true) : 0 ≤ rd l a ∧ rd l a ≤ l.length := by
  rw [List.all_eq_true] at h
  have := h a.toNat (by simp; omega)
  unfold inRange at this
  rw [show ((a.toNat : Nat) : Int) = a by omega] at this
  exact of_decide_eq_true this
/-- how many steps lead to 0, as the program counts them -/
def stepsOf (l : List Int) : Nat → Int → Nat → Int
  | 0, _, _ => -1
  | m + 1, w, i => if rd l (w - 1) = 0 then i else stepsOf l m (rd l (w - 1)) (i + 1)
theorem stepsOf_neg (l : List Int) (h : (List.range l.length).all (inRange l) = true) : ∀ (m : Nat) (w : Int) (i : Nat), 0 < w → w ≤ l.length → (decide (stepsOf l m w i < 0) = !walkOk l m w)
  | 0, w, i, h0, h1 => by simp [stepsOf, walkOk]; omega
  | m + 1, w, i, h0, h1 => by
    have hr := mem_rd (a := w - 1) (by omega) (by omega) h
    unfold stepsOf walkOk
    rw [if_neg (show ¬ w ≤ 0 by omega), decide_eq_true hr, Bool.true_and]
    by_cases e : rd l (w - 1) = 0
    · rw [if_pos e, e, decide_eq_false (by omega)]
      cases m <;> simp [walkOk]
    · rw [if_neg e]
      exact stepsOf_neg l h m _ _ (by omega) (by omega)

theorem impl_steps_l0 (l : List Int) (hl : l.length ≤ 8) (h : (List.range l.length).all (inRange l) = true) (d : Nat) : ∀ (w : Int) (j : Nat), j + d = l.length → 0 < w → w ≤ l.length →
    Ev (fun k => impl_steps.l0 k l w (l.length : Int) (j : Int)) (stepsOf l d w j) := by
  induction d with
  | zero =>
    intro w j hj h0 h1
    refine Ev.step (fun k => impl_steps.l0.eq_2 ..) ?_
    exact Ev.neg (by omega) (Ev.ret rfl)
  | succ d ih =>
    intro w j hj h0 h1
    have hr := mem_rd (a := w - 1) (by omega) (by omega) h
    refine Ev.step (fun k => impl_steps.l0.eq_2 ..) ?_
    rw [wrap_id (n := w - 1) (by omega) (by omega), wrap_add1 (by omega)]
    refine Ev.pos (by omega) (Ev.pos (by omega) (Ev.pos (by omega) (Ev.ite (fun e => ?_) (fun e => ?_))))
    · exact Ev.ret (by unfold stepsOf; rw [if_pos e])
    · exact Ev.eq (ih (rd l (w - 1)) (j + 1) (by omega) (by omega) (by omega)) (by rw [stepsOf, if_neg e])

theorem impl_steps_ev (l : List Int) (hl : l.length ≤ 8) (h : (List.range l.length).all (inRange l) = true) (w : Int) (h0 : 0 < w) (h1 : w ≤ l.length) :
    Ev (fun k => impl_steps.f k l w) (stepsOf l l.length w 0) := by
  unfold impl_steps.f
  exact impl_steps_l0 l hl h l.length w 0 (by omega) h0 h1

theorem impl_TreeOk_l1 (l : List Int) (hl : l.length ≤ 8) (h : (List.range l.length).all (inRange l) = true) (r : Nat) (d : Nat) : ∀ (j : Nat), j + d = l.length →
    Ev (fun k => impl_TreeOk.l1 k l (r : Int) (l.length : Int) (j : Int)) ((List.range' j (l.length - j)).all (fun i => walkOk l l.length ((i : Int) + 1)) && ((r : Int) == 1)) := by
  induction d with
  | zero =>
    intro j hj
    refine Ev.step (fun k => impl_TreeOk.l1.eq_2 ..) ?_
    exact Ev.neg (by omega) (Ev.ret (by rw [show l.length - j = 0 by omega]; rfl))
  | succ d ih =>
    intro j hj
    refine Ev.step (fun k => impl_TreeOk.l1.eq_2 ..) ?_
    rw [wrap_add1 (by omega)]
    refine Ev.pos (by omega) (Ev.bind (impl_steps_ev l hl h _ (by omega) (by omega)) ?_)
    have hs := stepsOf_neg l h l.length ((j + 1 : Nat) : Int) 0 (by omega) (by omega)
    refine Ev.ite (fun e => ?_) (fun e => ?_)
    · rw [decide_eq_true e] at hs
      refine Ev.ret ?_
      rw [all_from _ _ _ (by omega), show walkOk l l.length ((j : Int) + 1) = false by simpa using hs.symm]; rfl
    · rw [decide_eq_false e] at hs
      refine Ev.eq (ih (j + 1) (by omega)) ?_
      rw [all_from _ l.length j (by omega), show walkOk l l.length ((j : Int) + 1) = true by simpa using hs.symm, Bool.true_and]

theorem impl_TreeOk_l0 (l : List Int) (h1 : 1 ≤ l.length) (hl : l.length ≤ 8) (d : Nat) : ∀ (r j : Nat), j + d = l.length → r ≤ j → (∀ i, i < j → inRange l i = true) → r + zerosFrom l j = l.count 0 →
    Ev (fun k => impl_TreeOk.l0 k l (r : Int) l (l.length : Int) (j : Int)) (treeOk l) := by
  induction d with
  | zero =>
    intro r j hj hr hin hz
    have hall : (List.range l.length).all (inRange l) = true := by
      rw [List.all_eq_true]; intro i hi; exact hin i (by have := List.mem_range.mp hi; omega)
    refine Ev.step (fun k => impl_TreeOk.l0.eq_2 ..) ?_
    refine Ev.neg (by omega) (Ev.eq (impl_TreeOk_l1 l hl hall r l.length 0 (by omega)) ?_)
    have hz0 : zerosFrom l j = 0 := by unfold zerosFrom; rw [List.drop_eq_nil_of_le (by omega)]; rfl
    have hrc : r = l.count 0 := by omega
    unfold treeOk
    rw [decide_eq_true (show 1 ≤ l.length ∧ l.length ≤ 8 from ⟨h1, hl⟩), Bool.true_and, Nat.sub_zero, ← List.range_eq_range', hrc]
    congr 1
    · rw [Bool.eq_iff_iff, List.all_eq_true, List.all_eq_true]
      rw [List.all_eq_true] at hall
      constructor
      · intro hw i hi
        have := hall i hi
        unfold inRange at this
        unfold okAt; rw [this, hw i hi]; rfl
      · intro hw i hi
        have := hw i hi
        unfold okAt at this
        exact (Bool.and_eq_true_iff.mp this).2
    · rw [Bool.eq_iff_iff]; simp; omega
  | succ d ih =>
    intro r j hj hr hin hz
    refine Ev.step (fun k => impl_TreeOk.l0.eq_2 ..) ?_
    have hbad : ¬ (0 ≤ rd l (j : Int) ∧ rd l (j : Int) ≤ (l.length : Int)) → treeOk l = false := by
      intro hb
      unfold treeOk
      have : (List.range l.length).all (okAt l) = false := by
        rw [List.all_eq_false]
        exact ⟨j, by simp; omega, by unfold okAt; rw [decide_eq_false hb]; simp⟩
      rw [this]; simp
    refine Ev.pos (by omega) (Ev.pos (by omega) (Ev.pos (by omega) (Ev.ite (fun e => ?_) (fun e => ?_))))
    · refine Ev.step (fun k => impl_TreeOk.j2.eq_2 ..) (Ev.pos rfl (Ev.ret ?_))
      exact (hbad (by omega)).symm
    · refine Ev.step (fun k => impl_TreeOk.j2.eq_2 ..) (Ev.ite (fun e2 => ?_) (fun e2 => ?_))
      · have e2' := of_decide_eq_true e2
        exact Ev.ret (hbad (by omega)).symm
      · have e2' : ¬ rd l (j : Int) > (l.length : Int) := by simpa using e2
        have hin' : ∀ i, i < j + 1 → inRange l i = true := by
          intro i hi
          by_cases e' : i = j
          · subst e'; unfold inRange; exact decide_eq_true (by omega)
          · exact hin i (by omega)
        have hzs := zerosFrom_succ l j (by omega)
        rw [wrap_add1 (n := j) (by omega)]
        refine Ev.ite (fun e3 => ?_) (fun e3 => ?_)
        · rw [wrap_add1 (by omega)]
          rw [if_pos e3] at hzs
          exact ih (r + 1) (j + 1) (by omega) (by omega) hin' (by omega)
        · rw [if_neg e3] at hzs
          exact ih r (j + 1) (by omega) (by omega) hin' (by omega)

theorem impl_TreeOk_ev (l : List Int) : Ev (fun k => impl_TreeOk.f k l) (treeOk l) := by
  unfold impl_TreeOk.f
  have hbad : ¬ (1 ≤ l.length ∧ l.length ≤ 8) → treeOk l = false := by
    intro hb; unfold treeOk; rw [decide_eq_false hb]; rfl
  refine Ev.ite (fun e => ?_) (fun e => ?_)
  · refine Ev.step (fun k => impl_TreeOk.j0.eq_2 ..) (Ev.pos rfl (Ev.ret ?_))
    exact (hbad (by omega)).symm
  · refine Ev.step (fun k => impl_TreeOk.j0.eq_2 ..) (Ev.ite (fun e2 => ?_) (fun e2 => ?_))
    · have e2' := of_decide_eq_true e2
      exact Ev.ret (hbad (by omega)).symm
    · have e2' : ¬ (l.length : Int) > 8 := by simpa using e2
      exact impl_TreeOk_l0 l (by omega) (by omega) l.length 0 0 (by omega) (by omega) (fun i h => by omega) (by simp [zerosFrom])

theorem impl_between_ev (x a b : Int) : impl_between.f x a b = some (decide (min a b < x ∧ x < max a b)) := by
  unfold impl_between.f
  rw [mn_min, mx_max]
  split
  · rename_i h; congr 1; rw [decide_eq_decide]; omega
  · rename_i h; congr 1; symm; rw [decide_eq_false_iff_not]; omega
theorem impl_outside_ev (x a b : Int) : impl_outside.f x a b = some (decide (x < min a b ∨ max a b < x)) := by
  unfold impl_outside.f
  rw [mn_min, mx_max]
  split
  · rename_i h; congr 1; symm; rw [decide_eq_true_iff]; exact .inl h
  · rename_i h; congr 1; rw [decide_eq_decide]; omega
theorem impl_CrossOk_ev (a b c d : Int) : Ev (fun k => impl_CrossOk.f k a b c d) (decide (crossP a b c d)) := by
  unfold impl_CrossOk.f
  have bad : ¬ ((1 ≤ a ∧ 1 ≤ b) ∧ (1 ≤ c ∧ 1 ≤ d)) ∨ ¬ (a ≠ b ∧ c ≠ d) → Ev (fun k => impl_CrossOk.j0 k a b c d true) (decide (crossP a b c d)) := by
    intro h
    refine Ev.step (fun k => impl_CrossOk.j0.eq_2 ..) (Ev.pos rfl (Ev.ret ?_))
    symm; rw [decide_eq_false_iff_not]
    intro h2
    rcases h with h | h
    · exact h h2.1
    · exact h h2.2.1
  refine Ev.ite (fun h1 => bad (.inl (by omega))) (fun h1 => Ev.ite (fun h2 => bad (.inl (by omega))) (fun h2 => Ev.ite (fun h3 => bad (.inl (by omega))) (fun h3 => Ev.ite (fun h4 => bad (.inl (by omega))) (fun h4 => Ev.ite (fun h5 => bad (.inr (by omega))) (fun h5 => ?_)))))
  by_cases h6 : c = d
  · rw [show (c == d) = true by simpa using h6]
    exact bad (.inr (by omega))
  · rw [show (c == d) = false by simpa using h6]
    have hp : crossP a b c d ↔ (((min a b < c ∧ c < max a b) ∧ (d < min a b ∨ max a b < d)) ∨ ((min a b < d ∧ d < max a b) ∧ (c < min a b ∨ max a b < c))) :=
      ⟨fun h => h.2.2, fun h => ⟨by omega, ⟨h5, h6⟩, h⟩⟩
    refine Ev.step (fun k => impl_CrossOk.j0.eq_2 ..) (Ev.neg (by simp) (Ev.bind0 (impl_between_ev ..) (Ev.ite (fun c1 => ?_) (fun c1 => ?_))))
    · have c1' := of_decide_eq_true c1
      refine Ev.bind0 (impl_outside_ev ..) (Ev.ite (fun c2 => Ev.ret ?_) (fun c2 => Ev.bind0 (impl_between_ev ..) (Ev.ite (fun c3 => Ev.bind0 (impl_outside_ev ..) (Ev.ret ?_)) (fun c3 => Ev.ret ?_))))
      · have c2' := of_decide_eq_true c2
        symm; rw [decide_eq_true_iff, hp]; exact .inl ⟨c1', c2'⟩
      · have c2' : ¬ (d < min a b ∨ max a b < d) := by simpa using c2
        have c3' := of_decide_eq_true c3
        rw [decide_eq_decide, hp]; omega
      · have c2' : ¬ (d < min a b ∨ max a b < d) := by simpa using c2
        have c3' : ¬ (min a b < d ∧ d < max a b) := by simpa using c3
        symm; rw [decide_eq_false_iff_not, hp]; omega
    · have c1' : ¬ (min a b < c ∧ c < max a b) := by simpa using c1
      refine Ev.bind0 (impl_between_ev ..) (Ev.ite (fun c3 => Ev.bind0 (impl_outside_ev ..) (Ev.ret ?_)) (fun c3 => Ev.ret ?_))
      · have c3' := of_decide_eq_true c3
        rw [decide_eq_decide, hp]; omega
      · have c3' : ¬ (min a b < d ∧ d < max a b) := by simpa using c3
        symm; rw [decide_eq_false_iff_not, hp]; omega
theorem impl_crosses_ev (l : List Int) (hl : l.length ≤ 8) {i k : Nat} (hi : i < l.length) (hk : k < l.length) : Ev (fun q => impl_crosses.f q l (i : Int) (k : Int)) (decide (crossAt l i k)) := by
  unfold impl_crosses.f
  refine Ev.pos (by omega) (Ev.pos (by omega) (Ev.pos (by omega) (Ev.pos (by omega) ?_)))
  rw [wrap_id (n := (i : Int) + 1) (by omega) (by omega), wrap_id (n := (k : Int) + 1) (by omega) (by omega)]
  exact Ev.bind (impl_CrossOk_ev _ _ _ _) (Ev.ret rfl)

/-! a row of rows, read -/
theorem rd1_nat (xs : List (List Int)) (j : Nat) : rd_L1 xs (j : Int) = xs.getD j [] := by simp [rd_L1]

/-! the program's search: from a word to all whose arcs cross its own -/
@[reducible] def sideV (l : List Int) (i : Nat) : Prop := i < l.length ∧ rd l (i : Int) ≠ 0
@[reducible] def sideE (l : List Int) (i j : Nat) : Prop := crossAt l i j
theorem sideE_V {l : List Int} {i j : Nat} (hj : j < l.length) (h : sideE l i j) : sideV l j := ⟨hj, by have := h.1.2.2; omega⟩
theorem sideE_symm {l : List Int} {i j : Nat} (h : sideE l i j) : sideE l j i := crossP_symm h
theorem rd_sd {s : List Int} {i : Nat} (h : i < s.length) : rd s (i : Int) = sd s i := by
  rw [rd_nat]; unfold sd
  rw [List.getD_eq_getElem?_getD, List.getD_eq_getElem?_getD, List.getElem?_eq_getElem h]; rfl
/-- old ones are shut: whatever is linked with an old one is old -/
def OldShut (l : List Int) (s0 : List Int) : Prop := ∀ i j, 0 ≤ sd s0 i → sideV l j → sideE l i j → 0 ≤ sd s0 j
theorem draw_ev (l : List Int) (hl : l.length ≤ 8) (s0 : List Int) (r : Nat) (hr : sideV l r) (hold : OldShut l s0) : ∀ (u : Nat),
    (∀ (s : List Int) (i : Nat) (on : Int), bare s ≤ u → Sided (sideV l) (sideE l) l.length s0 r s → sideV l i → sd s0 i < 0 → (on = 0 ∨ on = 1) → Tied (sideV l) (sideE l) r i on →
      ∃ t b, Ev (fun k => impl_SidesFor.d k l s (i : Int) on) (t, b) ∧ Reached (sideV l) (sideE l) l.length s0 r s t b ∧ (b = true → sd t i = on)) := by
  intro u
  induction u using Nat.strongRecOn with
  | ind u ih =>
  intro s i on hu hs hV h0 hon ht
  have hn := hs.1
  have hi : i < s.length := by rw [hn]; exact hV.1
  by_cases hc : 0 ≤ sd s i
  · refine ⟨s, decide (sd s i = on), ?_, reached_seen hs hV h0 hon ht hc, fun hb => of_decide_eq_true hb⟩
    refine Ev.step (fun k => impl_SidesFor.d.eq_2 ..) (Ev.pos (by omega) (Ev.pos (by omega) ?_))
    rw [rd_sd hi]
    exact Ev.pos hc (Ev.ret (by congr 1))
  · -- the row behind the store, all neighbours from j on
    have key : ∀ (d j : Nat) (s2 : List Int), j + d = l.length → Sided (sideV l) (sideE l) l.length s0 r s2 → sd s2 i = on → bare s2 < u →
        ∃ t b, Ev (fun k => impl_SidesFor.q k l s2 (i : Int) on (l.length : Int) (j : Int)) (t, b) ∧ Reached (sideV l) (sideE l) l.length s0 r s2 t b ∧ (b = true → ∀ x, j ≤ x → sideV l x → sideE l i x → on + sd t x = 1) := by
      intro d
      induction d with
      | zero =>
        intro j s2 hj h2 hon2 _
        refine ⟨s2, true, Ev.step (fun k => impl_SidesFor.q.eq_2 ..) (Ev.neg (by omega) (Ev.ret rfl)), ⟨h2, Grew.refl _, fun _ x h3 h4 => by omega, fun h => (by cases h)⟩, fun _ x hx hxV => by have := hxV.1; omega⟩
      | succ d ihd =>
        intro j s2 hj h2 hon2 hb2
        have hjl : j < l.length := by omega
        by_cases hcr : crossAt l i j
        · have hVj : sideV l j := sideE_V hjl hcr
          have h0j : sd s0 j < 0 := by
            apply Decidable.byContradiction
            intro hx
            have := hold j i (by omega) hV (sideE_symm hcr)
            omega
          have htj : Tied (sideV l) (sideE l) r j (1 - on) := tied_link ht hV hVj hr hon hcr
          obtain ⟨t1, b1, e1, r1, v1⟩ := ih (bare s2) hb2 s2 j (1 - on) (Nat.le_refl _) h2 hVj h0j (by omega) htj
          have ew : wrap64 (1 - on) = 1 - on := wrap_id (by omega) (by omega)
          cases b1 with
          | false =>
            refine ⟨t1, false, Ev.step (fun k => impl_SidesFor.q.eq_2 ..) (Ev.pos (by omega) (Ev.bind (impl_crosses_ev l hl hV.1 hjl) (Ev.pos (by simpa using hcr) ?_))), ⟨r1.sided, r1.grew, fun h => (by cases h), r1.none⟩, fun h => (by cases h)⟩
            rw [ew]
            exact Ev.bind e1 (Ev.neg (by simp) (Ev.ret rfl))
          | true =>
            have hg1 : sd t1 i = on := by rw [r1.grew.2 i (by omega)]; exact hon2
            obtain ⟨t2, b2, e2, r2, v2⟩ := ihd (j + 1) t1 (by omega) r1.sided hg1 (Nat.lt_of_le_of_lt (bare_grew r1.grew) hb2)
            have hv1 := v1 rfl
            refine ⟨t2, b2, Ev.step (fun k => impl_SidesFor.q.eq_2 ..) (Ev.pos (by omega) (Ev.bind (impl_crosses_ev l hl hV.1 hjl) (Ev.pos (by simpa using hcr) ?_))), ⟨r2.sided, r1.grew.trans r2.grew, fun hb => Shut.grew (fun i hi => r1.sided.val hi) (r1.shut rfl) (r2.shut hb) r2.grew, r2.none⟩, fun hb x hx hxV hxE => ?_⟩
            · rw [ew]
              refine Ev.bind e1 (Ev.pos rfl ?_)
              rw [wrap_add1 (by omega)]
              exact e2
            · by_cases e : x = j
              · subst e
                rw [r2.grew.2 x (by omega), hv1]; omega
              · exact v2 hb x (by omega) hxV hxE
        · obtain ⟨t2, b2, e2, r2, v2⟩ := ihd (j + 1) s2 (by omega) h2 hon2 hb2
          refine ⟨t2, b2, Ev.step (fun k => impl_SidesFor.q.eq_2 ..) (Ev.pos (by omega) (Ev.bind (impl_crosses_ev l hl hV.1 hjl) (Ev.neg (by simpa using hcr) ?_))), r2, fun hb x hx hxV hxE => ?_⟩
          · rw [wrap_add1 (by omega)]
            exact e2
          · by_cases e : x = j
            · subst e; exact absurd hxE hcr
            · exact v2 hb x (by omega) hxV hxE
    have hset := bare_set (s := s) (i := i) (a := on) hi (by omega) (by omega)
    obtain ⟨t, b, e1, r1, v1⟩ := key l.length 0 (s.set i on) (by omega) (hs.set hV.1 hV h0 hon ht) (sd_set_eq hi on) (by omega)
    have hgs : Grew s (s.set i on) := Grew.set hi (by omega) on
    refine ⟨t, b, ?_, ⟨r1.sided, hgs.trans r1.grew, fun hb => ?_, r1.none⟩, fun _ => ?_⟩
    · refine Ev.step (fun k => impl_SidesFor.d.eq_2 ..) (Ev.pos (by omega) (Ev.pos (by omega) ?_))
      rw [rd_sd hi]
      refine Ev.neg (by omega) ?_
      rw [Int.toNat_natCast]
      exact e1
    · intro x h1 h2 y hy hxy
      by_cases e : x = i
      · subst e
        have e3 : sd t x = on := by rw [r1.grew.2 x (by rw [sd_set_eq hi]; omega), sd_set_eq hi]
        rw [e3]
        exact v1 hb y (Nat.zero_le _) hy hxy
      · exact r1.shut hb x (by rw [sd_set_ne e]; exact h1) h2 y hy hxy
    · rw [r1.grew.2 i (by rw [sd_set_eq hi]; omega), sd_set_eq hi]
/-- the sides of all words but the root, in order, from word j on -/
def sidesRow (l : List Int) (s : Nat → Int) : Nat → List Int
  | 0 => []
  | j + 1 => if rd l (j : Int) = 0 then sidesRow l s j else sidesRow l s j ++ [s j]
theorem sidesRow_congr {l : List Int} {s t : Nat → Int} : ∀ {j : Nat}, (∀ i, i < j → rd l (i : Int) ≠ 0 → s i = t i) → sidesRow l s j = sidesRow l t j
  | 0, _ => rfl
  | j + 1, h => by
    have h1 := sidesRow_congr (j := j) (fun i hi hz => h i (by omega) hz)
    unfold sidesRow
    by_cases z : rd l (j : Int) = 0
    · rw [if_pos z, if_pos z, h1]
    · rw [if_neg z, if_neg z, h1, h j (by omega) z]
theorem sidesRow_len (l : List Int) (s : Nat → Int) : ∀ j, (sidesRow l s j).length ≤ j
  | 0 => Nat.le_refl _
  | j + 1 => by
    have := sidesRow_len l s j
    unfold sidesRow
    split
    · omega
    · rw [List.length_append, List.length_singleton]; omega
theorem impl_Sides_m (l : List Int) (hl : l.length ≤ 8) (d : Nat) : ∀ (j : Nat) (s : List Int), j + d = l.length → Heads (sideV l) (sideE l) l.length s j →
    (∃ t, Ev (fun k => impl_SidesFor.m k l s (sidesRow l (sd s) j) (l.length : Int) (j : Int)) (sidesRow l t l.length, true) ∧ FirstUp (sideV l) (sideE l) t) ∨
    (Ev (fun k => impl_SidesFor.m k l s (sidesRow l (sd s) j) (l.length : Int) (j : Int)) ([], false) ∧ ¬ ∃ c, TwoSides (sideV l) (sideE l) c) := by
  induction d with
  | zero =>
    intro j s hj h
    obtain rfl : j = l.length := by omega
    exact .inl ⟨sd s, Ev.step (fun k => impl_SidesFor.m.eq_2 ..) (Ev.neg (by omega) (Ev.ret rfl)), h.done (fun i hi => hi.1)⟩
  | succ d ih =>
    intro j s hj h
    have hjl : j < l.length := by omega
    have hsl : j < s.length := by rw [h.len]; exact hjl
    have hrow := sidesRow_len l (sd s) j
    by_cases z : rd l (j : Int) = 0
    · have hn := h.next (fun hV => absurd z hV.2)
      have e : sidesRow l (sd s) (j + 1) = sidesRow l (sd s) j := by
        show (if rd l (j : Int) = 0 then _ else _) = _
        rw [if_pos z]
      have := ih (j + 1) s (by omega) hn
      rw [e] at this
      have go : ∀ out, Ev (fun k => impl_SidesFor.m k l s (sidesRow l (sd s) j) (l.length : Int) ((j + 1 : Nat) : Int)) out → Ev (fun k => impl_SidesFor.m k l s (sidesRow l (sd s) j) (l.length : Int) (j : Int)) out := by
        intro out h1
        refine Ev.step (fun k => impl_SidesFor.m.eq_2 ..) ?_
        refine Ev.pos (by omega) ?_
        refine Ev.pos (by omega) ?_
        refine Ev.pos (by omega) ?_
        refine Ev.pos z ?_
        rw [wrap_add1 (by omega)]
        exact h1
      exact this.imp (fun ⟨t2, h1, h2⟩ => ⟨t2, go _ h1, h2⟩) (fun ⟨h1, h2⟩ => ⟨go _ h1, h2⟩)
    · have hV : sideV l j := ⟨hjl, z⟩
      by_cases hc : sd s j < 0
      · have hold : OldShut l s := fun i x hi hx hE => by
          have h1 := h.shut i x hi hx hE
          have h2 := (h.val i hi).2
          omega
        have hs : Sided (sideV l) (sideE l) l.length s j s := ⟨h.len, h.val, fun i hi => .inl hi⟩
        obtain ⟨t, b, e1, r1, v1⟩ := draw_ev l hl s j hV hold (bare s) s j 0 (Nat.le_refl _) hs hV hc (.inl rfl) not_tied_two
        cases b with
        | false =>
          refine .inr ⟨Ev.step (fun k => impl_SidesFor.m.eq_2 ..) (Ev.pos (by omega) (Ev.pos (by omega) (Ev.pos (by omega) (Ev.neg z (Ev.pos (by omega) (Ev.pos (by rw [rd_sd hsl]; exact hc) (Ev.bind e1 (Ev.neg (by simp) (Ev.ret rfl))))))))), r1.none rfl⟩
        | true =>
          have hv := v1 rfl
          have hn := h.step hV hc r1 hv
          have htl : j < t.length := by rw [r1.sided.1]; exact hjl
          have e : sidesRow l (sd t) (j + 1) = sidesRow l (sd s) j ++ [rd t (j : Int)] := by
            show (if rd l (j : Int) = 0 then _ else sidesRow l (sd t) j ++ [sd t j]) = _
            rw [if_neg z, rd_sd htl, sidesRow_congr (s := sd t) (t := sd s) (fun i hi hz => r1.grew.2 i (h.all i hi ⟨by omega, hz⟩))]
          have := ih (j + 1) t (by omega) hn
          rw [e] at this
          have go : ∀ out, Ev (fun k => impl_SidesFor.m k l t (sidesRow l (sd s) j ++ [rd t (j : Int)]) (l.length : Int) ((j + 1 : Nat) : Int)) out → Ev (fun k => impl_SidesFor.m k l s (sidesRow l (sd s) j) (l.length : Int) (j : Int)) out := by
            intro out h1
            refine Ev.step (fun k => impl_SidesFor.m.eq_2 ..) ?_
            refine Ev.pos (by omega) ?_
            refine Ev.pos (by omega) ?_
            refine Ev.pos (by omega) ?_
            refine Ev.neg z ?_
            refine Ev.pos (by omega) ?_
            refine Ev.pos (by rw [rd_sd hsl]; exact hc) ?_
            refine Ev.bind e1 ?_
            refine Ev.pos rfl ?_
            refine Ev.pos (show (j : Int) < (t.length : Int) by omega) ?_
            refine Ev.pos (by omega) ?_
            rw [wrap_add1 (by omega)]
            exact h1
          exact this.imp (fun ⟨t2, h1, h2⟩ => ⟨t2, go _ h1, h2⟩) (fun ⟨h1, h2⟩ => ⟨go _ h1, h2⟩)
      · have hn := h.next (fun _ => by omega)
        have e : sidesRow l (sd s) (j + 1) = sidesRow l (sd s) j ++ [rd s (j : Int)] := by
          show (if rd l (j : Int) = 0 then _ else sidesRow l (sd s) j ++ [sd s j]) = _
          rw [if_neg z, rd_sd hsl]
        have := ih (j + 1) s (by omega) hn
        rw [e] at this
        have go : ∀ out, Ev (fun k => impl_SidesFor.m k l s (sidesRow l (sd s) j ++ [rd s (j : Int)]) (l.length : Int) ((j + 1 : Nat) : Int)) out → Ev (fun k => impl_SidesFor.m k l s (sidesRow l (sd s) j) (l.length : Int) (j : Int)) out := by
          intro out h1
          refine Ev.step (fun k => impl_SidesFor.m.eq_2 ..) ?_
          refine Ev.pos (by omega) ?_
          refine Ev.pos (by omega) ?_
          refine Ev.pos (by omega) ?_
          refine Ev.neg z ?_
          refine Ev.pos (by omega) ?_
          refine Ev.neg (by rw [rd_sd hsl]; exact hc) ?_
          refine Ev.pos (by omega) ?_
          rw [wrap_add1 (by omega)]
          exact h1
        exact this.imp (fun ⟨t2, h1, h2⟩ => ⟨t2, go _ h1, h2⟩) (fun ⟨h1, h2⟩ => ⟨go _ h1, h2⟩)
theorem impl_Sides_z (l : List Int) (hl : l.length ≤ 8) (n : Nat) (out : List Int × Bool) (hout : Ev (fun k => impl_SidesFor.m k l (List.replicate n (-1)) [] (l.length : Int) 0) out) (d : Nat) : ∀ (j : Nat) (s : List Int), j + d = n → n ≤ 8 → s.length = n → (∀ i, i < j → s[i]? = some (-1)) → Ev (fun k => impl_SidesFor.z k l s (n : Int) (j : Int)) out := by
  induction d with
  | zero =>
    intro j s hj h8 hs h
    have e : s = List.replicate n (-1) := by
      apply List.ext_getElem?
      intro i
      by_cases hi : i < n
      · rw [h i (by omega), List.getElem?_replicate, if_pos hi]
      · rw [List.getElem?_eq_none (by omega), List.getElem?_eq_none (by simp; omega)]
    rw [e]
    exact Ev.step (fun k => impl_SidesFor.z.eq_2 ..) (Ev.neg (by omega) hout)
  | succ d ih =>
    intro j s hj h8 hs h
    refine Ev.step (fun k => impl_SidesFor.z.eq_2 ..) (Ev.pos (by omega) (Ev.pos (by omega) (Ev.pos (by omega) ?_)))
    rw [wrap_add1 (by omega), Int.toNat_natCast]
    refine ih (j + 1) _ (by omega) h8 (by simpa using hs) (fun i hi => ?_)
    by_cases e : i = j
    · subst e; rw [List.getElem?_set_self (by omega)]
    · rw [List.getElem?_set_ne (by omega)]; exact h i (by omega)
/-- what the program tells -/
theorem impl_SidesFor_out (l : List Int) (ht : treeOk l = true) : (∃ t, Ev (fun k => impl_SidesFor.f k l) (sidesRow l t l.length, true) ∧ FirstUp (sideV l) (sideE l) t) ∨ (Ev (fun k => impl_SidesFor.f k l) ([], false) ∧ ¬ ∃ c, TwoSides (sideV l) (sideE l) c) := by
  have hl := (treeOk_len ht).2
  have go : ∀ out, Ev (fun k => impl_SidesFor.m k l (List.replicate l.length (-1)) [] (l.length : Int) 0) out → Ev (fun k => impl_SidesFor.f k l) out := by
    intro out hout
    unfold impl_SidesFor.f
    refine Ev.bind (impl_TreeOk_ev l) (Ev.pos ht (Ev.pos (by omega) ?_))
    rw [Int.toNat_natCast, List.length_replicate]
    exact impl_Sides_z l hl l.length out hout l.length 0 _ (by omega) hl (by simp) (fun i hi => by omega)
  exact (impl_Sides_m l hl l.length 0 _ (by omega) (Heads.start ..)).imp (fun ⟨t, h1, h2⟩ => ⟨t, go _ h1, h2⟩) (fun ⟨h1, h2⟩ => ⟨go _ h1, h2⟩)
theorem impl_SidesFor_not (l : List Int) (ht : treeOk l = false) : Ev (fun k => impl_SidesFor.f k l) ([], false) := by
  unfold impl_SidesFor.f
  exact Ev.bind (impl_TreeOk_ev l) (Ev.neg (by simp [ht]) (Ev.ret rfl))

/-! the reference's search: arc by arc, from a row of what is to be done -/
theorem cross_sorted {a b c d : Int} (h1 : 1 ≤ a) (h2 : a < b) (h3 : 1 ≤ c) (h4 : c < d) : spec_CrossOk.f a b c d = some (decide ((a < c ∧ c < b ∧ b < d) ∨ (c < a ∧ a < d ∧ d < b))) := by
  have e1 : mn a b = a := by unfold mn; split <;> omega
  have e2 : mx a b = b := by unfold mx; split <;> omega
  have e3 : mn c d = c := by unfold mn; split <;> omega
  have e4 : mx c d = d := by unfold mx; split <;> omega
  unfold spec_CrossOk.f
  rw [e1, e2, e3, e4, if_neg (by omega), if_neg (by omega), if_neg (by omega), if_neg (by omega), if_neg (by omega), if_neg (by omega)]
  by_cases c1 : a < c ∧ c < b ∧ b < d
  · rw [if_pos c1.1, if_pos c1.2.1, if_pos c1.2.2, decide_eq_true (.inl c1)]
  · have r2 : (if c < a then (if a < d then (some (decide (d < b))) else (some false)) else (some false)) = some (decide ((a < c ∧ c < b ∧ b < d) ∨ (c < a ∧ a < d ∧ d < b))) := by
      by_cases c2 : c < a
      · rw [if_pos c2]
        by_cases c3 : a < d
        · rw [if_pos c3]; congr 1; rw [decide_eq_decide]; omega
        · rw [if_neg c3, decide_eq_false (by omega)]
      · rw [if_neg c2, decide_eq_false (by omega)]
    by_cases c2 : a < c
    · rw [if_pos c2]
      by_cases c3 : c < b
      · rw [if_pos c3, if_neg (by omega)]; exact r2
      · rw [if_neg c3]; exact r2
    · rw [if_neg c2]; exact r2
def Out (V : Nat → Prop) (E : Nat → Nat → Prop) (m : Nat) (g : Nat → Option (List Int × Bool)) : Prop :=
  (∃ t : List Int, t.length = m ∧ Ev g (t, true) ∧ FirstUp V E (sd t)) ∨ (Ev g ([], false) ∧ ¬ ∃ c, TwoSides V E c)
theorem Out.map {V : Nat → Prop} {E : Nat → Nat → Prop} {m : Nat} {g g' : Nat → Option (List Int × Bool)} (h : Out V E m g) (k : ∀ r, Ev g r → Ev g' r) : Out V E m g' :=
  h.imp (fun ⟨t, h1, h2, h3⟩ => ⟨t, h1, k _ h2, h3⟩) (fun ⟨h1, h2⟩ => ⟨k _ h1, h2⟩)
/-- what is told while one part is drawn: what waits in the row, the one at hand, and all others shut -/
structure Wait (V : Nat → Prop) (E : Nat → Nat → Prop) (m : Nat) (s0 : List Int) (r : Nat) (s Q : List Int) (hand : Nat → Prop) : Prop where
  sided : Sided V E m s0 r s
  grew : Grew s0 s
  row : ∀ x ∈ Q, ∃ i : Nat, x = (i : Int) ∧ i < m ∧ 0 ≤ sd s i ∧ sd s0 i < 0
  shut : ∀ i, sd s0 i < 0 → 0 ≤ sd s i → (i : Int) ∈ Q ∨ hand i ∨ ∀ j, V j → E i j → sd s i + sd s j = 1
  root : sd s r = 0
theorem l0_out {V : Nat → Prop} {E : Nat → Nat → Prop} {m : Nat} (A : List (List Int)) (hA : A.length = m) (hm : m ≤ 8) (d : Nat) : ∀ (j : Nat), j + d = m → Out V E m (fun q => spec_l11Sides.l1 q A (List.replicate m (-1)) 0) → Out V E m (fun q => spec_l11Sides.l0 q A (List.replicate j (-1)) (j : Int)) := by
  induction d with
  | zero =>
    intro j hj h
    obtain rfl : j = m := by omega
    exact h.map (fun out h1 => Ev.step (fun k => spec_l11Sides.l0.eq_2 ..) (Ev.neg (by omega) h1))
  | succ d ih =>
    intro j hj h
    refine (ih (j + 1) (by omega) h).map (fun out h1 => ?_)
    refine Ev.step (fun k => spec_l11Sides.l0.eq_2 ..) (Ev.pos (by omega) (Ev.pos (by rw [List.length_replicate]; omega) ?_))
    rw [wrap_add1 (by omega), ← List.replicate_succ']
    exact h1
section
variable {V : Nat → Prop} {E : Nat → Nat → Prop} [∀ i j, Decidable (E i j)] {m : Nat} (A : List (List Int)) (lo hi : Nat → Int)
variable (hA : A.length = m) (hm : m ≤ 8) (hV : ∀ i, V i ↔ i < m) (hR : ∀ i, i < m → rd_L1 A (i : Int) = [lo i, hi i]) (hC : ∀ i j, i < m → j < m → spec_CrossOk.f (lo i) (hi i) (lo j) (hi j) = some (decide (E i j))) (hS : ∀ i j, E i j → E j i)
include hA hm hV hR hC hS
theorem l3_out {s0 : List Int} {r : Nat} (hr : r < m) (hold : ∀ i j, 0 ≤ sd s0 i → V j → E i j → 0 ≤ sd s0 j) (d : Nat) : ∀ (j : Nat) (s Q : List Int) (k : Nat), j + d = m → k < m → 0 ≤ sd s k → sd s0 k < 0 → Wait V E m s0 r s Q (fun i => i = k) → (∀ x, x < j → V x → E k x → sd s k + sd s x = 1) → Q.length ≤ m →
    (∀ s2 Q2, Wait V E m s0 r s2 Q2 (fun _ => False) → 2 * bare s2 + Q2.length ≤ 2 * bare s + Q.length → Q2.length + bare s2 ≤ m → Out V E m (fun q => spec_l11Sides.l2 q A s2 (r : Int) Q2)) →
    Q.length + bare s ≤ m → Out V E m (fun q => spec_l11Sides.l3 q A s (r : Int) Q (k : Int) (j : Int)) := by
  induction d with
  | zero =>
    intro j s Q k hj hk hks hk0 hW hall hQ hend hQb
    refine (hend s Q ⟨hW.sided, hW.grew, hW.row, fun i h1 h2 => ?_, hW.root⟩ (Nat.le_refl _) hQb).map (fun r h => Ev.step (fun k => spec_l11Sides.l3.eq_2 ..) (Ev.neg (by omega) h))
    rcases hW.shut i h1 h2 with h3 | h3 | h3
    · exact .inl h3
    · subst h3
      exact .inr (.inr (fun x hx hxE => hall x (by have := (hV x).1 hx; omega) hx hxE))
    · exact .inr (.inr h3)
  | succ d ih =>
    intro j s Q k hj hk hks hk0 hW hall hQ hend hQb
    have hjm : j < m := by omega
    have hlen := hW.sided.1
    have hkv := hW.sided.val hks
    have hjV : V j := (hV j).2 hjm
    have hkV : V k := (hV k).2 hk
    have hrV : V r := (hV r).2 hr
    have pre : ∀ (g : Nat → Bool → Option (List Int × Bool)) out, Ev (fun q => g q (decide (E k j))) out → Ev (fun q => if (0 : Int) ≤ (k : Int) then (if (k : Int) < (A.length : Int) then (if 0 < ((rd_L1 A (k : Int)).length : Int) then (if 1 < ((rd_L1 A (k : Int)).length : Int) then (if (0 : Int) ≤ (j : Int) then (if 0 < ((rd_L1 A (j : Int)).length : Int) then (if 1 < ((rd_L1 A (j : Int)).length : Int) then ((spec_CrossOk.f (rd (rd_L1 A (k : Int)) 0) (rd (rd_L1 A (k : Int)) 1) (rd (rd_L1 A (j : Int)) 0) (rd (rd_L1 A (j : Int)) 1)).bind fun t => g q t) else none) else none) else none) else none) else none) else none) else none) out := by
      intro g out h
      rw [hR k hk, hR j hjm]
      refine Ev.pos (by omega) (Ev.pos (by omega) (Ev.pos (by simp) (Ev.pos (by simp) (Ev.pos (by omega) (Ev.pos (by simp) (Ev.pos (by simp) ?_))))))
      have e : spec_CrossOk.f (rd [lo k, hi k] 0) (rd [lo k, hi k] 1) (rd [lo j, hi j] 0) (rd [lo j, hi j] 1) = some (decide (E k j)) := hC k j hk hjm
      exact Ev.bind0 e h
    have next : ∀ s2 Q2, (∀ out, Ev (fun q => spec_l11Sides.l3 q A s2 (r : Int) Q2 (k : Int) ((j + 1 : Nat) : Int)) out → Ev (fun q => spec_l11Sides.l3 q A s (r : Int) Q (k : Int) (j : Int)) out) → 0 ≤ sd s2 k → Wait V E m s0 r s2 Q2 (fun i => i = k) → (∀ x, x < j + 1 → V x → E k x → sd s2 k + sd s2 x = 1) → Q2.length ≤ m → 2 * bare s2 + Q2.length ≤ 2 * bare s + Q.length → Q2.length + bare s2 ≤ m → Out V E m (fun q => spec_l11Sides.l3 q A s (r : Int) Q (k : Int) (j : Int)) := by
      intro s2 Q2 hmap h1 h2 h3 h4 h5 h6
      exact (ih (j + 1) s2 Q2 k (by omega) hk h1 hk0 h2 h3 h4 (fun s3 Q3 h7 h8 h9 => hend s3 Q3 h7 (by omega) h9) h6).map hmap
    by_cases hE : E k j
    · have hj0 : sd s0 j < 0 := by
        apply Decidable.byContradiction
        intro hx
        have := hold j k (by omega) hkV (hS _ _ hE)
        omega
      have tk : Tied V E r k (sd s k) := by
        rcases hW.sided.2.2 k hks with h1 | h1
        · omega
        · exact h1.2
      have tj : Tied V E r j (1 - sd s k) := tied_link tk hkV hjV hrV hkv hE
      by_cases hjs : 0 ≤ sd s j
      · have hjv := hW.sided.val hjs
        have tj2 : Tied V E r j (sd s j) := by
          rcases hW.sided.2.2 j hjs with h1 | h1
          · omega
          · exact h1.2
        by_cases heq : sd s j = sd s k
        · refine .inr ⟨?_, tied_clash hjV tj2 tj hjv (by omega) (by omega)⟩
          refine Ev.step (fun k => spec_l11Sides.l3.eq_2 ..) (Ev.pos (by omega) ?_)
          refine pre (fun q t => if t = true then (if (j : Int) < (s.length : Int) then (if (k : Int) < (s.length : Int) then (if (rd s (j : Int)) = (rd s (k : Int)) then (some ((([] : List Int)), false)) else (if (rd s (j : Int)) < 0 then (if Q.length < 17592186044416 then (spec_l11Sides.l3 q A (s.set (j : Int).toNat (wrap64 (1 - (rd s (k : Int))))) (r : Int) (Q ++ [(j : Int)]) (k : Int) (wrap64 ((j : Int) + 1))) else (none)) else (spec_l11Sides.l3 q A s (r : Int) Q (k : Int) (wrap64 ((j : Int) + 1))))) else (none)) else (none)) else (spec_l11Sides.l3 q A s (r : Int) Q (k : Int) (wrap64 ((j : Int) + 1)))) _ ?_
          refine Ev.pos (decide_eq_true hE) (Ev.pos (by omega) (Ev.pos (by omega) ?_))
          rw [rd_sd' (by omega), rd_sd' (by omega)]
          exact Ev.pos heq (Ev.ret rfl)
        · refine next s Q (fun out h => ?_) hks hW (fun x hx hxV hxE => ?_) hQ (Nat.le_refl _) hQb
          · refine Ev.step (fun k => spec_l11Sides.l3.eq_2 ..) (Ev.pos (by omega) ?_)
            refine pre (fun q t => if t = true then (if (j : Int) < (s.length : Int) then (if (k : Int) < (s.length : Int) then (if (rd s (j : Int)) = (rd s (k : Int)) then (some ((([] : List Int)), false)) else (if (rd s (j : Int)) < 0 then (if Q.length < 17592186044416 then (spec_l11Sides.l3 q A (s.set (j : Int).toNat (wrap64 (1 - (rd s (k : Int))))) (r : Int) (Q ++ [(j : Int)]) (k : Int) (wrap64 ((j : Int) + 1))) else (none)) else (spec_l11Sides.l3 q A s (r : Int) Q (k : Int) (wrap64 ((j : Int) + 1))))) else (none)) else (none)) else (spec_l11Sides.l3 q A s (r : Int) Q (k : Int) (wrap64 ((j : Int) + 1)))) _ ?_
            refine Ev.pos (decide_eq_true hE) (Ev.pos (by omega) (Ev.pos (by omega) ?_))
            rw [rd_sd' (by omega), rd_sd' (by omega)]
            refine Ev.neg heq (Ev.neg (by omega) ?_)
            rw [wrap_add1 (by omega)]
            exact h
          · by_cases e : x = j
            · subst e; omega
            · exact hall x (by omega) hxV hxE
      · have hset := bare_set (s := s) (i := j) (a := 1 - sd s k) (by omega) (by omega) (by omega)
        have hgs : Grew s (s.set j (1 - sd s k)) := Grew.set (by omega) (by omega) _
        have ek : sd (s.set j (1 - sd s k)) k = sd s k := hgs.2 k hks
        have ej : sd (s.set j (1 - sd s k)) j = 1 - sd s k := sd_set_eq (by omega) _
        refine next (s.set j (1 - sd s k)) (Q ++ [(j : Int)]) (fun out h => ?_) (by omega) ⟨hW.sided.set hjm hjV hj0 (by omega) tj, hW.grew.trans hgs, ?_, ?_, by rw [hgs.2 r (by rw [hW.root]; exact Int.le_refl 0)]; exact hW.root⟩ (fun x hx hxV hxE => ?_) (by rw [List.length_append, List.length_singleton]; omega) (by rw [List.length_append, List.length_singleton]; omega) (by rw [List.length_append, List.length_singleton]; omega)
        · refine Ev.step (fun k => spec_l11Sides.l3.eq_2 ..) (Ev.pos (by omega) ?_)
          refine pre (fun q t => if t = true then (if (j : Int) < (s.length : Int) then (if (k : Int) < (s.length : Int) then (if (rd s (j : Int)) = (rd s (k : Int)) then (some ((([] : List Int)), false)) else (if (rd s (j : Int)) < 0 then (if Q.length < 17592186044416 then (spec_l11Sides.l3 q A (s.set (j : Int).toNat (wrap64 (1 - (rd s (k : Int))))) (r : Int) (Q ++ [(j : Int)]) (k : Int) (wrap64 ((j : Int) + 1))) else (none)) else (spec_l11Sides.l3 q A s (r : Int) Q (k : Int) (wrap64 ((j : Int) + 1))))) else (none)) else (none)) else (spec_l11Sides.l3 q A s (r : Int) Q (k : Int) (wrap64 ((j : Int) + 1)))) _ ?_
          refine Ev.pos (decide_eq_true hE) (Ev.pos (by omega) (Ev.pos (by omega) ?_))
          rw [rd_sd' (by omega), rd_sd' (by omega)]
          refine Ev.neg (by omega) (Ev.pos (by omega) (Ev.pos (by omega) ?_))
          rw [wrap_add1 (by omega), Int.toNat_natCast, wrap_id (by omega) (by omega)]
          exact h
        · intro x hx
          rcases List.mem_append.1 hx with h1 | h1
          · obtain ⟨i, h2, h3, h4, h5⟩ := hW.row x h1
            exact ⟨i, h2, h3, by rw [hgs.2 i h4]; exact h4, h5⟩
          · exact ⟨j, List.mem_singleton.1 h1, hjm, by omega, hj0⟩
        · intro i h1 h2
          by_cases e : i = j
          · subst e
            exact .inl (List.mem_append.2 (.inr (List.mem_singleton.2 rfl)))
          · rw [sd_set_ne e] at h2
            rcases hW.shut i h1 h2 with h3 | h3 | h3
            · exact .inl (List.mem_append.2 (.inl h3))
            · exact .inr (.inl h3)
            · refine .inr (.inr (fun x hxV hxE => ?_))
              have h4 := h3 x hxV hxE
              have h5 := hW.sided.val h2
              rw [hgs.2 i h2, hgs.2 x (by omega)]
              exact h4
        · by_cases e : x = j
          · subst e; rw [ek, ej]; omega
          · have h4 := hall x (by omega) hxV hxE
            rw [ek, hgs.2 x (by omega)]
            exact h4
    · refine next s Q (fun out h => ?_) hks hW (fun x hx hxV hxE => ?_) hQ (Nat.le_refl _) hQb
      · refine Ev.step (fun k => spec_l11Sides.l3.eq_2 ..) (Ev.pos (by omega) ?_)
        refine pre (fun q t => if t = true then (if (j : Int) < (s.length : Int) then (if (k : Int) < (s.length : Int) then (if (rd s (j : Int)) = (rd s (k : Int)) then (some ((([] : List Int)), false)) else (if (rd s (j : Int)) < 0 then (if Q.length < 17592186044416 then (spec_l11Sides.l3 q A (s.set (j : Int).toNat (wrap64 (1 - (rd s (k : Int))))) (r : Int) (Q ++ [(j : Int)]) (k : Int) (wrap64 ((j : Int) + 1))) else (none)) else (spec_l11Sides.l3 q A s (r : Int) Q (k : Int) (wrap64 ((j : Int) + 1))))) else (none)) else (none)) else (spec_l11Sides.l3 q A s (r : Int) Q (k : Int) (wrap64 ((j : Int) + 1)))) _ ?_
        refine Ev.neg (by simpa using hE) ?_
        rw [wrap_add1 (by omega)]
        exact h
      · by_cases e : x = j
        · subst e; exact absurd hxE hE
        · exact hall x (by omega) hxV hxE
theorem l2_out {s0 : List Int} {r : Nat} (hr : r < m) (hold : ∀ i j, 0 ≤ sd s0 i → V j → E i j → 0 ≤ sd s0 j) (hcont : ∀ t, Sided V E m s0 r t → Grew s0 t → Shut V E s0 t → sd t r = 0 → Out V E m (fun q => spec_l11Sides.l1 q A t ((r + 1 : Nat) : Int))) (N : Nat) : ∀ (s Q : List Int), 2 * bare s + Q.length ≤ N → Q.length + bare s ≤ m → Wait V E m s0 r s Q (fun _ => False) → Out V E m (fun q => spec_l11Sides.l2 q A s (r : Int) Q) := by
  induction N using Nat.strongRecOn with
  | ind N ih =>
  intro s Q hN hQ hW
  match Q, hN, hQ, hW with
  | [], hN, hQ, hW =>
    refine (hcont s hW.sided hW.grew (fun i h1 h2 x hx hxE => ?_) hW.root).map (fun out h => Ev.step (fun k => spec_l11Sides.l2.eq_2 ..) (Ev.neg (by simp) ?_))
    · rcases hW.shut i h1 h2 with h3 | h3 | h3
      · cases h3
      · exact h3.elim
      · exact h3 x hx hxE
    · rw [wrap_add1 (by omega)]; exact h
  | x :: Q, hN, hQ, hW =>
    obtain ⟨i, rfl, him, hi1, hi0⟩ := hW.row x (List.mem_cons_self ..)
    simp only [List.length_cons] at hN hQ
    refine (l3_out (V := V) (E := E) A lo hi hA hm hV hR hC hS hr hold m 0 s Q i (by omega) him hi1 hi0 ⟨hW.sided, hW.grew, fun y hy => hW.row y (List.mem_cons_of_mem _ hy), fun a h1 h2 => ?_, hW.root⟩ (fun y hy => absurd hy (Nat.not_lt_zero y)) (by omega) (fun s2 Q2 h1 h2 h3 => ih (2 * bare s2 + Q2.length) (by omega) s2 Q2 (Nat.le_refl _) h3 h1) (by omega)).map (fun out h => ?_)
    · rcases hW.shut a h1 h2 with h3 | h3 | h3
      · rcases List.mem_cons.1 h3 with h4 | h4
        · exact .inr (.inl (by omega))
        · exact .inl h4
      · exact h3.elim
      · exact .inr (.inr h3)
    · refine Ev.step (fun k => spec_l11Sides.l2.eq_2 ..) (Ev.pos (by simp only [List.length_cons]; omega) (Ev.pos (by simp only [List.length_cons]; omega) (Ev.pos (by simp only [List.length_cons]; omega) ?_)))
      exact h
theorem l1_out (d : Nat) : ∀ (j : Nat) (s : List Int), j + d = m → Heads V E m s j → Out V E m (fun q => spec_l11Sides.l1 q A s (j : Int)) := by
  induction d with
  | zero =>
    intro j s hj h
    obtain rfl : j = m := by omega
    exact .inl ⟨s, h.len, Ev.step (fun k => spec_l11Sides.l1.eq_2 ..) (Ev.neg (by omega) (Ev.ret rfl)), h.done (fun i hi => (hV i).1 hi)⟩
  | succ d ih =>
    intro j s hj h
    have hjm : j < m := by omega
    have hlen := h.len
    have hjV : V j := (hV j).2 hjm
    by_cases hc : 0 ≤ sd s j
    · refine (ih (j + 1) s (by omega) (h.next (fun _ => hc))).map (fun out h1 => ?_)
      refine Ev.step (fun k => spec_l11Sides.l1.eq_2 ..) (Ev.pos (by omega) (Ev.pos (by omega) (Ev.pos (by omega) ?_)))
      rw [rd_sd' (by omega)]
      refine Ev.pos hc ?_
      rw [wrap_add1 (by omega)]
      exact h1
    · have hs : Sided V E m s j s := ⟨h.len, h.val, fun i hi => .inl hi⟩
      have hgs : Grew s (s.set j 0) := Grew.set (by omega) (by omega) 0
      have hb := bare_set (s := s) (i := j) (a := 0) (by omega) (by omega) (by omega)
      have hbl := bare_le s
      have hold : ∀ i x, 0 ≤ sd s i → V x → E i x → 0 ≤ sd s x := fun i x h1 h2 h3 => by
        have h4 := h.shut i x h1 h2 h3
        have h5 := (h.val i h1).2
        omega
      refine (l2_out (V := V) (E := E) A lo hi hA hm hV hR hC hS hjm hold (fun t h1 h2 h3 h4 => ih (j + 1) t (by omega) (h.step hjV (by omega) ⟨h1, h2, fun _ => h3, fun h => by cases h⟩ h4)) (2 * bare (s.set j 0) + 1) (s.set j 0) [(j : Int)] (Nat.le_refl _) (by simp only [List.length_singleton]; omega) ⟨hs.set hjm hjV (by omega) (.inl rfl) not_tied_two, hgs, fun x hx => ⟨j, List.mem_singleton.1 hx, hjm, by rw [sd_set_eq (by omega)]; exact Int.le_refl 0, by omega⟩, fun i h1 h2 => ?_, sd_set_eq (by omega) 0⟩).map (fun out h1 => ?_)
      · by_cases e : i = j
        · subst e; exact .inl (List.mem_singleton.2 rfl)
        · rw [sd_set_ne e] at h2; omega
      · refine Ev.step (fun k => spec_l11Sides.l1.eq_2 ..) (Ev.pos (by omega) (Ev.pos (by omega) (Ev.pos (by omega) ?_)))
        rw [rd_sd' (by omega)]
        refine Ev.neg (by omega) ?_
        rw [Int.toNat_natCast]
        exact h1
theorem l11_out : Out V E m (fun q => spec_l11Sides.f q A) := by
  unfold spec_l11Sides.f
  exact l0_out A hA hm m 0 (by omega) (l1_out A lo hi hA hm hV hR hC hS m 0 _ (by omega) (Heads.start ..))
end

theorem l1In_eq (a b c : Int) : spec_l1In.f a b c = some (decide (b ≤ a ∧ a ≤ c)) := by
  unfold spec_l1In.f
  split
  · rename_i h; congr 1; rw [decide_eq_decide]; omega
  · rename_i h; congr 1; symm; rw [decide_eq_false_iff_not]; omega

/-- the inner walk of the reference -/
theorem spec_walk (l : List Int) (r j : Nat) (hl : l.length ≤ 8) (hj : j < l.length) (_ : r ≤ 8)
    (next : Ev (fun k => spec_TreeOk.l0 k l (l.length : Int) (r : Int) ((j + 1 : Nat) : Int)) (restOk l r (j + 1)))
    (d : Nat) : ∀ (s : Nat) (a : Int), s + d = l.length → 0 ≤ a → a ≤ l.length →
    Ev (fun k => spec_TreeOk.l1 k l (l.length : Int) (r : Int) (j : Int) a (s : Int)) (walkOk l d a && restOk l r (j + 1)) := by
  induction d with
  | zero =>
    intro s a hs h0 h1
    refine Ev.step (fun k => spec_TreeOk.l1.eq_2 ..) ?_
    refine Ev.ite (fun ha => ?_) (fun ha => ?_)
    · rw [decide_eq_false (by omega)]
      refine Ev.step (fun k => spec_TreeOk.j4.eq_2 ..) ?_
      refine Ev.neg (by simp) (Ev.pos ha (Ev.ret ?_))
      simp [walkOk, show ¬ a ≤ 0 by omega]
    · refine Ev.step (fun k => spec_TreeOk.j4.eq_2 ..) ?_
      refine Ev.neg (by simp) (Ev.neg ha ?_)
      rw [wrap_add1 (by omega)]
      exact Ev.eq next (by simp [walkOk, show a ≤ 0 by omega])
  | succ d ih =>
    intro s a hs h0 h1
    refine Ev.step (fun k => spec_TreeOk.l1.eq_2 ..) ?_
    refine Ev.ite (fun ha => ?_) (fun ha => ?_)
    · rw [decide_eq_true (by omega)]
      refine Ev.step (fun k => spec_TreeOk.j4.eq_2 ..) ?_
      refine Ev.pos rfl ?_
      rw [wrap_id (by omega) (by omega)]
      refine Ev.pos (by omega) (Ev.pos (by omega) (Ev.bind0 (l1In_eq ..) ?_))
      refine Ev.ite (fun hc => ?_) (fun hc => ?_)
      · have hc' := of_decide_eq_true hc
        rw [wrap_add1 (by omega)]
        refine Ev.eq (ih (s + 1) (rd l (a - 1)) (by omega) hc'.1 hc'.2) ?_
        simp [walkOk, show ¬ a ≤ 0 by omega, hc'.1, hc'.2]
      · refine Ev.ret ?_
        have hc' : ¬ (0 ≤ rd l (a - 1) ∧ rd l (a - 1) ≤ (l.length : Int)) := by simpa using hc
        simp [walkOk, show ¬ a ≤ 0 by omega, decide_eq_false hc']
    · refine Ev.step (fun k => spec_TreeOk.j4.eq_2 ..) ?_
      refine Ev.neg (by simp) (Ev.neg ha ?_)
      rw [wrap_add1 (by omega)]
      exact Ev.eq next (by simp [walkOk, show a ≤ 0 by omega])

theorem spec_TreeOk_l0 (l : List Int) (hl : l.length ≤ 8) (d : Nat) : ∀ (r j : Nat), j + d = l.length → r ≤ j →
    Ev (fun k => spec_TreeOk.l0 k l (l.length : Int) (r : Int) (j : Int)) (restOk l r j) := by
  induction d with
  | zero =>
    intro r j hj hr
    refine Ev.step (fun k => spec_TreeOk.l0.eq_2 ..) ?_
    exact Ev.neg (by omega) (Ev.ret (restOk_end l r j (by omega)).symm)
  | succ d ih =>
    intro r j hj hr
    refine Ev.step (fun k => spec_TreeOk.l0.eq_2 ..) ?_
    refine Ev.pos (by omega) (Ev.pos (by omega) (Ev.pos (by omega) (Ev.bind0 (l1In_eq ..) ?_)))
    refine Ev.ite (fun hc => ?_) (fun hc => ?_)
    · have hc' := of_decide_eq_true hc
      refine Ev.step (fun k => spec_TreeOk.j1.eq_2 ..) ?_
      rw [wrap_add1 (by omega)]
      refine Ev.ite (fun he => ?_) (fun he => ?_)
      · refine Ev.ret (restOk_bad l r j (by omega) ?_).symm
        have he' : rd l (j : Int) = ((j + 1 : Nat) : Int) := by simpa using he
        unfold okAt
        rw [walkOk_self l ((j : Int) + 1) (by omega) (by rw [show (j : Int) + 1 - 1 = (j : Int) by omega, he']; omega), Bool.and_false]
      · have hfin : ∀ (r' : Nat), r' = r + (if rd l j = 0 then 1 else 0) → Ev (fun k => spec_TreeOk.l1 k l (l.length : Int) (r' : Int) (j : Int) ((j + 1 : Nat) : Int) 0) (restOk l r j) := by
          intro r' hr'
          have hr8 : r' ≤ j + 1 := by subst hr'; split <;> omega
          refine Ev.eq (spec_walk l r' j hl (by omega) (by omega) (ih r' (j + 1) (by omega) hr8) l.length 0 ((j + 1 : Nat) : Int) (by omega) (by omega) (by omega)) ?_
          by_cases hw : walkOk l l.length ((j : Int) + 1) = true
          · rw [restOk_good l r j (by omega) (by unfold okAt; rw [hw, decide_eq_true hc']; rfl), ← hr', show ((j + 1 : Nat) : Int) = (j : Int) + 1 by omega, hw]; rfl
          · have hw' : walkOk l l.length ((j : Int) + 1) = false := by simpa using hw
            rw [restOk_bad l r j (by omega) (by unfold okAt; rw [hw']; simp), show ((j + 1 : Nat) : Int) = (j : Int) + 1 by omega, hw']; rfl
        refine Ev.pos (by omega) (Ev.pos (by omega) (Ev.ite (fun hz => ?_) (fun hz => ?_)))
        · rw [wrap_add1 (by omega)]
          refine Ev.step (fun k => spec_TreeOk.j2.eq_2 ..) ?_
          rw [wrap_add1 (by omega)]
          exact hfin (r + 1) (by rw [if_pos hz])
        · refine Ev.step (fun k => spec_TreeOk.j2.eq_2 ..) ?_
          rw [wrap_add1 (by omega)]
          exact hfin r (by rw [if_neg hz]; rfl)
    · refine Ev.step (fun k => spec_TreeOk.j1.eq_2 ..) ?_
      refine Ev.pos rfl (Ev.ret (restOk_bad l r j (by omega) ?_).symm)
      have hc' : ¬ (0 ≤ rd l (j : Int) ∧ rd l (j : Int) ≤ (l.length : Int)) := by simpa using hc
      unfold okAt
      rw [decide_eq_false hc']; rfl

theorem spec_TreeOk_ev (l : List Int) : Ev (fun k => spec_TreeOk.f k l) (treeOk l) := by
  unfold spec_TreeOk.f
  refine Ev.bind0 (l1In_eq ..) ?_
  refine Ev.ite (fun hc => ?_) (fun hc => ?_)
  · have hc' := of_decide_eq_true hc
    exact Ev.eq (spec_TreeOk_l0 l (by omega) l.length 0 0 (by omega) (by omega)) (restOk_zero l (by omega))
  · refine Ev.ret ?_
    have hc' : ¬ (1 ≤ (l.length : Int) ∧ (l.length : Int) ≤ 8) := by simpa using hc
    unfold treeOk
    rw [decide_eq_false (by omega)]; rfl

/-! both searches tell the same -/
def wordsTo (l : List Int) : Nat → List Nat
  | 0 => []
  | j + 1 => if rd l (j : Int) = 0 then wordsTo l j else wordsTo l j ++ [j]
theorem wordsTo_lt (l : List Int) : ∀ {j x : Nat}, x ∈ wordsTo l j → x < j ∧ rd l (x : Int) ≠ 0
  | 0, x, h => by cases h
  | j + 1, x, h => by
    unfold wordsTo at h
    split at h
    · have := wordsTo_lt l h; exact ⟨by omega, this.2⟩
    · rename_i z
      rcases List.mem_append.1 h with h | h
      · have := wordsTo_lt l h; exact ⟨by omega, this.2⟩
      · have := List.mem_singleton.1 h; subst this; exact ⟨by omega, z⟩
theorem wordsTo_mem (l : List Int) : ∀ {j x : Nat}, x < j → rd l (x : Int) ≠ 0 → x ∈ wordsTo l j
  | 0, x, h, _ => absurd h (Nat.not_lt_zero x)
  | j + 1, x, h, z => by
    unfold wordsTo
    by_cases e : x = j
    · subst e; rw [if_neg z]; exact List.mem_append.2 (.inr (List.mem_singleton.2 rfl))
    · have := wordsTo_mem l (j := j) (x := x) (by omega) z
      split
      · exact this
      · exact List.mem_append.2 (.inl this)
theorem wordsTo_len (l : List Int) : ∀ j, (wordsTo l j).length ≤ j
  | 0 => Nat.le_refl _
  | j + 1 => by
    have := wordsTo_len l j
    unfold wordsTo
    split
    · omega
    · rw [List.length_append, List.length_singleton]; omega
theorem wordsTo_sorted (l : List Int) : ∀ j, List.Pairwise (· < ·) (wordsTo l j)
  | 0 => List.Pairwise.nil
  | j + 1 => by
    unfold wordsTo
    split
    · exact wordsTo_sorted l j
    · rw [List.pairwise_append]
      refine ⟨wordsTo_sorted l j, List.pairwise_singleton _ _, fun a ha b hb => ?_⟩
      have := (wordsTo_lt l ha).1
      have := List.mem_singleton.1 hb
      omega
theorem sidesRow_map (l : List Int) (s : Nat → Int) : ∀ j, sidesRow l s j = (wordsTo l j).map s
  | 0 => rfl
  | j + 1 => by
    have := sidesRow_map l s j
    unfold sidesRow wordsTo
    split
    · exact this
    · rw [this, List.map_append]; rfl
def arcOf (l : List Int) (w : Nat) : List Int := [min ((w : Int) + 1) (rd l (w : Int)), max ((w : Int) + 1) (rd l (w : Int))]
theorem l3Arcs_l0 (l : List Int) (ht : treeOk l = true) (d : Nat) : ∀ (j : Nat), j + d = l.length → Ev (fun k => spec_l3Arcs.l0 k l ((wordsTo l j).map (arcOf l)) (j : Int)) ((wordsTo l l.length).map (arcOf l)) := by
  have hl := (treeOk_len ht).2
  induction d with
  | zero =>
    intro j hj
    obtain rfl : j = l.length := by omega
    exact Ev.step (fun k => spec_l3Arcs.l0.eq_2 ..) (Ev.neg (by omega) (Ev.ret rfl))
  | succ d ih =>
    intro j hj
    have hjl : j < l.length := by omega
    have hb := treeOk_rd ht hjl
    have hw := wordsTo_len l j
    refine Ev.step (fun k => spec_l3Arcs.l0.eq_2 ..) (Ev.pos (by omega) (Ev.pos (by omega) ?_))
    have := ih (j + 1) (by omega)
    by_cases z : rd l (j : Int) = 0
    · have e : wordsTo l (j + 1) = wordsTo l j := by show (if rd l (j : Int) = 0 then _ else _) = _; rw [if_pos z]
      rw [e] at this
      refine Ev.neg (by omega) ?_
      rw [wrap_add1 (by omega)]
      exact this
    · have e : wordsTo l (j + 1) = wordsTo l j ++ [j] := by show (if rd l (j : Int) = 0 then _ else _) = _; rw [if_neg z]
      rw [e, List.map_append] at this
      refine Ev.pos (by omega) (Ev.pos (by rw [List.length_map]; omega) ?_)
      rw [wrap_add1 (by omega), mn_min, mx_max]
      exact this
theorem spec_l3Arcs_ev (l : List Int) (ht : treeOk l = true) : Ev (fun k => spec_l3Arcs.f k l) ((wordsTo l l.length).map (arcOf l)) := by
  unfold spec_l3Arcs.f
  exact l3Arcs_l0 l ht l.length 0 (by omega)
section
variable {l : List Int}
def wordAt (l : List Int) (k : Nat) : Nat := (wordsTo l l.length).getD k 0
@[reducible] def arcV (l : List Int) (k : Nat) : Prop := k < (wordsTo l l.length).length
@[reducible] def arcE (l : List Int) (k j : Nat) : Prop := sideE l (wordAt l k) (wordAt l j)
theorem wordAt_get {k : Nat} (h : arcV l k) : wordAt l k = (wordsTo l l.length)[k] := by
  unfold wordAt; rw [List.getD_eq_getElem?_getD, List.getElem?_eq_getElem h]; rfl
theorem wordAt_V {k : Nat} (h : arcV l k) : sideV l (wordAt l k) := by
  rw [wordAt_get h]; exact wordsTo_lt l (List.getElem_mem ..)
theorem wordAt_mono {k j : Nat} (hk : arcV l k) (hj : arcV l j) (h : k < j) : wordAt l k < wordAt l j := by
  rw [wordAt_get hk, wordAt_get hj]
  exact List.pairwise_iff_getElem.1 (wordsTo_sorted l l.length) k j hk hj h
theorem wordAt_inj {k j : Nat} (hk : arcV l k) (hj : arcV l j) (h : wordAt l k = wordAt l j) : k = j := by
  rcases Nat.lt_trichotomy k j with h1 | h1 | h1
  · have := wordAt_mono hk hj h1; omega
  · exact h1
  · have := wordAt_mono hj hk h1; omega
theorem wordAt_all {w : Nat} (h : sideV l w) : ∃ k, arcV l k ∧ wordAt l k = w := by
  obtain ⟨k, hk, e⟩ := List.getElem_of_mem (wordsTo_mem l h.1 h.2)
  exact ⟨k, hk, by rw [wordAt_get hk, e]⟩
theorem two_arcs {c : Nat → Int} (h : TwoSides (sideV l) (sideE l) c) : TwoSides (arcV l) (arcE l) (fun k => c (wordAt l k)) :=
  ⟨fun i hi => h.1 _ (wordAt_V hi), fun i j hi hj hE => h.2 _ _ (wordAt_V hi) (wordAt_V hj) hE⟩
theorem two_words {c : Nat → Int} (h : TwoSides (arcV l) (arcE l) c) : ∃ c2, TwoSides (sideV l) (sideE l) c2 ∧ ∀ k, arcV l k → c2 (wordAt l k) = c k := by
  obtain ⟨c2, key⟩ : ∃ c2 : Nat → Int, ∀ k, arcV l k → c2 (wordAt l k) = c k := by
    refine ⟨fun w => open Classical in if hw : ∃ k, arcV l k ∧ wordAt l k = w then c hw.choose else 0, fun k hk => ?_⟩
    have hw : ∃ q, arcV l q ∧ wordAt l q = wordAt l k := ⟨k, hk, rfl⟩
    show (dite _ _ _ : Int) = _
    rw [dif_pos hw, wordAt_inj hw.choose_spec.1 hk hw.choose_spec.2]
  refine ⟨c2, ⟨fun w hw => ?_, fun w x hw hx hE => ?_⟩, key⟩
  · obtain ⟨k, hk, rfl⟩ := wordAt_all hw
    rw [key k hk]; exact h.1 k hk
  · obtain ⟨k, hk, rfl⟩ := wordAt_all hw
    obtain ⟨j, hj, rfl⟩ := wordAt_all hx
    rw [key k hk, key j hj]; exact h.2 k j hk hj hE
theorem first_arcs {s : Nat → Int} (h : FirstUp (sideV l) (sideE l) s) : FirstUp (arcV l) (arcE l) (fun k => s (wordAt l k)) := by
  refine ⟨two_arcs h.1, fun v hv => ?_⟩
  obtain ⟨r, hr, hle, h0, ht⟩ := h.2 _ (wordAt_V hv)
  obtain ⟨k, hk, rfl⟩ := wordAt_all hr
  refine ⟨k, hk, ?_, h0, fun c hc => ?_⟩
  · apply Decidable.byContradiction
    intro hlt
    have := wordAt_mono hv hk (by omega)
    omega
  · obtain ⟨c2, h1, h2⟩ := two_words hc
    have := ht c2 h1
    rw [h2 v hv, h2 k hk] at this
    exact this
theorem cross_pair {a b x y : Int} (h1 : 1 ≤ a) (h2 : 1 ≤ x) (h3 : a ≠ x) (h4 : 1 ≤ b) (h5 : 1 ≤ y) (h6 : b ≠ y) : spec_CrossOk.f (min a x) (max a x) (min b y) (max b y) = some (decide (crossP a x b y)) := by
  rw [cross_sorted (by omega) (by omega) (by omega) (by omega)]
  congr 1
  rw [decide_eq_decide]
  unfold crossP
  omega
theorem arc_cross (ht : treeOk l = true) (i j : Nat) (hi : arcV l i) (hj : arcV l j) : spec_CrossOk.f (min ((wordAt l i : Int) + 1) (rd l (wordAt l i : Int))) (max ((wordAt l i : Int) + 1) (rd l (wordAt l i : Int))) (min ((wordAt l j : Int) + 1) (rd l (wordAt l j : Int))) (max ((wordAt l j : Int) + 1) (rd l (wordAt l j : Int))) = some (decide (arcE l i j)) := by
  have h1 := wordAt_V hi
  have h2 := wordAt_V hj
  have b1 := treeOk_rd ht h1.1
  have b2 := treeOk_rd ht h2.1
  have n1 := treeOk_ne ht h1.1
  have n2 := treeOk_ne ht h2.1
  have z1 := h1.2
  have z2 := h2.2
  exact cross_pair (by omega) (by omega) (by omega) (by omega) (by omega) (by omega)
end
theorem sides_same (l : List Int) : ∃ r : List Int × Bool, r.1.length ≤ 8 ∧ Ev (fun k => spec_SidesFor.f k l) r ∧ Ev (fun k => impl_SidesFor.f k l) r ∧ (treeOk l = false → r = ([], false)) ∧
    (treeOk l = true → (∃ s, r = (sidesRow l s l.length, true) ∧ FirstUp (sideV l) (sideE l) s) ∨ (r = ([], false) ∧ ¬ ∃ c, TwoSides (sideV l) (sideE l) c)) := by
  by_cases ht : treeOk l = true
  · have hl := (treeOk_len ht).2
    have hw := wordsTo_len l l.length
    have hsp : ∀ out, Ev (fun q => spec_l11Sides.f q ((wordsTo l l.length).map (arcOf l))) out → Ev (fun k => spec_SidesFor.f k l) out := by
      intro out h
      unfold spec_SidesFor.f
      exact Ev.bind (spec_TreeOk_ev l) (Ev.pos ht (Ev.bind (spec_l3Arcs_ev l ht) (Ev.bind h (Ev.ret rfl))))
    have ho : Out (arcV l) (arcE l) (wordsTo l l.length).length (fun q => spec_l11Sides.f q ((wordsTo l l.length).map (arcOf l))) := by
      refine l11_out _ (fun k => min ((wordAt l k : Int) + 1) (rd l (wordAt l k : Int))) (fun k => max ((wordAt l k : Int) + 1) (rd l (wordAt l k : Int))) (by simp) (by omega) (fun i => Iff.rfl) (fun i hi => ?_) (fun i j hi hj => arc_cross ht i j hi hj) (fun i j h => sideE_symm h)
      rw [rd1_nat, List.getD_eq_getElem?_getD, List.getElem?_map, List.getElem?_eq_getElem hi, wordAt_get hi]
      rfl
    rcases impl_SidesFor_out l ht with ⟨s, h1, h2⟩ | ⟨h1, h2⟩
    · rcases ho with ⟨t, h3, h4, h5⟩ | ⟨h4, h5⟩
      · have e : t = sidesRow l s l.length := by
          rw [sidesRow_map]
          apply List.ext_getElem?
          intro k
          by_cases hk : arcV l k
          · have h6 := firstUp_unique h5 (first_arcs h2) k hk
            have hkt : k < t.length := by rw [h3]; exact hk
            rw [List.getElem?_map, List.getElem?_eq_getElem hk, List.getElem?_eq_getElem hkt]
            have h7 : sd t k = t[k] := by unfold sd; rw [List.getD_eq_getElem?_getD, List.getElem?_eq_getElem hkt]; rfl
            rw [← h7, h6]
            show some (s (wordAt l k)) = some (s _)
            rw [wordAt_get hk]
          · have hk : (wordsTo l l.length).length ≤ k := Nat.not_lt.1 hk
            rw [List.getElem?_eq_none (by omega), List.getElem?_eq_none (by rw [List.length_map]; exact hk)]
        refine ⟨(sidesRow l s l.length, true), ?_, hsp _ (e ▸ h4), h1, fun h => absurd (ht.symm.trans h) (by simp), fun _ => .inl ⟨s, rfl, h2⟩⟩
        have := sidesRow_len l s l.length
        show (sidesRow l s l.length).length ≤ 8
        omega
      · exact absurd ⟨_, two_arcs h2.1⟩ h5
    · rcases ho with ⟨t, h3, h4, h5⟩ | ⟨h4, h5⟩
      · obtain ⟨c, hc, _⟩ := two_words h5.1
        exact absurd ⟨c, hc⟩ h2
      · exact ⟨([], false), by simp, hsp _ h4, h1, fun _ => rfl, fun _ => .inr ⟨rfl, h2⟩⟩
  · have ht : treeOk l = false := Bool.eq_false_iff.mpr ht
    refine ⟨([], false), by simp, ?_, impl_SidesFor_not l ht, fun _ => rfl, fun h => absurd (ht.symm.trans h) (by simp)⟩
    unfold spec_SidesFor.f
    exact Ev.bind (spec_TreeOk_ev l) (Ev.neg (by simp [ht]) (Ev.ret rfl))

theorem FnExactSidesFor : laws_FnExactSidesFor.Pure := by
  intro l _ _ _
  refine Ev.rounds (g := fun k => laws_FnExactSidesFor.f k l) ?_
  unfold laws_FnExactSidesFor.f
  refine Ev.ite (fun h => Ev.ret rfl) (fun h => ?_)
  have hl : l.length ≤ 1048576 := by omega
  have ht := toIntS_ev l hl
  obtain ⟨⟨g, b⟩, h8, hsp, him, _, _⟩ := sides_same l
  have h8 : g.length ≤ 8 := h8
  have heq := eqIntS_ev g g (by omega)
  rw [decide_eq_true rfl] at heq
  have hel := eqIntS_ev l l hl
  rw [decide_eq_true rfl] at hel
  have m1 := markIntS_ev l hl
  have m2 := markIntS_ev g (by omega)
  have hh := heldIntS_ev g.length (by omega)
  have j2 : Ev (fun k => laws_FnExactSidesFor.j2 k (marks g.length) ((g.length : Int) + 1) false) true :=
    Ev.step (fun k => laws_FnExactSidesFor.j2.eq_2 ..) (Ev.neg (by simp) (Ev.bind hh (Ev.neg (by omega) (Ev.pos rfl (Ev.ret rfl)))))
  have j1 : Ev (fun k => laws_FnExactSidesFor.j1 k l g b g false) true := by
    refine Ev.step (fun k => laws_FnExactSidesFor.j1.eq_2 ..) (Ev.neg (by simp) (Ev.bind m2 (Ev.bind hh (Ev.neg (by omega) (Ev.pos rfl (Ev.bind ht (Ev.bind him (Ev.bind heq (Ev.pos rfl ?_)))))))))
    rw [show (b != b) = false by simp]
    exact j2
  refine Ev.bind ht (Ev.bind hsp (Ev.bind ht (Ev.bind him (Ev.bind heq (Ev.pos rfl ?_)))))
  rw [show (b != b) = false by simp]
  refine Ev.step (fun k => laws_FnExactSidesFor.j0.eq_2 ..) (Ev.neg (by simp) (Ev.bind ht (Ev.bind hel (Ev.pos rfl (Ev.bind m1 (Ev.neg (show ¬ ((l.length : Int) + 1) < 0 by omega) (Ev.bind heq (Ev.pos rfl ?_))))))))
  rw [show (b != b) = false by simp]
  exact j1

end Go.Proofs.Ytpdnocpnibcicaa.Pure
