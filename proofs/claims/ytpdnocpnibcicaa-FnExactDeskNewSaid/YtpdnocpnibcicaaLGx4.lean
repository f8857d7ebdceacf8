/- Printed by a program of this session (wip/lp/lp.py) out of the translation: functions with the same answers as the Go code, and their contracts; no conditions beyond those that each theorem names. -/
import Derived.Test.YtpdnocpnibcicaaLGx0
import Derived.Test.YtpdnocpnibcicaaLGx1
import Derived.Test.YtpdnocpnibcicaaLGx2
import Derived.Test.YtpdnocpnibcicaaLGx3
namespace Go.Proofs.Ytpdnocpnibcicaa.LG
open Go.RowKit Go.Proofs.YtpdnocpnibcicaaV.PrintWords Go.Proofs.YtpdnocpnibcicaaV.PrintLast Go.Proofs.YtpdnocpnibcicaaV.PrintMore
attribute [local go_sem] max2_int min2_int max_two min_two max_three min_three max_four min_four   -- for this text's walks alone
set_option linter.unusedVariables false
set_option linter.unusedSimpArgs false

/-! ### laws_markDesk: function 49, told by hand -/
def laws_markDesk.f (k : Nat) (l0 : List Int) (l1 : List (List Int)) (a1 : Int) : Option (Int × List Int × List (List Int)) := (laws_markIntS.f k l0 a1).bind fun p => (laws_markIntSS.f k l1 p.1).bind fun q => some (q.1, p.2, q.2)
set_option maxHeartbeats 8000000 in
set_option maxRecDepth 100000 in
theorem laws_markDesk.calls (k : Nat) (P0_ P1_ : Nat → Prop) (v0 v1 : Value) (l0 : List Int) (l1 : List (List Int)) (a1 : Int) (r1 : Int) (y0 : List Int) (y1 : List (List Int)) (w0 w : World) (hB : Below w0.heap.size w0 w)
    (ho0 : Kd.R (Kd.int .i64) 3 w w0.heap.size P0_ v0 l0) (ho1 : Kd.S (Kd.slice 3 (Kd.int .i64)) 22 w w0.heap.size P1_ v1 l1) (hap : ∀ k, P1_ k → some k ≠ v0.ownBlock) (h : laws_markDesk.f k l0 l1 a1 = some (r1, y0, y1)) :
    Calls Try.prog 49 #[.agg #[v0, v1], .int .i64 a1] w fun e w' => e = .returned (.int .i64 r1) ∧ Kd.R (Kd.int .i64) 3 w' w0.heap.size P0_ v0 y0 ∧ Kd.S (Kd.slice 3 (Kd.int .i64)) 22 w' w0.heap.size P1_ v1 y1 ∧ Below w0.heap.size w0 w' ∧ Kept w w' (fun k => P0_ k ∨ P1_ k) := by
  unfold laws_markDesk.f at h
  obtain ⟨p, e1, h⟩ := Option.bind_eq_some_iff.mp h
  obtain ⟨q, e2, h⟩ := Option.bind_eq_some_iff.mp h
  obtain ⟨t, z0⟩ := p
  obtain ⟨u, z1⟩ := q
  simp only [Option.some.injEq, Prod.mk.injEq] at h
  obtain ⟨rfl, rfl, rfl⟩ := h
  have E1 := Aside0.mk e1
  have E2 := Aside0.mk e2
  obtain ⟨A, c, rfl⟩ := Kd.R_slice ho0
  obtain ⟨B, d, rfl⟩ := Kd.S_slice ho1
  have HO := Aside0.mk ho0
  have HP := Aside0.mk ho1
  have HA := Aside0.mk hap
  have HB := Aside0.mk hB
  have HL := Aside0.mk (Kd.R_lt ho0)
  have HW := Aside0.mk ho0.1
  clear e1 e2 ho0 ho1 hap hB
  have HX : Aside0 ((w.alloc (.cells #[.slice A l0.length c, .slice B l1.length d] 44)).heap[w.heap.size]? = some (.cells #[.slice A l0.length c, .slice B l1.length d] 44 (0, 0))) := ⟨World.alloc_heap_new w _⟩
  go_enter Try.func49, Try.ntmps49
  go_wp2_with (first
    | (go_at_call 19; (with_reducible refine (laws_markIntS.calls k (fun k => some k = (Value.slice A l0.length c).ownBlock) _ l0 a1 t z0 w0 _ (below_alloc HB.out _) (Kd.R_alloc (Kd.R_tight rfl HO.out) _) E1.out).mono ?_); clear E1; rintro e w2 ⟨rfl, hR, hB2, hK⟩; have hx := blk_kept HX.out hK (fun he => by have := HL.out _ he.symm; omega); have hx1 : w2.cell? ⟨w.heap.size, 1, none⟩ = some (.slice B l1.length d) := (blk_cell hx 1).trans rfl; have HR2 := Aside0.mk hR; have HB2 := Aside0.mk hB2; have HS2 := Aside0.mk (Kd.S_kept (Kd.S_alloc HP.out _) hK (fun k hk he => HA.out k hk he)); have HK2 := Aside0.mk hK; clear hR hB2 hK hx)
    | (go_at_call 38; (with_reducible refine (laws_markIntSS.calls k P1_ _ l1 t u z1 w0 _ HB2.out HS2.out E2.out).mono ?_); clear E2; rintro e w3 ⟨rfl, hS, hB3, hK3⟩; have HS3 := Aside0.mk hS; have HB3 := Aside0.mk hB3; have HK3 := Aside0.mk hK3; clear hS hB3 hK3))
  go_ret
  refine ⟨rfl, Kd.R_mono (Kd.R_kept (Kd.R_tight rfl HR2.out) HK3.out (fun k hk h1 => HA.out k h1 hk)) (fun k hk => HW.out k hk.symm), HS3.out, HB3.out, ?_⟩
  exact (((Kept.refl w _).alloc _).then_ HK2.out (fun k hk => .inl (.inl (HW.out k hk.symm)))).then_ HK3.out (fun k hk => .inl (.inr hk))

/-! ### laws_heldIntS: function 20 -/
def laws_heldIntS.l0 : Nat → List Int → Int → Int → Option (Int)
  | 0, _, _, _ => none
  | k + 1, x0, x1, x5 => if x5 < (x0.length : Int) then (if 0 ≤ x5 then (if (rd x0 x5) = x1 then (laws_heldIntS.l0 k x0 (wrap64 (x1 + 1)) (wrap64 (x5 + 1))) else (some (-1))) else (none)) else (some x1)
def laws_heldIntS.f (k : Nat) (l0 : List Int) (a1 : Int) : Option (Int) := laws_heldIntS.l0 k l0 a1 0
theorem laws_heldIntS.mono_l : ∀ k, (∀ y0 y1 y2, LeO (laws_heldIntS.l0 k y0 y1 y2) (laws_heldIntS.l0 (k + 1) y0 y1 y2))
  | 0 => fun _ _ _ r h => by simp [laws_heldIntS.l0] at h
  | k + 1 => by
    have ih0 := laws_heldIntS.mono_l k
    · intro y0 y1 y2
      unfold laws_heldIntS.l0
      repeat' first
      | (with_reducible exact ih0 _ _ _)
      | (with_reducible exact LeO.refl _)
      | (with_reducible exact LeO.none _)
      | (with_reducible refine LeO.ite ?_ ?_)
      | (with_reducible refine LeO.bind ?_ (fun _ => ?_))
      | exact ih0 _ _ _
      | exact LeO.none _
      | refine LeO.ite ?_ ?_
      | refine LeO.bind ?_ (fun _ => ?_)
theorem laws_heldIntS.mono : ∀ a0 a1 k, LeO (laws_heldIntS.f k a0 a1) (laws_heldIntS.f (k + 1) a0 a1) := by
  intro a0 a1 k
  have ih0 := laws_heldIntS.mono_l k
  unfold laws_heldIntS.f
  repeat' first
      | (with_reducible exact ih0 _ _ _)
      | (with_reducible exact LeO.refl _)
      | (with_reducible exact LeO.none _)
      | (with_reducible refine LeO.ite ?_ ?_)
      | (with_reducible refine LeO.bind ?_ (fun _ => ?_))
      | exact ih0 _ _ _
      | exact LeO.none _
      | refine LeO.ite ?_ ?_
      | refine LeO.bind ?_ (fun _ => ?_)
set_option maxHeartbeats 8000000 in
set_option maxRecDepth 100000 in
theorem laws_heldIntS.calls (k : Nat) (A0 : Option Addr) (c0 : Nat) (l0 : List Int) (a1 : Int) (r : Int) (w : World) (hr0 : Kd.C (Kd.int .i64) w A0 l0.length l0) (hc0 : l0.length ≤ c0) (h : laws_heldIntS.f k l0 a1 = some r) :
    Calls Try.prog 20 #[.slice A0 l0.length c0, .int .i64 a1] w fun e w' => e = .returned (.int .i64 r) ∧ Drawn0 w w' := by
  have HR0 := Aside0.mk hr0
  have HC0 := Aside0.mk hc0
  clear hr0 hc0
  have H : (laws_heldIntS.l0 k l0 a1 0) = some r := h
  clear h
  have H' := Aside0.mk H
  clear H
  go_enter Try.func20, Try.ntmps20
  go_wp2
  go_loopg [1, 5] k (fun kq v1 v5 w' => ∃ (x1_1 : Int) (x5_1 : Int), v1 = .int .i64 x1_1 ∧ v5 = .int .i64 x5_1 ∧ Aside0 (laws_heldIntS.l0 kq l0 x1_1 x5_1 = some r) ∧ Aside0 (kq ≤ k) ∧ Drawn0 w w')
  case atStart => exact ⟨(a1), (0), (by first | rfl | (simp; done) | (simp [*]; done)), (by first | rfl | (simp; done) | (simp [*]; done)), H', ⟨Nat.le_refl _⟩, by repeat (first | exact Drawn0.refl _ | apply Drawn0.step)⟩
  case round =>
    clear H'
    try clear c2
    try clear p2
    obtain ⟨x1_1, x5_1, rfl, rfl, HA, HK1, ⟨m1, rfl⟩⟩ := hrel
    cases gk with
    | zero => exact absurd HA.out (by simp [laws_heldIntS.l0])
    | succ k1 =>
      have H := HA.out
      clear HA
      simp only [laws_heldIntS.l0] at H
      by_cases c3 : x5_1 < (l0.length : Int)
      · rw [if_pos c3] at H
        have c3b0 : decide (x5_1 < (l0.length : Int)) = true := decide_eq_true c3
        clear c3
        by_cases c4 : 0 ≤ x5_1
        · rw [if_pos c4] at H
          have c4b0 : decide (0 ≤ x5_1) = true := decide_eq_true c4
          clear c4
          by_cases c5 : (rd l0 x5_1) = x1_1
          · rw [if_pos c5] at H
            have c5b0 : ((rd l0 x5_1) == x1_1) = true := beq_iff_eq.mpr c5
            have c5b1 : ((rd l0 x5_1) != x1_1) = false := bne_eq_false_iff_eq.mpr c5
            clear c5
            have H' := Aside0.mk H
            clear H
            have p148 : 0 ≤ (x5_1 : Int) := of_decide_eq_true (by first | (with_reducible assumption) | assumption)
            have q148 : x5_1 < (l0.length : Int) := of_decide_eq_true (by first | (with_reducible assumption) | assumption)
            obtain ⟨ad148, e148, hx148_0⟩ := Kd.at_int HR0.out x5_1 p148 q148
            cases e148
            replace p148 := eq_true p148
            replace q148 := eq_true q148
            go_wp2
            go_roundg k1
            case measure => have := HK1.out; omega
            case rel => exact ⟨(wrap64 (x1_1 + 1)), (wrap64 (x5_1 + 1)), (by first | rfl | (simp; done) | (simp [*]; done)), (by first | rfl | (simp; done) | (simp [*]; done)), H', ⟨by have := HK1.out; omega⟩, by repeat (first | exact Drawn0.refl _ | apply Drawn0.step)⟩
          · rw [if_neg c5] at H
            have c5b0 : ((rd l0 x5_1) == x1_1) = false := beq_eq_false_iff_ne.mpr c5
            have c5b1 : ((rd l0 x5_1) != x1_1) = true := bne_iff_ne.mpr c5
            obtain rfl := Option.some.inj H
            have p148 : 0 ≤ (x5_1 : Int) := of_decide_eq_true (by first | (with_reducible assumption) | assumption)
            have q148 : x5_1 < (l0.length : Int) := of_decide_eq_true (by first | (with_reducible assumption) | assumption)
            obtain ⟨ad148, e148, hx148_0⟩ := Kd.at_int HR0.out x5_1 p148 q148
            cases e148
            replace p148 := eq_true p148
            replace q148 := eq_true q148
            go_wp2
            go_ret
            exact ⟨by first | rfl | (simp; done) | (simp [*]; done), by repeat (first | exact Drawn0.refl _ | apply Drawn0.step)⟩
        · rw [if_neg c4] at H
          exact absurd H (by simp)
      · rw [if_neg c3] at H
        have c3b0 : decide (x5_1 < (l0.length : Int)) = false := decide_eq_false c3
        clear c3
        obtain rfl := Option.some.inj H
        go_wp2
        go_ret
        exact ⟨by first | rfl | (simp; done) | (simp [*]; done), by repeat (first | exact Drawn0.refl _ | apply Drawn0.step)⟩

/-! ### laws_heldIntSS: function 39 -/
def laws_heldIntSS.l0 : Nat → List (List Int) → Int → Int → Option (Int)
  | 0, _, _, _ => none
  | k + 1, x0, x1, x5 => if x5 < (x0.length : Int) then (if 0 ≤ x5 then ((laws_heldIntS.f k (rd_L1 x0 x5) x1).bind fun t150 => (if t150 < 0 then (some (-1)) else (laws_heldIntSS.l0 k x0 t150 (wrap64 (x5 + 1))))) else (none)) else (some x1)
def laws_heldIntSS.f (k : Nat) (l0 : List (List Int)) (a1 : Int) : Option (Int) := laws_heldIntSS.l0 k l0 a1 0
theorem laws_heldIntSS.mono_l : ∀ k, (∀ y0 y1 y2, LeO (laws_heldIntSS.l0 k y0 y1 y2) (laws_heldIntSS.l0 (k + 1) y0 y1 y2))
  | 0 => fun _ _ _ r h => by simp [laws_heldIntSS.l0] at h
  | k + 1 => by
    have ih0 := laws_heldIntSS.mono_l k
    · intro y0 y1 y2
      unfold laws_heldIntSS.l0
      repeat' first
      | (with_reducible exact ih0 _ _ _)
      | (with_reducible exact laws_heldIntS.mono _ _ _)
      | (with_reducible exact LeO.refl _)
      | (with_reducible exact LeO.none _)
      | (with_reducible refine LeO.ite ?_ ?_)
      | (with_reducible refine LeO.bind ?_ (fun _ => ?_))
      | exact ih0 _ _ _
      | exact laws_heldIntS.mono _ _ _
      | exact LeO.none _
      | refine LeO.ite ?_ ?_
      | refine LeO.bind ?_ (fun _ => ?_)
theorem laws_heldIntSS.mono : ∀ a0 a1 k, LeO (laws_heldIntSS.f k a0 a1) (laws_heldIntSS.f (k + 1) a0 a1) := by
  intro a0 a1 k
  have ih0 := laws_heldIntSS.mono_l k
  unfold laws_heldIntSS.f
  repeat' first
      | (with_reducible exact ih0 _ _ _)
      | (with_reducible exact laws_heldIntS.mono _ _ _)
      | (with_reducible exact LeO.refl _)
      | (with_reducible exact LeO.none _)
      | (with_reducible refine LeO.ite ?_ ?_)
      | (with_reducible refine LeO.bind ?_ (fun _ => ?_))
      | exact ih0 _ _ _
      | exact laws_heldIntS.mono _ _ _
      | exact LeO.none _
      | refine LeO.ite ?_ ?_
      | refine LeO.bind ?_ (fun _ => ?_)
set_option maxHeartbeats 8000000 in
set_option maxRecDepth 100000 in
theorem laws_heldIntSS.calls (k : Nat) (A0 : Option Addr) (c0 : Nat) (l0 : List (List Int)) (a1 : Int) (r : Int) (w : World) (hr0 : Kd.C (Kd.slice 3 (Kd.int .i64)) w A0 l0.length l0) (hc0 : l0.length ≤ c0) (h : laws_heldIntSS.f k l0 a1 = some r) :
    Calls Try.prog 39 #[.slice A0 l0.length c0, .int .i64 a1] w fun e w' => e = .returned (.int .i64 r) ∧ Drawn0 w w' := by
  have HR0 := Aside0.mk hr0
  have HC0 := Aside0.mk hc0
  clear hr0 hc0
  have H : (laws_heldIntSS.l0 k l0 a1 0) = some r := h
  clear h
  have H' := Aside0.mk H
  clear H
  go_enter Try.func39, Try.ntmps39
  go_wp2
  go_loopg [1, 5] k (fun kq v1 v5 w' => ∃ (x1_1 : Int) (x5_1 : Int), v1 = .int .i64 x1_1 ∧ v5 = .int .i64 x5_1 ∧ Aside0 (laws_heldIntSS.l0 kq l0 x1_1 x5_1 = some r) ∧ Aside0 (kq ≤ k) ∧ Drawn0 w w')
  case atStart => exact ⟨(a1), (0), (by first | rfl | (simp; done) | (simp [*]; done)), (by first | rfl | (simp; done) | (simp [*]; done)), H', ⟨Nat.le_refl _⟩, by repeat (first | exact Drawn0.refl _ | apply Drawn0.step)⟩
  case round =>
    clear H'
    try clear p2
    obtain ⟨x1_1, x5_1, rfl, rfl, HA, HK1, ⟨m1, rfl⟩⟩ := hrel
    cases gk with
    | zero => exact absurd HA.out (by simp [laws_heldIntSS.l0])
    | succ k1 =>
      have H := HA.out
      clear HA
      simp only [laws_heldIntSS.l0] at H
      by_cases c3 : x5_1 < (l0.length : Int)
      · rw [if_pos c3] at H
        have c3b0 : decide (x5_1 < (l0.length : Int)) = true := decide_eq_true c3
        clear c3
        by_cases c4 : 0 ≤ x5_1
        · rw [if_pos c4] at H
          have c4b0 : decide (0 ≤ x5_1) = true := decide_eq_true c4
          clear c4
          replace H := Option.bind_eq_some_iff.mp H
          obtain ⟨t150, A50, H⟩ := H
          replace H : (if t150 < 0 then (some (-1)) else (laws_heldIntSS.l0 k1 l0 t150 (wrap64 (x5_1 + 1)))) = some r := H
          have A5 := Aside0.mk A50
          clear A50
          by_cases c6 : t150 < 0
          · rw [if_pos c6] at H
            have c6b0 : decide (t150 < 0) = true := decide_eq_true c6
            clear c6
            obtain rfl := Option.some.inj H
            have p149 : 0 ≤ (x5_1 : Int) := of_decide_eq_true (by first | (with_reducible assumption) | assumption)
            have q149 : x5_1 < (l0.length : Int) := of_decide_eq_true (by first | (with_reducible assumption) | assumption)
            obtain ⟨ad149, A149_0, c149_0, e149, hx149_0, hl149_0, hi149_0⟩ := at_L1 HR0.out x5_1 p149 q149
            cases e149
            have HR149_0 := Aside0.mk hi149_0
            have HC149_0 := Aside0.mk hl149_0
            clear hi149_0 hl149_0
            replace p149 := eq_true p149
            replace q149 := eq_true q149
            go_wp2_with (first | ((with_reducible refine gate_callee (f := 20) rfl ?_); refine goesL_ (some 17) rfl rfl Try.func20 (by kernel_rfl) rfl #[.slice A149_0 (rd_L1 l0 x5_1).length c149_0, .int .i64 x1_1] rfl (by (try simp only [List.map_toArray, List.map_cons, List.map_nil]); first | done | rfl | (simp only [List.length_drop, List.length_take]; rfl)) ?_; (with_reducible refine (laws_heldIntS.calls k1 _ _ (rd_L1 l0 x5_1) x1_1 t150 _ ?side1 ?side2 A5.out).mono ?_); (case side1 => repeat (first | exact HR149_0.out | (with_reducible refine Kd.C_alloc ?_ _) | (with_reducible refine Kd.C_drewN ?_ _) | (with_reducible refine Kd.C_drew ?_))); (case side2 => exact HC149_0.out); rintro e w' ⟨rfl, ⟨nd, rfl⟩⟩; refine ⟨_, rfl, ?_⟩))
            go_ret
            exact ⟨by first | rfl | (simp; done) | (simp [*]; done), by repeat (first | exact Drawn0.refl _ | apply Drawn0.step)⟩
          · rw [if_neg c6] at H
            have c6b0 : decide (t150 < 0) = false := decide_eq_false c6
            clear c6
            have H' := Aside0.mk H
            clear H
            have p149 : 0 ≤ (x5_1 : Int) := of_decide_eq_true (by first | (with_reducible assumption) | assumption)
            have q149 : x5_1 < (l0.length : Int) := of_decide_eq_true (by first | (with_reducible assumption) | assumption)
            obtain ⟨ad149, A149_0, c149_0, e149, hx149_0, hl149_0, hi149_0⟩ := at_L1 HR0.out x5_1 p149 q149
            cases e149
            have HR149_0 := Aside0.mk hi149_0
            have HC149_0 := Aside0.mk hl149_0
            clear hi149_0 hl149_0
            replace p149 := eq_true p149
            replace q149 := eq_true q149
            go_wp2_with (first | ((with_reducible refine gate_callee (f := 20) rfl ?_); refine goesL_ (some 17) rfl rfl Try.func20 (by kernel_rfl) rfl #[.slice A149_0 (rd_L1 l0 x5_1).length c149_0, .int .i64 x1_1] rfl (by (try simp only [List.map_toArray, List.map_cons, List.map_nil]); first | done | rfl | (simp only [List.length_drop, List.length_take]; rfl)) ?_; (with_reducible refine (laws_heldIntS.calls k1 _ _ (rd_L1 l0 x5_1) x1_1 t150 _ ?side1 ?side2 A5.out).mono ?_); (case side1 => repeat (first | exact HR149_0.out | (with_reducible refine Kd.C_alloc ?_ _) | (with_reducible refine Kd.C_drewN ?_ _) | (with_reducible refine Kd.C_drew ?_))); (case side2 => exact HC149_0.out); rintro e w' ⟨rfl, ⟨nd, rfl⟩⟩; refine ⟨_, rfl, ?_⟩))
            go_roundg k1
            case measure => have := HK1.out; omega
            case rel => exact ⟨(t150), (wrap64 (x5_1 + 1)), (by first | rfl | (simp; done) | (simp [*]; done)), (by first | rfl | (simp; done) | (simp [*]; done)), H', ⟨by have := HK1.out; omega⟩, by repeat (first | exact Drawn0.refl _ | apply Drawn0.step)⟩
        · rw [if_neg c4] at H
          exact absurd H (by simp)
      · rw [if_neg c3] at H
        have c3b0 : decide (x5_1 < (l0.length : Int)) = false := decide_eq_false c3
        clear c3
        obtain rfl := Option.some.inj H
        go_wp2
        go_ret
        exact ⟨by first | rfl | (simp; done) | (simp [*]; done), by repeat (first | exact Drawn0.refl _ | apply Drawn0.step)⟩

/-! ### laws_heldDesk: function 50 -/
def laws_heldDesk.f (k : Nat) (l0_0 : List Int) (l0_1 : List (List Int)) (a1 : Int) : Option (Int) := (laws_heldIntS.f k l0_0 a1).bind fun t152 => (if t152 < 0 then (some (-1)) else ((laws_heldIntSS.f k l0_1 t152).bind fun t153 => (if t153 < 0 then (some (-1)) else (some t153))))
theorem laws_heldDesk.mono : ∀ a0 a1 a2 k, LeO (laws_heldDesk.f k a0 a1 a2) (laws_heldDesk.f (k + 1) a0 a1 a2) := by
  intro a0 a1 a2 k
  unfold laws_heldDesk.f
  repeat' first
      | (with_reducible exact laws_heldIntS.mono _ _ _)
      | (with_reducible exact laws_heldIntSS.mono _ _ _)
      | (with_reducible exact LeO.refl _)
      | (with_reducible exact LeO.none _)
      | (with_reducible refine LeO.ite ?_ ?_)
      | (with_reducible refine LeO.bind ?_ (fun _ => ?_))
      | exact laws_heldIntS.mono _ _ _
      | exact laws_heldIntSS.mono _ _ _
      | exact LeO.none _
      | refine LeO.ite ?_ ?_
      | refine LeO.bind ?_ (fun _ => ?_)
set_option maxHeartbeats 8000000 in
set_option maxRecDepth 100000 in
theorem laws_heldDesk.calls (k : Nat) (A0_0 : Option Addr) (c0_0 : Nat) (l0_0 : List Int) (A0_1 : Option Addr) (c0_1 : Nat) (l0_1 : List (List Int)) (a1 : Int) (r : Int) (w : World) (hr0_0 : Kd.C (Kd.int .i64) w A0_0 l0_0.length l0_0) (hc0_0 : l0_0.length ≤ c0_0) (hr0_1 : Kd.C (Kd.slice 3 (Kd.int .i64)) w A0_1 l0_1.length l0_1) (hc0_1 : l0_1.length ≤ c0_1) (h : laws_heldDesk.f k l0_0 l0_1 a1 = some r) :
    Calls Try.prog 50 #[.agg #[.slice A0_0 l0_0.length c0_0, .slice A0_1 l0_1.length c0_1], .int .i64 a1] w fun e w' => e = .returned (.int .i64 r) ∧ Below w.heap.size w w' := by
  have hu44 := Try.underlying44
  have HR0_0 := Aside0.mk hr0_0
  have HC0_0 := Aside0.mk hc0_0
  clear hr0_0 hc0_0
  have HR0_1 := Aside0.mk hr0_1
  have HC0_1 := Aside0.mk hc0_1
  clear hr0_1 hc0_1
  have HB := Aside0.mk (Below.refl w.heap.size w)
  have H : ((laws_heldIntS.f k l0_0 a1).bind fun t152 => (if t152 < 0 then (some (-1)) else ((laws_heldIntSS.f k l0_1 t152).bind fun t153 => (if t153 < 0 then (some (-1)) else (some t153))))) = some r := h
  clear h
  replace H := Option.bind_eq_some_iff.mp H
  obtain ⟨t152, A30, H⟩ := H
  replace H : (if t152 < 0 then (some (-1)) else ((laws_heldIntSS.f k l0_1 t152).bind fun t153 => (if t153 < 0 then (some (-1)) else (some t153)))) = some r := H
  have A3 := Aside0.mk A30
  clear A30
  by_cases c4 : t152 < 0
  · rw [if_pos c4] at H
    have c4b0 : decide (t152 < 0) = true := decide_eq_true c4
    clear c4
    obtain rfl := Option.some.inj H
    go_enter Try.func50, Try.ntmps50
    go_wp2_with (first | ((with_reducible refine gate_dst (N := 2) rfl ?_); refine box_event ?hg (N := 2) ?hd (cs := #[.slice A0_0 l0_0.length c0_0, .slice A0_1 l0_1.length c0_1]) (t := 44) ?hr ?_; (case hd => rfl); (case hg => rfl); (case hr => first | (go_simp; done) | (go_simp; rfl)); intro gb151 hg w5 hbox hb; have n0_ := Aside0.mk (below_step (by repeat (first | (with_reducible first | exact HB.out | apply below_alloc | apply pw_below_drewN | apply below_drew1) | exact HB.out)) hb); have n1_ := Aside0.mk (hbox); have n2_ := Aside0.mk ((by rw [hg]; exact (below_size (by repeat (first | (with_reducible first | exact HB.out | apply below_alloc | apply pw_below_drewN | apply below_drew1) | exact HB.out))) : w.heap.size ≤ gb151)); have n3_ := Aside0.mk ((by rw [hg]; exact (below_size (by repeat (first | (with_reducible first | exact HB.out | apply below_alloc | apply pw_below_drewN | apply below_drew1) | exact HB.out))) : w.heap.size ≤ gb151)); clear HB; have HB := n0_; have BK151 := n1_; have GW151 := n2_; have GE151 := n3_; clear n0_ n1_ n2_ n3_; clear hb hbox hg; have hcz6_0 : w5.cell? ⟨gb151, 0, none⟩ = some (.slice A0_0 l0_0.length c0_0) := (blk_cell BK151.out 0).trans rfl; have hcz6_1 : w5.cell? ⟨gb151, 1, none⟩ = some (.slice A0_1 l0_1.length c0_1) := (blk_cell BK151.out 1).trans rfl; have hfz6_0 := blk_frozen BK151.out 0; have hfz6_1 := blk_frozen BK151.out 1) | ((with_reducible refine gate_callee (f := 20) rfl ?_); refine goesL_ (some 8) rfl rfl Try.func20 (by kernel_rfl) rfl #[.slice A0_0 l0_0.length c0_0, .int .i64 a1] rfl (by (try simp only [List.map_toArray, List.map_cons, List.map_nil]); first | done | rfl | (simp only [List.length_drop, List.length_take]; rfl)) ?_; (with_reducible refine (laws_heldIntS.calls k _ _ l0_0 a1 t152 _ ?side1 ?side2 A3.out).mono ?_); (case side1 => repeat (first | exact (Kd.C_below HR0_0.out HB.out) | (with_reducible refine Kd.C_alloc ?_ _) | (with_reducible refine Kd.C_drewN ?_ _) | (with_reducible refine Kd.C_drew ?_))); (case side2 => exact HC0_0.out); rintro e w' ⟨rfl, ⟨nd, rfl⟩⟩; refine ⟨_, rfl, ?_⟩))
    go_ret
    exact ⟨by first | rfl | (simp [errW_none, errW_some] <;> rfl) | (simp [*, errW_none, errW_some] <;> rfl), by repeat (first | (with_reducible first | exact HB.out | apply below_alloc | apply pw_below_drewN | apply below_drew1 | refine below_set ?_ GE151.out) | exact HB.out)⟩
  · rw [if_neg c4] at H
    have c4b0 : decide (t152 < 0) = false := decide_eq_false c4
    clear c4
    replace H := Option.bind_eq_some_iff.mp H
    obtain ⟨t153, A70, H⟩ := H
    replace H : (if t153 < 0 then (some (-1)) else (some t153)) = some r := H
    have A7 := Aside0.mk A70
    clear A70
    by_cases c8 : t153 < 0
    · rw [if_pos c8] at H
      have c8b0 : decide (t153 < 0) = true := decide_eq_true c8
      clear c8
      obtain rfl := Option.some.inj H
      go_enter Try.func50, Try.ntmps50
      go_wp2_with (first | ((with_reducible refine gate_dst (N := 2) rfl ?_); refine box_event ?hg (N := 2) ?hd (cs := #[.slice A0_0 l0_0.length c0_0, .slice A0_1 l0_1.length c0_1]) (t := 44) ?hr ?_; (case hd => rfl); (case hg => rfl); (case hr => first | (go_simp; done) | (go_simp; rfl)); intro gb151 hg w9 hbox hb; have n0_ := Aside0.mk (below_step (by repeat (first | (with_reducible first | exact HB.out | apply below_alloc | apply pw_below_drewN | apply below_drew1) | exact HB.out)) hb); have n1_ := Aside0.mk (hbox); have n2_ := Aside0.mk ((by rw [hg]; exact (below_size (by repeat (first | (with_reducible first | exact HB.out | apply below_alloc | apply pw_below_drewN | apply below_drew1) | exact HB.out))) : w.heap.size ≤ gb151)); have n3_ := Aside0.mk ((by rw [hg]; exact (below_size (by repeat (first | (with_reducible first | exact HB.out | apply below_alloc | apply pw_below_drewN | apply below_drew1) | exact HB.out))) : w.heap.size ≤ gb151)); clear HB; have HB := n0_; have BK151 := n1_; have GW151 := n2_; have GE151 := n3_; clear n0_ n1_ n2_ n3_; clear hb hbox hg; have hcz10_0 : w9.cell? ⟨gb151, 0, none⟩ = some (.slice A0_0 l0_0.length c0_0) := (blk_cell BK151.out 0).trans rfl; have hcz10_1 : w9.cell? ⟨gb151, 1, none⟩ = some (.slice A0_1 l0_1.length c0_1) := (blk_cell BK151.out 1).trans rfl; have hfz10_0 := blk_frozen BK151.out 0; have hfz10_1 := blk_frozen BK151.out 1) | ((with_reducible refine gate_callee (f := 20) rfl ?_); refine goesL_ (some 8) rfl rfl Try.func20 (by kernel_rfl) rfl #[.slice A0_0 l0_0.length c0_0, .int .i64 a1] rfl (by (try simp only [List.map_toArray, List.map_cons, List.map_nil]); first | done | rfl | (simp only [List.length_drop, List.length_take]; rfl)) ?_; (with_reducible refine (laws_heldIntS.calls k _ _ l0_0 a1 t152 _ ?side1 ?side2 A3.out).mono ?_); (case side1 => repeat (first | exact (Kd.C_below HR0_0.out HB.out) | (with_reducible refine Kd.C_alloc ?_ _) | (with_reducible refine Kd.C_drewN ?_ _) | (with_reducible refine Kd.C_drew ?_))); (case side2 => exact HC0_0.out); rintro e w' ⟨rfl, ⟨nd, rfl⟩⟩; refine ⟨_, rfl, ?_⟩) | ((with_reducible refine gate_callee (f := 39) rfl ?_); refine goesL_ (some 14) rfl rfl Try.func39 (by kernel_rfl) rfl #[.slice A0_1 l0_1.length c0_1, .int .i64 t152] rfl (by (try simp only [List.map_toArray, List.map_cons, List.map_nil]); first | done | rfl | (simp only [List.length_drop, List.length_take]; rfl)) ?_; (with_reducible refine (laws_heldIntSS.calls k _ _ l0_1 t152 t153 _ ?side1 ?side2 A7.out).mono ?_); (case side1 => repeat (first | exact (Kd.C_below HR0_1.out (by repeat (first | (with_reducible first | exact HB.out | apply below_alloc | apply pw_below_drewN | apply below_drew1 | refine below_set ?_ GE151.out) | exact HB.out))) | (with_reducible refine Kd.C_alloc ?_ _) | (with_reducible refine Kd.C_drewN ?_ _) | (with_reducible refine Kd.C_drew ?_))); (case side2 => exact HC0_1.out); rintro e w' ⟨rfl, ⟨nd, rfl⟩⟩; refine ⟨_, rfl, ?_⟩))
      go_ret
      exact ⟨by first | rfl | (simp [errW_none, errW_some] <;> rfl) | (simp [*, errW_none, errW_some] <;> rfl), by repeat (first | (with_reducible first | exact HB.out | apply below_alloc | apply pw_below_drewN | apply below_drew1 | refine below_set ?_ GE151.out) | exact HB.out)⟩
    · rw [if_neg c8] at H
      have c8b0 : decide (t153 < 0) = false := decide_eq_false c8
      clear c8
      obtain rfl := Option.some.inj H
      go_enter Try.func50, Try.ntmps50
      go_wp2_with (first | ((with_reducible refine gate_dst (N := 2) rfl ?_); refine box_event ?hg (N := 2) ?hd (cs := #[.slice A0_0 l0_0.length c0_0, .slice A0_1 l0_1.length c0_1]) (t := 44) ?hr ?_; (case hd => rfl); (case hg => rfl); (case hr => first | (go_simp; done) | (go_simp; rfl)); intro gb151 hg w11 hbox hb; have n0_ := Aside0.mk (below_step (by repeat (first | (with_reducible first | exact HB.out | apply below_alloc | apply pw_below_drewN | apply below_drew1) | exact HB.out)) hb); have n1_ := Aside0.mk (hbox); have n2_ := Aside0.mk ((by rw [hg]; exact (below_size (by repeat (first | (with_reducible first | exact HB.out | apply below_alloc | apply pw_below_drewN | apply below_drew1) | exact HB.out))) : w.heap.size ≤ gb151)); have n3_ := Aside0.mk ((by rw [hg]; exact (below_size (by repeat (first | (with_reducible first | exact HB.out | apply below_alloc | apply pw_below_drewN | apply below_drew1) | exact HB.out))) : w.heap.size ≤ gb151)); clear HB; have HB := n0_; have BK151 := n1_; have GW151 := n2_; have GE151 := n3_; clear n0_ n1_ n2_ n3_; clear hb hbox hg; have hcz12_0 : w11.cell? ⟨gb151, 0, none⟩ = some (.slice A0_0 l0_0.length c0_0) := (blk_cell BK151.out 0).trans rfl; have hcz12_1 : w11.cell? ⟨gb151, 1, none⟩ = some (.slice A0_1 l0_1.length c0_1) := (blk_cell BK151.out 1).trans rfl; have hfz12_0 := blk_frozen BK151.out 0; have hfz12_1 := blk_frozen BK151.out 1) | ((with_reducible refine gate_callee (f := 20) rfl ?_); refine goesL_ (some 8) rfl rfl Try.func20 (by kernel_rfl) rfl #[.slice A0_0 l0_0.length c0_0, .int .i64 a1] rfl (by (try simp only [List.map_toArray, List.map_cons, List.map_nil]); first | done | rfl | (simp only [List.length_drop, List.length_take]; rfl)) ?_; (with_reducible refine (laws_heldIntS.calls k _ _ l0_0 a1 t152 _ ?side1 ?side2 A3.out).mono ?_); (case side1 => repeat (first | exact (Kd.C_below HR0_0.out HB.out) | (with_reducible refine Kd.C_alloc ?_ _) | (with_reducible refine Kd.C_drewN ?_ _) | (with_reducible refine Kd.C_drew ?_))); (case side2 => exact HC0_0.out); rintro e w' ⟨rfl, ⟨nd, rfl⟩⟩; refine ⟨_, rfl, ?_⟩) | ((with_reducible refine gate_callee (f := 39) rfl ?_); refine goesL_ (some 14) rfl rfl Try.func39 (by kernel_rfl) rfl #[.slice A0_1 l0_1.length c0_1, .int .i64 t152] rfl (by (try simp only [List.map_toArray, List.map_cons, List.map_nil]); first | done | rfl | (simp only [List.length_drop, List.length_take]; rfl)) ?_; (with_reducible refine (laws_heldIntSS.calls k _ _ l0_1 t152 t153 _ ?side1 ?side2 A7.out).mono ?_); (case side1 => repeat (first | exact (Kd.C_below HR0_1.out (by repeat (first | (with_reducible first | exact HB.out | apply below_alloc | apply pw_below_drewN | apply below_drew1 | refine below_set ?_ GE151.out) | exact HB.out))) | (with_reducible refine Kd.C_alloc ?_ _) | (with_reducible refine Kd.C_drewN ?_ _) | (with_reducible refine Kd.C_drew ?_))); (case side2 => exact HC0_1.out); rintro e w' ⟨rfl, ⟨nd, rfl⟩⟩; refine ⟨_, rfl, ?_⟩))
      go_ret
      exact ⟨by first | rfl | (simp [errW_none, errW_some] <;> rfl) | (simp [*, errW_none, errW_some] <;> rfl), by repeat (first | (with_reducible first | exact HB.out | apply below_alloc | apply pw_below_drewN | apply below_drew1 | refine below_set ?_ GE151.out) | exact HB.out)⟩

/-! ### laws_FnExactDeskNew: function 14, told by hand -/
def laws_FnExactDeskNew.f (k : Nat) (l0 : List Int) : Option Bool :=
  if (l0.length : Int) > 1048576 then some true else
  (laws_toIntS.f k l0).bind fun d1 => (spec_DeskNew.f k d1).bind fun w => (laws_toIntS.f k l0).bind fun d2 => (impl_DeskNew.f k d2).bind fun g => (laws_eqDesk.f k g.1 g.2.1 w.1 w.2.1).bind fun e1 => (laws_toIntS.f k l0).bind fun d3 => (laws_eqIntS.f k d2 d3).bind fun e2 =>
  (laws_markIntS.f k d2 1).bind fun m1 => (laws_markDesk.f k g.1 g.2.1 1).bind fun m2 => (laws_heldDesk.f k m2.2.1 m2.2.2 1).bind fun q => (laws_toIntS.f k l0).bind fun d4 => (impl_DeskNew.f k d4).bind fun h => (laws_eqDesk.f k h.1 h.2.1 w.1 w.2.1).bind fun e3 =>
  if g.2.2 = w.2.2 ∧ h.2.2 = w.2.2 ∧ e1 = true ∧ e2 = true ∧ e3 = true ∧ 0 ≤ m1.1 ∧ 0 ≤ q ∧ q = m2.1 then some true else none
set_option maxHeartbeats 16000000 in
set_option maxRecDepth 100000 in
theorem laws_FnExactDeskNew.calls (k : Nat) (A0 : Option Addr) (c0 : Nat) (l0 : List Int) (r : Bool) (w : World) (hr0 : Kd.C (Kd.int .i64) w A0 l0.length l0) (hc0 : l0.length ≤ c0) (h : laws_FnExactDeskNew.f k l0 = some r) :
    Calls Try.prog 14 #[.slice A0 l0.length c0] w fun e w' => e = .returned (.bool r) ∧ Below w.heap.size w w' := by
  have HR0 := Aside0.mk hr0
  have HC0 := Aside0.mk hc0
  clear hr0 hc0
  have HB := Aside0.mk (Below.refl w.heap.size w)
  have HZ := Aside0.mk (Nat.le_refl w.heap.size)
  unfold laws_FnExactDeskNew.f at h
  by_cases c : (l0.length : Int) > 1048576
  · rw [if_pos c] at h
    obtain rfl := Option.some.inj h
    have cb : decide (1048576 < (l0.length : Int)) = true := decide_eq_true c
    clear c
    go_enter Try.func14, Try.ntmps14
    go_wp2
    go_ret
    exact ⟨rfl, HB.out⟩
  · rw [if_neg c] at h
    have cb : decide (1048576 < (l0.length : Int)) = false := decide_eq_false c
    clear c
    obtain ⟨d1, e2_, h⟩ := Option.bind_eq_some_iff.mp h
    obtain ⟨⟨w1, w2, b⟩, e3_, h⟩ := Option.bind_eq_some_iff.mp h
    obtain ⟨d2, e4_, h⟩ := Option.bind_eq_some_iff.mp h
    obtain ⟨⟨g1, g2, b1⟩, e5_, h⟩ := Option.bind_eq_some_iff.mp h
    obtain ⟨q1, e6_, h⟩ := Option.bind_eq_some_iff.mp h
    obtain ⟨d3, e7_, h⟩ := Option.bind_eq_some_iff.mp h
    obtain ⟨q2, e8_, h⟩ := Option.bind_eq_some_iff.mp h
    obtain ⟨⟨m1, y1⟩, e9_, h⟩ := Option.bind_eq_some_iff.mp h
    obtain ⟨⟨m2, y2, y3⟩, e11_, h⟩ := Option.bind_eq_some_iff.mp h
    obtain ⟨q3, e12_, h⟩ := Option.bind_eq_some_iff.mp h
    obtain ⟨d4, e13_, h⟩ := Option.bind_eq_some_iff.mp h
    obtain ⟨⟨h1, h2, b2⟩, e14_, h⟩ := Option.bind_eq_some_iff.mp h
    obtain ⟨q4, e15_, h⟩ := Option.bind_eq_some_iff.mp h
    by_cases z : b1 = b ∧ b2 = b ∧ q1 = true ∧ q2 = true ∧ q4 = true ∧ 0 ≤ m1 ∧ 0 ≤ q3 ∧ q3 = m2
    · rw [if_pos z] at h
      obtain rfl := Option.some.inj h
      obtain ⟨rfl, rfl, rfl, rfl, rfl, z1, z2, rfl⟩ := z
      have E2 := Aside0.mk e2_
      have E3 := Aside0.mk e3_
      have E4 := Aside0.mk e4_
      have E5 := Aside0.mk e5_
      have E6 := Aside0.mk e6_
      have E10 := Aside0.mk e6_
      have E7 := Aside0.mk e7_
      have E8 := Aside0.mk e8_
      have E9 := Aside0.mk e9_
      have E11 := Aside0.mk e11_
      have E12 := Aside0.mk e12_
      have E16 := Aside0.mk e12_
      have E13 := Aside0.mk e13_
      have E14 := Aside0.mk e14_
      have E15 := Aside0.mk e15_
      have zb1 : decide (m1 < 0) = false := decide_eq_false (by omega)
      have zb2 : decide (q3 < 0) = false := decide_eq_false (by omega)
      clear z1 z2
      clear h e2_ e3_ e4_ e5_ e6_ e7_ e8_ e9_ e11_ e12_ e13_ e14_ e15_
      go_enter Try.func14, Try.ntmps14
      go_wp2_with (first
        | (go_at_call 16; (with_reducible refine (laws_toIntS.calls k _ _ l0 d1 _ (Kd.C_below HR0.out HB.out) HC0.out E2.out).mono ?_); clear E2; rintro e W2 ⟨v1, rfl, ho, hb⟩; obtain ⟨lo1, hi1, hq1, hz1, hn1⟩ := obj_R HB.out HZ.out ho hb; obtain ⟨A1, c1, rfl⟩ := Kd.R_slice hn1; have n_ := Aside0.mk (below_step HB.out hb); clear HB; have HB := n_; clear n_; have HQ1 := Aside0.mk hq1; clear HZ; have HZ := Aside0.mk hz1; have HO1 := Aside0.mk hn1; clear hb ho hq1 hz1 hn1)
        | (go_at_call 46; (with_reducible refine (spec_DeskNew.calls k _ _ d1 w1 w2 b2 _ (Kd.R_reads' HO1.out).2.2 (Kd.R_reads' HO1.out).2.1 E3.out).mono ?_); clear E3; rintro e W3 ⟨v2, u2, rfl, ho, ho2, hb⟩; obtain ⟨lo2, hq2, hn2, hm2⟩ := obj_D2 HB.out HZ.out ho ho2 hb; obtain ⟨A2, c2, rfl⟩ := Kd.R_slice hn2; obtain ⟨B2, cc2, rfl⟩ := Kd.S_slice hm2; clear ho ho2; replace hb := below_alloc hb (.cells #[.slice A2 w1.length c2, .slice B2 w2.length cc2] 44); have n_ := Aside0.mk (Kd.R_below HO1.out hb); clear HO1; have HO1 := n_; clear n_; have n_ := Aside0.mk (below_step HB.out hb); clear HB; have HB := n_; clear n_; have HQ2 := Aside0.mk hq2; clear HZ; have HZ := Aside0.mk (alloc_size1 W3 (.cells #[.slice A2 w1.length c2, .slice B2 w2.length cc2] 44)); have HO2 := Aside0.mk (Kd.R_alloc hn2 (.cells #[.slice A2 w1.length c2, .slice B2 w2.length cc2] 44)); have HP2 := Aside0.mk (Kd.S_alloc hm2 (.cells #[.slice A2 w1.length c2, .slice B2 w2.length cc2] 44)); have HX2 := Aside0.mk (blk_new W3 (.cells #[.slice A2 w1.length c2, .slice B2 w2.length cc2] 44)); clear hb hq2 hn2 hm2)
        | (go_at_call 16; (with_reducible refine (laws_toIntS.calls k _ _ l0 d2 _ (Kd.C_below HR0.out HB.out) HC0.out E4.out).mono ?_); clear E4; rintro e W4 ⟨v3, rfl, ho, hb⟩; obtain ⟨lo3, hi3, hq3, hz3, hn3⟩ := obj_R HB.out HZ.out ho hb; obtain ⟨A3, c3, rfl⟩ := Kd.R_slice hn3; have n_ := Aside0.mk (Kd.R_below HO1.out hb); clear HO1; have HO1 := n_; clear n_; have n_ := Aside0.mk (Kd.R_below HO2.out hb); clear HO2; have HO2 := n_; clear n_; have n_ := Aside0.mk (Kd.S_below HP2.out hb); clear HP2; have HP2 := n_; clear n_; have n_ := Aside0.mk (blk_below HX2.out hb); clear HX2; have HX2 := n_; clear n_; have HX2a := cell2_0 HX2.out; have HX2b := cell2_1 HX2.out; have n_ := Aside0.mk (below_step HB.out hb); clear HB; have HB := n_; clear n_; have HQ3 := Aside0.mk hq3; clear HZ; have HZ := Aside0.mk hz3; have HO3 := Aside0.mk hn3; clear hb ho hq3 hz3 hn3)
        | (go_at_call 47; (with_reducible refine (impl_DeskNew.calls k _ _ d2 g1 g2 b2 _ (Kd.R_reads' HO3.out).2.2 (Kd.R_reads' HO3.out).2.1 E5.out).mono ?_); clear E5; rintro e W5 ⟨v4, u4, rfl, ho, ho2, hb⟩; obtain ⟨lo4, hq4, hn4, hm4⟩ := obj_D2 HB.out HZ.out ho ho2 hb; obtain ⟨A4, c4, rfl⟩ := Kd.R_slice hn4; obtain ⟨B4, cc4, rfl⟩ := Kd.S_slice hm4; clear ho ho2; replace hb := below_alloc hb (.cells #[.slice A4 g1.length c4, .slice B4 g2.length cc4] 44); have n_ := Aside0.mk (Kd.R_below HO1.out hb); clear HO1; have HO1 := n_; clear n_; have n_ := Aside0.mk (Kd.R_below HO2.out hb); clear HO2; have HO2 := n_; clear n_; have n_ := Aside0.mk (Kd.S_below HP2.out hb); clear HP2; have HP2 := n_; clear n_; have n_ := Aside0.mk (Kd.R_below HO3.out hb); clear HO3; have HO3 := n_; clear n_; have n_ := Aside0.mk (blk_below HX2.out hb); clear HX2 HX2a HX2b; have HX2 := n_; clear n_; have HX2a := cell2_0 HX2.out; have HX2b := cell2_1 HX2.out; have n_ := Aside0.mk (below_step HB.out hb); clear HB; have HB := n_; clear n_; have HQ4 := Aside0.mk hq4; clear HZ; have HZ := Aside0.mk (alloc_size1 W5 (.cells #[.slice A4 g1.length c4, .slice B4 g2.length cc4] 44)); have HO4 := Aside0.mk (Kd.R_alloc hn4 (.cells #[.slice A4 g1.length c4, .slice B4 g2.length cc4] 44)); have HP4 := Aside0.mk (Kd.S_alloc hm4 (.cells #[.slice A4 g1.length c4, .slice B4 g2.length cc4] 44)); have HX4 := Aside0.mk (blk_new W5 (.cells #[.slice A4 g1.length c4, .slice B4 g2.length cc4] 44)); clear hb hq4 hn4 hm4)
        | (go_at_call 48; (with_reducible refine (laws_eqDesk.calls k _ _ g1 _ _ g2 _ _ w1 _ _ w2 true _ (Kd.R_reads' HO4.out).2.2 (Kd.R_reads' HO4.out).2.1 (Kd.S_reads' HP4.out).2.2 (Kd.S_reads' HP4.out).2.1 (Kd.R_reads' HO2.out).2.2 (Kd.R_reads' HO2.out).2.1 (Kd.S_reads' HP2.out).2.2 (Kd.S_reads' HP2.out).2.1 E6.out).mono ?_); clear E6; rintro e W6 ⟨rfl, hb⟩; have n_ := Aside0.mk (Kd.R_below HO1.out hb); clear HO1; have HO1 := n_; clear n_; have n_ := Aside0.mk (Kd.R_below HO2.out hb); clear HO2; have HO2 := n_; clear n_; have n_ := Aside0.mk (Kd.S_below HP2.out hb); clear HP2; have HP2 := n_; clear n_; have n_ := Aside0.mk (Kd.R_below HO3.out hb); clear HO3; have HO3 := n_; clear n_; have n_ := Aside0.mk (Kd.R_below HO4.out hb); clear HO4; have HO4 := n_; clear n_; have n_ := Aside0.mk (Kd.S_below HP4.out hb); clear HP4; have HP4 := n_; clear n_; have n_ := Aside0.mk (blk_below HX2.out hb); clear HX2 HX2a HX2b; have HX2 := n_; clear n_; have HX2a := cell2_0 HX2.out; have HX2b := cell2_1 HX2.out; have n_ := Aside0.mk (blk_below HX4.out hb); clear HX4; have HX4 := n_; clear n_; have HX4a := cell2_0 HX4.out; have HX4b := cell2_1 HX4.out; have n_ := Aside0.mk (below_step HB.out hb); clear HB; have HB := n_; clear n_; have n_ := Aside0.mk (Nat.le_trans HZ.out hb.size); clear HZ; have HZ := n_; clear n_ hb)
        | (go_at_call 16; (with_reducible refine (laws_toIntS.calls k _ _ l0 d3 _ (Kd.C_below HR0.out HB.out) HC0.out E7.out).mono ?_); clear E7; rintro e W7 ⟨v5, rfl, ho, hb⟩; obtain ⟨lo5, hi5, hq5, hz5, hn5⟩ := obj_R HB.out HZ.out ho hb; obtain ⟨A5, c5, rfl⟩ := Kd.R_slice hn5; have n_ := Aside0.mk (Kd.R_below HO1.out hb); clear HO1; have HO1 := n_; clear n_; have n_ := Aside0.mk (Kd.R_below HO2.out hb); clear HO2; have HO2 := n_; clear n_; have n_ := Aside0.mk (Kd.S_below HP2.out hb); clear HP2; have HP2 := n_; clear n_; have n_ := Aside0.mk (Kd.R_below HO3.out hb); clear HO3; have HO3 := n_; clear n_; have n_ := Aside0.mk (Kd.R_below HO4.out hb); clear HO4; have HO4 := n_; clear n_; have n_ := Aside0.mk (Kd.S_below HP4.out hb); clear HP4; have HP4 := n_; clear n_; have n_ := Aside0.mk (blk_below HX2.out hb); clear HX2 HX2a HX2b; have HX2 := n_; clear n_; have HX2a := cell2_0 HX2.out; have HX2b := cell2_1 HX2.out; have n_ := Aside0.mk (blk_below HX4.out hb); clear HX4 HX4a HX4b; have HX4 := n_; clear n_; have HX4a := cell2_0 HX4.out; have HX4b := cell2_1 HX4.out; have n_ := Aside0.mk (below_step HB.out hb); clear HB; have HB := n_; clear n_; have HQ5 := Aside0.mk hq5; clear HZ; have HZ := Aside0.mk hz5; have HO5 := Aside0.mk hn5; clear hb ho hq5 hz5 hn5)
        | (go_at_call 18; (with_reducible refine (laws_eqIntS.calls k _ _ d2 _ _ d3 true _ (Kd.R_reads' HO3.out).2.2 (Kd.R_reads' HO3.out).2.1 (Kd.R_reads' HO5.out).2.2 (Kd.R_reads' HO5.out).2.1 E8.out).mono ?_); clear E8; rintro e W8 ⟨rfl, hd⟩; have hb := below_drawn hd; clear hd; have n_ := Aside0.mk (Kd.R_below HO1.out hb); clear HO1; have HO1 := n_; clear n_; have n_ := Aside0.mk (Kd.R_below HO2.out hb); clear HO2; have HO2 := n_; clear n_; have n_ := Aside0.mk (Kd.S_below HP2.out hb); clear HP2; have HP2 := n_; clear n_; have n_ := Aside0.mk (Kd.R_below HO3.out hb); clear HO3; have HO3 := n_; clear n_; have n_ := Aside0.mk (Kd.R_below HO4.out hb); clear HO4; have HO4 := n_; clear n_; have n_ := Aside0.mk (Kd.S_below HP4.out hb); clear HP4; have HP4 := n_; clear n_; have n_ := Aside0.mk (Kd.R_below HO5.out hb); clear HO5; have HO5 := n_; clear n_; have n_ := Aside0.mk (blk_below HX2.out hb); clear HX2 HX2a HX2b; have HX2 := n_; clear n_; have HX2a := cell2_0 HX2.out; have HX2b := cell2_1 HX2.out; have n_ := Aside0.mk (blk_below HX4.out hb); clear HX4 HX4a HX4b; have HX4 := n_; clear n_; have HX4a := cell2_0 HX4.out; have HX4b := cell2_1 HX4.out; have n_ := Aside0.mk (below_step HB.out hb); clear HB; have HB := n_; clear n_; have n_ := Aside0.mk (Nat.le_trans HZ.out hb.size); clear HZ; have HZ := n_; clear n_ hb)
        | (go_at_call 19; (with_reducible refine (laws_markIntS.calls k (fun k => lo3 ≤ k ∧ k < hi3) _ d2 1 m1 y1 w _ HB.out HO3.out E9.out).mono ?_); clear E9; rintro e W9 ⟨rfl, hs, hb, hk⟩; clear hs; have n_ := Aside0.mk (Kd.R_kept HO1.out hk (fun k hk2 hj => by have q1 := HQ1.out; have q2 := HQ2.out; have q3 := HQ3.out; have q4 := HQ4.out; have q5 := HQ5.out; have h1 := hk2; have h2 := hj; omega)); clear HO1; have HO1 := n_; clear n_; have n_ := Aside0.mk (Kd.R_kept HO2.out hk (fun k hk2 hj => by have q1 := HQ1.out; have q2 := HQ2.out; have q3 := HQ3.out; have q4 := HQ4.out; have q5 := HQ5.out; have h1 := hk2; have h2 := hj; omega)); clear HO2; have HO2 := n_; clear n_; have n_ := Aside0.mk (Kd.S_kept HP2.out hk (fun k hk2 hj => by have q1 := HQ1.out; have q2 := HQ2.out; have q3 := HQ3.out; have q4 := HQ4.out; have q5 := HQ5.out; have h1 := hk2.1; have h2 := hj; omega)); clear HP2; have HP2 := n_; clear n_; have n_ := Aside0.mk (Kd.R_kept HO4.out hk (fun k hk2 hj => by have q1 := HQ1.out; have q2 := HQ2.out; have q3 := HQ3.out; have q4 := HQ4.out; have q5 := HQ5.out; have h1 := hk2; have h2 := hj; omega)); clear HO4; have HO4 := n_; clear n_; have n_ := Aside0.mk (Kd.S_kept HP4.out hk (fun k hk2 hj => by have q1 := HQ1.out; have q2 := HQ2.out; have q3 := HQ3.out; have q4 := HQ4.out; have q5 := HQ5.out; have h1 := hk2.1; have h2 := hj; omega)); clear HP4; have HP4 := n_; clear n_; have n_ := Aside0.mk (Kd.R_kept HO5.out hk (fun k hk2 hj => by have q1 := HQ1.out; have q2 := HQ2.out; have q3 := HQ3.out; have q4 := HQ4.out; have q5 := HQ5.out; have h1 := hk2; have h2 := hj; omega)); clear HO5; have HO5 := n_; clear n_; have n_ := Aside0.mk (blk_kept HX2.out hk (fun hj => by have q1 := HQ1.out; have q2 := HQ2.out; have q3 := HQ3.out; have q4 := HQ4.out; have q5 := HQ5.out; have h2 := hj; omega)); clear HX2 HX2a HX2b; have HX2 := n_; clear n_; have HX2a := cell2_0 HX2.out; have HX2b := cell2_1 HX2.out; have n_ := Aside0.mk (blk_kept HX4.out hk (fun hj => by have q1 := HQ1.out; have q2 := HQ2.out; have q3 := HQ3.out; have q4 := HQ4.out; have q5 := HQ5.out; have h2 := hj; omega)); clear HX4 HX4a HX4b; have HX4 := n_; clear n_; have HX4a := cell2_0 HX4.out; have HX4b := cell2_1 HX4.out; clear HO3; have n_ := Aside0.mk (Nat.le_trans HZ.out hk.1); clear HZ; have HZ := n_; clear n_; have n_ := Aside0.mk hb; clear HB; have HB := n_; clear n_ hb hk)
        | (go_at_call 48; (with_reducible refine (laws_eqDesk.calls k _ _ g1 _ _ g2 _ _ w1 _ _ w2 true _ (Kd.R_reads' HO4.out).2.2 (Kd.R_reads' HO4.out).2.1 (Kd.S_reads' HP4.out).2.2 (Kd.S_reads' HP4.out).2.1 (Kd.R_reads' HO2.out).2.2 (Kd.R_reads' HO2.out).2.1 (Kd.S_reads' HP2.out).2.2 (Kd.S_reads' HP2.out).2.1 E10.out).mono ?_); clear E10; rintro e W10 ⟨rfl, hb⟩; have n_ := Aside0.mk (Kd.R_below HO1.out hb); clear HO1; have HO1 := n_; clear n_; have n_ := Aside0.mk (Kd.R_below HO2.out hb); clear HO2; have HO2 := n_; clear n_; have n_ := Aside0.mk (Kd.S_below HP2.out hb); clear HP2; have HP2 := n_; clear n_; have n_ := Aside0.mk (Kd.R_below HO4.out hb); clear HO4; have HO4 := n_; clear n_; have n_ := Aside0.mk (Kd.S_below HP4.out hb); clear HP4; have HP4 := n_; clear n_; have n_ := Aside0.mk (Kd.R_below HO5.out hb); clear HO5; have HO5 := n_; clear n_; have n_ := Aside0.mk (blk_below HX2.out hb); clear HX2 HX2a HX2b; have HX2 := n_; clear n_; have HX2a := cell2_0 HX2.out; have HX2b := cell2_1 HX2.out; have n_ := Aside0.mk (blk_below HX4.out hb); clear HX4 HX4a HX4b; have HX4 := n_; clear n_; have HX4a := cell2_0 HX4.out; have HX4b := cell2_1 HX4.out; have n_ := Aside0.mk (below_step HB.out hb); clear HB; have HB := n_; clear n_; have n_ := Aside0.mk (Nat.le_trans HZ.out hb.size); clear HZ; have HZ := n_; clear n_ hb)
        | (go_at_call 49; (with_reducible refine (laws_markDesk.calls k (fun k => lo4 ≤ k ∧ k < W5.heap.size) (fun k => (lo4 ≤ k ∧ k < W5.heap.size) ∧ some k ≠ ((.slice A4 g1.length c4) : Value).ownBlock) _ _ g1 g2 1 q3 y2 y3 w _ HB.out HO4.out HP4.out (fun k hk => hk.2) E11.out).mono ?_); clear E11; rintro e W11 ⟨rfl, hs, hs2, hb, hk⟩; have hl := (Kd.R_reads' hs).1; rw [hl] at hs hs2 hk; (try rw [hl]); (try rw [hl] at HX4); clear hl; have hl := (Kd.S_reads' hs2).1; rw [hl] at hs2; (try rw [hl]); (try rw [hl] at HX4); clear hl; replace hk := Kept.mono (S' := fun k => (lo4 ≤ k ∧ k < W5.heap.size) ∨ (lo4 ≤ k ∧ k < W5.heap.size)) hk (fun k hk => hk.elim (fun h => .inl h) (fun h => .inr h.1)); have n_ := Aside0.mk (Kd.R_kept HO1.out hk (fun k hk2 hj => by have q1 := HQ1.out; have q2 := HQ2.out; have q3 := HQ3.out; have q4 := HQ4.out; have q5 := HQ5.out; have h1 := hk2; have h2 := hj.elim id id; omega)); clear HO1; have HO1 := n_; clear n_; have n_ := Aside0.mk (Kd.R_kept HO2.out hk (fun k hk2 hj => by have q1 := HQ1.out; have q2 := HQ2.out; have q3 := HQ3.out; have q4 := HQ4.out; have q5 := HQ5.out; have h1 := hk2; have h2 := hj.elim id id; omega)); clear HO2; have HO2 := n_; clear n_; have n_ := Aside0.mk (Kd.S_kept HP2.out hk (fun k hk2 hj => by have q1 := HQ1.out; have q2 := HQ2.out; have q3 := HQ3.out; have q4 := HQ4.out; have q5 := HQ5.out; have h1 := hk2.1; have h2 := hj.elim id id; omega)); clear HP2; have HP2 := n_; clear n_; have n_ := Aside0.mk (Kd.R_kept HO5.out hk (fun k hk2 hj => by have q1 := HQ1.out; have q2 := HQ2.out; have q3 := HQ3.out; have q4 := HQ4.out; have q5 := HQ5.out; have h1 := hk2; have h2 := hj.elim id id; omega)); clear HO5; have HO5 := n_; clear n_; have n_ := Aside0.mk (blk_kept HX2.out hk (fun hj => by have q1 := HQ1.out; have q2 := HQ2.out; have q3 := HQ3.out; have q4 := HQ4.out; have q5 := HQ5.out; have h2 := hj.elim id id; omega)); clear HX2 HX2a HX2b; have HX2 := n_; clear n_; have HX2a := cell2_0 HX2.out; have HX2b := cell2_1 HX2.out; have n_ := Aside0.mk (blk_kept HX4.out hk (fun hj => by have q1 := HQ1.out; have q2 := HQ2.out; have q3 := HQ3.out; have q4 := HQ4.out; have q5 := HQ5.out; have h2 := hj.elim id id; omega)); clear HX4 HX4a HX4b; have HX4 := n_; clear n_; have HX4a := cell2_0 HX4.out; have HX4b := cell2_1 HX4.out; have HO_ := Aside0.mk hs; have HP_ := Aside0.mk hs2; clear HO4 HP4; have HO4 := HO_; have HP4 := HP_; clear HO_ HP_ hs hs2; have n_ := Aside0.mk (Nat.le_trans HZ.out hk.1); clear HZ; have HZ := n_; clear n_; have n_ := Aside0.mk hb; clear HB; have HB := n_; clear n_ hb hk)
        | (go_at_call 50; (with_reducible refine (laws_heldDesk.calls k _ _ y2 _ _ y3 1 q3 _ (Kd.R_reads' HO4.out).2.2 (Kd.R_reads' HO4.out).2.1 (Kd.S_reads' HP4.out).2.2 (Kd.S_reads' HP4.out).2.1 E12.out).mono ?_); clear E12; rintro e W12 ⟨rfl, hb⟩; have n_ := Aside0.mk (Kd.R_below HO1.out hb); clear HO1; have HO1 := n_; clear n_; have n_ := Aside0.mk (Kd.R_below HO2.out hb); clear HO2; have HO2 := n_; clear n_; have n_ := Aside0.mk (Kd.S_below HP2.out hb); clear HP2; have HP2 := n_; clear n_; have n_ := Aside0.mk (Kd.R_below HO4.out hb); clear HO4; have HO4 := n_; clear n_; have n_ := Aside0.mk (Kd.S_below HP4.out hb); clear HP4; have HP4 := n_; clear n_; have n_ := Aside0.mk (Kd.R_below HO5.out hb); clear HO5; have HO5 := n_; clear n_; have n_ := Aside0.mk (blk_below HX2.out hb); clear HX2 HX2a HX2b; have HX2 := n_; clear n_; have HX2a := cell2_0 HX2.out; have HX2b := cell2_1 HX2.out; have n_ := Aside0.mk (blk_below HX4.out hb); clear HX4 HX4a HX4b; have HX4 := n_; clear n_; have HX4a := cell2_0 HX4.out; have HX4b := cell2_1 HX4.out; have n_ := Aside0.mk (below_step HB.out hb); clear HB; have HB := n_; clear n_; have n_ := Aside0.mk (Nat.le_trans HZ.out hb.size); clear HZ; have HZ := n_; clear n_ hb)
        | (go_at_call 16; (with_reducible refine (laws_toIntS.calls k _ _ l0 d4 _ (Kd.C_below HR0.out HB.out) HC0.out E13.out).mono ?_); clear E13; rintro e W13 ⟨v6, rfl, ho, hb⟩; obtain ⟨lo6, hi6, hq6, hz6, hn6⟩ := obj_R HB.out HZ.out ho hb; obtain ⟨A6, c6, rfl⟩ := Kd.R_slice hn6; have n_ := Aside0.mk (Kd.R_below HO1.out hb); clear HO1; have HO1 := n_; clear n_; have n_ := Aside0.mk (Kd.R_below HO2.out hb); clear HO2; have HO2 := n_; clear n_; have n_ := Aside0.mk (Kd.S_below HP2.out hb); clear HP2; have HP2 := n_; clear n_; have n_ := Aside0.mk (Kd.R_below HO4.out hb); clear HO4; have HO4 := n_; clear n_; have n_ := Aside0.mk (Kd.S_below HP4.out hb); clear HP4; have HP4 := n_; clear n_; have n_ := Aside0.mk (Kd.R_below HO5.out hb); clear HO5; have HO5 := n_; clear n_; have n_ := Aside0.mk (blk_below HX2.out hb); clear HX2 HX2a HX2b; have HX2 := n_; clear n_; have HX2a := cell2_0 HX2.out; have HX2b := cell2_1 HX2.out; have n_ := Aside0.mk (blk_below HX4.out hb); clear HX4 HX4a HX4b; have HX4 := n_; clear n_; have HX4a := cell2_0 HX4.out; have HX4b := cell2_1 HX4.out; have n_ := Aside0.mk (below_step HB.out hb); clear HB; have HB := n_; clear n_; have HQ6 := Aside0.mk hq6; clear HZ; have HZ := Aside0.mk hz6; have HO6 := Aside0.mk hn6; clear hb ho hq6 hz6 hn6)
        | (go_at_call 47; (with_reducible refine (impl_DeskNew.calls k _ _ d4 h1 h2 b2 _ (Kd.R_reads' HO6.out).2.2 (Kd.R_reads' HO6.out).2.1 E14.out).mono ?_); clear E14; rintro e W14 ⟨v7, u7, rfl, ho, ho2, hb⟩; obtain ⟨lo7, hq7, hn7, hm7⟩ := obj_D2 HB.out HZ.out ho ho2 hb; obtain ⟨A7, c7, rfl⟩ := Kd.R_slice hn7; obtain ⟨B7, cc7, rfl⟩ := Kd.S_slice hm7; clear ho ho2; replace hb := below_alloc hb (.cells #[.slice A7 h1.length c7, .slice B7 h2.length cc7] 44); have n_ := Aside0.mk (Kd.R_below HO1.out hb); clear HO1; have HO1 := n_; clear n_; have n_ := Aside0.mk (Kd.R_below HO2.out hb); clear HO2; have HO2 := n_; clear n_; have n_ := Aside0.mk (Kd.S_below HP2.out hb); clear HP2; have HP2 := n_; clear n_; have n_ := Aside0.mk (Kd.R_below HO4.out hb); clear HO4; have HO4 := n_; clear n_; have n_ := Aside0.mk (Kd.S_below HP4.out hb); clear HP4; have HP4 := n_; clear n_; have n_ := Aside0.mk (Kd.R_below HO5.out hb); clear HO5; have HO5 := n_; clear n_; have n_ := Aside0.mk (Kd.R_below HO6.out hb); clear HO6; have HO6 := n_; clear n_; have n_ := Aside0.mk (blk_below HX2.out hb); clear HX2 HX2a HX2b; have HX2 := n_; clear n_; have HX2a := cell2_0 HX2.out; have HX2b := cell2_1 HX2.out; have n_ := Aside0.mk (blk_below HX4.out hb); clear HX4 HX4a HX4b; have HX4 := n_; clear n_; have HX4a := cell2_0 HX4.out; have HX4b := cell2_1 HX4.out; have n_ := Aside0.mk (below_step HB.out hb); clear HB; have HB := n_; clear n_; have HQ7 := Aside0.mk hq7; clear HZ; have HZ := Aside0.mk (alloc_size1 W14 (.cells #[.slice A7 h1.length c7, .slice B7 h2.length cc7] 44)); have HO7 := Aside0.mk (Kd.R_alloc hn7 (.cells #[.slice A7 h1.length c7, .slice B7 h2.length cc7] 44)); have HP7 := Aside0.mk (Kd.S_alloc hm7 (.cells #[.slice A7 h1.length c7, .slice B7 h2.length cc7] 44)); have HX7 := Aside0.mk (blk_new W14 (.cells #[.slice A7 h1.length c7, .slice B7 h2.length cc7] 44)); clear hb hq7 hn7 hm7)
        | (go_at_call 48; (with_reducible refine (laws_eqDesk.calls k _ _ h1 _ _ h2 _ _ w1 _ _ w2 true _ (Kd.R_reads' HO7.out).2.2 (Kd.R_reads' HO7.out).2.1 (Kd.S_reads' HP7.out).2.2 (Kd.S_reads' HP7.out).2.1 (Kd.R_reads' HO2.out).2.2 (Kd.R_reads' HO2.out).2.1 (Kd.S_reads' HP2.out).2.2 (Kd.S_reads' HP2.out).2.1 E15.out).mono ?_); clear E15; rintro e W15 ⟨rfl, hb⟩; have n_ := Aside0.mk (Kd.R_below HO1.out hb); clear HO1; have HO1 := n_; clear n_; have n_ := Aside0.mk (Kd.R_below HO2.out hb); clear HO2; have HO2 := n_; clear n_; have n_ := Aside0.mk (Kd.S_below HP2.out hb); clear HP2; have HP2 := n_; clear n_; have n_ := Aside0.mk (Kd.R_below HO4.out hb); clear HO4; have HO4 := n_; clear n_; have n_ := Aside0.mk (Kd.S_below HP4.out hb); clear HP4; have HP4 := n_; clear n_; have n_ := Aside0.mk (Kd.R_below HO5.out hb); clear HO5; have HO5 := n_; clear n_; have n_ := Aside0.mk (Kd.R_below HO6.out hb); clear HO6; have HO6 := n_; clear n_; have n_ := Aside0.mk (Kd.R_below HO7.out hb); clear HO7; have HO7 := n_; clear n_; have n_ := Aside0.mk (Kd.S_below HP7.out hb); clear HP7; have HP7 := n_; clear n_; have n_ := Aside0.mk (blk_below HX2.out hb); clear HX2 HX2a HX2b; have HX2 := n_; clear n_; have HX2a := cell2_0 HX2.out; have HX2b := cell2_1 HX2.out; have n_ := Aside0.mk (blk_below HX4.out hb); clear HX4 HX4a HX4b; have HX4 := n_; clear n_; have HX4a := cell2_0 HX4.out; have HX4b := cell2_1 HX4.out; have n_ := Aside0.mk (blk_below HX7.out hb); clear HX7; have HX7 := n_; clear n_; have HX7a := cell2_0 HX7.out; have HX7b := cell2_1 HX7.out; have n_ := Aside0.mk (below_step HB.out hb); clear HB; have HB := n_; clear n_; have n_ := Aside0.mk (Nat.le_trans HZ.out hb.size); clear HZ; have HZ := n_; clear n_ hb)
        | (go_at_call 50; (with_reducible refine (laws_heldDesk.calls k _ _ y2 _ _ y3 1 q3 _ (Kd.R_reads' HO4.out).2.2 (Kd.R_reads' HO4.out).2.1 (Kd.S_reads' HP4.out).2.2 (Kd.S_reads' HP4.out).2.1 E16.out).mono ?_); clear E16; rintro e W16 ⟨rfl, hb⟩; have n_ := Aside0.mk (Kd.R_below HO1.out hb); clear HO1; have HO1 := n_; clear n_; have n_ := Aside0.mk (Kd.R_below HO2.out hb); clear HO2; have HO2 := n_; clear n_; have n_ := Aside0.mk (Kd.S_below HP2.out hb); clear HP2; have HP2 := n_; clear n_; have n_ := Aside0.mk (Kd.R_below HO4.out hb); clear HO4; have HO4 := n_; clear n_; have n_ := Aside0.mk (Kd.S_below HP4.out hb); clear HP4; have HP4 := n_; clear n_; have n_ := Aside0.mk (Kd.R_below HO5.out hb); clear HO5; have HO5 := n_; clear n_; have n_ := Aside0.mk (Kd.R_below HO6.out hb); clear HO6; have HO6 := n_; clear n_; have n_ := Aside0.mk (Kd.R_below HO7.out hb); clear HO7; have HO7 := n_; clear n_; have n_ := Aside0.mk (Kd.S_below HP7.out hb); clear HP7; have HP7 := n_; clear n_; have n_ := Aside0.mk (blk_below HX2.out hb); clear HX2 HX2a HX2b; have HX2 := n_; clear n_; have HX2a := cell2_0 HX2.out; have HX2b := cell2_1 HX2.out; have n_ := Aside0.mk (blk_below HX4.out hb); clear HX4 HX4a HX4b; have HX4 := n_; clear n_; have HX4a := cell2_0 HX4.out; have HX4b := cell2_1 HX4.out; have n_ := Aside0.mk (blk_below HX7.out hb); clear HX7 HX7a HX7b; have HX7 := n_; clear n_; have HX7a := cell2_0 HX7.out; have HX7b := cell2_1 HX7.out; have n_ := Aside0.mk (below_step HB.out hb); clear HB; have HB := n_; clear n_; have n_ := Aside0.mk (Nat.le_trans HZ.out hb.size); clear HZ; have HZ := n_; clear n_ hb))
      go_ret
      exact ⟨rfl, HB.out⟩
    · rw [if_neg z] at h
      cases h

end Go.Proofs.Ytpdnocpnibcicaa.LG
