/- Printed by a program of this session (wip/lp/lp.py) out of the translation: functions with the same answers as the Go code, and their contracts; no conditions beyond those that each theorem names. -/
import Derived.Test.YtpdnocpnibcicaaLFx0
import Derived.Test.YtpdnocpnibcicaaLFx1
import Derived.Test.YtpdnocpnibcicaaLFx2
import Derived.Test.YtpdnocpnibcicaaLFx3
namespace Go.Proofs.Ytpdnocpnibcicaa.LF
open Go.RowKit Go.Proofs.YtpdnocpnibcicaaV.PrintWords Go.Proofs.YtpdnocpnibcicaaV.PrintLast Go.Proofs.YtpdnocpnibcicaaV.PrintMore
attribute [local go_sem] max2_int min2_int max_two min_two max_three min_three max_four min_four   -- for this text's walks alone
set_option linter.unusedVariables false
set_option linter.unusedSimpArgs false

/-! ### laws_eqIntSS: function 37 -/
def laws_eqIntSS.l0 : Nat → List (List Int) → List (List Int) → Int → Option (Bool)
  | 0, _, _, _ => none
  | k + 1, x0, x1, x5 => if x5 < (x0.length : Int) then (if 0 ≤ x5 then (if x5 < (x1.length : Int) then ((laws_eqIntS.f k (rd_L1 x0 x5) (rd_L1 x1 x5)).bind fun t179 => (if t179 = true then (laws_eqIntSS.l0 k x0 x1 (wrap64 (x5 + 1))) else (some false))) else (none)) else (none)) else (some true)
def laws_eqIntSS.f (k : Nat) (l0 : List (List Int)) (l1 : List (List Int)) : Option (Bool) := if (l0.length : Int) = (l1.length : Int) then (laws_eqIntSS.l0 k l0 l1 0) else (some false)
theorem laws_eqIntSS.mono_l : ∀ k, (∀ y0 y1 y2, LeO (laws_eqIntSS.l0 k y0 y1 y2) (laws_eqIntSS.l0 (k + 1) y0 y1 y2))
  | 0 => fun _ _ _ r h => by simp [laws_eqIntSS.l0] at h
  | k + 1 => by
    have ih0 := laws_eqIntSS.mono_l k
    · intro y0 y1 y2
      unfold laws_eqIntSS.l0
      repeat' first
      | (with_reducible exact ih0 _ _ _)
      | (with_reducible exact laws_eqIntS.mono _ _ _)
      | (with_reducible exact LeO.refl _)
      | (with_reducible exact LeO.none _)
      | (with_reducible refine LeO.ite ?_ ?_)
      | (with_reducible refine LeO.bind ?_ (fun _ => ?_))
      | exact ih0 _ _ _
      | exact laws_eqIntS.mono _ _ _
      | exact LeO.none _
      | refine LeO.ite ?_ ?_
      | refine LeO.bind ?_ (fun _ => ?_)
theorem laws_eqIntSS.mono : ∀ a0 a1 k, LeO (laws_eqIntSS.f k a0 a1) (laws_eqIntSS.f (k + 1) a0 a1) := by
  intro a0 a1 k
  have ih0 := laws_eqIntSS.mono_l k
  unfold laws_eqIntSS.f
  repeat' first
      | (with_reducible exact ih0 _ _ _)
      | (with_reducible exact laws_eqIntS.mono _ _ _)
      | (with_reducible exact LeO.refl _)
      | (with_reducible exact LeO.none _)
      | (with_reducible refine LeO.ite ?_ ?_)
      | (with_reducible refine LeO.bind ?_ (fun _ => ?_))
      | exact ih0 _ _ _
      | exact laws_eqIntS.mono _ _ _
      | exact LeO.none _
      | refine LeO.ite ?_ ?_
      | refine LeO.bind ?_ (fun _ => ?_)
set_option maxHeartbeats 8000000 in
set_option maxRecDepth 100000 in
theorem laws_eqIntSS.calls (k : Nat) (A0 : Option Addr) (c0 : Nat) (l0 : List (List Int)) (A1 : Option Addr) (c1 : Nat) (l1 : List (List Int)) (r : Bool) (w : World) (hr0 : Kd.C (Kd.slice 3 (Kd.int .i64)) w A0 l0.length l0) (hc0 : l0.length ≤ c0) (hr1 : Kd.C (Kd.slice 3 (Kd.int .i64)) w A1 l1.length l1) (hc1 : l1.length ≤ c1) (h : laws_eqIntSS.f k l0 l1 = some r) :
    Calls Try.prog 37 #[.slice A0 l0.length c0, .slice A1 l1.length c1] w fun e w' => e = .returned (.bool r) ∧ Drawn0 w w' := by
  have HR0 := Aside0.mk hr0
  have HC0 := Aside0.mk hc0
  clear hr0 hc0
  have HR1 := Aside0.mk hr1
  have HC1 := Aside0.mk hc1
  clear hr1 hc1
  have H : (if (l0.length : Int) = (l1.length : Int) then (laws_eqIntSS.l0 k l0 l1 0) else (some false)) = some r := h
  clear h
  by_cases c3 : (l0.length : Int) = (l1.length : Int)
  · rw [if_pos c3] at H
    have c3b0 : ((l0.length : Int) == (l1.length : Int)) = true := beq_iff_eq.mpr c3
    have c3b1 : ((l0.length : Int) != (l1.length : Int)) = false := bne_eq_false_iff_eq.mpr c3
    have c3b2 : (l0.length == l1.length) = true := by first | simpa using c3 | (simp at c3 ⊢; omega)
    clear c3
    have H' := Aside0.mk H
    clear H
    go_enter Try.func37, Try.ntmps37
    go_wp2
    repeat (go_quiet (fail); try go_wp2)
    go_loopg [5] k (fun kq v5 w' => ∃ (x5_1 : Int), v5 = .int .i64 x5_1 ∧ Aside0 (laws_eqIntSS.l0 kq l0 l1 x5_1 = some r) ∧ Aside0 (kq ≤ k) ∧ Drawn0 w w')
    case atStart => exact ⟨(0), (by first | rfl | (simp; done) | (simp [*]; done)), H', ⟨Nat.le_refl _⟩, by repeat (first | exact Drawn0.refl _ | apply Drawn0.step)⟩
    case round =>
      clear H'
      try clear c1
      try clear p2
      try clear c3
      try clear c3b0
      try clear c3b1
      try clear c3b2
      obtain ⟨x5_1, rfl, HA, HK1, ⟨m1, rfl⟩⟩ := hrel
      cases gk with
      | zero => exact absurd HA.out (by simp [laws_eqIntSS.l0])
      | succ k1 =>
        have H := HA.out
        clear HA
        simp only [laws_eqIntSS.l0] at H
        by_cases c4 : x5_1 < (l0.length : Int)
        · rw [if_pos c4] at H
          have c4b0 : decide (x5_1 < (l0.length : Int)) = true := decide_eq_true c4
          clear c4
          by_cases c5 : 0 ≤ x5_1
          · rw [if_pos c5] at H
            have c5b0 : decide (0 ≤ x5_1) = true := decide_eq_true c5
            clear c5
            by_cases c6 : x5_1 < (l1.length : Int)
            · rw [if_pos c6] at H
              have c6b0 : decide (x5_1 < (l1.length : Int)) = true := decide_eq_true c6
              clear c6
              replace H := Option.bind_eq_some_iff.mp H
              obtain ⟨t179, A70, H⟩ := H
              replace H : (if t179 = true then (laws_eqIntSS.l0 k1 l0 l1 (wrap64 (x5_1 + 1))) else (some false)) = some r := H
              have A7 := Aside0.mk A70
              clear A70
              by_cases c8 : t179 = true
              · subst c8
                have H1 : (laws_eqIntSS.l0 k1 l0 l1 (wrap64 (x5_1 + 1))) = some r := by rw [if_pos rfl] at H; exact H
                clear H
                have H := H1
                clear H1
                have H' := Aside0.mk H
                clear H
                have p177 : 0 ≤ (x5_1 : Int) := of_decide_eq_true (by first | (with_reducible assumption) | assumption)
                have q177 : x5_1 < (l0.length : Int) := of_decide_eq_true (by first | (with_reducible assumption) | assumption)
                obtain ⟨ad177, A177_0, c177_0, e177, hx177_0, hl177_0, hi177_0⟩ := at_L1 HR0.out x5_1 p177 q177
                cases e177
                have HR177_0 := Aside0.mk hi177_0
                have HC177_0 := Aside0.mk hl177_0
                clear hi177_0 hl177_0
                replace p177 := eq_true p177
                replace q177 := eq_true q177
                have p178 : 0 ≤ (x5_1 : Int) := of_decide_eq_true (by first | (with_reducible assumption) | assumption)
                have q178 : x5_1 < (l1.length : Int) := of_decide_eq_true (by first | (with_reducible assumption) | assumption)
                obtain ⟨ad178, A178_0, c178_0, e178, hx178_0, hl178_0, hi178_0⟩ := at_L1 HR1.out x5_1 p178 q178
                cases e178
                have HR178_0 := Aside0.mk hi178_0
                have HC178_0 := Aside0.mk hl178_0
                clear hi178_0 hl178_0
                replace p178 := eq_true p178
                replace q178 := eq_true q178
                go_wp2_with (first | (go_at_call 18; (with_reducible refine (laws_eqIntS.calls k1 _ _ (rd_L1 l0 x5_1) _ _ (rd_L1 l1 x5_1) true _ ?side1 ?side2 ?side3 ?side4 A7.out).mono ?_); (case side1 => repeat (first | exact HR177_0.out | (with_reducible refine Kd.C_alloc ?_ _) | (with_reducible refine Kd.C_drewN ?_ _) | (with_reducible refine Kd.C_drew ?_))); (case side2 => exact HC177_0.out); (case side3 => repeat (first | exact HR178_0.out | (with_reducible refine Kd.C_alloc ?_ _) | (with_reducible refine Kd.C_drewN ?_ _) | (with_reducible refine Kd.C_drew ?_))); (case side4 => exact HC178_0.out); rintro e w' ⟨rfl, ⟨nd, rfl⟩⟩; (try first | exact ⟨rfl, _, World.drewN_drewN _ _ _⟩ | exact ⟨rfl, _, Eq.trans (World.drewN_drewN _ _ _) (congrArg (World.drewN _) (Nat.add_assoc _ _ _))⟩)))
                repeat (go_quiet (first | (go_at_call 18; (with_reducible refine (laws_eqIntS.calls k1 _ _ (rd_L1 l0 x5_1) _ _ (rd_L1 l1 x5_1) true _ ?side1 ?side2 ?side3 ?side4 A7.out).mono ?_); (case side1 => repeat (first | exact HR177_0.out | (with_reducible refine Kd.C_alloc ?_ _) | (with_reducible refine Kd.C_drewN ?_ _) | (with_reducible refine Kd.C_drew ?_))); (case side2 => exact HC177_0.out); (case side3 => repeat (first | exact HR178_0.out | (with_reducible refine Kd.C_alloc ?_ _) | (with_reducible refine Kd.C_drewN ?_ _) | (with_reducible refine Kd.C_drew ?_))); (case side4 => exact HC178_0.out); rintro e w' ⟨rfl, ⟨nd, rfl⟩⟩; (try first | exact ⟨rfl, _, World.drewN_drewN _ _ _⟩ | exact ⟨rfl, _, Eq.trans (World.drewN_drewN _ _ _) (congrArg (World.drewN _) (Nat.add_assoc _ _ _))⟩))); try go_wp2_with (first | (go_at_call 18; (with_reducible refine (laws_eqIntS.calls k1 _ _ (rd_L1 l0 x5_1) _ _ (rd_L1 l1 x5_1) true _ ?side1 ?side2 ?side3 ?side4 A7.out).mono ?_); (case side1 => repeat (first | exact HR177_0.out | (with_reducible refine Kd.C_alloc ?_ _) | (with_reducible refine Kd.C_drewN ?_ _) | (with_reducible refine Kd.C_drew ?_))); (case side2 => exact HC177_0.out); (case side3 => repeat (first | exact HR178_0.out | (with_reducible refine Kd.C_alloc ?_ _) | (with_reducible refine Kd.C_drewN ?_ _) | (with_reducible refine Kd.C_drew ?_))); (case side4 => exact HC178_0.out); rintro e w' ⟨rfl, ⟨nd, rfl⟩⟩; (try first | exact ⟨rfl, _, World.drewN_drewN _ _ _⟩ | exact ⟨rfl, _, Eq.trans (World.drewN_drewN _ _ _) (congrArg (World.drewN _) (Nat.add_assoc _ _ _))⟩))))
                go_roundg k1
                case measure => have := HK1.out; omega
                case rel => exact ⟨(wrap64 (x5_1 + 1)), (by first | rfl | (simp; done) | (simp [*]; done)), H', ⟨by have := HK1.out; omega⟩, by repeat (first | exact Drawn0.refl _ | apply Drawn0.step)⟩
              · replace c8 := Bool.eq_false_iff.mpr c8
                subst c8
                have H1 : (some false) = some r := by rw [if_neg (show ¬ (false = true) by decide)] at H; exact H
                clear H
                have H := H1
                clear H1
                obtain rfl := Option.some.inj H
                have p177 : 0 ≤ (x5_1 : Int) := of_decide_eq_true (by first | (with_reducible assumption) | assumption)
                have q177 : x5_1 < (l0.length : Int) := of_decide_eq_true (by first | (with_reducible assumption) | assumption)
                obtain ⟨ad177, A177_0, c177_0, e177, hx177_0, hl177_0, hi177_0⟩ := at_L1 HR0.out x5_1 p177 q177
                cases e177
                have HR177_0 := Aside0.mk hi177_0
                have HC177_0 := Aside0.mk hl177_0
                clear hi177_0 hl177_0
                replace p177 := eq_true p177
                replace q177 := eq_true q177
                have p178 : 0 ≤ (x5_1 : Int) := of_decide_eq_true (by first | (with_reducible assumption) | assumption)
                have q178 : x5_1 < (l1.length : Int) := of_decide_eq_true (by first | (with_reducible assumption) | assumption)
                obtain ⟨ad178, A178_0, c178_0, e178, hx178_0, hl178_0, hi178_0⟩ := at_L1 HR1.out x5_1 p178 q178
                cases e178
                have HR178_0 := Aside0.mk hi178_0
                have HC178_0 := Aside0.mk hl178_0
                clear hi178_0 hl178_0
                replace p178 := eq_true p178
                replace q178 := eq_true q178
                go_wp2_with (first | (go_at_call 18; (with_reducible refine (laws_eqIntS.calls k1 _ _ (rd_L1 l0 x5_1) _ _ (rd_L1 l1 x5_1) false _ ?side1 ?side2 ?side3 ?side4 A7.out).mono ?_); (case side1 => repeat (first | exact HR177_0.out | (with_reducible refine Kd.C_alloc ?_ _) | (with_reducible refine Kd.C_drewN ?_ _) | (with_reducible refine Kd.C_drew ?_))); (case side2 => exact HC177_0.out); (case side3 => repeat (first | exact HR178_0.out | (with_reducible refine Kd.C_alloc ?_ _) | (with_reducible refine Kd.C_drewN ?_ _) | (with_reducible refine Kd.C_drew ?_))); (case side4 => exact HC178_0.out); rintro e w' ⟨rfl, ⟨nd, rfl⟩⟩; (try first | exact ⟨rfl, _, World.drewN_drewN _ _ _⟩ | exact ⟨rfl, _, Eq.trans (World.drewN_drewN _ _ _) (congrArg (World.drewN _) (Nat.add_assoc _ _ _))⟩)))
                repeat (go_quiet (first | (go_at_call 18; (with_reducible refine (laws_eqIntS.calls k1 _ _ (rd_L1 l0 x5_1) _ _ (rd_L1 l1 x5_1) false _ ?side1 ?side2 ?side3 ?side4 A7.out).mono ?_); (case side1 => repeat (first | exact HR177_0.out | (with_reducible refine Kd.C_alloc ?_ _) | (with_reducible refine Kd.C_drewN ?_ _) | (with_reducible refine Kd.C_drew ?_))); (case side2 => exact HC177_0.out); (case side3 => repeat (first | exact HR178_0.out | (with_reducible refine Kd.C_alloc ?_ _) | (with_reducible refine Kd.C_drewN ?_ _) | (with_reducible refine Kd.C_drew ?_))); (case side4 => exact HC178_0.out); rintro e w' ⟨rfl, ⟨nd, rfl⟩⟩; (try first | exact ⟨rfl, _, World.drewN_drewN _ _ _⟩ | exact ⟨rfl, _, Eq.trans (World.drewN_drewN _ _ _) (congrArg (World.drewN _) (Nat.add_assoc _ _ _))⟩))); try go_wp2_with (first | (go_at_call 18; (with_reducible refine (laws_eqIntS.calls k1 _ _ (rd_L1 l0 x5_1) _ _ (rd_L1 l1 x5_1) false _ ?side1 ?side2 ?side3 ?side4 A7.out).mono ?_); (case side1 => repeat (first | exact HR177_0.out | (with_reducible refine Kd.C_alloc ?_ _) | (with_reducible refine Kd.C_drewN ?_ _) | (with_reducible refine Kd.C_drew ?_))); (case side2 => exact HC177_0.out); (case side3 => repeat (first | exact HR178_0.out | (with_reducible refine Kd.C_alloc ?_ _) | (with_reducible refine Kd.C_drewN ?_ _) | (with_reducible refine Kd.C_drew ?_))); (case side4 => exact HC178_0.out); rintro e w' ⟨rfl, ⟨nd, rfl⟩⟩; (try first | exact ⟨rfl, _, World.drewN_drewN _ _ _⟩ | exact ⟨rfl, _, Eq.trans (World.drewN_drewN _ _ _) (congrArg (World.drewN _) (Nat.add_assoc _ _ _))⟩))))
                go_ret
                exact ⟨by first | rfl | (simp; done) | (simp [*]; done), by repeat (first | exact Drawn0.refl _ | apply Drawn0.step)⟩
            · rw [if_neg c6] at H
              exact absurd H (by simp)
          · rw [if_neg c5] at H
            exact absurd H (by simp)
        · rw [if_neg c4] at H
          have c4b0 : decide (x5_1 < (l0.length : Int)) = false := decide_eq_false c4
          clear c4
          obtain rfl := Option.some.inj H
          go_wp2
          repeat (go_quiet (fail); try go_wp2)
          go_ret
          exact ⟨by first | rfl | (simp; done) | (simp [*]; done), by repeat (first | exact Drawn0.refl _ | apply Drawn0.step)⟩
  · rw [if_neg c3] at H
    have c3b0 : ((l0.length : Int) == (l1.length : Int)) = false := beq_eq_false_iff_ne.mpr c3
    have c3b1 : ((l0.length : Int) != (l1.length : Int)) = true := bne_iff_ne.mpr c3
    have c3b2 : (l0.length == l1.length) = false := by first | simpa using c3 | (simp at c3 ⊢; omega)
    obtain rfl := Option.some.inj H
    go_enter Try.func37, Try.ntmps37
    go_wp2
    repeat (go_quiet (fail); try go_wp2)
    go_ret
    exact ⟨by first | rfl | (simp; done) | (simp [*]; done), by repeat (first | exact Drawn0.refl _ | apply Drawn0.step)⟩

/-! ### laws_markIntS: function 19 -/
def laws_markIntS.l0 : Nat → List Int → Int → Int → Option (Int × List Int)
  | 0, _, _, _ => none
  | k + 1, x0, x1, x5 => if x5 < (x0.length : Int) then (if 0 ≤ x5 then (laws_markIntS.l0 k (x0.set (x5 : Int).toNat x1) (wrap64 (x1 + 1)) (wrap64 (x5 + 1))) else (none)) else (some (x1, x0))
def laws_markIntS.f (k : Nat) (l0 : List Int) (a1 : Int) : Option (Int × List Int) := laws_markIntS.l0 k l0 a1 0
theorem laws_markIntS.mono_l : ∀ k, (∀ y0 y1 y2, LeO (laws_markIntS.l0 k y0 y1 y2) (laws_markIntS.l0 (k + 1) y0 y1 y2))
  | 0 => fun _ _ _ r h => by simp [laws_markIntS.l0] at h
  | k + 1 => by
    have ih0 := laws_markIntS.mono_l k
    · intro y0 y1 y2
      unfold laws_markIntS.l0
      repeat' first
      | (with_reducible exact ih0 _ _ _)
      | (with_reducible exact LeO.refl _)
      | (with_reducible exact LeO.none _)
      | (with_reducible refine LeO.ite ?_ ?_)
      | (with_reducible refine LeO.bind ?_ (fun _ => ?_))
      | exact ih0 _ _ _
      | exact LeO.none _
      | refine LeO.ite ?_ ?_
      | refine LeO.bind ?_ (fun _ => ?_)
theorem laws_markIntS.mono : ∀ a0 a1 k, LeO (laws_markIntS.f k a0 a1) (laws_markIntS.f (k + 1) a0 a1) := by
  intro a0 a1 k
  have ih0 := laws_markIntS.mono_l k
  unfold laws_markIntS.f
  repeat' first
      | (with_reducible exact ih0 _ _ _)
      | (with_reducible exact LeO.refl _)
      | (with_reducible exact LeO.none _)
      | (with_reducible refine LeO.ite ?_ ?_)
      | (with_reducible refine LeO.bind ?_ (fun _ => ?_))
      | exact ih0 _ _ _
      | exact LeO.none _
      | refine LeO.ite ?_ ?_
      | refine LeO.bind ?_ (fun _ => ?_)
set_option maxHeartbeats 8000000 in
set_option maxRecDepth 100000 in
theorem laws_markIntS.calls (k : Nat) (P0_ : Nat → Prop) (u9000_ : Value) (l0 : List Int) (a1 : Int) (r1 : Int) (r2 : List Int) (w0 w : World) (hB : Below w0.heap.size w0 w) (ho0 : Kd.R (Kd.int .i64) 3 w w0.heap.size P0_ u9000_ l0) (h : laws_markIntS.f k l0 a1 = some (r1, r2)) :
    Calls Try.prog 19 #[u9000_, .int .i64 a1] w fun e w' => e = .returned (.int .i64 r1) ∧ Kd.R (Kd.int .i64) 3 w' w0.heap.size (fun k_ => (P0_ k_ ∨ w.heap.size ≤ k_)) u9000_ r2 ∧ Below w0.heap.size w0 w' ∧ Kept w w' (fun k_ => P0_ k_) := by
  have HO0 := Aside0.mk (show Kd.R (Kd.int .i64) 3 w w0.heap.size (fun k_ => (P0_ k_ ∨ w.heap.size ≤ k_)) u9000_ l0 from Kd.R_mono ho0 (fun k_ hk => (.inl hk)))
  have HK := Aside0.mk (Kept.refl w (fun k_ => P0_ k_))
  have HW0 := Aside0.mk hB.size
  have HB := Aside0.mk hB
  clear hB
  have H : (laws_markIntS.l0 k l0 a1 0) = some (r1, r2) := h
  clear h
  have H' := Aside0.mk H
  clear H
  go_enter Try.func19, Try.ntmps19
  go_wp2
  go_loopg [1, 5] k (fun kq v1 v5 w' => ∃ (x0_1 : List Int) (x1_1 : Int) (x5_1 : Int), v1 = .int .i64 x1_1 ∧ v5 = .int .i64 x5_1 ∧ Aside0 (laws_markIntS.l0 kq x0_1 x1_1 x5_1 = some (r1, r2)) ∧ Aside0 (kq ≤ k) ∧ Aside0 (Kd.R (Kd.int .i64) 3 w' w0.heap.size (fun k_ => (P0_ k_ ∨ w.heap.size ≤ k_)) u9000_ x0_1) ∧ Aside0 (Kept w w' (fun k_ => P0_ k_)) ∧ Aside0 (Below w0.heap.size w0 w'))
  case atStart => exact ⟨(l0), (a1), (0), (by first | rfl | (simp; done) | (simp [*]; done)), (by first | rfl | (simp; done) | (simp [*]; done)), H', ⟨Nat.le_refl _⟩, ⟨by (with_reducible repeat (first | apply Kd.R_alloc | apply Kd.R_drewN | apply Kd.R_drew)); exact HO0.out⟩, ⟨by repeat (first | (with_reducible first | exact HK.out | apply Kept.alloc | apply Kept.drewN | apply Kept.drew) | exact HK.out)⟩, ⟨by repeat (first | (with_reducible first | exact HB.out | apply below_alloc | apply pw_below_drewN | apply below_drew1) | exact HB.out)⟩⟩
  case round =>
    clear H'
    try clear c1
    try clear p2
    obtain ⟨x0_1, x1_1, x5_1, rfl, rfl, HA, HK1, HO_0, HK, HB⟩ := hrel
    cases gk with
    | zero => exact absurd HA.out (by simp [laws_markIntS.l0])
    | succ k1 =>
      have H := HA.out
      clear HA
      simp only [laws_markIntS.l0] at H
      by_cases c3 : x5_1 < (x0_1.length : Int)
      · rw [if_pos c3] at H
        have c3b0 : decide (x5_1 < (x0_1.length : Int)) = true := decide_eq_true c3
        clear c3
        by_cases c4 : 0 ≤ x5_1
        · rw [if_pos c4] at H
          have c4b0 : decide (0 ≤ x5_1) = true := decide_eq_true c4
          clear c4
          obtain ⟨y180, hy180⟩ : ∃ y_ : List Int, y_ = (x0_1.set (x5_1 : Int).toNat x1_1) := ⟨_, rfl⟩
          replace H : (laws_markIntS.l0 k1 y180 (wrap64 (x1_1 + 1)) (wrap64 (x5_1 + 1))) = some (r1, r2) := by first | (rw [hy180]; with_reducible exact H) | (have H2_ := (Option.bind_some _ _).symm.trans H; rw [hy180]; with_reducible exact H2_) | (have H2_ := (Option.bind_some _ _).symm.trans H; with_reducible exact H2_) | with_reducible exact H | (rw [hy180]; exact H) | exact H
          have Ny180 := Aside0.mk hy180
          clear hy180
          have H' := Aside0.mk H
          clear H
          obtain ⟨Ao6, co6, eo6⟩ := Kd.R_slice HO_0.out
          subst eo6
          have p5 : 0 ≤ (x5_1 : Int) := of_decide_eq_true (by first | (with_reducible assumption) | assumption)
          have q5 : (x5_1 : Int) < ((x0_1.length : Int) : Int) := of_decide_eq_true (by first | (with_reducible assumption) | assumption)
          obtain ⟨go5, co5, eo5, gb5, gl5, cl5, HG5⟩ := Kd.R_form HO_0.out (by omega)
          (first | cases eo5 | (injection eo5 with ea_ en_ ec_; (first | subst ea_ | (injection ea_ with ea_; subst ea_)); subst ec_; clear en_))
          have GB5 := Aside0.mk gb5
          have GG5 := Aside0.mk HG5
          clear gb5 gl5 HG5
          have HMgo5 := Aside0.mk (show (P0_ go5 ∨ w.heap.size ≤ go5) from (HO_0.out.1 _ rfl))
          obtain ⟨hx5_0, hf5_0⟩ := Kd.R_celln 0 HO_0.out (x5_1 : Int) p5 q5
          replace p5 := eq_true p5
          replace q5 := eq_true q5
          have HP7 := Kd.R_putg HO_0.out (x5_1 : Int) x1_1
          go_wp2_with (first | ((with_reducible refine gate_store (t := 3) (p := 15) rfl ?_); refine store_event (t := 3) (p := 15) (v := ?vo_w8) (w1 := (wr.setCell ⟨go5, (x5_1 : Int).toNat, none⟩ (.int .i64 x1_1))) ?hg ?ho ?hn ?hr ?_; (case ho => rfl); (case hg => rfl); (case hn => rfl); (case hr => first | (go_simp; done) | (go_simp; rfl)); intro w8 hw; have hg : wr.grownBy w8 (some go5) := (by rw [hw]; exact HP7.2); have hp_ : Kd.R (Kd.int .i64) 3 w8 w0.heap.size (fun k_ => (P0_ k_ ∨ w.heap.size ≤ k_)) (.slice (some ⟨go5, 0, none⟩) x0_1.length co6) y180 := (by rw [hw, Ny180.out]; exact HP7.1); clear HP7; have n0_ := Aside0.mk (hp_); have n1_ := Aside0.mk ((by rw [hw]; exact below_set (HB.out) GB5.out : Below w0.heap.size w0 w8)); have n2_ := Aside0.mk (Kept.of_grown (S := (fun k_ => P0_ k_)) hg (by repeat (first | (with_reducible first | exact HK.out | apply Kept.alloc | apply Kept.drewN | apply Kept.drew) | exact HK.out)) (fun k_ e_ => (HO_0.out.1 k_ e_))); clear HO_0; clear HB; clear HK; have HO_0 := n0_; have HB := n1_; have HK := n2_; clear n0_ n1_ n2_; clear hg hw hp_))
          go_roundg k1
          case measure => have := HK1.out; omega
          case rel => exact ⟨(y180), (wrap64 (x1_1 + 1)), (wrap64 (x5_1 + 1)), (by first | rfl | (simp; done) | (simp [*]; done)), (by first | rfl | (simp; done) | (simp [*]; done)), H', ⟨by have := HK1.out; omega⟩, ⟨by (with_reducible repeat (first | apply Kd.R_alloc | apply Kd.R_drewN | apply Kd.R_drew)); exact HO_0.out⟩, ⟨by repeat (first | (with_reducible first | exact HK.out | apply Kept.alloc | apply Kept.drewN | apply Kept.drew) | exact HK.out)⟩, ⟨by repeat (first | (with_reducible first | exact HB.out | apply below_alloc | apply pw_below_drewN | apply below_drew1) | exact HB.out)⟩⟩
        · rw [if_neg c4] at H
          exact absurd H (by simp)
      · rw [if_neg c3] at H
        have c3b0 : decide (x5_1 < (x0_1.length : Int)) = false := decide_eq_false c3
        clear c3
        simp only [Option.some.injEq, Prod.mk.injEq] at H
        obtain ⟨rfl, rfl⟩ := H
        obtain ⟨Ao9, co9, eo9⟩ := Kd.R_slice HO_0.out
        subst eo9
        go_wp2
        go_ret
        exact ⟨by first | rfl | (simp [errW_none, errW_some] <;> rfl) | (simp [*, errW_none, errW_some] <;> rfl), by (with_reducible repeat (first | apply Kd.R_alloc | apply Kd.R_drewN | apply Kd.R_drew)); exact HO_0.out, by repeat (first | (with_reducible first | exact HB.out | apply below_alloc | apply pw_below_drewN | apply below_drew1) | exact HB.out), by repeat (first | (with_reducible first | exact HK.out | apply Kept.alloc | apply Kept.drewN | apply Kept.drew) | exact HK.out)⟩

/-! ### laws_markIntSS: function 38, told by hand -/
def laws_markIntSS.l0 : Nat → List (List Int) → Int → Int → Option (Int × List (List Int))
  | 0, _, _, _ => none
  | k + 1, x0, x1, x5 => if x5 < (x0.length : Int) then (if 0 ≤ x5 then ((laws_markIntS.f k (x0.getD x5.toNat []) x1).bind fun p => (laws_markIntSS.l0 k (x0.set x5.toNat p.2) p.1 (wrap64 (x5 + 1)))) else (none)) else (some (x1, x0))
def laws_markIntSS.f (k : Nat) (l0 : List (List Int)) (a1 : Int) : Option (Int × List (List Int)) := laws_markIntSS.l0 k l0 a1 0
theorem laws_markIntSS.mono_l : ∀ k, (∀ y0 y1 y2, LeO (laws_markIntSS.l0 k y0 y1 y2) (laws_markIntSS.l0 (k + 1) y0 y1 y2))
  | 0 => fun _ _ _ r h => by simp [laws_markIntSS.l0] at h
  | k + 1 => by
    have ih0 := laws_markIntSS.mono_l k
    intro y0 y1 y2
    unfold laws_markIntSS.l0
    exact LeO.ite (LeO.ite (LeO.bind (laws_markIntS.mono _ _ _) (fun _ => ih0 _ _ _)) (LeO.none _)) (LeO.refl _)
theorem laws_markIntSS.mono : ∀ a0 a1 k, LeO (laws_markIntSS.f k a0 a1) (laws_markIntSS.f (k + 1) a0 a1) := fun _ _ k => laws_markIntSS.mono_l k _ _ _
set_option maxHeartbeats 8000000 in
set_option maxRecDepth 100000 in
theorem laws_markIntSS.calls (k : Nat) (P0_ : Nat → Prop) (v : Value) (l0 : List (List Int)) (a1 : Int) (r1 : Int) (r2 : List (List Int)) (w0 w : World) (hB : Below w0.heap.size w0 w) (ho : Kd.S (Kd.slice 3 (Kd.int .i64)) 22 w w0.heap.size P0_ v l0) (h : laws_markIntSS.f k l0 a1 = some (r1, r2)) :
    Calls Try.prog 38 #[v, .int .i64 a1] w fun e w' => e = .returned (.int .i64 r1) ∧ Kd.S (Kd.slice 3 (Kd.int .i64)) 22 w' w0.heap.size P0_ v r2 ∧ Below w0.heap.size w0 w' ∧ Kept w w' P0_ := by
  obtain ⟨A, c, rfl⟩ := Kd.S_slice ho
  have HO := Aside0.mk ho
  have HB := Aside0.mk hB
  have HK := Aside0.mk (Kept.refl w P0_)
  have H' : Aside0 (laws_markIntSS.l0 k l0 a1 0 = some (r1, r2)) := ⟨h⟩
  clear ho hB h
  go_enter Try.func38, Try.ntmps38
  go_wp2
  go_loopg [1, 5] k (fun kq v1 v5 w' => ∃ (x0 : List (List Int)) (x1 x5 : Int), v1 = .int .i64 x1 ∧ v5 = .int .i64 x5 ∧ Aside0 (laws_markIntSS.l0 kq x0 x1 x5 = some (r1, r2)) ∧ Aside0 (kq ≤ k) ∧ Aside0 (x0.length = l0.length) ∧ Aside0 (Kd.S (Kd.slice 3 (Kd.int .i64)) 22 w' w0.heap.size P0_ (.slice A l0.length c) x0) ∧ Aside0 (Kept w w' P0_) ∧ Aside0 (Below w0.heap.size w0 w'))
  case atStart => exact ⟨l0, a1, 0, (by first | rfl | (simp; done)), (by first | rfl | (simp; done)), H', ⟨Nat.le_refl _⟩, ⟨rfl⟩, HO, HK, HB⟩
  case round =>
    clear H' HO HK HB
    obtain ⟨x0, x1, x5, rfl, rfl, HA, HK1, HL, HO, HK, HB⟩ := hrel
    cases gk with
    | zero => exact absurd HA.out (by simp [laws_markIntSS.l0])
    | succ k1 =>
      have H := HA.out
      clear HA
      simp only [laws_markIntSS.l0] at H
      by_cases c5 : x5 < (x0.length : Int)
      · rw [if_pos c5] at H
        by_cases c6 : 0 ≤ x5
        · rw [if_pos c6] at H
          obtain ⟨p, hp, H⟩ := Option.bind_eq_some_iff.mp H
          obtain ⟨t, row⟩ := p
          obtain ⟨y0, hy0⟩ : ∃ y : List Int, y = x0.getD x5.toNat [] := ⟨_, rfl⟩
          rw [← hy0] at hp
          have HP := Aside0.mk hp
          have H' := Aside0.mk H
          clear hp H
          have hl := HL.out
          obtain ⟨g, cap, hv, _, _, _⟩ := Kd.S_form HO.out (by omega)
          injection hv with hA hn_ hc_
          subst hA
          subst hc_
          clear hn_
          obtain ⟨oki, cs, hcl, hM, hcc, hfr, hoki, hH⟩ := Kd.S_elem HO.out [] x5 c6 (by omega)
          rw [← hy0] at hM
          clear hy0
          obtain ⟨vi, rfl, hR⟩ := hM
          have hc0 := hcc 0 _ rfl
          obtain ⟨Ai, ci, rfl⟩ := Kd.R_slice hR
          rw [show (Kd.slice 3 (Kd.int .i64)).sz = 1 from rfl, Nat.mul_one, Nat.add_zero] at hc0
          have hown := hR.1
          have HR := Aside0.mk hR
          have HH := Aside0.mk hH
          have HI := Aside0.mk hoki
          have HW := Aside0.mk hown
          have b1 : decide (x5 < (l0.length : Int)) = true := decide_eq_true (by omega)
          have p5 : (0 ≤ x5) = True := eq_true c6
          have q5 : (x5 < (l0.length : Int)) = True := eq_true (by omega)
          clear hR hH hoki hown hcl hcc hfr hl c5 c6
          go_wp2_with (go_at_call 19; (with_reducible refine (laws_markIntS.calls k1 oki _ y0 x1 t row w0 _ HB.out HR.out HP.out).mono ?_); rintro e w2 ⟨rfl, hR2, hB2, hK2⟩; have HR2 := Aside0.mk hR2; have HB2 := Aside0.mk hB2; have HK2 := Aside0.mk hK2; clear hR2 hB2 hK2)
          go_roundg k1
          case measure => have := HK1.out; omega
          case rel =>
            refine ⟨x0.set x5.toNat row, t, wrap64 (x5 + 1), (by first | rfl | (simp; done) | (simp [*]; done)), (by first | rfl | (simp; done) | (simp [*]; done)), H', ⟨by have := HK1.out; omega⟩, ⟨by rw [List.length_set]; exact HL.out⟩, ⟨?_⟩, ⟨HK.out.then_ HK2.out (fun k hk => .inl (HI.out k hk).1)⟩, HB2⟩
            refine Kd.H_back (okp := oki) (Kd.H_kept HH.out HK2.out (fun _ _ hn => hn)) ?_ (fun _ hk => hk)
            exact ⟨_, rfl, Kd.R_mono (Kd.R_tight rfl HR2.out) (fun k hk => HW.out k hk.symm)⟩
        · rw [if_neg c6] at H
          exact absurd H (by simp)
      · rw [if_neg c5] at H
        simp only [Option.some.injEq, Prod.mk.injEq] at H
        obtain ⟨rfl, rfl⟩ := H
        have hl := HL.out
        have b1 : decide (x5 < (l0.length : Int)) = false := decide_eq_false (by omega)
        clear hl c5
        go_wp2
        go_ret
        exact ⟨by first | rfl | (simp; done), HO.out, HB.out, HK.out⟩

/-! ### laws_heldIntS: function 20 -/
def laws_heldIntS.l0 : Nat → List Int → Int → Int → Option (Int)
  | 0, _, _, _ => none
  | k + 1, x0, x1, x5 => if x5 < (x0.length : Int) then (if 0 ≤ x5 then (if (rd x0 x5) = x1 then (laws_heldIntS.l0 k x0 (wrap64 (x1 + 1)) (wrap64 (x5 + 1))) else (some (-1))) else (none)) else (some x1)
def laws_heldIntS.f (k : Nat) (l0 : List Int) (a1 : Int) : Option (Int) := laws_heldIntS.l0 k l0 a1 0
theorem laws_heldIntS.mono_l : ∀ k, (∀ y0 y1 y2, LeO (laws_heldIntS.l0 k y0 y1 y2) (laws_heldIntS.l0 (k + 1) y0 y1 y2))
  | 0 => fun _ _ _ r h => by simp [laws_heldIntS.l0] at h
  | k + 1 => by
    have ih0 := laws_heldIntS.mono_l k
    · intro y0 y1 y2
      unfold laws_heldIntS.l0
      repeat' first
      | (with_reducible exact ih0 _ _ _)
      | (with_reducible exact LeO.refl _)
      | (with_reducible exact LeO.none _)
      | (with_reducible refine LeO.ite ?_ ?_)
      | (with_reducible refine LeO.bind ?_ (fun _ => ?_))
      | exact ih0 _ _ _
      | exact LeO.none _
      | refine LeO.ite ?_ ?_
      | refine LeO.bind ?_ (fun _ => ?_)
theorem laws_heldIntS.mono : ∀ a0 a1 k, LeO (laws_heldIntS.f k a0 a1) (laws_heldIntS.f (k + 1) a0 a1) := by
  intro a0 a1 k
  have ih0 := laws_heldIntS.mono_l k
  unfold laws_heldIntS.f
  repeat' first
      | (with_reducible exact ih0 _ _ _)
      | (with_reducible exact LeO.refl _)
      | (with_reducible exact LeO.none _)
      | (with_reducible refine LeO.ite ?_ ?_)
      | (with_reducible refine LeO.bind ?_ (fun _ => ?_))
      | exact ih0 _ _ _
      | exact LeO.none _
      | refine LeO.ite ?_ ?_
      | refine LeO.bind ?_ (fun _ => ?_)
set_option maxHeartbeats 8000000 in
set_option maxRecDepth 100000 in
theorem laws_heldIntS.calls (k : Nat) (A0 : Option Addr) (c0 : Nat) (l0 : List Int) (a1 : Int) (r : Int) (w : World) (hr0 : Kd.C (Kd.int .i64) w A0 l0.length l0) (hc0 : l0.length ≤ c0) (h : laws_heldIntS.f k l0 a1 = some r) :
    Calls Try.prog 20 #[.slice A0 l0.length c0, .int .i64 a1] w fun e w' => e = .returned (.int .i64 r) ∧ Drawn0 w w' := by
  have HR0 := Aside0.mk hr0
  have HC0 := Aside0.mk hc0
  clear hr0 hc0
  have H : (laws_heldIntS.l0 k l0 a1 0) = some r := h
  clear h
  have H' := Aside0.mk H
  clear H
  go_enter Try.func20, Try.ntmps20
  go_wp2
  go_loopg [1, 5] k (fun kq v1 v5 w' => ∃ (x1_1 : Int) (x5_1 : Int), v1 = .int .i64 x1_1 ∧ v5 = .int .i64 x5_1 ∧ Aside0 (laws_heldIntS.l0 kq l0 x1_1 x5_1 = some r) ∧ Aside0 (kq ≤ k) ∧ Drawn0 w w')
  case atStart => exact ⟨(a1), (0), (by first | rfl | (simp; done) | (simp [*]; done)), (by first | rfl | (simp; done) | (simp [*]; done)), H', ⟨Nat.le_refl _⟩, by repeat (first | exact Drawn0.refl _ | apply Drawn0.step)⟩
  case round =>
    clear H'
    try clear c2
    try clear p2
    obtain ⟨x1_1, x5_1, rfl, rfl, HA, HK1, ⟨m1, rfl⟩⟩ := hrel
    cases gk with
    | zero => exact absurd HA.out (by simp [laws_heldIntS.l0])
    | succ k1 =>
      have H := HA.out
      clear HA
      simp only [laws_heldIntS.l0] at H
      by_cases c3 : x5_1 < (l0.length : Int)
      · rw [if_pos c3] at H
        have c3b0 : decide (x5_1 < (l0.length : Int)) = true := decide_eq_true c3
        clear c3
        by_cases c4 : 0 ≤ x5_1
        · rw [if_pos c4] at H
          have c4b0 : decide (0 ≤ x5_1) = true := decide_eq_true c4
          clear c4
          by_cases c5 : (rd l0 x5_1) = x1_1
          · rw [if_pos c5] at H
            have c5b0 : ((rd l0 x5_1) == x1_1) = true := beq_iff_eq.mpr c5
            have c5b1 : ((rd l0 x5_1) != x1_1) = false := bne_eq_false_iff_eq.mpr c5
            clear c5
            have H' := Aside0.mk H
            clear H
            have p181 : 0 ≤ (x5_1 : Int) := of_decide_eq_true (by first | (with_reducible assumption) | assumption)
            have q181 : x5_1 < (l0.length : Int) := of_decide_eq_true (by first | (with_reducible assumption) | assumption)
            obtain ⟨ad181, e181, hx181_0⟩ := Kd.at_int HR0.out x5_1 p181 q181
            cases e181
            replace p181 := eq_true p181
            replace q181 := eq_true q181
            go_wp2
            go_roundg k1
            case measure => have := HK1.out; omega
            case rel => exact ⟨(wrap64 (x1_1 + 1)), (wrap64 (x5_1 + 1)), (by first | rfl | (simp; done) | (simp [*]; done)), (by first | rfl | (simp; done) | (simp [*]; done)), H', ⟨by have := HK1.out; omega⟩, by repeat (first | exact Drawn0.refl _ | apply Drawn0.step)⟩
          · rw [if_neg c5] at H
            have c5b0 : ((rd l0 x5_1) == x1_1) = false := beq_eq_false_iff_ne.mpr c5
            have c5b1 : ((rd l0 x5_1) != x1_1) = true := bne_iff_ne.mpr c5
            obtain rfl := Option.some.inj H
            have p181 : 0 ≤ (x5_1 : Int) := of_decide_eq_true (by first | (with_reducible assumption) | assumption)
            have q181 : x5_1 < (l0.length : Int) := of_decide_eq_true (by first | (with_reducible assumption) | assumption)
            obtain ⟨ad181, e181, hx181_0⟩ := Kd.at_int HR0.out x5_1 p181 q181
            cases e181
            replace p181 := eq_true p181
            replace q181 := eq_true q181
            go_wp2
            go_ret
            exact ⟨by first | rfl | (simp; done) | (simp [*]; done), by repeat (first | exact Drawn0.refl _ | apply Drawn0.step)⟩
        · rw [if_neg c4] at H
          exact absurd H (by simp)
      · rw [if_neg c3] at H
        have c3b0 : decide (x5_1 < (l0.length : Int)) = false := decide_eq_false c3
        clear c3
        obtain rfl := Option.some.inj H
        go_wp2
        go_ret
        exact ⟨by first | rfl | (simp; done) | (simp [*]; done), by repeat (first | exact Drawn0.refl _ | apply Drawn0.step)⟩

/-! ### laws_heldIntSS: function 39 -/
def laws_heldIntSS.l0 : Nat → List (List Int) → Int → Int → Option (Int)
  | 0, _, _, _ => none
  | k + 1, x0, x1, x5 => if x5 < (x0.length : Int) then (if 0 ≤ x5 then ((laws_heldIntS.f k (rd_L1 x0 x5) x1).bind fun t183 => (if t183 < 0 then (some (-1)) else (laws_heldIntSS.l0 k x0 t183 (wrap64 (x5 + 1))))) else (none)) else (some x1)
def laws_heldIntSS.f (k : Nat) (l0 : List (List Int)) (a1 : Int) : Option (Int) := laws_heldIntSS.l0 k l0 a1 0
theorem laws_heldIntSS.mono_l : ∀ k, (∀ y0 y1 y2, LeO (laws_heldIntSS.l0 k y0 y1 y2) (laws_heldIntSS.l0 (k + 1) y0 y1 y2))
  | 0 => fun _ _ _ r h => by simp [laws_heldIntSS.l0] at h
  | k + 1 => by
    have ih0 := laws_heldIntSS.mono_l k
    · intro y0 y1 y2
      unfold laws_heldIntSS.l0
      repeat' first
      | (with_reducible exact ih0 _ _ _)
      | (with_reducible exact laws_heldIntS.mono _ _ _)
      | (with_reducible exact LeO.refl _)
      | (with_reducible exact LeO.none _)
      | (with_reducible refine LeO.ite ?_ ?_)
      | (with_reducible refine LeO.bind ?_ (fun _ => ?_))
      | exact ih0 _ _ _
      | exact laws_heldIntS.mono _ _ _
      | exact LeO.none _
      | refine LeO.ite ?_ ?_
      | refine LeO.bind ?_ (fun _ => ?_)
theorem laws_heldIntSS.mono : ∀ a0 a1 k, LeO (laws_heldIntSS.f k a0 a1) (laws_heldIntSS.f (k + 1) a0 a1) := by
  intro a0 a1 k
  have ih0 := laws_heldIntSS.mono_l k
  unfold laws_heldIntSS.f
  repeat' first
      | (with_reducible exact ih0 _ _ _)
      | (with_reducible exact laws_heldIntS.mono _ _ _)
      | (with_reducible exact LeO.refl _)
      | (with_reducible exact LeO.none _)
      | (with_reducible refine LeO.ite ?_ ?_)
      | (with_reducible refine LeO.bind ?_ (fun _ => ?_))
      | exact ih0 _ _ _
      | exact laws_heldIntS.mono _ _ _
      | exact LeO.none _
      | refine LeO.ite ?_ ?_
      | refine LeO.bind ?_ (fun _ => ?_)
set_option maxHeartbeats 8000000 in
set_option maxRecDepth 100000 in
theorem laws_heldIntSS.calls (k : Nat) (A0 : Option Addr) (c0 : Nat) (l0 : List (List Int)) (a1 : Int) (r : Int) (w : World) (hr0 : Kd.C (Kd.slice 3 (Kd.int .i64)) w A0 l0.length l0) (hc0 : l0.length ≤ c0) (h : laws_heldIntSS.f k l0 a1 = some r) :
    Calls Try.prog 39 #[.slice A0 l0.length c0, .int .i64 a1] w fun e w' => e = .returned (.int .i64 r) ∧ Drawn0 w w' := by
  have HR0 := Aside0.mk hr0
  have HC0 := Aside0.mk hc0
  clear hr0 hc0
  have H : (laws_heldIntSS.l0 k l0 a1 0) = some r := h
  clear h
  have H' := Aside0.mk H
  clear H
  go_enter Try.func39, Try.ntmps39
  go_wp2
  go_loopg [1, 5] k (fun kq v1 v5 w' => ∃ (x1_1 : Int) (x5_1 : Int), v1 = .int .i64 x1_1 ∧ v5 = .int .i64 x5_1 ∧ Aside0 (laws_heldIntSS.l0 kq l0 x1_1 x5_1 = some r) ∧ Aside0 (kq ≤ k) ∧ Drawn0 w w')
  case atStart => exact ⟨(a1), (0), (by first | rfl | (simp; done) | (simp [*]; done)), (by first | rfl | (simp; done) | (simp [*]; done)), H', ⟨Nat.le_refl _⟩, by repeat (first | exact Drawn0.refl _ | apply Drawn0.step)⟩
  case round =>
    clear H'
    try clear p2
    obtain ⟨x1_1, x5_1, rfl, rfl, HA, HK1, ⟨m1, rfl⟩⟩ := hrel
    cases gk with
    | zero => exact absurd HA.out (by simp [laws_heldIntSS.l0])
    | succ k1 =>
      have H := HA.out
      clear HA
      simp only [laws_heldIntSS.l0] at H
      by_cases c3 : x5_1 < (l0.length : Int)
      · rw [if_pos c3] at H
        have c3b0 : decide (x5_1 < (l0.length : Int)) = true := decide_eq_true c3
        clear c3
        by_cases c4 : 0 ≤ x5_1
        · rw [if_pos c4] at H
          have c4b0 : decide (0 ≤ x5_1) = true := decide_eq_true c4
          clear c4
          replace H := Option.bind_eq_some_iff.mp H
          obtain ⟨t183, A50, H⟩ := H
          replace H : (if t183 < 0 then (some (-1)) else (laws_heldIntSS.l0 k1 l0 t183 (wrap64 (x5_1 + 1)))) = some r := H
          have A5 := Aside0.mk A50
          clear A50
          by_cases c6 : t183 < 0
          · rw [if_pos c6] at H
            have c6b0 : decide (t183 < 0) = true := decide_eq_true c6
            clear c6
            obtain rfl := Option.some.inj H
            have p182 : 0 ≤ (x5_1 : Int) := of_decide_eq_true (by first | (with_reducible assumption) | assumption)
            have q182 : x5_1 < (l0.length : Int) := of_decide_eq_true (by first | (with_reducible assumption) | assumption)
            obtain ⟨ad182, A182_0, c182_0, e182, hx182_0, hl182_0, hi182_0⟩ := at_L1 HR0.out x5_1 p182 q182
            cases e182
            have HR182_0 := Aside0.mk hi182_0
            have HC182_0 := Aside0.mk hl182_0
            clear hi182_0 hl182_0
            replace p182 := eq_true p182
            replace q182 := eq_true q182
            go_wp2_with (first | ((with_reducible refine gate_callee (f := 20) rfl ?_); refine goesL_ (some 17) rfl rfl Try.func20 (by kernel_rfl) rfl #[.slice A182_0 (rd_L1 l0 x5_1).length c182_0, .int .i64 x1_1] rfl (by (try simp only [List.map_toArray, List.map_cons, List.map_nil]); first | done | rfl | (simp only [List.length_drop, List.length_take]; rfl)) ?_; (with_reducible refine (laws_heldIntS.calls k1 _ _ (rd_L1 l0 x5_1) x1_1 t183 _ ?side1 ?side2 A5.out).mono ?_); (case side1 => repeat (first | exact HR182_0.out | (with_reducible refine Kd.C_alloc ?_ _) | (with_reducible refine Kd.C_drewN ?_ _) | (with_reducible refine Kd.C_drew ?_))); (case side2 => exact HC182_0.out); rintro e w' ⟨rfl, ⟨nd, rfl⟩⟩; refine ⟨_, rfl, ?_⟩))
            go_ret
            exact ⟨by first | rfl | (simp; done) | (simp [*]; done), by repeat (first | exact Drawn0.refl _ | apply Drawn0.step)⟩
          · rw [if_neg c6] at H
            have c6b0 : decide (t183 < 0) = false := decide_eq_false c6
            clear c6
            have H' := Aside0.mk H
            clear H
            have p182 : 0 ≤ (x5_1 : Int) := of_decide_eq_true (by first | (with_reducible assumption) | assumption)
            have q182 : x5_1 < (l0.length : Int) := of_decide_eq_true (by first | (with_reducible assumption) | assumption)
            obtain ⟨ad182, A182_0, c182_0, e182, hx182_0, hl182_0, hi182_0⟩ := at_L1 HR0.out x5_1 p182 q182
            cases e182
            have HR182_0 := Aside0.mk hi182_0
            have HC182_0 := Aside0.mk hl182_0
            clear hi182_0 hl182_0
            replace p182 := eq_true p182
            replace q182 := eq_true q182
            go_wp2_with (first | ((with_reducible refine gate_callee (f := 20) rfl ?_); refine goesL_ (some 17) rfl rfl Try.func20 (by kernel_rfl) rfl #[.slice A182_0 (rd_L1 l0 x5_1).length c182_0, .int .i64 x1_1] rfl (by (try simp only [List.map_toArray, List.map_cons, List.map_nil]); first | done | rfl | (simp only [List.length_drop, List.length_take]; rfl)) ?_; (with_reducible refine (laws_heldIntS.calls k1 _ _ (rd_L1 l0 x5_1) x1_1 t183 _ ?side1 ?side2 A5.out).mono ?_); (case side1 => repeat (first | exact HR182_0.out | (with_reducible refine Kd.C_alloc ?_ _) | (with_reducible refine Kd.C_drewN ?_ _) | (with_reducible refine Kd.C_drew ?_))); (case side2 => exact HC182_0.out); rintro e w' ⟨rfl, ⟨nd, rfl⟩⟩; refine ⟨_, rfl, ?_⟩))
            go_roundg k1
            case measure => have := HK1.out; omega
            case rel => exact ⟨(t183), (wrap64 (x5_1 + 1)), (by first | rfl | (simp; done) | (simp [*]; done)), (by first | rfl | (simp; done) | (simp [*]; done)), H', ⟨by have := HK1.out; omega⟩, by repeat (first | exact Drawn0.refl _ | apply Drawn0.step)⟩
        · rw [if_neg c4] at H
          exact absurd H (by simp)
      · rw [if_neg c3] at H
        have c3b0 : decide (x5_1 < (l0.length : Int)) = false := decide_eq_false c3
        clear c3
        obtain rfl := Option.some.inj H
        go_wp2
        go_ret
        exact ⟨by first | rfl | (simp; done) | (simp [*]; done), by repeat (first | exact Drawn0.refl _ | apply Drawn0.step)⟩

/-! ### laws_FnExactRaisedBy: function 10, told by hand -/
def laws_FnExactRaisedBy.f (k : Nat) (l0 : List (List Int)) (a1 : Int) : Option Bool :=
  (laws_szIntSS.f k l0 1048576).bind fun t => if t < 0 then some true else
  (laws_toIntSS.f k l0).bind fun d1 => (spec_RaisedBy.f k d1 a1).bind fun w => (laws_toIntSS.f k l0).bind fun d2 => (impl_RaisedBy.f k d2 a1).bind fun g => (laws_eqIntSS.f k g.1 w.1).bind fun e1 => (laws_toIntSS.f k l0).bind fun d3 => (laws_eqIntSS.f k d2 d3).bind fun e2 =>
  (laws_markIntSS.f k d2 1).bind fun m1 => (laws_markIntSS.f k g.1 1).bind fun m2 => (laws_heldIntSS.f k m2.2 1).bind fun q => (laws_toIntSS.f k l0).bind fun d4 => (impl_RaisedBy.f k d4 a1).bind fun h => (laws_eqIntSS.f k h.1 w.1).bind fun e3 =>
  if g.2 = w.2 ∧ h.2 = w.2 ∧ e1 = true ∧ e2 = true ∧ e3 = true ∧ 0 ≤ m1.1 ∧ 0 ≤ q ∧ q = m2.1 then some true else none
set_option maxHeartbeats 16000000 in
set_option maxRecDepth 100000 in
theorem laws_FnExactRaisedBy.calls (k : Nat) (A0 : Option Addr) (c0 : Nat) (l0 : List (List Int)) (a1 : Int) (r : Bool) (w : World) (hr0 : Kd.C (Kd.slice 3 (Kd.int .i64)) w A0 l0.length l0) (hc0 : l0.length ≤ c0) (h : laws_FnExactRaisedBy.f k l0 a1 = some r) :
    Calls Try.prog 10 #[.slice A0 l0.length c0, .int .i64 a1] w fun e w' => e = .returned (.bool r) ∧ Below w.heap.size w w' := by
  have HR0 := Aside0.mk hr0
  have HC0 := Aside0.mk hc0
  clear hr0 hc0
  have HB := Aside0.mk (Below.refl w.heap.size w)
  have HZ := Aside0.mk (Nat.le_refl w.heap.size)
  unfold laws_FnExactRaisedBy.f at h
  obtain ⟨t, e_, h⟩ := Option.bind_eq_some_iff.mp h
  have E1 := Aside0.mk e_
  clear e_
  by_cases c : t < 0
  · rw [if_pos c] at h
    obtain rfl := Option.some.inj h
    have cb : decide (t < 0) = true := decide_eq_true c
    clear c
    go_enter Try.func10, Try.ntmps10
    go_wp2_with (first | (go_at_call 33; (with_reducible refine (laws_szIntSS.calls k _ _ l0 1048576 t _ (Kd.C_below HR0.out HB.out) HC0.out E1.out).mono ?_); clear E1; rintro e W1 ⟨rfl, hd⟩; have hb := below_drawn hd; clear hd; have n_ := Aside0.mk (below_step HB.out hb); clear HB; have HB := n_; clear n_; have n_ := Aside0.mk (Nat.le_trans HZ.out hb.size); clear HZ; have HZ := n_; clear n_ hb))
    go_ret
    exact ⟨rfl, HB.out⟩
  · rw [if_neg c] at h
    have cb : decide (t < 0) = false := decide_eq_false c
    clear c
    obtain ⟨d1, e2_, h⟩ := Option.bind_eq_some_iff.mp h
    obtain ⟨⟨w1, b⟩, e3_, h⟩ := Option.bind_eq_some_iff.mp h
    obtain ⟨d2, e4_, h⟩ := Option.bind_eq_some_iff.mp h
    obtain ⟨⟨g1, b1⟩, e5_, h⟩ := Option.bind_eq_some_iff.mp h
    obtain ⟨q1, e6_, h⟩ := Option.bind_eq_some_iff.mp h
    obtain ⟨d3, e7_, h⟩ := Option.bind_eq_some_iff.mp h
    obtain ⟨q2, e8_, h⟩ := Option.bind_eq_some_iff.mp h
    obtain ⟨⟨m1, y1⟩, e9_, h⟩ := Option.bind_eq_some_iff.mp h
    obtain ⟨⟨m2, y2⟩, e11_, h⟩ := Option.bind_eq_some_iff.mp h
    obtain ⟨q3, e12_, h⟩ := Option.bind_eq_some_iff.mp h
    obtain ⟨d4, e13_, h⟩ := Option.bind_eq_some_iff.mp h
    obtain ⟨⟨h1, b2⟩, e14_, h⟩ := Option.bind_eq_some_iff.mp h
    obtain ⟨q4, e15_, h⟩ := Option.bind_eq_some_iff.mp h
    by_cases z : b1 = b ∧ b2 = b ∧ q1 = true ∧ q2 = true ∧ q4 = true ∧ 0 ≤ m1 ∧ 0 ≤ q3 ∧ q3 = m2
    · rw [if_pos z] at h
      obtain rfl := Option.some.inj h
      obtain ⟨rfl, rfl, rfl, rfl, rfl, z1, z2, rfl⟩ := z
      have E2 := Aside0.mk e2_
      have E3 := Aside0.mk e3_
      have E4 := Aside0.mk e4_
      have E5 := Aside0.mk e5_
      have E6 := Aside0.mk e6_
      have E7 := Aside0.mk e7_
      have E8 := Aside0.mk e8_
      have E9 := Aside0.mk e9_
      have E11 := Aside0.mk e11_
      have E12 := Aside0.mk e12_
      have E13 := Aside0.mk e13_
      have E14 := Aside0.mk e14_
      have E15 := Aside0.mk e15_
      have E10 := Aside0.mk e6_
      have E16 := Aside0.mk e12_
      have zb1 : decide (m1 < 0) = false := decide_eq_false (by omega)
      have zb2 : decide (q3 < 0) = false := decide_eq_false (by omega)
      clear z1 z2 h e2_ e3_ e4_ e5_ e6_ e7_ e8_ e9_ e11_ e12_ e13_ e14_ e15_
      go_enter Try.func10, Try.ntmps10
      go_wp2_with (first
        | (go_at_call 33; (with_reducible refine (laws_szIntSS.calls k _ _ l0 1048576 t _ (Kd.C_below HR0.out HB.out) HC0.out E1.out).mono ?_); clear E1; rintro e W1 ⟨rfl, hd⟩; have hb := below_drawn hd; clear hd; have n_ := Aside0.mk (below_step HB.out hb); clear HB; have HB := n_; clear n_; have n_ := Aside0.mk (Nat.le_trans HZ.out hb.size); clear HZ; have HZ := n_; clear n_ hb)
        | (go_at_call 35; (with_reducible refine (laws_toIntSS.calls k _ _ l0 d1 _ (Kd.C_below HR0.out HB.out) HC0.out E2.out).mono ?_); clear E2; rintro e W2 ⟨v1, rfl, ho, hb⟩; obtain ⟨lo1, hi1, hq1, hz1, hn1⟩ := obj_S HB.out HZ.out ho hb; obtain ⟨A1, c1, rfl⟩ := Kd.S_slice hn1; have n_ := Aside0.mk (below_step HB.out hb); clear HB; have HB := n_; clear n_; have HQ1 := Aside0.mk hq1; clear HZ; have HZ := Aside0.mk hz1; have HO1 := Aside0.mk hn1; clear hb ho hq1 hz1 hn1)
        | (go_at_call 34; (with_reducible refine (spec_RaisedBy.calls k _ _ d1 a1 w1 b2 _ (Kd.S_reads' HO1.out).2.2 (Kd.S_reads' HO1.out).2.1 E3.out).mono ?_); clear E3; rintro e W3 ⟨v2, rfl, ho, hb⟩; obtain ⟨lo2, hi2, hq2, hz2, hn2⟩ := obj_S HB.out HZ.out ho hb; obtain ⟨A2, c2, rfl⟩ := Kd.S_slice hn2; have n_ := Aside0.mk (Kd.S_below HO1.out hb); clear HO1; have HO1 := n_; clear n_; have n_ := Aside0.mk (below_step HB.out hb); clear HB; have HB := n_; clear n_; have HQ2 := Aside0.mk hq2; clear HZ; have HZ := Aside0.mk hz2; have HO2 := Aside0.mk hn2; clear hb ho hq2 hz2 hn2)
        | (go_at_call 35; (with_reducible refine (laws_toIntSS.calls k _ _ l0 d2 _ (Kd.C_below HR0.out HB.out) HC0.out E4.out).mono ?_); clear E4; rintro e W4 ⟨v3, rfl, ho, hb⟩; obtain ⟨lo3, hi3, hq3, hz3, hn3⟩ := obj_S HB.out HZ.out ho hb; obtain ⟨A3, c3, rfl⟩ := Kd.S_slice hn3; have n_ := Aside0.mk (Kd.S_below HO1.out hb); clear HO1; have HO1 := n_; clear n_; have n_ := Aside0.mk (Kd.S_below HO2.out hb); clear HO2; have HO2 := n_; clear n_; have n_ := Aside0.mk (below_step HB.out hb); clear HB; have HB := n_; clear n_; have HQ3 := Aside0.mk hq3; clear HZ; have HZ := Aside0.mk hz3; have HO3 := Aside0.mk hn3; clear hb ho hq3 hz3 hn3)
        | (go_at_call 36; (with_reducible refine (impl_RaisedBy.calls k _ _ d2 a1 g1 b2 _ (Kd.S_reads' HO3.out).2.2 (Kd.S_reads' HO3.out).2.1 E5.out).mono ?_); clear E5; rintro e W5 ⟨v4, rfl, ho, hb⟩; obtain ⟨lo4, hi4, hq4, hz4, hn4⟩ := obj_S HB.out HZ.out ho hb; obtain ⟨A4, c4, rfl⟩ := Kd.S_slice hn4; have n_ := Aside0.mk (Kd.S_below HO1.out hb); clear HO1; have HO1 := n_; clear n_; have n_ := Aside0.mk (Kd.S_below HO2.out hb); clear HO2; have HO2 := n_; clear n_; have n_ := Aside0.mk (Kd.S_below HO3.out hb); clear HO3; have HO3 := n_; clear n_; have n_ := Aside0.mk (below_step HB.out hb); clear HB; have HB := n_; clear n_; have HQ4 := Aside0.mk hq4; clear HZ; have HZ := Aside0.mk hz4; have HO4 := Aside0.mk hn4; clear hb ho hq4 hz4 hn4)
        | (go_at_call 37; (with_reducible refine (laws_eqIntSS.calls k _ _ g1 _ _ w1 true _ (Kd.S_reads' HO4.out).2.2 (Kd.S_reads' HO4.out).2.1 (Kd.S_reads' HO2.out).2.2 (Kd.S_reads' HO2.out).2.1 E6.out).mono ?_); clear E6; rintro e W6 ⟨rfl, hd⟩; have hb := below_drawn hd; clear hd; have n_ := Aside0.mk (Kd.S_below HO1.out hb); clear HO1; have HO1 := n_; clear n_; have n_ := Aside0.mk (Kd.S_below HO2.out hb); clear HO2; have HO2 := n_; clear n_; have n_ := Aside0.mk (Kd.S_below HO3.out hb); clear HO3; have HO3 := n_; clear n_; have n_ := Aside0.mk (Kd.S_below HO4.out hb); clear HO4; have HO4 := n_; clear n_; have n_ := Aside0.mk (below_step HB.out hb); clear HB; have HB := n_; clear n_; have n_ := Aside0.mk (Nat.le_trans HZ.out hb.size); clear HZ; have HZ := n_; clear n_ hb)
        | (go_at_call 35; (with_reducible refine (laws_toIntSS.calls k _ _ l0 d3 _ (Kd.C_below HR0.out HB.out) HC0.out E7.out).mono ?_); clear E7; rintro e W7 ⟨v5, rfl, ho, hb⟩; obtain ⟨lo5, hi5, hq5, hz5, hn5⟩ := obj_S HB.out HZ.out ho hb; obtain ⟨A5, c5, rfl⟩ := Kd.S_slice hn5; have n_ := Aside0.mk (Kd.S_below HO1.out hb); clear HO1; have HO1 := n_; clear n_; have n_ := Aside0.mk (Kd.S_below HO2.out hb); clear HO2; have HO2 := n_; clear n_; have n_ := Aside0.mk (Kd.S_below HO3.out hb); clear HO3; have HO3 := n_; clear n_; have n_ := Aside0.mk (Kd.S_below HO4.out hb); clear HO4; have HO4 := n_; clear n_; have n_ := Aside0.mk (below_step HB.out hb); clear HB; have HB := n_; clear n_; have HQ5 := Aside0.mk hq5; clear HZ; have HZ := Aside0.mk hz5; have HO5 := Aside0.mk hn5; clear hb ho hq5 hz5 hn5)
        | (go_at_call 37; (with_reducible refine (laws_eqIntSS.calls k _ _ d2 _ _ d3 true _ (Kd.S_reads' HO3.out).2.2 (Kd.S_reads' HO3.out).2.1 (Kd.S_reads' HO5.out).2.2 (Kd.S_reads' HO5.out).2.1 E8.out).mono ?_); clear E8; rintro e W8 ⟨rfl, hd⟩; have hb := below_drawn hd; clear hd; have n_ := Aside0.mk (Kd.S_below HO1.out hb); clear HO1; have HO1 := n_; clear n_; have n_ := Aside0.mk (Kd.S_below HO2.out hb); clear HO2; have HO2 := n_; clear n_; have n_ := Aside0.mk (Kd.S_below HO3.out hb); clear HO3; have HO3 := n_; clear n_; have n_ := Aside0.mk (Kd.S_below HO4.out hb); clear HO4; have HO4 := n_; clear n_; have n_ := Aside0.mk (Kd.S_below HO5.out hb); clear HO5; have HO5 := n_; clear n_; have n_ := Aside0.mk (below_step HB.out hb); clear HB; have HB := n_; clear n_; have n_ := Aside0.mk (Nat.le_trans HZ.out hb.size); clear HZ; have HZ := n_; clear n_ hb)
        | (go_at_call 38; (with_reducible refine (laws_markIntSS.calls k (fun k => lo3 ≤ k ∧ k < hi3) _ d2 1 m1 y1 w _ HB.out HO3.out E9.out).mono ?_); clear E9; rintro e W9 ⟨rfl, hs, hb, hk⟩; have hl := (Kd.S_reads' hs).1; rw [hl] at hs; (try rw [hl]); clear hl; have n_ := Aside0.mk (Kd.S_kept HO1.out hk (fun k hk2 hj => by have q1 := HQ1.out; have q2 := HQ2.out; have q3 := HQ3.out; have q4 := HQ4.out; have q5 := HQ5.out; have h1 := hk2; have h2 := hj; omega)); clear HO1; have HO1 := n_; clear n_; have n_ := Aside0.mk (Kd.S_kept HO2.out hk (fun k hk2 hj => by have q1 := HQ1.out; have q2 := HQ2.out; have q3 := HQ3.out; have q4 := HQ4.out; have q5 := HQ5.out; have h1 := hk2; have h2 := hj; omega)); clear HO2; have HO2 := n_; clear n_; have n_ := Aside0.mk (Kd.S_kept HO4.out hk (fun k hk2 hj => by have q1 := HQ1.out; have q2 := HQ2.out; have q3 := HQ3.out; have q4 := HQ4.out; have q5 := HQ5.out; have h1 := hk2; have h2 := hj; omega)); clear HO4; have HO4 := n_; clear n_; have n_ := Aside0.mk (Kd.S_kept HO5.out hk (fun k hk2 hj => by have q1 := HQ1.out; have q2 := HQ2.out; have q3 := HQ3.out; have q4 := HQ4.out; have q5 := HQ5.out; have h1 := hk2; have h2 := hj; omega)); clear HO5; have HO5 := n_; clear n_; have HO_ := Aside0.mk hs; clear HO3; have HO3 := HO_; clear HO_ hs; have n_ := Aside0.mk (Nat.le_trans HZ.out hk.1); clear HZ; have HZ := n_; clear n_; have n_ := Aside0.mk hb; clear HB; have HB := n_; clear n_ hb hk)
        | (go_at_call 37; (with_reducible refine (laws_eqIntSS.calls k _ _ g1 _ _ w1 true _ (Kd.S_reads' HO4.out).2.2 (Kd.S_reads' HO4.out).2.1 (Kd.S_reads' HO2.out).2.2 (Kd.S_reads' HO2.out).2.1 E10.out).mono ?_); clear E10; rintro e W10 ⟨rfl, hd⟩; have hb := below_drawn hd; clear hd; have n_ := Aside0.mk (Kd.S_below HO1.out hb); clear HO1; have HO1 := n_; clear n_; have n_ := Aside0.mk (Kd.S_below HO2.out hb); clear HO2; have HO2 := n_; clear n_; have n_ := Aside0.mk (Kd.S_below HO3.out hb); clear HO3; have HO3 := n_; clear n_; have n_ := Aside0.mk (Kd.S_below HO4.out hb); clear HO4; have HO4 := n_; clear n_; have n_ := Aside0.mk (Kd.S_below HO5.out hb); clear HO5; have HO5 := n_; clear n_; have n_ := Aside0.mk (below_step HB.out hb); clear HB; have HB := n_; clear n_; have n_ := Aside0.mk (Nat.le_trans HZ.out hb.size); clear HZ; have HZ := n_; clear n_ hb)
        | (go_at_call 38; (with_reducible refine (laws_markIntSS.calls k (fun k => lo4 ≤ k ∧ k < hi4) _ g1 1 q3 y2 w _ HB.out HO4.out E11.out).mono ?_); clear E11; rintro e W11 ⟨rfl, hs, hb, hk⟩; have hl := (Kd.S_reads' hs).1; rw [hl] at hs; (try rw [hl]); clear hl; have n_ := Aside0.mk (Kd.S_kept HO1.out hk (fun k hk2 hj => by have q1 := HQ1.out; have q2 := HQ2.out; have q3 := HQ3.out; have q4 := HQ4.out; have q5 := HQ5.out; have h1 := hk2; have h2 := hj; omega)); clear HO1; have HO1 := n_; clear n_; have n_ := Aside0.mk (Kd.S_kept HO2.out hk (fun k hk2 hj => by have q1 := HQ1.out; have q2 := HQ2.out; have q3 := HQ3.out; have q4 := HQ4.out; have q5 := HQ5.out; have h1 := hk2; have h2 := hj; omega)); clear HO2; have HO2 := n_; clear n_; have n_ := Aside0.mk (Kd.S_kept HO3.out hk (fun k hk2 hj => by have q1 := HQ1.out; have q2 := HQ2.out; have q3 := HQ3.out; have q4 := HQ4.out; have q5 := HQ5.out; have h1 := hk2; have h2 := hj; omega)); clear HO3; have HO3 := n_; clear n_; have n_ := Aside0.mk (Kd.S_kept HO5.out hk (fun k hk2 hj => by have q1 := HQ1.out; have q2 := HQ2.out; have q3 := HQ3.out; have q4 := HQ4.out; have q5 := HQ5.out; have h1 := hk2; have h2 := hj; omega)); clear HO5; have HO5 := n_; clear n_; have HO_ := Aside0.mk hs; clear HO4; have HO4 := HO_; clear HO_ hs; have n_ := Aside0.mk (Nat.le_trans HZ.out hk.1); clear HZ; have HZ := n_; clear n_; have n_ := Aside0.mk hb; clear HB; have HB := n_; clear n_ hb hk)
        | (go_at_call 39; (with_reducible refine (laws_heldIntSS.calls k _ _ y2 1 q3 _ (Kd.S_reads' HO4.out).2.2 (Kd.S_reads' HO4.out).2.1 E12.out).mono ?_); clear E12; rintro e W12 ⟨rfl, hd⟩; have hb := below_drawn hd; clear hd; have n_ := Aside0.mk (Kd.S_below HO1.out hb); clear HO1; have HO1 := n_; clear n_; have n_ := Aside0.mk (Kd.S_below HO2.out hb); clear HO2; have HO2 := n_; clear n_; have n_ := Aside0.mk (Kd.S_below HO3.out hb); clear HO3; have HO3 := n_; clear n_; have n_ := Aside0.mk (Kd.S_below HO4.out hb); clear HO4; have HO4 := n_; clear n_; have n_ := Aside0.mk (Kd.S_below HO5.out hb); clear HO5; have HO5 := n_; clear n_; have n_ := Aside0.mk (below_step HB.out hb); clear HB; have HB := n_; clear n_; have n_ := Aside0.mk (Nat.le_trans HZ.out hb.size); clear HZ; have HZ := n_; clear n_ hb)
        | (go_at_call 35; (with_reducible refine (laws_toIntSS.calls k _ _ l0 d4 _ (Kd.C_below HR0.out HB.out) HC0.out E13.out).mono ?_); clear E13; rintro e W13 ⟨v6, rfl, ho, hb⟩; obtain ⟨lo6, hi6, hq6, hz6, hn6⟩ := obj_S HB.out HZ.out ho hb; obtain ⟨A6, c6, rfl⟩ := Kd.S_slice hn6; have n_ := Aside0.mk (Kd.S_below HO1.out hb); clear HO1; have HO1 := n_; clear n_; have n_ := Aside0.mk (Kd.S_below HO2.out hb); clear HO2; have HO2 := n_; clear n_; have n_ := Aside0.mk (Kd.S_below HO3.out hb); clear HO3; have HO3 := n_; clear n_; have n_ := Aside0.mk (Kd.S_below HO4.out hb); clear HO4; have HO4 := n_; clear n_; have n_ := Aside0.mk (Kd.S_below HO5.out hb); clear HO5; have HO5 := n_; clear n_; have n_ := Aside0.mk (below_step HB.out hb); clear HB; have HB := n_; clear n_; have HQ6 := Aside0.mk hq6; clear HZ; have HZ := Aside0.mk hz6; have HO6 := Aside0.mk hn6; clear hb ho hq6 hz6 hn6)
        | (go_at_call 36; (with_reducible refine (impl_RaisedBy.calls k _ _ d4 a1 h1 b2 _ (Kd.S_reads' HO6.out).2.2 (Kd.S_reads' HO6.out).2.1 E14.out).mono ?_); clear E14; rintro e W14 ⟨v7, rfl, ho, hb⟩; obtain ⟨lo7, hi7, hq7, hz7, hn7⟩ := obj_S HB.out HZ.out ho hb; obtain ⟨A7, c7, rfl⟩ := Kd.S_slice hn7; have n_ := Aside0.mk (Kd.S_below HO1.out hb); clear HO1; have HO1 := n_; clear n_; have n_ := Aside0.mk (Kd.S_below HO2.out hb); clear HO2; have HO2 := n_; clear n_; have n_ := Aside0.mk (Kd.S_below HO3.out hb); clear HO3; have HO3 := n_; clear n_; have n_ := Aside0.mk (Kd.S_below HO4.out hb); clear HO4; have HO4 := n_; clear n_; have n_ := Aside0.mk (Kd.S_below HO5.out hb); clear HO5; have HO5 := n_; clear n_; have n_ := Aside0.mk (Kd.S_below HO6.out hb); clear HO6; have HO6 := n_; clear n_; have n_ := Aside0.mk (below_step HB.out hb); clear HB; have HB := n_; clear n_; have HQ7 := Aside0.mk hq7; clear HZ; have HZ := Aside0.mk hz7; have HO7 := Aside0.mk hn7; clear hb ho hq7 hz7 hn7)
        | (go_at_call 37; (with_reducible refine (laws_eqIntSS.calls k _ _ h1 _ _ w1 true _ (Kd.S_reads' HO7.out).2.2 (Kd.S_reads' HO7.out).2.1 (Kd.S_reads' HO2.out).2.2 (Kd.S_reads' HO2.out).2.1 E15.out).mono ?_); clear E15; rintro e W15 ⟨rfl, hd⟩; have hb := below_drawn hd; clear hd; have n_ := Aside0.mk (Kd.S_below HO1.out hb); clear HO1; have HO1 := n_; clear n_; have n_ := Aside0.mk (Kd.S_below HO2.out hb); clear HO2; have HO2 := n_; clear n_; have n_ := Aside0.mk (Kd.S_below HO3.out hb); clear HO3; have HO3 := n_; clear n_; have n_ := Aside0.mk (Kd.S_below HO4.out hb); clear HO4; have HO4 := n_; clear n_; have n_ := Aside0.mk (Kd.S_below HO5.out hb); clear HO5; have HO5 := n_; clear n_; have n_ := Aside0.mk (Kd.S_below HO6.out hb); clear HO6; have HO6 := n_; clear n_; have n_ := Aside0.mk (Kd.S_below HO7.out hb); clear HO7; have HO7 := n_; clear n_; have n_ := Aside0.mk (below_step HB.out hb); clear HB; have HB := n_; clear n_; have n_ := Aside0.mk (Nat.le_trans HZ.out hb.size); clear HZ; have HZ := n_; clear n_ hb)
        | (go_at_call 39; (with_reducible refine (laws_heldIntSS.calls k _ _ y2 1 q3 _ (Kd.S_reads' HO4.out).2.2 (Kd.S_reads' HO4.out).2.1 E16.out).mono ?_); clear E16; rintro e W16 ⟨rfl, hd⟩; have hb := below_drawn hd; clear hd; have n_ := Aside0.mk (Kd.S_below HO1.out hb); clear HO1; have HO1 := n_; clear n_; have n_ := Aside0.mk (Kd.S_below HO2.out hb); clear HO2; have HO2 := n_; clear n_; have n_ := Aside0.mk (Kd.S_below HO3.out hb); clear HO3; have HO3 := n_; clear n_; have n_ := Aside0.mk (Kd.S_below HO4.out hb); clear HO4; have HO4 := n_; clear n_; have n_ := Aside0.mk (Kd.S_below HO5.out hb); clear HO5; have HO5 := n_; clear n_; have n_ := Aside0.mk (Kd.S_below HO6.out hb); clear HO6; have HO6 := n_; clear n_; have n_ := Aside0.mk (Kd.S_below HO7.out hb); clear HO7; have HO7 := n_; clear n_; have n_ := Aside0.mk (below_step HB.out hb); clear HB; have HB := n_; clear n_; have n_ := Aside0.mk (Nat.le_trans HZ.out hb.size); clear HZ; have HZ := n_; clear n_ hb))
      go_ret
      exact ⟨rfl, HB.out⟩
    · rw [if_neg z] at h
      cases h

end Go.Proofs.Ytpdnocpnibcicaa.LF
