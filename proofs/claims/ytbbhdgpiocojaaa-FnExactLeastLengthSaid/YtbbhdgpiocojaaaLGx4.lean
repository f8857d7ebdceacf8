/- Printed by a program of this session (wip/lp/lp.py) out of the translation: functions with the same answers as the Go code, and their contracts; no conditions beyond those that each theorem names. -/
import Derived.Test.YtbbhdgpiocojaaaLGx0
import Derived.Test.YtbbhdgpiocojaaaLGx3
namespace Go.Proofs.Ytbbhdgpiocojaaa.LG
open Go.RowKit Go.Proofs.YtbbhdgpiocojaaaV.PrintWords Go.Proofs.YtbbhdgpiocojaaaV.PrintLast Go.Proofs.YtbbhdgpiocojaaaV.PrintMore
attribute [local go_sem] max2_int min2_int max_two min_two max_three min_three max_four min_four   -- for this text's walks alone
set_option linter.unusedVariables false
set_option linter.unusedSimpArgs false

/-! ### impl_TreeOk: function 38 -/
mutual
def impl_TreeOk.j0 : Nat → List Int → Bool → Option (Bool)
  | 0, _, _ => none
  | k + 1, x0, x14 => if x14 = true then (some false) else (impl_TreeOk.l0 k x0 0 x0 (x0.length : Int) 0)
def impl_TreeOk.l0 : Nat → List Int → Int → List Int → Int → Int → Option (Bool)
  | 0, _, _, _, _, _ => none
  | k + 1, x0, x3, x15, x16, x17 => if x17 < x16 then (if 0 ≤ x17 then (if x17 < (x15.length : Int) then (if (rd x15 x17) < 0 then (impl_TreeOk.j2 k x0 x3 (rd x15 x17) x15 x16 x17 true) else (impl_TreeOk.j2 k x0 x3 (rd x15 x17) x15 x16 x17 (decide ((rd x15 x17) > (x0.length : Int))))) else (none)) else (none)) else (impl_TreeOk.l1 k x0 x3 (x0.length : Int) 0)
def impl_TreeOk.j2 : Nat → List Int → Int → Int → List Int → Int → Int → Bool → Option (Bool)
  | 0, _, _, _, _, _, _, _ => none
  | k + 1, x0, x3, x5, x15, x16, x17, x28 => if x28 = true then (some false) else (if x5 = 0 then (impl_TreeOk.l0 k x0 (wrap64 (x3 + 1)) x15 x16 (wrap64 (x17 + 1))) else (impl_TreeOk.l0 k x0 x3 x15 x16 (wrap64 (x17 + 1))))
def impl_TreeOk.l1 : Nat → List Int → Int → Int → Int → Option (Bool)
  | 0, _, _, _, _ => none
  | k + 1, x0, x3, x35, x36 => if x36 < x35 then ((impl_steps.f k x0 (wrap64 (x36 + 1))).bind fun t180 => (if t180 < 0 then (some false) else (impl_TreeOk.l1 k x0 x3 x35 (wrap64 (x36 + 1))))) else (some (x3 == 1))
end
def impl_TreeOk.f (k : Nat) (l0 : List Int) : Option (Bool) := if (l0.length : Int) < 1 then (impl_TreeOk.j0 k l0 true) else (impl_TreeOk.j0 k l0 (decide ((l0.length : Int) > 8)))
theorem impl_TreeOk.mono_l : ∀ k, (∀ y0 y1, LeO (impl_TreeOk.j0 k y0 y1) (impl_TreeOk.j0 (k + 1) y0 y1)) ∧ (∀ y0 y1 y2 y3 y4, LeO (impl_TreeOk.l0 k y0 y1 y2 y3 y4) (impl_TreeOk.l0 (k + 1) y0 y1 y2 y3 y4)) ∧ (∀ y0 y1 y2 y3 y4 y5 y6, LeO (impl_TreeOk.j2 k y0 y1 y2 y3 y4 y5 y6) (impl_TreeOk.j2 (k + 1) y0 y1 y2 y3 y4 y5 y6)) ∧ (∀ y0 y1 y2 y3, LeO (impl_TreeOk.l1 k y0 y1 y2 y3) (impl_TreeOk.l1 (k + 1) y0 y1 y2 y3))
  | 0 => ⟨fun _ _ r h => by simp [impl_TreeOk.j0] at h, fun _ _ _ _ _ r h => by simp [impl_TreeOk.l0] at h, fun _ _ _ _ _ _ _ r h => by simp [impl_TreeOk.j2] at h, fun _ _ _ _ r h => by simp [impl_TreeOk.l1] at h⟩
  | k + 1 => by
    obtain ⟨ih0, ih1, ih2, ih3⟩ := impl_TreeOk.mono_l k
    refine ⟨?_, ?_, ?_, ?_⟩
    · intro y0 y1
      unfold impl_TreeOk.j0
      repeat' first
      | (with_reducible exact ih0 _ _)
      | (with_reducible exact ih1 _ _ _ _ _)
      | (with_reducible exact ih2 _ _ _ _ _ _ _)
      | (with_reducible exact ih3 _ _ _ _)
      | (with_reducible exact impl_steps.mono _ _ _)
      | (with_reducible exact LeO.refl _)
      | (with_reducible exact LeO.none _)
      | (with_reducible refine LeO.ite ?_ ?_)
      | (with_reducible refine LeO.bind ?_ (fun _ => ?_))
      | exact ih0 _ _
      | exact ih1 _ _ _ _ _
      | exact ih2 _ _ _ _ _ _ _
      | exact ih3 _ _ _ _
      | exact impl_steps.mono _ _ _
      | exact LeO.none _
      | refine LeO.ite ?_ ?_
      | refine LeO.bind ?_ (fun _ => ?_)
    · intro y0 y1 y2 y3 y4
      unfold impl_TreeOk.l0
      repeat' first
      | (with_reducible exact ih0 _ _)
      | (with_reducible exact ih1 _ _ _ _ _)
      | (with_reducible exact ih2 _ _ _ _ _ _ _)
      | (with_reducible exact ih3 _ _ _ _)
      | (with_reducible exact impl_steps.mono _ _ _)
      | (with_reducible exact LeO.refl _)
      | (with_reducible exact LeO.none _)
      | (with_reducible refine LeO.ite ?_ ?_)
      | (with_reducible refine LeO.bind ?_ (fun _ => ?_))
      | exact ih0 _ _
      | exact ih1 _ _ _ _ _
      | exact ih2 _ _ _ _ _ _ _
      | exact ih3 _ _ _ _
      | exact impl_steps.mono _ _ _
      | exact LeO.none _
      | refine LeO.ite ?_ ?_
      | refine LeO.bind ?_ (fun _ => ?_)
    · intro y0 y1 y2 y3 y4 y5 y6
      unfold impl_TreeOk.j2
      repeat' first
      | (with_reducible exact ih0 _ _)
      | (with_reducible exact ih1 _ _ _ _ _)
      | (with_reducible exact ih2 _ _ _ _ _ _ _)
      | (with_reducible exact ih3 _ _ _ _)
      | (with_reducible exact impl_steps.mono _ _ _)
      | (with_reducible exact LeO.refl _)
      | (with_reducible exact LeO.none _)
      | (with_reducible refine LeO.ite ?_ ?_)
      | (with_reducible refine LeO.bind ?_ (fun _ => ?_))
      | exact ih0 _ _
      | exact ih1 _ _ _ _ _
      | exact ih2 _ _ _ _ _ _ _
      | exact ih3 _ _ _ _
      | exact impl_steps.mono _ _ _
      | exact LeO.none _
      | refine LeO.ite ?_ ?_
      | refine LeO.bind ?_ (fun _ => ?_)
    · intro y0 y1 y2 y3
      unfold impl_TreeOk.l1
      repeat' first
      | (with_reducible exact ih0 _ _)
      | (with_reducible exact ih1 _ _ _ _ _)
      | (with_reducible exact ih2 _ _ _ _ _ _ _)
      | (with_reducible exact ih3 _ _ _ _)
      | (with_reducible exact impl_steps.mono _ _ _)
      | (with_reducible exact LeO.refl _)
      | (with_reducible exact LeO.none _)
      | (with_reducible refine LeO.ite ?_ ?_)
      | (with_reducible refine LeO.bind ?_ (fun _ => ?_))
      | exact ih0 _ _
      | exact ih1 _ _ _ _ _
      | exact ih2 _ _ _ _ _ _ _
      | exact ih3 _ _ _ _
      | exact impl_steps.mono _ _ _
      | exact LeO.none _
      | refine LeO.ite ?_ ?_
      | refine LeO.bind ?_ (fun _ => ?_)
theorem impl_TreeOk.mono : ∀ a0 k, LeO (impl_TreeOk.f k a0) (impl_TreeOk.f (k + 1) a0) := by
  intro a0 k
  obtain ⟨ih0, ih1, ih2, ih3⟩ := impl_TreeOk.mono_l k
  unfold impl_TreeOk.f
  repeat' first
      | (with_reducible exact ih0 _ _)
      | (with_reducible exact ih1 _ _ _ _ _)
      | (with_reducible exact ih2 _ _ _ _ _ _ _)
      | (with_reducible exact ih3 _ _ _ _)
      | (with_reducible exact impl_steps.mono _ _ _)
      | (with_reducible exact LeO.refl _)
      | (with_reducible exact LeO.none _)
      | (with_reducible refine LeO.ite ?_ ?_)
      | (with_reducible refine LeO.bind ?_ (fun _ => ?_))
      | exact ih0 _ _
      | exact ih1 _ _ _ _ _
      | exact ih2 _ _ _ _ _ _ _
      | exact ih3 _ _ _ _
      | exact impl_steps.mono _ _ _
      | exact LeO.none _
      | refine LeO.ite ?_ ?_
      | refine LeO.bind ?_ (fun _ => ?_)
set_option maxHeartbeats 8000000 in
set_option maxRecDepth 100000 in
theorem impl_TreeOk.calls (k : Nat) (A0 : Option Addr) (c0 : Nat) (l0 : List Int) (r : Bool) (w : World) (hr0 : Kd.C (Kd.int .i64) w A0 l0.length l0) (hc0 : l0.length ≤ c0) (h : impl_TreeOk.f k l0 = some r) :
    Calls Try.prog 38 #[.slice A0 l0.length c0] w fun e w' => e = .returned (.bool r) ∧ Drawn0 w w' := by
  have HR0 := Aside0.mk hr0
  have HC0 := Aside0.mk hc0
  clear hr0 hc0
  have H : (if (l0.length : Int) < 1 then (impl_TreeOk.j0 k l0 true) else (impl_TreeOk.j0 k l0 (decide ((l0.length : Int) > 8)))) = some r := h
  clear h
  have HC2 := Aside0.mk H
  clear H
  go_enter Try.func38, Try.ntmps38
  go_upto_region 1 with (fail)
  go_cut [14] (fun v14 wc => ∃ (kq : Nat) (x14_1 : Bool), v14 = .bool x14_1 ∧ Aside0 (impl_TreeOk.j0 kq l0 x14_1 = some r) ∧ Aside0 (kq ≤ k) ∧ Drawn0 w wc)
  case first =>
    have H := HC2.out
    clear HC2
    by_cases c3 : (l0.length : Int) < 1
    · rw [if_pos c3] at H
      have c3b0 : decide ((l0.length : Int) < 1) = true := decide_eq_true c3
      have c3b1 : decide (l0.length < 1) = true := decide_eq_true (by omega)
      clear c3
      (first | rw [c3b0] | (simp only [i64_w, i32_w]; rw [c3b0]) | skip)
      have H' := Aside0.mk H
      clear H
      go_wp2
      go_meet
      case rel => exact ⟨_, (true), (by first | rfl | (simp; done) | (simp [*]; done)), H', ⟨by first | omega | exact Nat.le_refl _⟩, by repeat (first | exact Drawn0.refl _ | apply Drawn0.step)⟩
    · rw [if_neg c3] at H
      have c3b0 : decide ((l0.length : Int) < 1) = false := decide_eq_false c3
      have c3b1 : decide (l0.length < 1) = false := decide_eq_false (by omega)
      clear c3
      (first | rw [c3b0] | (simp only [i64_w, i32_w]; rw [c3b0]) | skip)
      have H' := Aside0.mk H
      clear H
      go_wp2
      go_meet
      case rel => exact ⟨_, (decide ((l0.length : Int) > 8)), (by first | rfl | (simp; done) | (simp [*]; done)), H', ⟨by first | omega | exact Nat.le_refl _⟩, by repeat (first | exact Drawn0.refl _ | apply Drawn0.step)⟩
  case rest =>
    clear HC2
    try clear p2
    try clear c3
    try clear c3b0
    try clear c3b1
    obtain ⟨kq, x14_1, rfl, HA, HJ1, ⟨mc1, rfl⟩⟩ := hcut
    cases kq with
    | zero => exact absurd HA.out (by simp [impl_TreeOk.j0])
    | succ kj1 =>
      have H := HA.out
      clear HA
      simp only [impl_TreeOk.j0] at H
      by_cases c4 : x14_1 = true
      · subst c4
        have H1 : (some false) = some r := by rw [if_pos rfl] at H; exact H
        clear H
        have H := H1
        clear H1
        obtain rfl := Option.some.inj H
        go_wp2
        go_ret
        exact ⟨by first | rfl | (simp; done) | (simp [*]; done), by repeat (first | exact Drawn0.refl _ | apply Drawn0.step)⟩
      · replace c4 := Bool.eq_false_iff.mpr c4
        subst c4
        have H1 : (impl_TreeOk.l0 kj1 l0 0 l0 (l0.length : Int) 0) = some r := by rw [if_neg (show ¬ (false = true) by decide)] at H; exact H
        clear H
        have H := H1
        clear H1
        have H' := Aside0.mk H
        clear H
        go_wp2
        go_loopg [3, 17] kj1 (fun kq v3 v17 w' => ∃ (x3_2 : Int) (x17_2 : Int), v3 = .int .i64 x3_2 ∧ v17 = .int .i64 x17_2 ∧ Aside0 (impl_TreeOk.l0 kq l0 x3_2 l0 (l0.length : Int) x17_2 = some r) ∧ Aside0 (kq ≤ kj1) ∧ Drawn0 w w')
        case atStart => exact ⟨(0), (0), (by first | rfl | (simp; done) | (simp [*]; done)), (by first | rfl | (simp; done) | (simp [*]; done)), H', ⟨Nat.le_refl _⟩, by repeat (first | exact Drawn0.refl _ | apply Drawn0.step)⟩
        case round =>
          clear H'
          try clear c1
          try clear p2
          try clear c3
          try clear c3b0
          try clear c3b1
          try clear c4
          try clear p2
          obtain ⟨x3_2, x17_2, rfl, rfl, HA, HK2, ⟨m2, rfl⟩⟩ := hrel
          cases gk with
          | zero => exact absurd HA.out (by simp [impl_TreeOk.l0])
          | succ k2 =>
            have H := HA.out
            clear HA
            simp only [impl_TreeOk.l0] at H
            by_cases c5 : x17_2 < (l0.length : Int)
            · rw [if_pos c5] at H
              have c5b0 : decide (x17_2 < (l0.length : Int)) = true := decide_eq_true c5
              clear c5
              by_cases c6 : 0 ≤ x17_2
              · rw [if_pos c6] at H
                have c6b0 : decide (0 ≤ x17_2) = true := decide_eq_true c6
                clear c6
                by_cases c7 : x17_2 < (l0.length : Int)
                · rw [if_pos c7] at H
                  have c7b0 : decide (x17_2 < (l0.length : Int)) = true := decide_eq_true c7
                  clear c7
                  have HC8 := Aside0.mk H
                  clear H
                  have p179 : 0 ≤ (x17_2 : Int) := of_decide_eq_true (by first | (with_reducible assumption) | assumption)
                  have q179 : x17_2 < (l0.length : Int) := of_decide_eq_true (by first | (with_reducible assumption) | assumption)
                  obtain ⟨ad179, e179, hx179_0⟩ := Kd.at_int HR0.out x17_2 p179 q179
                  cases e179
                  replace p179 := eq_true p179
                  replace q179 := eq_true q179
                  go_upto_region 7 with (fail)
                  go_cut [28] (fun v28 wc => ∃ (kq : Nat) (x28_7 : Bool), v28 = .bool x28_7 ∧ Aside0 (impl_TreeOk.j2 kq l0 x3_2 (rd l0 x17_2) l0 (l0.length : Int) x17_2 x28_7 = some r) ∧ Aside0 (kq ≤ k2) ∧ Drawn0 w wc)
                  case first =>
                    have H := HC8.out
                    clear HC8
                    by_cases c9 : (rd l0 x17_2) < 0
                    · rw [if_pos c9] at H
                      have c9b0 : decide ((rd l0 x17_2) < 0) = true := decide_eq_true c9
                      clear c9
                      (first | rw [c9b0] | (simp only [i64_w, i32_w]; rw [c9b0]) | skip)
                      have H' := Aside0.mk H
                      clear H
                      go_wp2
                      go_meet
                      case rel => exact ⟨_, (true), (by first | rfl | (simp; done) | (simp [*]; done)), H', ⟨by have := HJ1.out; have := HK2.out; first | omega | exact Nat.le_refl _⟩, by repeat (first | exact Drawn0.refl _ | apply Drawn0.step)⟩
                    · rw [if_neg c9] at H
                      have c9b0 : decide ((rd l0 x17_2) < 0) = false := decide_eq_false c9
                      clear c9
                      (first | rw [c9b0] | (simp only [i64_w, i32_w]; rw [c9b0]) | skip)
                      have H' := Aside0.mk H
                      clear H
                      go_wp2
                      go_meet
                      case rel => exact ⟨_, (decide ((rd l0 x17_2) > (l0.length : Int))), (by first | rfl | (simp; done) | (simp [*]; done)), H', ⟨by have := HJ1.out; have := HK2.out; first | omega | exact Nat.le_refl _⟩, by repeat (first | exact Drawn0.refl _ | apply Drawn0.step)⟩
                  case rest =>
                    clear HC8
                    try clear c1
                    try clear p1
                    try clear q1
                    try clear hx1
                    try clear p2
                    try clear c3
                    try clear c3b0
                    try clear c3b1
                    try clear c4
                    try clear c5
                    try clear c5b0
                    try clear c6
                    try clear c6b0
                    try clear c7
                    try clear c7b0
                    try clear c9
                    try clear c9b0
                    try clear hx179_0
                    try clear p179
                    try clear p2
                    try clear q179
                    obtain ⟨kq, x28_7, rfl, HA, HJ7, ⟨mc7, rfl⟩⟩ := hcut
                    cases kq with
                    | zero => exact absurd HA.out (by simp [impl_TreeOk.j2])
                    | succ kj7 =>
                      have H := HA.out
                      clear HA
                      simp only [impl_TreeOk.j2] at H
                      by_cases c10 : x28_7 = true
                      · subst c10
                        have H1 : (some false) = some r := by rw [if_pos rfl] at H; exact H
                        clear H
                        have H := H1
                        clear H1
                        obtain rfl := Option.some.inj H
                        go_wp2
                        go_ret
                        exact ⟨by first | rfl | (simp; done) | (simp [*]; done), by repeat (first | exact Drawn0.refl _ | apply Drawn0.step)⟩
                      · replace c10 := Bool.eq_false_iff.mpr c10
                        subst c10
                        have H1 : (if (rd l0 x17_2) = 0 then (impl_TreeOk.l0 kj7 l0 (wrap64 (x3_2 + 1)) l0 (l0.length : Int) (wrap64 (x17_2 + 1))) else (impl_TreeOk.l0 kj7 l0 x3_2 l0 (l0.length : Int) (wrap64 (x17_2 + 1)))) = some r := by rw [if_neg (show ¬ (false = true) by decide)] at H; exact H
                        clear H
                        have H := H1
                        clear H1
                        by_cases c11 : (rd l0 x17_2) = 0
                        · rw [if_pos c11] at H
                          have c11b0 : ((rd l0 x17_2) == 0) = true := beq_iff_eq.mpr c11
                          have c11b1 : ((rd l0 x17_2) != 0) = false := bne_eq_false_iff_eq.mpr c11
                          clear c11
                          have H' := Aside0.mk H
                          clear H
                          go_wp2
                          go_roundg kj7
                          case measure => have := HJ1.out; have := HK2.out; have := HJ7.out; omega
                          case rel => exact ⟨(wrap64 (x3_2 + 1)), (wrap64 (x17_2 + 1)), (by first | rfl | (simp; done) | (simp [*]; done)), (by first | rfl | (simp; done) | (simp [*]; done)), H', ⟨by have := HJ1.out; have := HK2.out; have := HJ7.out; omega⟩, by repeat (first | exact Drawn0.refl _ | apply Drawn0.step)⟩
                        · rw [if_neg c11] at H
                          have c11b0 : ((rd l0 x17_2) == 0) = false := beq_eq_false_iff_ne.mpr c11
                          have c11b1 : ((rd l0 x17_2) != 0) = true := bne_iff_ne.mpr c11
                          have H' := Aside0.mk H
                          clear H
                          go_wp2
                          go_roundg kj7
                          case measure => have := HJ1.out; have := HK2.out; have := HJ7.out; omega
                          case rel => exact ⟨(x3_2), (wrap64 (x17_2 + 1)), (by first | rfl | (simp; done) | (simp [*]; done)), (by first | rfl | (simp; done) | (simp [*]; done)), H', ⟨by have := HJ1.out; have := HK2.out; have := HJ7.out; omega⟩, by repeat (first | exact Drawn0.refl _ | apply Drawn0.step)⟩
                · rw [if_neg c7] at H
                  exact absurd H (by simp)
              · rw [if_neg c6] at H
                exact absurd H (by simp)
            · rw [if_neg c5] at H
              have c5b0 : decide (x17_2 < (l0.length : Int)) = false := decide_eq_false c5
              clear c5
              have H' := Aside0.mk H
              clear H
              go_wp2
              go_loopg [36] k2 (fun kq v36 w' => ∃ (x36_3 : Int), v36 = .int .i64 x36_3 ∧ Aside0 (impl_TreeOk.l1 kq l0 x3_2 (l0.length : Int) x36_3 = some r) ∧ Aside0 (kq ≤ k2) ∧ Drawn0 w w')
              case atStart => exact ⟨(0), (by first | rfl | (simp; done) | (simp [*]; done)), H', ⟨Nat.le_refl _⟩, by repeat (first | exact Drawn0.refl _ | apply Drawn0.step)⟩
              case round =>
                clear H'
                try clear c1
                try clear p1
                try clear q1
                try clear hx1
                try clear p2
                try clear c3
                try clear c3b0
                try clear c3b1
                try clear c4
                try clear c5
                try clear c5b0
                try clear c6
                try clear c6b0
                try clear p6
                try clear c7
                try clear c7b0
                try clear c9
                try clear c9b0
                try clear c10
                try clear c11
                try clear c11b0
                try clear c11b1
                try clear hx179_0
                try clear p1
                try clear p179
                try clear p2
                try clear q1
                try clear q179
                obtain ⟨x36_3, rfl, HA, HK3, ⟨m3, rfl⟩⟩ := hrel
                cases gk with
                | zero => exact absurd HA.out (by simp [impl_TreeOk.l1])
                | succ k3 =>
                  have H := HA.out
                  clear HA
                  simp only [impl_TreeOk.l1] at H
                  by_cases c12 : x36_3 < (l0.length : Int)
                  · rw [if_pos c12] at H
                    have c12b0 : decide (x36_3 < (l0.length : Int)) = true := decide_eq_true c12
                    clear c12
                    replace H := Option.bind_eq_some_iff.mp H
                    obtain ⟨t180, A130, H⟩ := H
                    replace H : (if t180 < 0 then (some false) else (impl_TreeOk.l1 k3 l0 x3_2 (l0.length : Int) (wrap64 (x36_3 + 1)))) = some r := H
                    have A13 := Aside0.mk A130
                    clear A130
                    by_cases c14 : t180 < 0
                    · rw [if_pos c14] at H
                      have c14b0 : decide (t180 < 0) = true := decide_eq_true c14
                      clear c14
                      obtain rfl := Option.some.inj H
                      go_wp2_with (first | ((with_reducible refine gate_callee (f := 84) rfl ?_); refine goesL_ (some 42) rfl rfl Try.func84 (by kernel_rfl) rfl #[.slice A0 l0.length c0, .int .i64 (wrap64 (x36_3 + 1))] rfl (by (try simp only [List.map_toArray, List.map_cons, List.map_nil]); first | done | rfl | (simp only [List.length_drop, List.length_take]; rfl)) ?_; (with_reducible refine (impl_steps.calls k3 _ _ l0 (wrap64 (x36_3 + 1)) t180 _ ?side1 ?side2 A13.out).mono ?_); (case side1 => repeat (first | exact HR0.out | (with_reducible refine Kd.C_alloc ?_ _) | (with_reducible refine Kd.C_drewN ?_ _) | (with_reducible refine Kd.C_drew ?_))); (case side2 => exact HC0.out); rintro e w' ⟨rfl, ⟨nd, rfl⟩⟩; refine ⟨_, rfl, ?_⟩))
                      go_ret
                      exact ⟨by first | rfl | (simp; done) | (simp [*]; done), by repeat (first | exact Drawn0.refl _ | apply Drawn0.step)⟩
                    · rw [if_neg c14] at H
                      have c14b0 : decide (t180 < 0) = false := decide_eq_false c14
                      clear c14
                      have H' := Aside0.mk H
                      clear H
                      go_wp2_with (first | ((with_reducible refine gate_callee (f := 84) rfl ?_); refine goesL_ (some 42) rfl rfl Try.func84 (by kernel_rfl) rfl #[.slice A0 l0.length c0, .int .i64 (wrap64 (x36_3 + 1))] rfl (by (try simp only [List.map_toArray, List.map_cons, List.map_nil]); first | done | rfl | (simp only [List.length_drop, List.length_take]; rfl)) ?_; (with_reducible refine (impl_steps.calls k3 _ _ l0 (wrap64 (x36_3 + 1)) t180 _ ?side1 ?side2 A13.out).mono ?_); (case side1 => repeat (first | exact HR0.out | (with_reducible refine Kd.C_alloc ?_ _) | (with_reducible refine Kd.C_drewN ?_ _) | (with_reducible refine Kd.C_drew ?_))); (case side2 => exact HC0.out); rintro e w' ⟨rfl, ⟨nd, rfl⟩⟩; refine ⟨_, rfl, ?_⟩))
                      go_roundg k3
                      case measure => have := HJ1.out; have := HK2.out; have := HK3.out; omega
                      case rel => exact ⟨(wrap64 (x36_3 + 1)), (by first | rfl | (simp; done) | (simp [*]; done)), H', ⟨by have := HJ1.out; have := HK2.out; have := HK3.out; omega⟩, by repeat (first | exact Drawn0.refl _ | apply Drawn0.step)⟩
                  · rw [if_neg c12] at H
                    have c12b0 : decide (x36_3 < (l0.length : Int)) = false := decide_eq_false c12
                    clear c12
                    obtain rfl := Option.some.inj H
                    go_wp2
                    go_ret
                    exact ⟨by first | rfl | (simp; done) | (simp [*]; done), by repeat (first | exact Drawn0.refl _ | apply Drawn0.step)⟩

/-! ### slices_Clone_int_int: function 126, told by hand -/
def slices_Clone_int_int.f (l0 : List Int) : Option (List Int) := if l0.length < 17592186044416 then some l0 else none
set_option maxHeartbeats 8000000 in
theorem slices_Clone_int_int.calls (A0 : Option Addr) (c0 : Nat) (l0 : List Int) (r : List Int) (w : World) (hr0 : Kd.C (Kd.int .i64) w A0 l0.length l0) (hc0 : l0.length ≤ c0) (h : slices_Clone_int_int.f l0 = some r) :
    Calls Try.prog 126 #[.slice A0 l0.length c0] w fun e w' => ∃ v0_ : Value, e = .returned (v0_) ∧ Kd.R (Kd.int .i64) 3 w' w.heap.size (fun _ => True) v0_ r ∧ Below w.heap.size w w' := by
  unfold slices_Clone_int_int.f at h
  by_cases hl : l0.length < 17592186044416
  · rw [if_pos hl] at h
    obtain rfl := Option.some.inj h
    have HR := Aside0.mk hr0
    have HL := Aside0.mk hl
    clear hr0 hl h hc0
    rcases A0 with _ | ad
    · have h0 : l0 = [] := by
        cases l0 with
        | nil => rfl
        | cons a t => obtain ⟨ad, e, _⟩ := Kd.at_int HR.out 0 (by omega) (by simp); cases e
      subst h0
      go_enter Try.func126, Try.ntmps126
      have hz := fun w' : World => Lib.run_eql_slice_nil (P := Try.prog) (w := w')
      go_wp2
      go_ret
      exact ⟨_, rfl, Kd.R_nil _ _ _ _ _, Below.refl _ _⟩
    · go_enter Try.func126, Try.ntmps126
      have hz := fun w' : World => Lib.run_eql_slice_nil (P := Try.prog) (w := w')
      go_wp2_with (first
        | ((with_reducible refine gate_dst (N := 5) rfl ?_); refine Kd.R_lit (Kd.int .i64) (w0 := w) w.heap.size 3 ?hg (N := 5) ?hd (xs := ([] : List Int)) (inner := []) (ok := fun _ => True) (okp := fun _ => True) ?hr ?hp (fun _ hk => hk) trivial (Below.refl _ _) (Nat.le_refl _) (by simp) ?_; (case hd => rfl); (case hg => rfl); (case hr => first | (go_simp; done) | (go_simp; rfl)); (case hp => exact (Reps.none _ _)); intro v1 w1 ho1 hb1 hg1 hnew1; clear hg1 hnew1; have HO1 := Aside0.mk ho1; have HB1 := Aside0.mk hb1; clear ho1 hb1)
        | ((with_reducible refine gate_dst (N := 7) rfl ?_); refine Kd.R_append_row (Value.int .i64) 0 (w0 := w) w.heap.size rfl (.tmp 5) (.tmp 6) 22 3 (.int .i64 0) 8 rfl Try.underlying22 info3 rfl (by decide) v1 [] l0 _ _ _ (fun _ => True) rfl rfl (fun _ _ => trivial) HO1.out (Kd.C_below HR.out HB1.out) HB1.out HB1.out.size (by have := HL.out; simp only [List.length_nil]; omega) ?_; intro v2 w2 ho2 hb2 hg2 hat2; clear hg2 hat2; have HO2 := Aside0.mk ho2; have HB2 := Aside0.mk hb2; clear ho2 hb2))
      go_ret
      exact ⟨_, rfl, HO2.out, HB2.out⟩
  · rw [if_neg hl] at h; cases h

/-! ### impl_flatOrders: function 99, told by hand -/
section
attribute [local go_sem ↓] Go.wp_at_zero Go.wp_at_succ
set_option maxHeartbeats 8000000
set_option maxRecDepth 100000
/-- is the block taken already -/
def fo_ubit (u : Int) (k : Nat) : Bool := Go.bits .and .i64 (u / 2 ^ k) 1 == 1
def fo_uset (u : Int) (k : Nat) : Int := Go.bits .or .i64 u (wrap64 (2 ^ k))
def fo_ufull (n : Nat) : Int := wrap64 (wrap64 (2 ^ n) - 1)
def fo_oRows (P : List Int → Option (List (List Int))) (o : List Int) : (List (List Int)) → Option (List (List Int))
  | [] => some []
  | r :: rs => if (o ++ r).length ≤ 100 then (P (o ++ r)).bind fun a => (fo_oRows P o rs).bind fun b => some (a ++ b) else none
def fo_oBlk (P : List Int → Int → Option (List (List Int))) (o : List Int) (u : Int) : Nat → List (List (List Int)) → Option (List (List Int))
  | _, [] => some []
  | k, b :: bs => if fo_ubit u k = true then fo_oBlk P o u (k + 1) bs else (fo_oRows (fun o => P o (fo_uset u k)) o b).bind fun a => (fo_oBlk P o u (k + 1) bs).bind fun c => some (a ++ c)
/-- all rows that the closure adds -/
def fo_oPut (bs : List (List (List Int))) : Nat → List Int → Int → Option (List (List Int))
  | 0, _, _ => none
  | m + 1, o, u => if u = fo_ufull bs.length then some [o] else fo_oBlk (fo_oPut bs m) o u 0 bs
/-- what the closure finds: the blocks, read only; the rows told so far; itself -/
structure fo_PIn (wB : World) (B lo : Nat) (gb ga gp : Nat) (bs : List (List (List Int))) (w : World) (va : Value) (acc : (List (List Int))) : Prop where
  eB : wB.heap.size = B
  bel : Below B wB w
  lb : gb < B
  la : B ≤ ga
  lp : B ≤ gp
  ne : ga ≠ gp
  sz : lo ≤ w.heap.size
  lga : ga < lo
  lgp : gp < lo
  sB : B ≤ w.heap.size
  blk : ∃ Ab cb, wB.heap[gb]? = some (.cells #[.slice Ab bs.length cb] 111 (0, 0)) ∧ Kd.C (Kd.slice 22 (Kd.slice 3 (Kd.int .i64))) wB Ab bs.length bs
  all : w.heap[ga]? = some (.cells #[va] 23 (0, 0))
  own : Kd.S (Kd.slice 3 (Kd.int .i64)) 22 w B (fun k => B ≤ k ∧ k < lo) va acc
  fn : w.heap[gp]? = some (.cells #[.func (.func 125) #[] #[.pointer (some ⟨gb, 0, none⟩), .pointer (some ⟨ga, 0, none⟩), .pointer (some ⟨gp, 0, none⟩)]] 112 (0, 0))
theorem fo_PIn.nega {wB : World} {B lo gb ga gp : Nat} {bs : List (List (List Int))} {w : World} {va : Value} {acc : (List (List Int))} (h : fo_PIn wB B lo gb ga gp bs w va acc) : some ga ≠ va.ownBlock ∧ some gp ≠ va.ownBlock ∧ some gb ≠ va.ownBlock := by
  refine ⟨Kd.S_ne h.own h.all (by decide), Kd.S_ne h.own h.fn (by decide), fun q => ?_⟩
  have := Kd.S_base h.own gb q.symm
  have := h.lb
  omega
theorem fo_PIn.below {wB : World} {B lo gb ga gp : Nat} {bs : List (List (List Int))} {w w1 : World} {va : Value} {acc : (List (List Int))} (h : fo_PIn wB B lo gb ga gp bs w va acc) (hb : Below w.heap.size w w1) : fo_PIn wB B w.heap.size gb ga gp bs w1 va acc :=
  ⟨h.eB, h.bel.trans (hb.mono h.sB), h.lb, h.la, h.lp, h.ne, hb.size, blk_lt h.all, blk_lt h.fn, Nat.le_trans h.sB hb.size, h.blk, blk_below h.all hb, Kd.S_mono (Kd.S_below h.own hb) (fun k hk => ⟨hk.1, Nat.lt_of_lt_of_le hk.2 h.sz⟩), blk_below h.fn hb⟩
def fo_PutP (wB : World) (B : Nat) (gb ga gp : Nat) (bs : List (List (List Int))) (w : World) (va : Value) (acc : (List (List Int))) (e : Ending) (w' : World) : Prop :=
  ∃ va', e = .returned (.tuple #[]) ∧ fo_PIn wB B w'.heap.size gb ga gp bs w' va' acc ∧ KeepBut w w' ga va.ownBlock ∧ (va'.ownBlock = va.ownBlock ∨ ∃ b, va'.ownBlock = some b ∧ w.heap.size ≤ b) ∧ Below B w w'
theorem fo_put_leaf {wB : World} {B lo gb ga gp : Nat} {bs : List (List (List Int))} {w w1 : World} {va v1 : Value} {acc acc' : (List (List Int))} (h : fo_PIn wB B lo gb ga gp bs w va acc) (hs : Kd.S (Kd.slice 3 (Kd.int .i64)) 22 w1 B (fun k => B ≤ k) v1 acc') (hb : Below B w w1) (hg : w.grownBy w1 va.ownBlock) (hat : v1.ownBlock = va.ownBlock ∨ ∃ b, v1.ownBlock = some b ∧ w.heap.size ≤ b) :
    fo_PIn wB B (w1.setCell ⟨ga, 0, none⟩ v1).heap.size gb ga gp bs (w1.setCell ⟨ga, 0, none⟩ v1) v1 acc' ∧ KeepBut w (w1.setCell ⟨ga, 0, none⟩ v1) ga va.ownBlock ∧ Below B w (w1.setCell ⟨ga, 0, none⟩ v1) := by
  obtain ⟨n1, n2, n3⟩ := h.nega
  have ha := blk_grown h.all hg n1
  have hf := blk_grown h.fn hg n2
  have hbb : Below B w (w1.setCell ⟨ga, 0, none⟩ v1) := hb.setCell h.la v1
  refine ⟨⟨h.eB, h.bel.trans hbb, h.lb, h.la, h.lp, h.ne, Nat.le_refl _, by have := hbb.size; have := blk_lt h.all; omega, by have := hbb.size; have := blk_lt h.fn; omega, by have := hbb.size; have := h.sB; omega, h.blk, blk_put ha 0 v1 rfl, ?_, ?_⟩, (KeepBut.of_grown hg ga).set_ 0 v1, hbb⟩
  · refine Kd.S_mono (Kd.S_bound (Kd.S_set hs ha (by decide) 0 v1)) (fun k hk => ⟨hk.1, hk.2.2.1⟩)
  · rw [heap_setCell_other w1 ⟨ga, 0, none⟩ gp v1 (fun q => h.ne q.symm)]
    exact hf
theorem fo_put_any (wB : World) (B gb ga gp : Nat) (bs : List (List (List Int))) (hbl : bs.length ≤ 8) (HBR : Aside0 (∀ x, x ∈ bs → x.length ≤ 1000000000)) : ∀ (m : Nat) (o : List Int) (u : Int) (R acc : (List (List Int))) (w : World) (va : Value) (lo : Nat) (Ao : Option Addr) (co : Nat), fo_PIn wB B lo gb ga gp bs w va acc → Kd.R (Kd.int .i64) 3 w B (fun k => lo ≤ k) (.slice Ao o.length co) o → o.length ≤ 100 → fo_oPut bs m o u = some R → (acc ++ R).length ≤ 1000000000 →
    Calls Try.prog 125 #[.slice Ao o.length co, .int .i64 u, .pointer (some ⟨gb, 0, none⟩), .pointer (some ⟨ga, 0, none⟩), .pointer (some ⟨gp, 0, none⟩)] w (fo_PutP wB B gb ga gp bs w va (acc ++ R))
  | 0, o, u, R, acc, w, va, lo, Ao, co, _, _, _, h, _ => by cases h
  | m + 1, o, u, R, acc, w, va, lo, Ao, co, hI, hO, hl, h, hsz => by
    have HI := Aside0.mk hI
    have HO := Aside0.mk hO
    obtain ⟨Ab, cb, hb0, hb2⟩ := hI.blk
    have hb1 := (hI.bel.block gb hI.lb).trans hb0
    have HB := Aside0.mk hb2
    have k1 : w.cell? ⟨gb, 0, none⟩ = some (.slice Ab bs.length cb) := (blk_cell hb1 0).trans rfl
    have k2 : w.cell? ⟨ga, 0, none⟩ = some va := (blk_cell hI.all 0).trans rfl
    have k3 : w.cell? ⟨gp, 0, none⟩ = some (.func (.func 125) #[] #[.pointer (some ⟨gb, 0, none⟩), .pointer (some ⟨ga, 0, none⟩), .pointer (some ⟨gp, 0, none⟩)]) := (blk_cell hI.fn 0).trans rfl
    have hf1 := blk_frozen hI.all 0
    unfold fo_oPut at h
    clear hI hO hb0 hb1 hb2
    by_cases c : u = fo_ufull bs.length
    · rw [if_pos c] at h
      obtain rfl := Option.some.inj h
      have cb1 : (u == wrap64 (wrap64 (2 ^ bs.length) - 1)) = true := beq_iff_eq.mpr c
      clear h c
      have HL : Aside0 ((acc.length + 1) * 24 ≤ 140737488355328) := ⟨by simp at hsz; omega⟩
      clear hsz
      go_enter Try.func125, Try.ntmps125
      go_wp2_with (at_builtin; go_must (refine Kd.S_append (Kd.slice 3 (Kd.int .i64)) (w0 := w) B rfl (.tmp 17) (.tmp 19) 23 22 (.slice none 0 0) 24 rfl Try.underlying23 info22 rfl (by decide) (by decide) va acc o [.slice Ao o.length co] (fun k => B ≤ k) (fun k => lo ≤ k ∧ B ≤ k) rfl rfl ?hp (fun k hk => ⟨hk.2, fun q => by have := (Kd.S_R HI.out.own).1 k q.symm; omega⟩) (fun k hk => Nat.le_trans HI.out.sB hk) (Kd.S_mono HI.out.own (fun k hk => ⟨hk.1, fun q => by omega⟩)) (Below.refl _ _) HI.out.sB HL.out ?_; (case hp => exact ⟨_, rfl, Kd.R_mono (Kd.R_bound HO.out) (fun k hk => ⟨hk.1, hk.2.1⟩)⟩); intro v1 w1 s1 s2 s3 s4; obtain ⟨A1, c1, rfl⟩ := Kd.S_slice s1; have ka := blk_grown HI.out.all s3 HI.out.nega.1; have kc : w1.cell? ⟨ga, 0, none⟩ = some va := (blk_cell ka 0).trans rfl; have kd := blk_frozen ka 0; have S1 := Aside0.mk s1; have S4 := Aside0.mk s4; clear ka s1 s4))
      (try simp only [Exit.inBlock, Exit.then])
      refine bodyPost_ret (results_none rfl _ _ _) rfl ?_
      obtain ⟨z1, z2, z3⟩ := fo_put_leaf HI.out S1.out s2 s3 S4.out
      have hl2 : (acc ++ [o]).length = acc.length + 1 := by simp
      have z4 := S4.out
      rw [hl2] at z1 z2 z3 z4
      exact ⟨_, rfl, z1, z2, z4, z3⟩
    · rw [if_neg c] at h
      have cb1 : (u == wrap64 (wrap64 (2 ^ bs.length) - 1)) = false := beq_eq_false_iff_ne.mpr c
      have H := Aside0.mk h
      clear h c
      have HS := Aside0.mk hsz
      have ih := fo_put_any wB B gb ga gp bs hbl HBR m
      have IH := Aside0.mk ih
      clear hsz ih
      go_enter Try.func125, Try.ntmps125
      go_wp2
      go_loopg [23] bs.length (fun kq v23 w' => ∃ (k : Nat) (va1 : Value) (acc1 rest : (List (List Int))), v23 = .int .i64 (k : Int) ∧ Aside0 (k + kq = bs.length) ∧ Aside0 (fo_oBlk (fo_oPut bs m) o u k (bs.drop k) = some rest) ∧ Aside0 (acc1 ++ rest = acc ++ R) ∧ Aside0 (fo_PIn wB B w'.heap.size gb ga gp bs w' va1 acc1) ∧ Aside0 (KeepBut w w' ga va.ownBlock) ∧ Aside0 (va1.ownBlock = va.ownBlock ∨ ∃ b, va1.ownBlock = some b ∧ w.heap.size ≤ b) ∧ Aside0 (Below B w w'))
      case atStart => exact ⟨0, va, acc, R, rfl, ⟨by omega⟩, ⟨by simpa using H.out⟩, ⟨rfl⟩, ⟨{ HI.out with sz := Nat.le_refl _, lga := blk_lt HI.out.all, lgp := blk_lt HI.out.fn, own := Kd.S_mono HI.out.own (fun k hk => ⟨hk.1, Nat.lt_of_lt_of_le hk.2 HI.out.sz⟩) }⟩, ⟨KeepBut.refl _ _ _⟩, ⟨.inl rfl⟩, ⟨Below.refl _ _⟩⟩
      case round =>
        obtain ⟨k, va1, acc1, rest, rfl, HK, HA, HE, HP, HQ, HV, HX⟩ := hrel
        cases gk with
        | zero => 
          have q1 : ¬ (k : Int) < (bs.length : Int) := by have := HK.out; omega
          go_wp2
          go_end0
          have hr : rest = [] := by
            have := HA.out
            rw [List.drop_eq_nil_of_le (by have := HK.out; omega)] at this
            simpa [fo_oBlk] using this.symm
          have he := HE.out
          rw [hr, List.append_nil] at he
          exact ⟨va1, rfl, by rw [← he]; exact HP.out, HQ.out, HV.out, HX.out⟩
        | succ kk =>
          have hk := HK.out
          have q0 : k < bs.length := by omega
          have q1 : (k : Int) < (bs.length : Int) := by omega
          have q2 : (0 : Int) ≤ (k : Int) := Int.natCast_nonneg _
          have hd : bs.drop k = bs[k] :: bs.drop (k + 1) := List.drop_eq_getElem_cons q0
          obtain ⟨ad, cs, e1, e2, e3, e4⟩ := Kd.C_get HB.out [] (k : Int) q2 q1
          cases e1
          obtain ⟨A2, c2, rfl, e5, e6⟩ := e3
          have e7 := e4 0 _ rfl
          have hge : bs.getD (k : Int).toNat [] = bs[k] := by simp [List.getD_eq_getElem?_getD, q0]
          rw [hge] at e5 e6 e7
          have e8 : wr.cell? (ad.add k) = some (.slice A2 bs[k].length c2) := by
            have : (k : Int).toNat * (Kd.slice 22 (Kd.slice 3 (Kd.int .i64))).sz + 0 = k := by show (k : Int).toNat * 1 + 0 = k; omega
            rw [this] at e7
            exact pw_cell_below (by rw [HP.out.eB]; exact HP.out.bel) e7
          clear e2 e4 e7 hge
          have HA3 := Aside0.mk HA.out
          rw [hd] at HA3
          by_cases cb : fo_ubit u k = true
          · have cbb := cb
            unfold fo_ubit at cbb
            have HA4 : Aside0 (fo_oBlk (fo_oPut bs m) o u (k + 1) (bs.drop (k + 1)) = some rest) := ⟨by
              have := HA3.out
              unfold fo_oBlk at this
              rw [if_pos cb] at this
              exact this⟩
            clear cb
            go_wp2
            go_roundg kk
            case measure => omega
            case rel => exact ⟨k + 1, va1, acc1, rest, by go_num, ⟨by omega⟩, HA4, HE, HP, HQ, HV, HX⟩
          · have cbb : fo_ubit u k = false := by simpa using cb
            unfold fo_ubit at cbb
            have hA := HA3.out
            unfold fo_oBlk at hA
            rw [if_neg cb] at hA
            obtain ⟨ra, hA1, hA⟩ := Option.bind_eq_some_iff.1 hA
            obtain ⟨rc, hA2, hA⟩ := Option.bind_eq_some_iff.1 hA
            have hA3 : ra ++ rc = rest := Option.some.inj hA
            have HA1 := Aside0.mk hA1
            have HA2 := Aside0.mk hA2
            have HE2 : Aside0 (acc1 ++ (ra ++ rc) = acc ++ R) := ⟨by rw [hA3]; exact HE.out⟩
            clear cb hA hA1 hA2 hA3
            have E6 := Aside0.mk e6
            clear e6
            have hrl : bs[k].length ≤ 1000000000 := HBR.out _ (List.getElem_mem ..)
            generalize bs[k] = rows at *
            go_wp2
            go_loopg [35] rows.length (fun jq v35 w' => ∃ (j : Nat) (va2 : Value) (acc2 rs : (List (List Int))), v35 = .int .i64 (j : Int) ∧ Aside0 (j + jq = rows.length) ∧ Aside0 (fo_oRows (fun o => fo_oPut bs m o (fo_uset u k)) o (rows.drop j) = some rs) ∧ Aside0 (acc2 ++ (rs ++ rc) = acc ++ R) ∧ Aside0 (fo_PIn wB B w'.heap.size gb ga gp bs w' va2 acc2) ∧ Aside0 (KeepBut w w' ga va.ownBlock) ∧ Aside0 (va2.ownBlock = va.ownBlock ∨ ∃ b, va2.ownBlock = some b ∧ w.heap.size ≤ b) ∧ Aside0 (Below B w w'))
            case atStart => exact ⟨0, va1, acc1, ra, rfl, ⟨by omega⟩, ⟨by simpa using HA1.out⟩, HE2, HP, HQ, HV, HX⟩
            case round =>
              obtain ⟨j, va2, acc2, rs, rfl, HJ, HR1, HE3, HP3, HQ3, HV3, HX3⟩ := hrel
              cases gk with
              | zero =>
                have q3 : ¬ (j : Int) < (rows.length : Int) := by have := HJ.out; omega
                have hr : rs = [] := by
                  have := HR1.out
                  rw [List.drop_eq_nil_of_le (by have := HJ.out; omega)] at this
                  simpa [fo_oRows] using this.symm
                have HE4 : Aside0 (acc2 ++ rc = acc ++ R) := ⟨by have := HE3.out; rw [hr] at this; exact this⟩
                go_wp2
                go_roundg kk
                case measure => omega
                case rel => exact ⟨k + 1, va2, acc2, rc, by go_num, ⟨by omega⟩, HA2, HE4, HP3, HQ3, HV3, HX3⟩
              | succ jj =>
                have hj := HJ.out
                have q4 : j < rows.length := by omega
                have q3 : (j : Int) < (rows.length : Int) := by omega
                have q5 : (0 : Int) ≤ (j : Int) := Int.natCast_nonneg _
                obtain ⟨ad2, cs2, d1, d2, d3, d4⟩ := Kd.C_get E6.out [] (j : Int) q5 q3
                cases d1
                obtain ⟨A3, c3, rfl, d5, d6⟩ := d3
                have d7 := d4 0 _ rfl
                have hge2 : rows.getD (j : Int).toNat [] = rows[j] := by simp [List.getD_eq_getElem?_getD, q4]
                rw [hge2] at d5 d6 d7
                have d8 : wr.cell? (ad2.add j) = some (.slice A3 rows[j].length c3) := by
                  have : (j : Int).toNat * (Kd.slice 3 (Kd.int .i64)).sz + 0 = j := by show (j : Int).toNat * 1 + 0 = j; omega
                  rw [this] at d7
                  exact pw_cell_below (by rw [HP3.out.eB]; exact HP3.out.bel) d7
                clear d2 d4 d7 hge2
                have D6 := Aside0.mk d6
                clear d6
                have hd2 : rows.drop j = rows[j] :: rows.drop (j + 1) := List.drop_eq_getElem_cons q4
                have HR2 := Aside0.mk HR1.out
                rw [hd2] at HR2
                generalize rows[j] = row at *
                have kf : wr.cell? ⟨gp, 0, none⟩ = some (.func (.func 125) #[] #[.pointer (some ⟨gb, 0, none⟩), .pointer (some ⟨ga, 0, none⟩), .pointer (some ⟨gp, 0, none⟩)]) := (blk_cell HP3.out.fn 0).trans rfl
                have hOw : Kd.R (Kd.int .i64) 3 wr B (fun k => lo ≤ k) (.slice Ao o.length co) o := Kd.R_step HO.out (fun q hq hlt => HQ3.out.2 q hlt (fun e => by have := HI.out.lga; omega) (fun e => by have := ((Kd.S_R HI.out.own).1 q e.symm).2; omega))
                obtain ⟨_, hol, hcO⟩ := Kd.R_reads' hOw
                have HCO := Aside0.mk hcO
                have HOL := Aside0.mk hol
                clear hcO hol hOw
                have hR3 := HR2.out
                unfold fo_oRows at hR3
                by_cases hrow : (o ++ row).length ≤ 100
                rotate_left
                · rw [if_neg hrow] at hR3; cases hR3
                rw [if_pos hrow] at hR3
                obtain ⟨r1_, hr1, hR3⟩ := Option.bind_eq_some_iff.1 hR3
                obtain ⟨r2_, hr2, hR3⟩ := Option.bind_eq_some_iff.1 hR3
                have hR4 : r1_ ++ r2_ = rs := Option.some.inj hR3
                have HR3 : Aside0 (fo_oPut bs m (o ++ row) (Go.bits .or .i64 u (wrap64 (2 ^ k))) = some r1_) := ⟨hr1⟩
                have HR4 := Aside0.mk hr2
                have HE4 : Aside0 ((acc2 ++ r1_) ++ (r2_ ++ rc) = acc ++ R) := ⟨by rw [← HE3.out, ← hR4]; simp⟩
                have HZ : Aside0 ((acc2 ++ r1_).length ≤ 1000000000) := ⟨by have := congrArg List.length HE4.out; simp only [List.length_append] at this ⊢; have := HS.out; simp only [List.length_append] at this; omega⟩
                have D5 := Aside0.mk d5
                have HRW := Aside0.mk hrow
                clear hrow d5 hr1 hr2 hR3 hR4 HR2
                go_upto_region 9 with (fail)
                have kfd : wr.drew.cell? ⟨gp, 0, none⟩ = some (.func (.func 125) #[] #[.pointer (some ⟨gb, 0, none⟩), .pointer (some ⟨ga, 0, none⟩), .pointer (some ⟨gp, 0, none⟩)]) := kf
                go_region_held3 (fun w' => w'.cell? ⟨gp, 0, none⟩ = some (.func (.func 125) #[] #[.pointer (some ⟨gb, 0, none⟩), .pointer (some ⟨ga, 0, none⟩), .pointer (some ⟨gp, 0, none⟩)])) (assumption) (first
                  | (go_at_call 126; (refine (slices_Clone_int_int.calls Ao co o o _ (Kd.C_below HCO.out (below_drew (Below.refl _ _))) HOL.out (if_pos (by omega))).mono ?_); rintro e w3 ⟨v0, rfl, hR0, hb0⟩; have kf3 := pw_cell_below hb0 kfd; have HR0 := Aside0.mk (Kd.R_mono (Kd.R_bound hR0) (ok' := fun k => wr.drew.heap.size ≤ k) (fun k hk => hk.2.1)); have HB0 := Aside0.mk hb0; have hbw : Below B wB w3 := (HP3.out.bel.drew).trans (hb0.mono HP3.out.sB); have HD := Aside0.mk (Kd.C_below D6.out (by rw [HP3.out.eB]; exact hbw)); clear hR0 hb0 hbw)
                  | (go_at_call 125; go_must (rw [i64_w, ← List.length_append]; ((with_reducible refine Calls.mono (IH.out (o ++ row) (Go.bits .or .i64 u (wrap64 (2 ^ k))) r1_ acc2 w4 va2 wr.drew.heap.size A5 c5 ((HP3.out.below (below_drew (Below.refl _ _))).below HB4.out) HR5.out HRW.out HR3.out HZ.out) ?_)); rintro e w5 ⟨va5, rfl, p1, p2, p3, p4⟩; have kf5 : w5.cell? ⟨gp, 0, none⟩ = some (.func (.func 125) #[] #[.pointer (some ⟨gb, 0, none⟩), .pointer (some ⟨ga, 0, none⟩), .pointer (some ⟨gp, 0, none⟩)]) := (blk_cell p1.fn 0).trans rfl; have P1 := Aside0.mk p1; have P2 := Aside0.mk p2; have P3 := Aside0.mk p3; have P4 := Aside0.mk p4; clear p1 p2 p3 p4))
                  | (refine Kd.R_append_rows_step (Kd.int .i64) (w0 := w3) wr.drew.heap.size (by simp [Region.wanted]) (.tmp 41) (.tmp 42) 22 3 (.int .i64 0) 8 (by rfl) Try.underlying22 info3 rfl (by decide) (by decide) v0 o row A3 row.length c3 (fun k => wr.drew.heap.size ≤ k) (fun _ => False) (by rfl) (by rfl) HR0.out HD.out (fun x cs h => h) (fun k hk => hk.elim) (fun k hk => Nat.le_trans HB0.out.size hk) (Below.refl _ _) HB0.out.size (by have := HRW.out; simp at this; omega) ?_; intro v1 w4 r1 r2 r3 r4; obtain ⟨A5, c5, rfl⟩ := Kd.R_slice r1; have HB4 : Aside0 (Below wr.drew.heap.size wr.drew w4) := ⟨HB0.out.trans r2⟩; have kf4 := pw_cell_below HB4.out kfd; have HR5 : Aside0 (Kd.R (Kd.int .i64) 3 w4 B (fun k => wr.drew.heap.size ≤ k) (.slice A5 (o ++ row).length c5) (o ++ row)) := ⟨Kd.R_lower r1 HP3.out.sB⟩; clear r1 r2 r3 r4)
                  | fail)
                have HB6 : Aside0 (Below wr.heap.size wr w4) := ⟨(below_drew (Below.refl _ _) : Below wr.heap.size wr wr.drew).trans HB4.out⟩
                have HK5 : Aside0 (KeepBut w w5 ga va.ownBlock) := ⟨HQ3.out.trans ((KeepBut.of_below HB6.out ga va2.ownBlock).trans P2.out (.inl rfl)) HV3.out⟩
                have HV5 : Aside0 (va5.ownBlock = va.ownBlock ∨ ∃ b, va5.ownBlock = some b ∧ w.heap.size ≤ b) := ⟨by
                  rcases P3.out with e | ⟨q, e, hq⟩
                  · rw [e]; exact HV3.out
                  · exact .inr ⟨q, e, by have := HX3.out.size; have := HB6.out.size; omega⟩⟩
                have HX5 : Aside0 (Below B w w5) := ⟨(HX3.out.trans (HB6.out.mono HP3.out.sB)).trans P4.out⟩
                go_wp2
                go_roundg jj
                case measure => omega
                case rel => exact ⟨j + 1, va5, acc2 ++ r1_, r2_, by go_num, ⟨by omega⟩, HR4, HE4, P1, HK5, HV5, HX5⟩
def fo_fKids (P : Int → Option (List (List Int))) (w : Int) : List Int → Nat → Option (List (List (List Int)))
  | [], _ => some []
  | h :: t, j => if h = w then (P ((j : Int) + 1)).bind fun a => (fo_fKids P w t (j + 1)).bind fun b => some (a :: b) else fo_fKids P w t (j + 1)
def fo_fOrd (l : List Int) : Nat → Int → Option (List (List Int))
  | 0, _ => none
  | m + 1, w => (fo_fKids (fo_fOrd l m) w l 0).bind fun bs => if bs.length ≤ 7 ∧ ∀ x, x ∈ bs → x.length ≤ 1000000000 then (fo_oPut ([[w]] :: bs) 9 [] 0).bind fun R => if R.length ≤ 1000000000 then some R else none else none
def fo_FordP (w : World) (R : (List (List Int))) (e : Ending) (w' : World) : Prop := ∃ v, e = .returned v ∧ Kd.S (Kd.slice 3 (Kd.int .i64)) 22 w' w.heap.size (fun _ => True) v R ∧ Below w.heap.size w w'
theorem fo_R_one {α : Type} (d : Kd α) (hd : d.sz = 1) (w : World) {base e : Nat} {ok okp : Nat → Prop} {x : α} {u : Value} (hm : d.M w base okp x [u]) (hok : ∀ k, okp k → ok k) (hf : ok w.heap.size) (hb : base ≤ w.heap.size) : d.R e (w.alloc (.cells #[u] e)) base ok (.slice (some ⟨w.heap.size, 0, none⟩) 1 1) [x] := by
  refine ⟨fun k hk => ?_, [u], ?_, ?_⟩
  · have : w.heap.size = k := by simpa [Value.ownBlock] using hk
    subst this
    exact hf
  · have h2 := World.rowOf_lit (base := base) (e := e) (size := d.sz) w #[u] 1 hb (by simp [maxLen]) (by simp [hd])
    simpa using h2
  · have hr : Reps (d.M w base okp) d.sz [x] [u] := by rw [hd]; exact Reps.one hm (Reps.none _ _)
    refine hr.imp_ (fun p c hp => d.M_mono (fun k hk => ⟨hok k hk.1, fun he => ?_⟩) (Kd.M_below (d.M_bound hp) (below_alloc (Below.refl _ _) _)))
    have h3 : k = w.heap.size := by simpa [Value.ownBlock] using he
    have := hk.2.2.1
    omega
theorem fo_first_parts (w : World) (x : Int) : Kd.R (Kd.slice 22 (Kd.slice 3 (Kd.int .i64))) 23 ((((w.alloc (Obj.cells #[Value.int IntKind.i64 x] 3)).alloc (Obj.cells #[Value.slice (some { block := w.heap.size, off := 0 }) 1 1] 22)).alloc (Obj.cells #[Value.slice (some { block := w.heap.size + 1, off := 0 }) 1 1] 23)).alloc (Obj.cells #[Value.slice (some { block := w.heap.size + 1 + 1, off := 0 }) 1 1] 111)) w.heap.size (fun k => k ≠ w.heap.size + 1 + 1 + 1) (.slice (some ⟨w.heap.size + 1 + 1, 0, none⟩) 1 1) [[[x]]] ∧
    Below w.heap.size w ((((w.alloc (Obj.cells #[Value.int IntKind.i64 x] 3)).alloc (Obj.cells #[Value.slice (some { block := w.heap.size, off := 0 }) 1 1] 22)).alloc (Obj.cells #[Value.slice (some { block := w.heap.size + 1, off := 0 }) 1 1] 23)).alloc (Obj.cells #[Value.slice (some { block := w.heap.size + 1 + 1, off := 0 }) 1 1] 111)) := by
  have r1 := fo_R_one (Kd.int .i64) rfl w (base := w.heap.size) (e := 3) (ok := fun _ => True) (okp := fun _ => False) (x := x) (u := .int .i64 x) rfl (fun _ h => h.elim) trivial (Nat.le_refl _)
  have r2 := fo_R_one (Kd.slice 3 (Kd.int .i64)) rfl (w.alloc (Obj.cells #[Value.int IntKind.i64 x] 3)) (base := w.heap.size) (e := 22) (ok := fun _ => True) (okp := fun _ => True) (x := [x]) ⟨_, rfl, r1⟩ (fun _ h => h) trivial (by simp)
  have r3 := fo_R_one (Kd.slice 22 (Kd.slice 3 (Kd.int .i64))) rfl ((w.alloc (Obj.cells #[Value.int IntKind.i64 x] 3)).alloc (Obj.cells #[Value.slice (some { block := w.heap.size, off := 0 }) 1 1] 22)) (base := w.heap.size) (e := 23) (ok := fun _ => True) (okp := fun _ => True) (x := [[x]]) ⟨_, rfl, by simpa using r2⟩ (fun _ h => h) trivial (by simp; omega)
  refine ⟨?_, ?_⟩
  · have r4 := Kd.R_alloc (Kd.R_bound r3) (Obj.cells #[Value.slice (some { block := w.heap.size + 1 + 1, off := 0 }) 1 1] 111)
    have r5 := Kd.R_mono r4 (ok' := fun k => k ≠ w.heap.size + 1 + 1 + 1) (fun k hk => by have := hk.2.2.1; simp at this; omega)
    simpa using r5
  · exact (((below_alloc (Below.refl _ _) _).alloc (by simp) _).alloc (by simp; omega) _).alloc (by simp; omega) _
theorem fo_first_blk (w : World) (x : Int) : ((((w.alloc (Obj.cells #[Value.int IntKind.i64 x] 3)).alloc (Obj.cells #[Value.slice (some { block := w.heap.size, off := 0 }) 1 1] 22)).alloc (Obj.cells #[Value.slice (some { block := w.heap.size + 1, off := 0 }) 1 1] 23)).alloc (Obj.cells #[Value.slice (some { block := w.heap.size + 1 + 1, off := 0 }) 1 1] 111)).heap[w.heap.size + 1 + 1 + 1]? = some (.cells #[.slice (some { block := w.heap.size + 1 + 1, off := 0 }) 1 1] 111 (0, 0)) := by
  have := heap_alloc_new ((((w.alloc (Obj.cells #[Value.int IntKind.i64 x] 3)).alloc (Obj.cells #[Value.slice (some { block := w.heap.size, off := 0 }) 1 1] 22)).alloc (Obj.cells #[Value.slice (some { block := w.heap.size + 1, off := 0 }) 1 1] 23))) (Obj.cells #[Value.slice (some { block := w.heap.size + 1 + 1, off := 0 }) 1 1] 111)
  simpa using this
theorem fo_S_empty {α : Type} (d : Kd α) (w : World) {base e : Nat} {ok : Nat → Prop} (hf : ok w.heap.size) (hb : base ≤ w.heap.size) : Kd.S d e (w.alloc (.cells #[] e)) base ok (.slice (some ⟨w.heap.size, 0, none⟩) 0 0) [] := by
  refine ⟨fun _ => 0, fun k hk => ?_, [], ?_, Reps.none _ _⟩
  · have : w.heap.size = k := by simpa [Value.ownBlock] using hk
    subst this
    exact hf
  · have h2 := World.rowOf_lit (base := base) (e := e) (size := (Kd.tag (fun _ => 0) d).sz) w #[] 0 hb (by simp [maxLen]) (by simp)
    simpa using h2
/-- what the closure finds at first -/
theorem fo_first_in {w wr : World} {g0 : Nat} {vb : Value} {bs : List (List (List Int))} (hlt : g0 < wr.heap.size) (hg : wr.heap[g0]? = some (.cells #[vb] 111 (0, 0))) {ok : Nat → Prop} {base : Nat} (hR : Kd.R (Kd.slice 22 (Kd.slice 3 (Kd.int .i64))) 23 wr base ok vb bs) :
    fo_PIn wr wr.heap.size (wr.heap.size + 1 + 1 + 1) g0 (wr.heap.size + 1) (wr.heap.size + 1 + 1) bs (((wr.alloc (Obj.cells #[] 22)).alloc (Obj.cells #[Value.slice (some { block := wr.heap.size, off := 0 }) 0 0] 23)).alloc (Obj.cells #[Value.func (Fn.func 125) #[] #[Value.pointer (some { block := g0, off := 0 }), Value.pointer (some { block := wr.heap.size + 1, off := 0 }), Value.pointer (some { block := wr.heap.size + 1 + 1, off := 0 })]] 112)) (.slice (some ⟨wr.heap.size, 0, none⟩) 0 0) [] := by
  have b1 : Below wr.heap.size wr (wr.alloc (Obj.cells #[] 22)) := below_alloc (Below.refl _ _) _
  have h1 := heap_alloc_new (wr.alloc (Obj.cells #[] 22)) (Obj.cells #[Value.slice (some { block := wr.heap.size, off := 0 }) 0 0] 23)
  have h2 := heap_alloc_new ((wr.alloc (Obj.cells #[] 22)).alloc (Obj.cells #[Value.slice (some { block := wr.heap.size, off := 0 }) 0 0] 23)) (Obj.cells #[Value.func (Fn.func 125) #[] #[Value.pointer (some { block := g0, off := 0 }), Value.pointer (some { block := wr.heap.size + 1, off := 0 }), Value.pointer (some { block := wr.heap.size + 1 + 1, off := 0 })]] 112)
  obtain ⟨A, c, rfl, _, hC⟩ := Kd.R_reads hR
  exact {
    eB := rfl
    bel := (b1.alloc (by simp) _).alloc (by simp; omega) _
    lb := hlt
    la := by omega
    lp := by omega
    ne := by omega
    sz := by simp
    lga := by omega
    lgp := by omega
    sB := by simp; omega
    blk := ⟨A, c, hg, hC⟩
    all := by
      have := blk_alloc h1 (Obj.cells #[Value.func (Fn.func 125) #[] #[Value.pointer (some { block := g0, off := 0 }), Value.pointer (some { block := wr.heap.size + 1, off := 0 }), Value.pointer (some { block := wr.heap.size + 1 + 1, off := 0 })]] 112)
      simpa using this
    own := Kd.S_alloc (Kd.S_alloc (fo_S_empty (Kd.slice 3 (Kd.int .i64)) wr ⟨Nat.le_refl _, by omega⟩ (Nat.le_refl _)) _) _
    fn := by simpa using h2 }
theorem fo_ford_any (l : List Int) (hl : l.length ≤ 8) : ∀ (m : Nat) (x : Int) (R : (List (List Int))) (w : World) (A : Option Addr) (c : Nat), Kd.C (Kd.int .i64) w A l.length l → l.length ≤ c → fo_fOrd l m x = some R →
    Calls Try.prog 99 #[.slice A l.length c, .int .i64 x] w (fo_FordP w R)
  | 0, x, R, w, A, c, _, _, h => by cases h
  | m + 1, x, R, w, A, c, hC, hc, h => by
    have HC := Aside0.mk hC
    have ih := fo_ford_any l hl m
    have IH := Aside0.mk ih
    unfold fo_fOrd at h
    obtain ⟨BS, hk, h⟩ := Option.bind_eq_some_iff.1 h
    by_cases hg : BS.length ≤ 7 ∧ ∀ x, x ∈ BS → x.length ≤ 1000000000
    rotate_left
    · rw [if_neg hg] at h; cases h
    rw [if_pos hg] at h
    obtain ⟨R', h2, h⟩ := Option.bind_eq_some_iff.1 h
    by_cases hr : R'.length ≤ 1000000000
    rotate_left
    · rw [if_neg hr] at h; cases h
    rw [if_pos hr] at h
    obtain rfl := Option.some.inj h
    have HK := Aside0.mk hk
    have HG0 := Aside0.mk hg
    have H := Aside0.mk h2
    have HRL := Aside0.mk hr
    clear hC ih h h2 hk hg hr
    go_enter Try.func99, Try.ntmps99
    have hmf : ∀ (fn : Fn) (first cap : Array Value) (w : World), (Instr.makeFunc fn first cap).run Try.prog w = .ok (.func fn first cap) w := fun _ _ _ _ => rfl
    have hsf : ∀ (a : Addr) (c : Array Value) (w : World) (v : Value), w.cell? a = some v → w.frozen? a = false → (Go.store a (.func (.func 125) #[] c)).run Try.prog w = .ok () (w.setCell a (.func (.func 125) #[] c)) := by
      intro a c w v h1 h2
      rw [run_store Try.prog w a (.func (.func 125) #[] c) .plain rfl, h1, h2]
      rfl
    go_wp2
    go_loopg [16] l.length (fun kq v16 w' => ∃ (j : Nat) (vb : Value) (bs rest : List (List (List Int))), v16 = .int .i64 (j : Int) ∧ Aside0 (j + kq = l.length) ∧ Aside0 (fo_fKids (fo_fOrd l m) x (l.drop j) j = some rest) ∧ Aside0 (bs ++ rest = BS) ∧ Aside0 (bs.length ≤ j) ∧ Aside0 (w'.heap[w.heap.size + 1 + 1 + 1]? = some (.cells #[vb] 111 (0, 0))) ∧ Aside0 (Kd.R (Kd.slice 22 (Kd.slice 3 (Kd.int .i64))) 23 w' w.heap.size (fun k => k ≠ w.heap.size + 1 + 1 + 1) vb ([[x]] :: bs)) ∧ Aside0 (Below w.heap.size w w'))
    case atStart => exact ⟨0, _, [], BS, rfl, ⟨by omega⟩, ⟨by simpa using HK.out⟩, ⟨rfl⟩, ⟨Nat.le_refl _⟩, ⟨fo_first_blk w x⟩, ⟨(fo_first_parts w x).1⟩, ⟨(fo_first_parts w x).2⟩⟩
    case round =>
      obtain ⟨j, vb, bs, rest, rfl, HJ, HF, HE, HL, HG, HR, HB⟩ := hrel
      have k1 : wr.cell? ⟨w.heap.size + 1 + 1 + 1, 0, none⟩ = some vb := (blk_cell HG.out 0).trans rfl
      have k2 := blk_frozen HG.out 0
      cases gk with
      | zero =>
        have q1 : ¬ (j : Int) < (l.length : Int) := by have := HJ.out; omega
        have hr0 : rest = [] := by
          have := HF.out
          rw [List.drop_eq_nil_of_le (by have := HJ.out; omega)] at this
          simpa [fo_fKids] using this.symm
        have HR1 : Aside0 (Kd.R (Kd.slice 22 (Kd.slice 3 (Kd.int .i64))) 23 wr w.heap.size (fun k => k ≠ w.heap.size + 1 + 1 + 1) vb ([[x]] :: BS)) := ⟨by have := HE.out; rw [hr0, List.append_nil] at this; rw [← this]; exact HR.out⟩
        have HI := Aside0.mk (fo_first_in (w := w) (blk_lt HG.out) HG.out HR1.out)
        have hbl : ([[x]] :: BS).length ≤ 8 := by have := HG0.out.1; simp; omega
        have HBR : Aside0 (∀ y, y ∈ ([[x]] :: BS) → y.length ≤ 1000000000) := ⟨fun y hy => by
          rcases List.mem_cons.mp hy with rfl | hy
          · simp
          · exact HG0.out.2 y hy⟩
        have HBL := Aside0.mk hbl
        have HRL2 : Aside0 ((([] : (List (List Int))) ++ R').length ≤ 1000000000) := ⟨HRL.out⟩
        clear hr0 hbl
        go_wp2_with (go_at_call 125; go_must ((with_reducible refine Calls.mono (fo_put_any wr wr.heap.size (w.heap.size + 1 + 1 + 1) (wr.heap.size + 1) (wr.heap.size + 1 + 1) ([[x]] :: BS) HBL.out HBR 9 [] 0 R' [] _ _ _ none 0 HI.out (Kd.R_nil _ _ _ _ _) (by simp) H.out HRL2.out) ?_); rintro e w5 ⟨va5, rfl, p1, p2, p3, p4⟩; have k5 : w5.cell? ⟨wr.heap.size + 1, 0, none⟩ = some va5 := (blk_cell p1.all 0).trans rfl; have P1 := Aside0.mk p1; have P4 := Aside0.mk p4; clear p1 p2 p3 p4))
        go_ret
        exact ⟨_, rfl, Kd.S_mono (Kd.S_lower P1.out.own (HB.out.size)) (fun _ _ => trivial), (HB.out.trans ((HI.out.bel.trans P4.out).mono HB.out.size))⟩
      | succ kk =>
        have hj := HJ.out
        have q0 : j < l.length := by omega
        have q1 : (j : Int) < (l.length : Int) := by omega
        have q2 : (0 : Int) ≤ (j : Int) := Int.natCast_nonneg _
        have hd : l.drop j = l[j] :: l.drop (j + 1) := List.drop_eq_getElem_cons q0
        have hf := HF.out
        rw [hd] at hf
        unfold fo_fKids at hf
        obtain ⟨ad, e1, e2⟩ := Kd.at_int (Kd.C_below HC.out HB.out) (j : Int) q2 q1
        subst e1
        rw [Int.toNat_natCast] at e2
        have HF2 : Aside0 ((if rd l (j : Int) = x then (fo_fOrd l m ((j : Int) + 1)).bind fun a => (fo_fKids (fo_fOrd l m) x (l.drop (j + 1)) (j + 1)).bind fun b => some (a :: b) else fo_fKids (fo_fOrd l m) x (l.drop (j + 1)) (j + 1)) = some rest) := ⟨by
          have : rd l (j : Int) = l[j] := by simp [rd, q0]
          rw [this]; exact hf⟩
        clear hd hf HF
        by_cases c1 : rd l (j : Int) = x
        rotate_left
        · have cb1 : (rd l (j : Int) == x) = false := beq_eq_false_iff_ne.mpr c1
          have hf := HF2.out
          rw [if_neg c1] at hf
          have HF3 := Aside0.mk hf
          clear hf c1 HF2
          go_wp2
          go_roundg kk
          case measure => omega
          case rel => exact ⟨j + 1, vb, bs, rest, by go_num, ⟨by omega⟩, HF3, HE, ⟨by have := HL.out; omega⟩, HG, HR, HB⟩
        · have cb1 : (rd l (j : Int) == x) = true := beq_iff_eq.mpr c1
          have hf := HF2.out
          rw [if_pos c1] at hf
          obtain ⟨r1, hf1, hf⟩ := Option.bind_eq_some_iff.1 hf
          obtain ⟨r2, hf2, hf⟩ := Option.bind_eq_some_iff.1 hf
          have HF4 := Aside0.mk hf1
          have HF3 := Aside0.mk hf2
          have HE3 : Aside0 ((bs ++ [r1]) ++ r2 = BS) := ⟨by rw [← HE.out, ← Option.some.inj hf]; simp⟩
          clear hf hf1 hf2 c1 HF2
          have hjw : IntKind.i64.wrap ((j : Int) + 1) = (j : Int) + 1 := by rw [i64_w]; unfold wrap64; omega
          go_upto_region 6 with (fail)
          have hgb : w.heap.size + 1 + 1 + 1 < wr.heap.size := blk_lt HG.out
          have HS := Aside0.mk hgb
          clear hgb
          go_region_law? (first
            | (go_simp; go_at_call 99; (with_reducible refine Calls.mono (IH.out ((j : Int) + 1) r1 _ (some ad) c (Kd.C_below HC.out (below_drew HB.out)) hc HF4.out) ?_); rintro e w3 ⟨v3, rfl, hs3, hb3⟩; obtain ⟨A3, c3, rfl⟩ := Kd.S_slice hs3; have kc3 := pw_cell_below hb3 (show wr.drew.cell? _ = _ from k1); have kd3 : ∀ o : Obj, (w3.alloc o).cell? ⟨w.heap.size + 1 + 1 + 1, 0, none⟩ = some vb := fun o => pw_cell_below (below_alloc (Below.refl _ _) o) kc3; have S3 := Aside0.mk hs3; have B3 := Aside0.mk hb3; clear hs3 hb3)
            | (refine Kd.R_append_step (Kd.slice 22 (Kd.slice 3 (Kd.int .i64))) (w0 := wr.drew) (W := w3) w.heap.size (by simp [Region.wanted]) (.tmp 24) (.tmp 29) 111 23 (.slice none 0 0) 24 (by rfl) Try.underlying111 info23 rfl (by decide) (by decide) vb ([[x]] :: bs) r1 [.slice A3 r1.length c3] (fun k => k ≠ w.heap.size + 1 + 1 + 1) (fun k => wr.drew.heap.size ≤ k) (by rfl) (by rfl) ?hp ?hok ?hfr ?hro ?hbb ?hbs ?hl ?_; (case hp => exact ⟨_, rfl, Kd.R_lower (Kd.R_mono (Kd.R_bound (Kd.S_R S3.out)) (fun k hk => hk.2.1)) (Nat.le_of_lt (by have := HS.out; show w.heap.size < wr.heap.size; omega))⟩); (case hok => intro k hk; exact ⟨fun e => by have := HS.out; have : wr.heap.size ≤ k := hk; omega, fun e => by have := ((Kd.R_bound HR.out).1 k e.symm).2.2.1; have : wr.heap.size ≤ k := hk; omega⟩); (case hfr => intro k hk; have := HS.out; have : wr.heap.size ≤ w3.heap.size := B3.out.size; omega); (case hro => exact Kd.R_below HR.out ((below_drew (Below.refl _ _) : Below wr.heap.size wr wr.drew).trans B3.out)); (case hbb => exact B3.out.mono (by have := HS.out; show w.heap.size ≤ wr.heap.size; omega)); (case hbs => have := HS.out; have : wr.heap.size ≤ w3.heap.size := B3.out.size; omega); (case hl => have := HL.out; simp; omega); intro v4 w4 a1 a2 a3 a4; obtain ⟨A4, c4, rfl⟩ := Kd.R_slice a1; generalize (([[x]] :: bs) ++ [r1]).length = n4 at *; have HG4 : Aside0 (w4.heap[w.heap.size + 1 + 1 + 1]? = some (.cells #[vb] 111 (0, 0))) := ⟨blk_grown (blk_below HG.out ((below_drew (Below.refl _ _) : Below wr.heap.size wr wr.drew).trans B3.out)) a3 (fun q => HR.out.1 _ q.symm rfl)⟩; have kc4 : w4.cell? ⟨w.heap.size + 1 + 1 + 1, 0, none⟩ = some vb := (blk_cell HG4.out 0).trans rfl; have kf4 := blk_frozen HG4.out 0; have A1 : Aside0 (Kd.R (Kd.slice 22 (Kd.slice 3 (Kd.int .i64))) 23 w4 w.heap.size (fun k => k ≠ w.heap.size + 1 + 1 + 1) (.slice A4 n4 c4) ([[x]] :: (bs ++ [r1]))) := ⟨a1⟩; have A2 := Aside0.mk a2; clear a1 a2 a3 a4))
          all_goals
            have HL5 : Aside0 ((bs ++ [r1]).length ≤ j + 1) := ⟨by have := HL.out; simp; omega⟩
            have HG5 : Aside0 ((w4.setCell ⟨w.heap.size + 1 + 1 + 1, 0, none⟩ (.slice A4 n4 c4)).heap[w.heap.size + 1 + 1 + 1]? = some (.cells #[.slice A4 n4 c4] 111 (0, 0))) := ⟨blk_put HG4.out 0 (.slice A4 n4 c4) rfl⟩
            have HR5 := Aside0.mk (Kd.R_far A1.out (p := ⟨w.heap.size + 1 + 1 + 1, 0, none⟩) (fun k hk => hk) (.slice A4 n4 c4))
            have HB5 : Aside0 (Below w.heap.size w (w4.setCell ⟨w.heap.size + 1 + 1 + 1, 0, none⟩ (.slice A4 n4 c4))) := ⟨((HB.out.drew).trans A2.out).setCell (by simp; omega) _⟩
            go_wp2
            go_roundg kk
            case measure => omega
            case rel => exact ⟨j + 1, _, bs ++ [r1], r2, by go_num, ⟨by omega⟩, HF3, HE3, HL5, HG5, HR5, HB5⟩
end
def impl_flatOrders.f (l0 : List Int) (a1 : Int) : Option (List (List Int)) := if l0.length ≤ 8 then fo_fOrd l0 9 a1 else none
theorem impl_flatOrders.calls (A0 : Option Addr) (c0 : Nat) (l0 : List Int) (a1 : Int) (r : List (List Int)) (w : World) (hr0 : Kd.C (Kd.int .i64) w A0 l0.length l0) (hc0 : l0.length ≤ c0) (h : impl_flatOrders.f l0 a1 = some r) :
    Calls Try.prog 99 #[.slice A0 l0.length c0, .int .i64 a1] w fun e w' => ∃ v0_ : Value, e = .returned (v0_) ∧ Kd.S (Kd.slice 3 (Kd.int .i64)) 22 w' w.heap.size (fun _ => True) v0_ r ∧ Below w.heap.size w w' := by
  unfold impl_flatOrders.f at h
  by_cases c : l0.length ≤ 8
  · rw [if_pos c] at h
    exact fo_ford_any l0 c 9 a1 r w A0 c0 hr0 hc0 h
  · rw [if_neg c] at h; cases h

end Go.Proofs.Ytbbhdgpiocojaaa.LG
