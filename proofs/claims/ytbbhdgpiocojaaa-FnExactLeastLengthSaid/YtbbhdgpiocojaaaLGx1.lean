/- Printed by a program of this session (wip/lp/lp.py) out of the translation: functions with the same answers as the Go code, and their contracts; no conditions beyond those that each theorem names. -/
import Derived.Test.YtbbhdgpiocojaaaLGx0
namespace Go.Proofs.Ytbbhdgpiocojaaa.LG
open Go.RowKit Go.Proofs.YtbbhdgpiocojaaaV.PrintWords Go.Proofs.YtbbhdgpiocojaaaV.PrintLast Go.Proofs.YtbbhdgpiocojaaaV.PrintMore
attribute [local go_sem] max2_int min2_int max_two min_two max_three min_three max_four min_four   -- for this text's walks alone
set_option linter.unusedVariables false
set_option linter.unusedSimpArgs false

/-! ### spec_l1In: function 93 -/
def spec_l1In.f (a0 : Int) (a1 : Int) (a2 : Int) : Option (Bool) := if a0 ≥ a1 then (some (decide (a0 ≤ a2))) else (some false)
set_option maxHeartbeats 8000000 in
set_option maxRecDepth 100000 in
theorem spec_l1In.calls (a0 : Int) (a1 : Int) (a2 : Int) (r : Bool) (w : World) (h : spec_l1In.f a0 a1 a2 = some r) :
  Calls Try.prog 93 #[.int .i64 a0, .int .i64 a1, .int .i64 a2] w fun e w' => e = .returned (.bool r) ∧ Drawn0 w w' := by
 have H : (if a0 ≥ a1 then (some (decide (a0 ≤ a2))) else (some false)) = some r := h;clear h;by_cases c4 : a0 ≥ a1
 ·rw [if_pos c4] at H;have c4b0 : decide (a1 ≤ a0) = true := decide_eq_true c4;clear c4;obtain rfl := Option.some.inj H;go_enter Try.func93, Try.ntmps93;go_wp2;go_ret;exact ⟨by first | rfl | (simp; done) | (simp [*]; done), by repeat (first | exact Drawn0.refl _ | apply Drawn0.step)⟩
 ·rw [if_neg c4] at H;have c4b0 : decide (a1 ≤ a0) = false := decide_eq_false c4;clear c4;obtain rfl := Option.some.inj H;go_enter Try.func93, Try.ntmps93;go_wp2;go_ret;exact ⟨by first | rfl | (simp; done) | (simp [*]; done), by repeat (first | exact Drawn0.refl _ | apply Drawn0.step)⟩

/-! ### spec_TreeOk: function 56 -/
mutual
def spec_TreeOk.l0 : Nat → List Int → Int → Int → Int → Option (Bool)
 | 0, _, _, _, _ => none
 | k + 1, x0, x3, x4, x5 => if x5 < x3 then (if 0 ≤ x5 then (if x5 < (x0.length : Int) then ((spec_l1In.f (rd x0 x5) 0 x3).bind fun t103 => (if t103 = true then (spec_TreeOk.j1 k x0 x3 x4 x5 ((rd x0 x5) == (wrap64 (x5 + 1)))) else (spec_TreeOk.j1 k x0 x3 x4 x5 true))) else (none)) else (none)) else (some (x4 == 1))
def spec_TreeOk.j1 : Nat → List Int → Int → Int → Int → Bool → Option (Bool)
 | 0, _, _, _, _, _ => none
 | k + 1, x0, x3, x4, x5, x33 => if x33 = true then (some false) else (if 0 ≤ x5 then (if x5 < (x0.length : Int) then (if (rd x0 x5) = 0 then (spec_TreeOk.j2 k x0 x3 (wrap64 (x4 + 1)) x5) else (spec_TreeOk.j2 k x0 x3 x4 x5)) else (none)) else (none))
def spec_TreeOk.j2 : Nat → List Int → Int → Int → Int → Option (Bool)
 | 0, _, _, _, _ => none
 | k + 1, x0, x3, x4, x5 => spec_TreeOk.l1 k x0 x3 x4 x5 (wrap64 (x5 + 1)) 0
def spec_TreeOk.l1 : Nat → List Int → Int → Int → Int → Int → Int → Option (Bool)
 | 0, _, _, _, _, _, _ => none
 | k + 1, x0, x3, x4, x5, x6, x7 => if x6 > 0 then (spec_TreeOk.j4 k x0 x3 x4 x5 x6 x7 (decide (x7 < x3))) else (spec_TreeOk.j4 k x0 x3 x4 x5 x6 x7 false)
def spec_TreeOk.j4 : Nat → List Int → Int → Int → Int → Int → Int → Bool → Option (Bool)
 | 0, _, _, _, _, _, _, _ => none
 | k + 1, x0, x3, x4, x5, x6, x7, x49 => if x49 = true then (if 0 ≤ (wrap64 (x6 - 1)) then (if (wrap64 (x6 - 1)) < (x0.length : Int) then ((spec_l1In.f (rd x0 (wrap64 (x6 - 1))) 0 x3).bind fun t107 => (if t107 = true then (spec_TreeOk.l1 k x0 x3 x4 x5 (rd x0 (wrap64 (x6 - 1))) (wrap64 (x7 + 1))) else (some false))) else (none)) else (none)) else (if x6 > 0 then (some false) else (spec_TreeOk.l0 k x0 x3 x4 (wrap64 (x5 + 1))))
end
def spec_TreeOk.f (k : Nat) (l0 : List Int) : Option (Bool) := (spec_l1In.f (l0.length : Int) 1 8).bind fun t101 => (if t101 = true then (spec_TreeOk.l0 k l0 (l0.length : Int) 0 0) else (some false))
theorem spec_TreeOk.mono_l : ∀ k, (∀ y0 y1 y2 y3, LeO (spec_TreeOk.l0 k y0 y1 y2 y3) (spec_TreeOk.l0 (k + 1) y0 y1 y2 y3)) ∧ (∀ y0 y1 y2 y3 y4, LeO (spec_TreeOk.j1 k y0 y1 y2 y3 y4) (spec_TreeOk.j1 (k + 1) y0 y1 y2 y3 y4)) ∧ (∀ y0 y1 y2 y3, LeO (spec_TreeOk.j2 k y0 y1 y2 y3) (spec_TreeOk.j2 (k + 1) y0 y1 y2 y3)) ∧ (∀ y0 y1 y2 y3 y4 y5, LeO (spec_TreeOk.l1 k y0 y1 y2 y3 y4 y5) (spec_TreeOk.l1 (k + 1) y0 y1 y2 y3 y4 y5)) ∧ (∀ y0 y1 y2 y3 y4 y5 y6, LeO (spec_TreeOk.j4 k y0 y1 y2 y3 y4 y5 y6) (spec_TreeOk.j4 (k + 1) y0 y1 y2 y3 y4 y5 y6))
 | 0 => ⟨fun _ _ _ _ r h => by simp [spec_TreeOk.l0] at h, fun _ _ _ _ _ r h => by simp [spec_TreeOk.j1] at h, fun _ _ _ _ r h => by simp [spec_TreeOk.j2] at h, fun _ _ _ _ _ _ r h => by simp [spec_TreeOk.l1] at h, fun _ _ _ _ _ _ _ r h => by simp [spec_TreeOk.j4] at h⟩
 | k + 1 => by
  obtain ⟨ih0, ih1, ih2, ih3, ih4⟩ := spec_TreeOk.mono_l k
  refine ⟨?_, ?_, ?_, ?_, ?_⟩
  ·intro y0 y1 y2 y3
   unfold spec_TreeOk.l0
   exact zmono
  ·intro y0 y1 y2 y3 y4
   unfold spec_TreeOk.j1
   exact zmono
  ·intro y0 y1 y2 y3
   unfold spec_TreeOk.j2
   exact zmono
  ·intro y0 y1 y2 y3 y4 y5
   unfold spec_TreeOk.l1
   exact zmono
  ·intro y0 y1 y2 y3 y4 y5 y6
   unfold spec_TreeOk.j4
   exact zmono
theorem spec_TreeOk.mono : ∀ a0 k, LeO (spec_TreeOk.f k a0) (spec_TreeOk.f (k + 1) a0) := by
 intro a0 k;obtain ⟨ih0, ih1, ih2, ih3, ih4⟩ := spec_TreeOk.mono_l k;unfold spec_TreeOk.f;exact zmono
set_option maxHeartbeats 8000000 in
set_option maxRecDepth 100000 in
theorem spec_TreeOk.calls (k : Nat) (A0 : Option Addr) (c0 : Nat) (l0 : List Int) (r : Bool) (w : World) (hr0 : Kd.C (Kd.int .i64) w A0 l0.length l0) (hc0 : l0.length ≤ c0) (h : spec_TreeOk.f k l0 = some r) :
  Calls Try.prog 56 #[.slice A0 l0.length c0] w fun e w' => e = .returned (.bool r) ∧ Drawn0 w w' := by
 have HR0:=zM hr0;have HC0:=zM hc0;clear hr0 hc0;have H : ((spec_l1In.f (l0.length : Int) 1 8).bind fun t101 => (if t101 = true then (spec_TreeOk.l0 k l0 (l0.length : Int) 0 0) else (some false))) = some r := h;clear h;replace H := zb H; obtain ⟨t101, A2, H⟩ := H; (try dsimp only at H);by_cases c3 : t101 = true
 ·subst c3;(have H1 : (spec_TreeOk.l0 k l0 (l0.length : Int) 0 0) = some r := by rw [if_pos rfl] at H; exact H);clear H;have H := H1;clear H1;have H':=zM H;clear H;go_enter Try.func56, Try.ntmps56;go_wp2_with (first | (refine zg 93 (some 11) Try.func93 #[.int .i64 (l0.length : Int), .int .i64 1, .int .i64 8] ?_; (with_reducible refine (spec_l1In.calls (l0.length : Int) 1 8 true _ A2.out).mono ?_); rintro e w' ⟨rfl, ⟨nd, rfl⟩⟩; refine ⟨_, rfl, ?_⟩));go_loopg [4, 5] k (fun kq v4 v5 w' => ∃ (x4_1 : Int) (x5_1 : Int), v4 = .int .i64 x4_1 ∧ v5 = .int .i64 x5_1 ∧ Aside0 (spec_TreeOk.l0 kq l0 (l0.length : Int) x4_1 x5_1 = some r) ∧ Aside0 (kq ≤ k) ∧ Drawn0 w w')
  case atStart => exact ⟨(0), (0), zs0, zs0, H', ⟨Nat.le_refl _⟩, by repeat (first | exact Drawn0.refl _ | apply Drawn0.step)⟩
  case round =>
   clear H';obtain ⟨x4_1, x5_1, rfl, rfl, HA, HK1, ⟨m1, rfl⟩⟩ := hrel;cases gk with
   | zero => exact absurd HA.out (by simp [spec_TreeOk.l0])
   | succ k1 =>
    have H := HA.out;clear HA;simp only [spec_TreeOk.l0] at H;by_cases c4 : x5_1 < (l0.length : Int)
    ·rw [if_pos c4] at H;have c4b0 := decide_eq_true c4;clear c4;have HC5:=zM H;clear H;go_upto_region 8 with (fail);go_cut [33] (fun v33 wc => ∃ (kq : Nat) (x33_4 : Bool), v33 = .bool x33_4 ∧ Aside0 (spec_TreeOk.j1 kq l0 (l0.length : Int) x4_1 x5_1 x33_4 = some r) ∧ Aside0 (kq ≤ k1) ∧ Drawn0 w wc)
     case first =>
      have H := HC5.out;clear HC5;replace H := zn H; obtain ⟨c6, H⟩ := H;have c6b0 := decide_eq_true c6;clear c6;(first | rw [c6b0] | (simp only [i64_w, i32_w]; rw [c6b0]) | skip);replace H := zn H; obtain ⟨c7, H⟩ := H;have c7b0 := decide_eq_true c7;clear c7;replace H := zb H; obtain ⟨t103, A8, H⟩ := H; (try dsimp only at H);by_cases c9 : t103 = true
      ·subst c9;(have H1 : (spec_TreeOk.j1 k1 l0 (l0.length : Int) x4_1 x5_1 ((rd l0 x5_1) == (wrap64 (x5_1 + 1)))) = some r := by rw [if_pos rfl] at H; exact H);clear H;have H := H1;clear H1;have H':=zM H;clear H;have p102 : 0 ≤ (x5_1 : Int) := of_decide_eq_true zs1;have q102 : x5_1 < (l0.length : Int) := of_decide_eq_true zs1;obtain ⟨ad102, e102, hx102_0⟩ := Kd.at_int HR0.out x5_1 p102 q102;cases e102;replace p102 := eq_true p102;replace q102 := eq_true q102;go_wp2_with (first | (refine zg 93 (some 23) Try.func93 #[.int .i64 (rd l0 x5_1), .int .i64 0, .int .i64 (l0.length : Int)] ?_; (with_reducible refine (spec_l1In.calls (rd l0 x5_1) 0 (l0.length : Int) true _ A8.out).mono ?_); rintro e w' ⟨rfl, ⟨nd, rfl⟩⟩; refine ⟨_, rfl, ?_⟩; have p104 : 0 ≤ (x5_1 : Int) := of_decide_eq_true zs1; have q104 : x5_1 < (l0.length : Int) := of_decide_eq_true zs1; obtain ⟨ad104, e104, hx104_0⟩ := Kd.at_int HR0.out x5_1 p104 q104; obtain rfl : ad102 = ad104 := (by injection e104); replace p104 := eq_true p104; replace q104 := eq_true q104));go_meet
       case rel => exact ⟨_, (((rd l0 x5_1) == (wrap64 (x5_1 + 1)))), zs0, H', ⟨by have := HK1.out; first | omega | exact Nat.le_refl _⟩, by repeat (first | exact Drawn0.refl _ | apply Drawn0.step)⟩
      ·replace c9 := Bool.eq_false_iff.mpr c9;subst c9;(have H1 : (spec_TreeOk.j1 k1 l0 (l0.length : Int) x4_1 x5_1 true) = some r := by rw [if_neg (show ¬ (false = true) by decide)] at H; exact H);clear H;have H := H1;clear H1;have H':=zM H;clear H;have p102 : 0 ≤ (x5_1 : Int) := of_decide_eq_true zs1;have q102 : x5_1 < (l0.length : Int) := of_decide_eq_true zs1;obtain ⟨ad102, e102, hx102_0⟩ := Kd.at_int HR0.out x5_1 p102 q102;cases e102;replace p102 := eq_true p102;replace q102 := eq_true q102;go_wp2_with (first | (refine zg 93 (some 23) Try.func93 #[.int .i64 (rd l0 x5_1), .int .i64 0, .int .i64 (l0.length : Int)] ?_; (with_reducible refine (spec_l1In.calls (rd l0 x5_1) 0 (l0.length : Int) false _ A8.out).mono ?_); rintro e w' ⟨rfl, ⟨nd, rfl⟩⟩; refine ⟨_, rfl, ?_⟩));go_meet
       case rel => exact ⟨_, (true), zs0, H', ⟨by have := HK1.out; first | omega | exact Nat.le_refl _⟩, by repeat (first | exact Drawn0.refl _ | apply Drawn0.step)⟩
     case rest =>
      clear HC5;obtain ⟨kq, x33_4, rfl, HA, HJ4, ⟨mc4, rfl⟩⟩ := hcut;cases kq with
      | zero => exact absurd HA.out (by simp [spec_TreeOk.j1])
      | succ kj4 =>
       have H := HA.out;clear HA;simp only [spec_TreeOk.j1] at H;by_cases c10 : x33_4 = true
       ·subst c10;(have H1 : (some false) = some r := by rw [if_pos rfl] at H; exact H);clear H;have H := H1;clear H1;obtain rfl := Option.some.inj H;go_wp2;go_ret;exact ⟨by first | rfl | (simp; done) | (simp [*]; done), by repeat (first | exact Drawn0.refl _ | apply Drawn0.step)⟩
       ·replace c10 := Bool.eq_false_iff.mpr c10;subst c10;(have H1 : (if 0 ≤ x5_1 then (if x5_1 < (l0.length : Int) then (if (rd l0 x5_1) = 0 then (spec_TreeOk.j2 kj4 l0 (l0.length : Int) (wrap64 (x4_1 + 1)) x5_1) else (spec_TreeOk.j2 kj4 l0 (l0.length : Int) x4_1 x5_1)) else (none)) else (none)) = some r := by rw [if_neg (show ¬ (false = true) by decide)] at H; exact H);clear H;have H := H1;clear H1;replace H := zn H; obtain ⟨c11, H⟩ := H;have c11b0 := decide_eq_true c11;clear c11;replace H := zn H; obtain ⟨c12, H⟩ := H;have c12b0 := decide_eq_true c12;clear c12;have HC13:=zM H;clear H;have p105 : 0 ≤ (x5_1 : Int) := of_decide_eq_true zs1;have q105 : x5_1 < (l0.length : Int) := of_decide_eq_true zs1;obtain ⟨ad105, e105, hx105_0⟩ := Kd.at_int HR0.out x5_1 p105 q105;cases e105;replace p105 := eq_true p105;replace q105 := eq_true q105;go_upto_if 38 with (fail);go_cut [4] (fun v4 wc => ∃ (kq : Nat) (x4_12 : Int), v4 = .int .i64 x4_12 ∧ Aside0 (spec_TreeOk.j2 kq l0 (l0.length : Int) x4_12 x5_1 = some r) ∧ Aside0 (kq ≤ kj4) ∧ Drawn0 w wc)
        case first =>
         have H := HC13.out;clear HC13;by_cases c14 : (rd l0 x5_1) = 0
         ·rw [if_pos c14] at H;have c14b0 := beq_iff_eq.mpr c14;have c14b1 := bne_eq_false_iff_eq.mpr c14;clear c14;(first | rw [c14b0] | (simp only [i64_w, i32_w]; rw [c14b0]) | skip);have H':=zM H;clear H;go_wp2;go_meet
          case rel => exact ⟨_, (wrap64 (x4_1 + 1)), zs0, H', ⟨by have := HK1.out; have := HJ4.out; first | omega | exact Nat.le_refl _⟩, by repeat (first | exact Drawn0.refl _ | apply Drawn0.step)⟩
         ·rw [if_neg c14] at H;have c14b0 := beq_eq_false_iff_ne.mpr c14;have c14b1 := bne_iff_ne.mpr c14;(first | rw [c14b0] | (simp only [i64_w, i32_w]; rw [c14b0]) | skip);have H':=zM H;clear H;go_wp2;go_meet
          case rel => exact ⟨_, (x4_1), zs0, H', ⟨by have := HK1.out; have := HJ4.out; first | omega | exact Nat.le_refl _⟩, by repeat (first | exact Drawn0.refl _ | apply Drawn0.step)⟩
        case rest =>
         clear HC13;obtain ⟨kq, x4_12, rfl, HA, HJ12, ⟨mc12, rfl⟩⟩ := hcut;cases kq with
         | zero => exact absurd HA.out (by simp [spec_TreeOk.j2])
         | succ kj12 =>
          have H := HA.out;clear HA;simp only [spec_TreeOk.j2] at H;have H':=zM H;clear H;go_wp2;go_loopg [6, 7] kj12 (fun kq v6 v7 w' => ∃ (x6_4 : Int) (x7_4 : Int), v6 = .int .i64 x6_4 ∧ v7 = .int .i64 x7_4 ∧ Aside0 (spec_TreeOk.l1 kq l0 (l0.length : Int) x4_12 x5_1 x6_4 x7_4 = some r) ∧ Aside0 (kq ≤ kj12) ∧ Drawn0 w w')
          case atStart => exact ⟨(wrap64 (x5_1 + 1)), (0), zs0, zs0, H', ⟨Nat.le_refl _⟩, by repeat (first | exact Drawn0.refl _ | apply Drawn0.step)⟩
          case round =>
           clear H';obtain ⟨x6_4, x7_4, rfl, rfl, HA, HK4, ⟨m4, rfl⟩⟩ := hrel;cases gk with
           | zero => exact absurd HA.out (by simp [spec_TreeOk.l1])
           | succ k4 =>
            have H := HA.out;clear HA;simp only [spec_TreeOk.l1] at H;have HC15:=zM H;clear H;go_upto_region 14 with (fail);go_cut [49] (fun v49 wc => ∃ (kq : Nat) (x49_14 : Bool), v49 = .bool x49_14 ∧ Aside0 (spec_TreeOk.j4 kq l0 (l0.length : Int) x4_12 x5_1 x6_4 x7_4 x49_14 = some r) ∧ Aside0 (kq ≤ k4) ∧ Drawn0 w wc)
            case first =>
             have H := HC15.out;clear HC15;by_cases c16 : x6_4 > 0
             ·rw [if_pos c16] at H;have c16b0 : decide (0 < x6_4) = true := decide_eq_true c16;clear c16;(first | rw [c16b0] | (simp only [i64_w, i32_w]; rw [c16b0]) | skip);have H':=zM H;clear H;go_wp2;go_meet
              case rel => exact ⟨_, (decide (x7_4 < (l0.length : Int))), zs0, H', ⟨by have := HK1.out; have := HJ4.out; have := HJ12.out; have := HK4.out; first | omega | exact Nat.le_refl _⟩, by repeat (first | exact Drawn0.refl _ | apply Drawn0.step)⟩
             ·rw [if_neg c16] at H;have c16b0 : decide (0 < x6_4) = false := decide_eq_false c16;clear c16;(first | rw [c16b0] | (simp only [i64_w, i32_w]; rw [c16b0]) | skip);have H':=zM H;clear H;go_wp2;go_meet
              case rel => exact ⟨_, (false), zs0, H', ⟨by have := HK1.out; have := HJ4.out; have := HJ12.out; have := HK4.out; first | omega | exact Nat.le_refl _⟩, by repeat (first | exact Drawn0.refl _ | apply Drawn0.step)⟩
            case rest =>
             clear HC15;obtain ⟨kq, x49_14, rfl, HA, HJ14, ⟨mc14, rfl⟩⟩ := hcut;cases kq with
             | zero => exact absurd HA.out (by simp [spec_TreeOk.j4])
             | succ kj14 =>
              have H := HA.out;clear HA;simp only [spec_TreeOk.j4] at H;by_cases c17 : x49_14 = true
              ·subst c17;(have H1 : (if 0 ≤ (wrap64 (x6_4 - 1)) then (if (wrap64 (x6_4 - 1)) < (l0.length : Int) then ((spec_l1In.f (rd l0 (wrap64 (x6_4 - 1))) 0 (l0.length : Int)).bind fun t107 => (if t107 = true then (spec_TreeOk.l1 kj14 l0 (l0.length : Int) x4_12 x5_1 (rd l0 (wrap64 (x6_4 - 1))) (wrap64 (x7_4 + 1))) else (some false))) else (none)) else (none)) = some r := by rw [if_pos rfl] at H; exact H);clear H;have H := H1;clear H1;obtain ⟨ji18, hji18⟩ : ∃ j_ : Int, (wrap64 (x6_4 - 1)) = j_ := ⟨_, rfl⟩;(replace H : (if 0 ≤ (ji18) then (if (ji18) < (l0.length : Int) then ((spec_l1In.f (rd l0 (ji18)) 0 (l0.length : Int)).bind fun t107 => (if t107 = true then (spec_TreeOk.l1 kj14 l0 (l0.length : Int) x4_12 x5_1 (rd l0 (ji18)) (wrap64 (x7_4 + 1))) else (some false))) else (none)) else (none)) = some r := by first | (rw [hji18] at H; exact H) | (simp only [hji18] at H ⊢; exact H));have hji18w : (IntKind.i64.wrap (x6_4 - 1)) = ji18 := (i64_w _).trans hji18;replace H := zn H; obtain ⟨c19, H⟩ := H;have c19b0 := decide_eq_true c19;clear c19;replace H := zn H; obtain ⟨c20, H⟩ := H;have c20b0 := decide_eq_true c20;clear c20;replace H := zb H; obtain ⟨t107, A21, H⟩ := H; (try dsimp only at H);by_cases c22 : t107 = true
               ·subst c22;(have H1 : (spec_TreeOk.l1 kj14 l0 (l0.length : Int) x4_12 x5_1 (rd l0 (ji18)) (wrap64 (x7_4 + 1))) = some r := by rw [if_pos rfl] at H; exact H);clear H;have H := H1;clear H1;have H':=zM H;clear H;have p106 : 0 ≤ ((ji18) : Int) := of_decide_eq_true zs1;have q106 : (ji18) < (l0.length : Int) := of_decide_eq_true zs1;obtain ⟨ad106, e106, hx106_0⟩ := Kd.at_int HR0.out (ji18) p106 q106;obtain rfl : ad105 = ad106 := (by injection e106);replace p106 := eq_true p106;replace q106 := eq_true q106;go_wp2_with (first | (refine zg 93 (some 59) Try.func93 #[.int .i64 (rd l0 (ji18)), .int .i64 0, .int .i64 (l0.length : Int)] ?_ (hargs := by (try simp only [List.map_toArray, List.map_cons, List.map_nil]); first | done | (simp only [hji18]; rfl) | rfl); (with_reducible refine (spec_l1In.calls (rd l0 (ji18)) 0 (l0.length : Int) true _ A21.out).mono ?_); rintro e w' ⟨rfl, ⟨nd, rfl⟩⟩; refine ⟨_, rfl, ?_⟩));go_roundg kj14
                case measure => have := HK1.out; have := HJ4.out; have := HJ12.out; have := HK4.out; have := HJ14.out; omega
                case rel => exact ⟨(rd l0 (ji18)), (wrap64 (x7_4 + 1)), (by first | rfl | (simp; done) | (simp only [← hji18] <;> (first | rfl | simp)) | (simp [*]; done)), zs0, H', ⟨by have := HK1.out; have := HJ4.out; have := HJ12.out; have := HK4.out; have := HJ14.out; omega⟩, by repeat (first | exact Drawn0.refl _ | apply Drawn0.step)⟩
               ·replace c22 := Bool.eq_false_iff.mpr c22;subst c22;(have H1 : (some false) = some r := by rw [if_neg (show ¬ (false = true) by decide)] at H; exact H);clear H;have H := H1;clear H1;obtain rfl := Option.some.inj H;have p106 : 0 ≤ ((ji18) : Int) := of_decide_eq_true zs1;have q106 : (ji18) < (l0.length : Int) := of_decide_eq_true zs1;obtain ⟨ad106, e106, hx106_0⟩ := Kd.at_int HR0.out (ji18) p106 q106;obtain rfl : ad105 = ad106 := (by injection e106);replace p106 := eq_true p106;replace q106 := eq_true q106;go_wp2_with (first | (refine zg 93 (some 59) Try.func93 #[.int .i64 (rd l0 (ji18)), .int .i64 0, .int .i64 (l0.length : Int)] ?_ (hargs := by (try simp only [List.map_toArray, List.map_cons, List.map_nil]); first | done | (simp only [hji18]; rfl) | rfl); (with_reducible refine (spec_l1In.calls (rd l0 (ji18)) 0 (l0.length : Int) false _ A21.out).mono ?_); rintro e w' ⟨rfl, ⟨nd, rfl⟩⟩; refine ⟨_, rfl, ?_⟩));go_ret;(exact ⟨by first | rfl | (simp; done) | (simp only [← hji18] <;> (first | rfl | simp)) | (simp [*]; done), by repeat (first | exact Drawn0.refl _ | apply Drawn0.step)⟩)
              ·replace c17 := Bool.eq_false_iff.mpr c17;subst c17;(have H1 : (if x6_4 > 0 then (some false) else (spec_TreeOk.l0 kj14 l0 (l0.length : Int) x4_12 (wrap64 (x5_1 + 1)))) = some r := by rw [if_neg (show ¬ (false = true) by decide)] at H; exact H);clear H;have H := H1;clear H1;by_cases c23 : x6_4 > 0
               ·rw [if_pos c23] at H;have c23b0 : decide (0 < x6_4) = true := decide_eq_true c23;clear c23;obtain rfl := Option.some.inj H;go_wp2;go_ret;exact ⟨by first | rfl | (simp; done) | (simp [*]; done), by repeat (first | exact Drawn0.refl _ | apply Drawn0.step)⟩
               ·rw [if_neg c23] at H;have c23b0 : decide (0 < x6_4) = false := decide_eq_false c23;clear c23;have H':=zM H;clear H;go_wp2;go_roundg kj14
                case measure => have := HK1.out; have := HJ4.out; have := HJ12.out; have := HK4.out; have := HJ14.out; omega
                case rel => exact ⟨(x4_12), (wrap64 (x5_1 + 1)), zs0, zs0, H', ⟨by have := HK1.out; have := HJ4.out; have := HJ12.out; have := HK4.out; have := HJ14.out; omega⟩, by repeat (first | exact Drawn0.refl _ | apply Drawn0.step)⟩
    ·rw [if_neg c4] at H;have c4b0 := decide_eq_false c4;clear c4;obtain rfl := Option.some.inj H;go_wp2;go_ret;exact ⟨by first | rfl | (simp; done) | (simp [*]; done), by repeat (first | exact Drawn0.refl _ | apply Drawn0.step)⟩
 ·replace c3 := Bool.eq_false_iff.mpr c3;subst c3;(have H1 : (some false) = some r := by rw [if_neg (show ¬ (false = true) by decide)] at H; exact H);clear H;have H := H1;clear H1;obtain rfl := Option.some.inj H;go_enter Try.func56, Try.ntmps56;go_wp2_with (first | (refine zg 93 (some 11) Try.func93 #[.int .i64 (l0.length : Int), .int .i64 1, .int .i64 8] ?_; (with_reducible refine (spec_l1In.calls (l0.length : Int) 1 8 false _ A2.out).mono ?_); rintro e w' ⟨rfl, ⟨nd, rfl⟩⟩; refine ⟨_, rfl, ?_⟩));go_ret;exact ⟨by first | rfl | (simp; done) | (simp [*]; done), by repeat (first | exact Drawn0.refl _ | apply Drawn0.step)⟩

end Go.Proofs.Ytbbhdgpiocojaaa.LG
