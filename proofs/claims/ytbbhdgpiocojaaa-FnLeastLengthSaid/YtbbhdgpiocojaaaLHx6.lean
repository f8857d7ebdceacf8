/- Printed by a program of this session (wip/lp/lp.py) out of the translation: functions with the same answers as the Go code, and their contracts; no conditions beyond those that each theorem names. -/
import Derived.Test.YtbbhdgpiocojaaaLHx0
namespace Go.Proofs.Ytbbhdgpiocojaaa.LH
open Go.RowKit Go.Proofs.YtbbhdgpiocojaaaV.PrintWords Go.Proofs.YtbbhdgpiocojaaaV.PrintLast Go.Proofs.YtbbhdgpiocojaaaV.PrintMore
attribute [local go_sem] max2_int min2_int max_two min_two max_three min_three max_four min_four   -- for this text's walks alone
set_option linter.unusedVariables false
set_option linter.unusedSimpArgs false

/-! ### spec_l10Least: function 97 -/
mutual
def spec_l10Least.l0 : Nat → List Int → Bool → Int → Int → Option (Int)
 | 0, _, _, _, _ => none
 | k + 1, x0, x1, x5, x6 => if x6 < (shl .i64 1 (x0.length : Int)) then (spec_l10Least.l1 k x0 x1 x5 x6 0 0) else (some x5)
def spec_l10Least.l1 : Nat → List Int → Bool → Int → Int → Int → Int → Option (Int)
 | 0, _, _, _, _, _, _ => none
 | k + 1, x0, x1, x5, x6, x7, x8 => if x8 < 2 then (spec_l10Least.l2 k x0 x1 x5 x6 x7 x8 0 (wrap64 ((x0.length : Int) - 1))) else (if x5 < 0 then (spec_l10Least.l0 k x0 x1 x7 (wrap64 (x6 + 1))) else (if x7 < x5 then (spec_l10Least.l0 k x0 x1 x7 (wrap64 (x6 + 1))) else (spec_l10Least.l0 k x0 x1 x5 (wrap64 (x6 + 1)))))
def spec_l10Least.l2 : Nat → List Int → Bool → Int → Int → Int → Int → Int → Int → Option (Int)
 | 0, _, _, _, _, _, _, _, _ => none
 | k + 1, x0, x1, x5, x6, x7, x8, x9, x10 => if x10 ≥ 0 then (if 0 ≤ x10 then (if (Int.tmod (shr .i64 x6 x10) 2) = x8 then (if x10 < (x0.length : Int) then (if x8 = 1 then (if x1 = true then (spec_l10Least.l2 k x0 x1 x5 x6 (wrap64 (x7 + (wrap64 (x9 * (rd x0 x10))))) x8 (wrap64 (x9 + 1)) (wrap64 (x10 - 1))) else (spec_l10Least.l2 k x0 x1 x5 x6 (wrap64 ((wrap64 (x7 + (wrap64 (x9 * (rd x0 x10))))) + (rd x0 x10))) x8 (wrap64 (x9 + 1)) (wrap64 (x10 - 1)))) else (spec_l10Least.l2 k x0 x1 x5 x6 (wrap64 (x7 + (wrap64 (x9 * (rd x0 x10))))) x8 (wrap64 (x9 + 1)) (wrap64 (x10 - 1)))) else (none)) else (spec_l10Least.l2 k x0 x1 x5 x6 x7 x8 x9 (wrap64 (x10 - 1)))) else (none)) else (spec_l10Least.l1 k x0 x1 x5 x6 x7 (wrap64 (x8 + 1)))
end
def spec_l10Least.f (k : Nat) (l0 : List Int) (a1 : Bool) : Option (Int) := spec_l10Least.l0 k l0 a1 (-1) 0
theorem spec_l10Least.mono_l : ∀ k, (∀ y0 y1 y2 y3, LeO (spec_l10Least.l0 k y0 y1 y2 y3) (spec_l10Least.l0 (k + 1) y0 y1 y2 y3)) ∧ (∀ y0 y1 y2 y3 y4 y5, LeO (spec_l10Least.l1 k y0 y1 y2 y3 y4 y5) (spec_l10Least.l1 (k + 1) y0 y1 y2 y3 y4 y5)) ∧ (∀ y0 y1 y2 y3 y4 y5 y6 y7, LeO (spec_l10Least.l2 k y0 y1 y2 y3 y4 y5 y6 y7) (spec_l10Least.l2 (k + 1) y0 y1 y2 y3 y4 y5 y6 y7))
 | 0 => ⟨fun _ _ _ _ r h => by simp [spec_l10Least.l0] at h, fun _ _ _ _ _ _ r h => by simp [spec_l10Least.l1] at h, fun _ _ _ _ _ _ _ _ r h => by simp [spec_l10Least.l2] at h⟩
 | k + 1 => by
  obtain ⟨ih0, ih1, ih2⟩ := spec_l10Least.mono_l k
  refine ⟨?_, ?_, ?_⟩
  ·intro y0 y1 y2 y3
   unfold spec_l10Least.l0
   exact zmono
  ·intro y0 y1 y2 y3 y4 y5
   unfold spec_l10Least.l1
   exact zmono
  ·intro y0 y1 y2 y3 y4 y5 y6 y7
   unfold spec_l10Least.l2
   exact zmono
theorem spec_l10Least.mono : ∀ a0 a1 k, LeO (spec_l10Least.f k a0 a1) (spec_l10Least.f (k + 1) a0 a1) := by
 intro a0 a1 k;obtain ⟨ih0, ih1, ih2⟩ := spec_l10Least.mono_l k;unfold spec_l10Least.f;exact zmono
set_option maxHeartbeats 8000000 in
set_option maxRecDepth 100000 in
theorem spec_l10Least.calls (k : Nat) (A0 : Option Addr) (c0 : Nat) (l0 : List Int) (a1 : Bool) (r : Int) (w : World) (hr0 : Kd.C (Kd.int .i64) w A0 l0.length l0) (hc0 : l0.length ≤ c0) (h : spec_l10Least.f k l0 a1 = some r) :
  Calls Try.prog 97 #[.slice A0 l0.length c0, .bool a1] w fun e w' => e = .returned (.int .i64 r) ∧ Drawn0 w w' := by
 have HR0:=zM hr0;have HC0:=zM hc0;clear hr0 hc0;have H : (spec_l10Least.l0 k l0 a1 (-1) 0) = some r := h;clear h;have H':=zM H;clear H;go_enter Try.func97, Try.ntmps97;go_wp2;go_loopg [5, 6] k (fun kq v5 v6 w' => ∃ (x5_1 : Int) (x6_1 : Int), v5 = .int .i64 x5_1 ∧ v6 = .int .i64 x6_1 ∧ Aside0 (spec_l10Least.l0 kq l0 a1 x5_1 x6_1 = some r) ∧ Aside0 (kq ≤ k) ∧ Drawn0 w w')
 case atStart => exact ⟨((-1)), (0), zs0, zs0, H', ⟨Nat.le_refl _⟩, by repeat (first | exact Drawn0.refl _ | apply Drawn0.step)⟩
 case round =>
  clear H';obtain ⟨x5_1, x6_1, rfl, rfl, HA, HK1, ⟨m1, rfl⟩⟩ := hrel;cases gk with
  | zero => exact absurd HA.out (by simp [spec_l10Least.l0])
  | succ k1 =>
   have H := HA.out;clear HA;simp only [spec_l10Least.l0] at H;obtain ⟨ji3, hji3⟩ : ∃ j_ : Int, (shl .i64 1 (l0.length : Int)) = j_ := ⟨_, rfl⟩;(replace H : (if x6_1 < (ji3) then (spec_l10Least.l1 k1 l0 a1 x5_1 x6_1 0 0) else (some x5_1)) = some r := by first | (rw [hji3] at H; exact H) | (simp only [hji3] at H ⊢; exact H));have hji3_ : (IntKind.i64.wrap (1 * 2 ^ min (l0.length : Int).toNat 64)) = ji3 := hji3;have hji3z : (l0.length : Int) ≤ 64 → (IntKind.i64.wrap (1 * 2 ^ (l0.length : Int).toNat)) = ji3 := shl_small hji3;have hji3p : (IntKind.i64.wrap (1 * 2 ^ min l0.length 64)) = ji3 := hji3_;have hji3q : (l0.length : Int) ≤ 64 → (IntKind.i64.wrap (1 * 2 ^ l0.length)) = ji3 := hji3z;(have hji3r : (IntKind.i64.wrap (2 ^ min l0.length 64)) = ji3 := by have h_ := hji3p; rw [Int.one_mul] at h_; exact h_);(have hji3s : (l0.length : Int) ≤ 64 → (IntKind.i64.wrap (2 ^ l0.length)) = ji3 := fun hle_ => by have h_ := hji3q hle_; rw [Int.one_mul] at h_; exact h_);(have hji3u : (IntKind.i64.wrap (2 ^ min (l0.length : Int).toNat 64)) = ji3 := by have h_ := hji3_; rw [Int.one_mul] at h_; exact h_);(have hji3v : (l0.length : Int) ≤ 64 → (IntKind.i64.wrap (2 ^ (l0.length : Int).toNat)) = ji3 := fun hle_ => by have h_ := hji3z hle_; rw [Int.one_mul] at h_; exact h_);have hji3y : (wrap64 (1 * 2 ^ min (l0.length : Int).toNat 64)) = ji3 := (i64_w _).symm.trans hji3_;have hji3x : (l0.length : Int) ≤ 64 → (wrap64 (1 * 2 ^ (l0.length : Int).toNat)) = ji3 := fun h_ => (i64_w _).symm.trans (hji3z h_);by_cases c4 : x6_1 < (ji3)
   ·rw [if_pos c4] at H;have c4b0 := decide_eq_true c4;clear c4;have H':=zM H;clear H;go_wp2;go_loopg [7, 8] k1 (fun kq v7 v8 w' => ∃ (x7_2 : Int) (x8_2 : Int), v7 = .int .i64 x7_2 ∧ v8 = .int .i64 x8_2 ∧ Aside0 (spec_l10Least.l1 kq l0 a1 x5_1 x6_1 x7_2 x8_2 = some r) ∧ Aside0 (kq ≤ k1) ∧ Drawn0 w w')
    case atStart => exact ⟨(0), (0), zs0, zs0, H', ⟨Nat.le_refl _⟩, by repeat (first | exact Drawn0.refl _ | apply Drawn0.step)⟩
    case round =>
     clear H';obtain ⟨x7_2, x8_2, rfl, rfl, HA, HK2, ⟨m2, rfl⟩⟩ := hrel;cases gk with
     | zero => exact absurd HA.out (by simp [spec_l10Least.l1])
     | succ k2 =>
      have H := HA.out;clear HA;simp only [spec_l10Least.l1] at H;by_cases c5 : x8_2 < 2
      ·rw [if_pos c5] at H;have c5b0 := decide_eq_true c5;clear c5;have H':=zM H;clear H;go_wp2;go_loopg [7, 9, 10] k2 (fun kq v7 v9 v10 w' => ∃ (x7_3 : Int) (x9_3 : Int) (x10_3 : Int), v7 = .int .i64 x7_3 ∧ v9 = .int .i64 x9_3 ∧ v10 = .int .i64 x10_3 ∧ Aside0 (spec_l10Least.l2 kq l0 a1 x5_1 x6_1 x7_3 x8_2 x9_3 x10_3 = some r) ∧ Aside0 (kq ≤ k2) ∧ Drawn0 w w')
       case atStart => exact ⟨(x7_2), (0), (wrap64 ((l0.length : Int) - 1)), zs0, zs0, zs0, H', ⟨Nat.le_refl _⟩, by repeat (first | exact Drawn0.refl _ | apply Drawn0.step)⟩
       case round =>
        clear H';obtain ⟨x7_3, x9_3, x10_3, rfl, rfl, rfl, HA, HK3, ⟨m3, rfl⟩⟩ := hrel;cases gk with
        | zero => exact absurd HA.out (by simp [spec_l10Least.l2])
        | succ k3 =>
         have H := HA.out;clear HA;simp only [spec_l10Least.l2] at H;by_cases c6 : x10_3 ≥ 0
         ·rw [if_pos c6] at H;have c6b0 : decide (0 ≤ x10_3) = true := decide_eq_true c6;clear c6;replace H := zn H; obtain ⟨c7, H⟩ := H;have c7b0 := eq_true c7;have c7b1 := decide_eq_true c7;clear c7;obtain ⟨ji8, hji8⟩ : ∃ j_ : Int, (shr .i64 x6_1 x10_3) = j_ := ⟨_, rfl⟩;(replace H : (if (Int.tmod (ji8) 2) = x8_2 then (if x10_3 < (l0.length : Int) then (if x8_2 = 1 then (if a1 = true then (spec_l10Least.l2 k3 l0 a1 x5_1 x6_1 (wrap64 (x7_3 + (wrap64 (x9_3 * (rd l0 x10_3))))) x8_2 (wrap64 (x9_3 + 1)) (wrap64 (x10_3 - 1))) else (spec_l10Least.l2 k3 l0 a1 x5_1 x6_1 (wrap64 ((wrap64 (x7_3 + (wrap64 (x9_3 * (rd l0 x10_3))))) + (rd l0 x10_3))) x8_2 (wrap64 (x9_3 + 1)) (wrap64 (x10_3 - 1)))) else (spec_l10Least.l2 k3 l0 a1 x5_1 x6_1 (wrap64 (x7_3 + (wrap64 (x9_3 * (rd l0 x10_3))))) x8_2 (wrap64 (x9_3 + 1)) (wrap64 (x10_3 - 1)))) else (none)) else (spec_l10Least.l2 k3 l0 a1 x5_1 x6_1 x7_3 x8_2 x9_3 (wrap64 (x10_3 - 1)))) = some r := by first | (rw [hji8] at H; exact H) | (simp only [hji8] at H ⊢; exact H));have hji8_ : (x6_1 / 2 ^ min x10_3.toNat 64) = ji8 := hji8;have hji8z : x10_3 ≤ 64 → (x6_1 / 2 ^ x10_3.toNat) = ji8 := shr_small hji8;by_cases c9 : (Int.tmod (ji8) 2) = x8_2
          ·rw [if_pos c9] at H;have c9b0 := beq_iff_eq.mpr c9;have c9b1 := bne_eq_false_iff_eq.mpr c9;clear c9;replace H := zn H; obtain ⟨c10, H⟩ := H;have c10b0 := decide_eq_true c10;clear c10;by_cases c11 : x8_2 = 1
           ·rw [if_pos c11] at H;have c11b0 := beq_iff_eq.mpr c11;have c11b1 := bne_eq_false_iff_eq.mpr c11;clear c11;by_cases c12 : a1 = true
            ·subst c12;(have H1 : (spec_l10Least.l2 k3 l0 true x5_1 x6_1 (wrap64 (x7_3 + (wrap64 (x9_3 * (rd l0 x10_3))))) x8_2 (wrap64 (x9_3 + 1)) (wrap64 (x10_3 - 1))) = some r := by rw [if_pos rfl] at H; exact H);clear H;have H := H1;clear H1;have H':=zM H;clear H;have p191 : 0 ≤ (x10_3 : Int) := of_decide_eq_true zs1;have q191 : x10_3 < (l0.length : Int) := of_decide_eq_true zs1;obtain ⟨ad191, e191, hx191_0⟩ := Kd.at_int HR0.out x10_3 p191 q191;cases e191;replace p191 := eq_true p191;replace q191 := eq_true q191;go_wp2;go_roundg k3
             case measure => have := HK1.out; have := HK2.out; have := HK3.out; omega
             case rel => exact ⟨(wrap64 (x7_3 + (wrap64 (x9_3 * (rd l0 x10_3))))), (wrap64 (x9_3 + 1)), (wrap64 (x10_3 - 1)), zs0, zs0, zs0, H', ⟨by have := HK1.out; have := HK2.out; have := HK3.out; omega⟩, by repeat (first | exact Drawn0.refl _ | apply Drawn0.step)⟩
            ·replace c12 := Bool.eq_false_iff.mpr c12;subst c12;(have H1 : (spec_l10Least.l2 k3 l0 false x5_1 x6_1 (wrap64 ((wrap64 (x7_3 + (wrap64 (x9_3 * (rd l0 x10_3))))) + (rd l0 x10_3))) x8_2 (wrap64 (x9_3 + 1)) (wrap64 (x10_3 - 1))) = some r := by rw [if_neg (show ¬ (false = true) by decide)] at H; exact H);clear H;have H := H1;clear H1;have H':=zM H;clear H;have p191 : 0 ≤ (x10_3 : Int) := of_decide_eq_true zs1;have q191 : x10_3 < (l0.length : Int) := of_decide_eq_true zs1;obtain ⟨ad191, e191, hx191_0⟩ := Kd.at_int HR0.out x10_3 p191 q191;cases e191;replace p191 := eq_true p191;replace q191 := eq_true q191;have p192 : 0 ≤ (x10_3 : Int) := of_decide_eq_true zs1;have q192 : x10_3 < (l0.length : Int) := of_decide_eq_true zs1;obtain ⟨ad192, e192, hx192_0⟩ := Kd.at_int HR0.out x10_3 p192 q192;obtain rfl : ad191 = ad192 := (by injection e192);replace p192 := eq_true p192;replace q192 := eq_true q192;go_wp2;go_roundg k3
             case measure => have := HK1.out; have := HK2.out; have := HK3.out; omega
             case rel => exact ⟨(wrap64 ((wrap64 (x7_3 + (wrap64 (x9_3 * (rd l0 x10_3))))) + (rd l0 x10_3))), (wrap64 (x9_3 + 1)), (wrap64 (x10_3 - 1)), zs0, zs0, zs0, H', ⟨by have := HK1.out; have := HK2.out; have := HK3.out; omega⟩, by repeat (first | exact Drawn0.refl _ | apply Drawn0.step)⟩
           ·rw [if_neg c11] at H;have c11b0 := beq_eq_false_iff_ne.mpr c11;have c11b1 := bne_iff_ne.mpr c11;have H':=zM H;clear H;have p191 : 0 ≤ (x10_3 : Int) := of_decide_eq_true zs1;have q191 : x10_3 < (l0.length : Int) := of_decide_eq_true zs1;obtain ⟨ad191, e191, hx191_0⟩ := Kd.at_int HR0.out x10_3 p191 q191;cases e191;replace p191 := eq_true p191;replace q191 := eq_true q191;go_wp2;go_roundg k3
            case measure => have := HK1.out; have := HK2.out; have := HK3.out; omega
            case rel => exact ⟨(wrap64 (x7_3 + (wrap64 (x9_3 * (rd l0 x10_3))))), (wrap64 (x9_3 + 1)), (wrap64 (x10_3 - 1)), zs0, zs0, zs0, H', ⟨by have := HK1.out; have := HK2.out; have := HK3.out; omega⟩, by repeat (first | exact Drawn0.refl _ | apply Drawn0.step)⟩
          ·rw [if_neg c9] at H;have c9b0 := beq_eq_false_iff_ne.mpr c9;have c9b1 := bne_iff_ne.mpr c9;have H':=zM H;clear H;go_wp2;go_roundg k3
           case measure => have := HK1.out; have := HK2.out; have := HK3.out; omega
           case rel => exact ⟨(x7_3), (x9_3), (wrap64 (x10_3 - 1)), zs0, zs0, zs0, H', ⟨by have := HK1.out; have := HK2.out; have := HK3.out; omega⟩, by repeat (first | exact Drawn0.refl _ | apply Drawn0.step)⟩
         ·rw [if_neg c6] at H;have c6b0 : decide (0 ≤ x10_3) = false := decide_eq_false c6;clear c6;have H':=zM H;clear H;go_wp2;go_roundg k3
          case measure => have := HK1.out; have := HK2.out; have := HK3.out; omega
          case rel => exact ⟨(x7_3), (wrap64 (x8_2 + 1)), zs0, zs0, H', ⟨by have := HK1.out; have := HK2.out; have := HK3.out; omega⟩, by repeat (first | exact Drawn0.refl _ | apply Drawn0.step)⟩
      ·rw [if_neg c5] at H;have c5b0 := decide_eq_false c5;clear c5;by_cases c13 : x5_1 < 0
       ·rw [if_pos c13] at H;have c13b0 := decide_eq_true c13;clear c13;have H':=zM H;clear H;go_wp2;go_roundg k2
        case measure => have := HK1.out; have := HK2.out; omega
        case rel => exact ⟨(x7_2), (wrap64 (x6_1 + 1)), zs0, zs0, H', ⟨by have := HK1.out; have := HK2.out; omega⟩, by repeat (first | exact Drawn0.refl _ | apply Drawn0.step)⟩
       ·rw [if_neg c13] at H;have c13b0 := decide_eq_false c13;clear c13;by_cases c14 : x7_2 < x5_1
        ·rw [if_pos c14] at H;have c14b0 := decide_eq_true c14;clear c14;have H':=zM H;clear H;go_wp2;go_roundg k2
         case measure => have := HK1.out; have := HK2.out; omega
         case rel => exact ⟨(x7_2), (wrap64 (x6_1 + 1)), zs0, zs0, H', ⟨by have := HK1.out; have := HK2.out; omega⟩, by repeat (first | exact Drawn0.refl _ | apply Drawn0.step)⟩
        ·rw [if_neg c14] at H;have c14b0 := decide_eq_false c14;clear c14;have H':=zM H;clear H;go_wp2;go_roundg k2
         case measure => have := HK1.out; have := HK2.out; omega
         case rel => exact ⟨(x5_1), (wrap64 (x6_1 + 1)), zs0, zs0, H', ⟨by have := HK1.out; have := HK2.out; omega⟩, by repeat (first | exact Drawn0.refl _ | apply Drawn0.step)⟩
   ·rw [if_neg c4] at H;have c4b0 := decide_eq_false c4;clear c4;obtain rfl := Option.some.inj H;go_wp2;go_ret;(exact ⟨by first | rfl | (simp; done) | (simp only [← hji3] <;> (first | rfl | simp)) | (simp [*]; done), by repeat (first | exact Drawn0.refl _ | apply Drawn0.step)⟩)

/-! ### spec_l2Words: function 123 -/
def spec_l2Words.l0 : Nat → Int → List Int → Int → Option (List Int)
 | 0, _, _, _ => none
 | k + 1, x0, x3, x4 => if 0 ≤ x4 then (if (shr .i64 x0 x4) > 0 then (if (Int.tmod (shr .i64 x0 x4) 2) = 1 then (if x3.length < 17592186044416 then (spec_l2Words.l0 k x0 (x3 ++ [wrap64 (x4 + 1)]) (wrap64 (x4 + 1))) else (none)) else (spec_l2Words.l0 k x0 x3 (wrap64 (x4 + 1)))) else (some x3)) else (none)
def spec_l2Words.f (k : Nat) (a0 : Int) : Option (List Int) := spec_l2Words.l0 k a0 (([] : List Int)) 0
theorem spec_l2Words.mono_l : ∀ k, (∀ y0 y1 y2, LeO (spec_l2Words.l0 k y0 y1 y2) (spec_l2Words.l0 (k + 1) y0 y1 y2))
 | 0 => fun _ _ _ r h => by simp [spec_l2Words.l0] at h
 | k + 1 => by
  have ih0 := spec_l2Words.mono_l k
  ·intro y0 y1 y2
   unfold spec_l2Words.l0
   exact zmono
theorem spec_l2Words.mono : ∀ a0 k, LeO (spec_l2Words.f k a0) (spec_l2Words.f (k + 1) a0) := by
 intro a0 k;have ih0 := spec_l2Words.mono_l k;unfold spec_l2Words.f;exact zmono
set_option maxHeartbeats 8000000 in
set_option maxRecDepth 100000 in
theorem spec_l2Words.calls (k : Nat) (a0 : Int) (r : List Int) (w : World) (h : spec_l2Words.f k a0 = some r) :
  Calls Try.prog 123 #[.int .i64 a0] w fun e w' => ∃ v0_ : Value, e = .returned (v0_) ∧ Kd.R (Kd.int .i64) 3 w' w.heap.size (fun _ => True) v0_ r ∧ Below w.heap.size w w' := by
 have HB:=zM (Below.refl w.heap.size w);have H : (spec_l2Words.l0 k a0 (([] : List Int)) 0) = some r := h;clear h;obtain ⟨y193, hy193⟩ : ∃ y_ : List Int, y_ = (([] : List Int)) := ⟨_, rfl⟩;(replace H : (spec_l2Words.l0 k a0 y193 0) = some r := by first | (rw [hy193]; with_reducible exact H) | (have H2_ := (Option.bind_some _ _).symm.trans H; rw [hy193]; with_reducible exact H2_) | (have H2_ := (Option.bind_some _ _).symm.trans H; with_reducible exact H2_) | with_reducible exact H | (rw [hy193]; exact H) | exact H);have Ny193:=zM hy193;clear hy193;have H':=zM H;clear H;go_enter Try.func123, Try.ntmps123;go_wp2_with (first | ((with_reducible refine gate_dst (N := 5) rfl ?_); refine Kd.R_lit (Kd.int .i64) _ 3 zs4 (N := 5) zs4 (xs := ([] : List Int)) (inner := []) (ok := fun _ => True) (okp := fun _ => True) zs5 ?hp (fun _ hk => hk) trivial (Below.refl _ _) (Nat.le_refl _) (by simp) ?_; (case hp => exact (Reps.none _ _)); intro v194 w2 ho3 hb hg_ hnew_; clear hg_ hnew_; (first | rw [← Ny193.out] at ho3 | (simp only [Int.reduceToNat] at ho3; rw [← Ny193.out] at ho3)); have HO195:=zM (Kd.R_lower ho3 (below_size (zs6 HB))); replace HB:=zM (below_step (zs6 HB) hb); clear hb ho3));go_loopg [3, 4] k (fun kq v3 v4 w' => ∃ (x3_1 : List Int) (x4_1 : Int), v4 = .int .i64 x4_1 ∧ Aside0 (spec_l2Words.l0 kq a0 x3_1 x4_1 = some r) ∧ Aside0 (kq ≤ k) ∧ Aside0 (Kd.R (Kd.int .i64) 3 w' w.heap.size (fun _ => True) v3 x3_1) ∧ Aside0 (Below w.heap.size w w'))
 case atStart => exact ⟨(y193), (0), zs0, H', ⟨Nat.le_refl _⟩, ⟨(zs8 HO195)⟩, ⟨(zs6 HB)⟩⟩
 case round =>
  clear H';obtain ⟨x3_1, x4_1, rfl, HA, HK1, HO_3, HB⟩ := hrel;cases gk with
  | zero => exact absurd HA.out (by simp [spec_l2Words.l0])
  | succ k1 =>
   have H := HA.out;clear HA;simp only [spec_l2Words.l0] at H;replace H := zn H; obtain ⟨c4, H⟩ := H;have c4b0 := eq_true c4;have c4b1 := decide_eq_true c4;clear c4;obtain ⟨ji5, hji5⟩ : ∃ j_ : Int, (shr .i64 a0 x4_1) = j_ := ⟨_, rfl⟩;(replace H : (if (ji5) > 0 then (if (Int.tmod (ji5) 2) = 1 then (if x3_1.length < 17592186044416 then (spec_l2Words.l0 k1 a0 (x3_1 ++ [wrap64 (x4_1 + 1)]) (wrap64 (x4_1 + 1))) else (none)) else (spec_l2Words.l0 k1 a0 x3_1 (wrap64 (x4_1 + 1)))) else (some x3_1)) = some r := by first | (rw [hji5] at H; exact H) | (simp only [hji5] at H ⊢; exact H));have hji5_ : (a0 / 2 ^ min x4_1.toNat 64) = ji5 := hji5;have hji5z : x4_1 ≤ 64 → (a0 / 2 ^ x4_1.toNat) = ji5 := shr_small hji5;by_cases c6 : (ji5) > 0
   ·rw [if_pos c6] at H;have c6b0 : decide (0 < (ji5)) = true := decide_eq_true c6;clear c6;have c7b0 := eq_true (of_decide_eq_true zs1 : 0 ≤ x4_1);by_cases c8 : (Int.tmod (ji5) 2) = 1
    ·rw [if_pos c8] at H;have c8b0 := beq_iff_eq.mpr c8;have c8b1 := bne_eq_false_iff_eq.mpr c8;clear c8;replace H := zn H; obtain ⟨c9, H⟩ := H;have LMc9:=zM c9;clear c9;obtain ⟨y196, hy196⟩ : ∃ y_ : List Int, y_ = (x3_1 ++ [wrap64 (x4_1 + 1)]) := ⟨_, rfl⟩;(replace H : (spec_l2Words.l0 k1 a0 y196 (wrap64 (x4_1 + 1))) = some r := by first | (rw [hy196]; with_reducible exact H) | (have H2_ := (Option.bind_some _ _).symm.trans H; rw [hy196]; with_reducible exact H2_) | (have H2_ := (Option.bind_some _ _).symm.trans H; with_reducible exact H2_) | with_reducible exact H | (rw [hy196]; exact H) | exact H);have Ny196:=zM hy196;clear hy196;have H':=zM H;clear H;go_wp2_with (first | ((with_reducible refine gate_builtin (b := .append) (xs := #[.tmp 17, .tmp 20]) rfl ?_); at_builtin; refine Kd.R_append (Kd.int .i64) (w0 := w) w.heap.size rfl (.tmp 17) (.tmp 20) 22 3 (.int .i64 0) 8 rfl Try.underlying22 info3 rfl zd zo_ u3 x3_1 (wrap64 (x4_1 + 1)) [.int .i64 (wrap64 (x4_1 + 1))] (fun _ => True) (fun _ => False) rfl rfl ?aP (fun _ hk => hk.elim) ?aF ?aO ?aB ?aS ?aL ?_; (case aP => exact rfl); (case aB => exact (zs6 HB)); (case aF => exact (fun _ _ => trivial)); (case aO => exact (zs8 HO_3)); (case aS => exact (below_size (zs6 HB))); (case aL => have := LMc9.out; omega); intro v197 w10 ho hb hg hat; rw [← Ny196.out] at ho; replace HB:=zM (hb); have HO198:=zM (ho); clear HO_3; clear ho hb hg hat));go_roundg k1
     case measure => have := HK1.out; omega
     case rel => exact ⟨(y196), (wrap64 (x4_1 + 1)), zs0, H', ⟨by have := HK1.out; omega⟩, ⟨(zs8 HO198)⟩, ⟨(zs6 HB)⟩⟩
    ·rw [if_neg c8] at H;have c8b0 := beq_eq_false_iff_ne.mpr c8;have c8b1 := bne_iff_ne.mpr c8;have H':=zM H;clear H;go_wp2;go_roundg k1
     case measure => have := HK1.out; omega
     case rel => exact ⟨(x3_1), (wrap64 (x4_1 + 1)), zs0, H', ⟨by have := HK1.out; omega⟩, ⟨(zs8 HO_3)⟩, ⟨(zs6 HB)⟩⟩
   ·rw [if_neg c6] at H;have c6b0 : decide (0 < (ji5)) = false := decide_eq_false c6;clear c6;obtain rfl := Option.some.inj H;go_wp2;go_ret;(exact ⟨_, by first | rfl | (simp [errW_none, errW_some] <;> rfl) | (simp only [← hji5]; first | rfl | (simp [errW_none, errW_some] <;> rfl)) | (simp [*, errW_none, errW_some] <;> rfl), (zs8 HO_3), (zs6 HB)⟩)
/-! ### spec_l2Yield: function 124 -/
mutual
def spec_l2Yield.l0 : Nat → List Int → Int → Int → Int → Option (Int)
 | 0, _, _, _, _ => none
 | k + 1, x0, x1, x5, x6 => if x6 < (x0.length : Int) then (if 0 ≤ x6 then (if (rd x0 x6) = x1 then ((spec_l2Yield.f k x0 (wrap64 (x6 + 1))).bind fun t200 => (spec_l2Yield.l0 k x0 x1 (Go.bits .or .i64 x5 t200) (wrap64 (x6 + 1)))) else (spec_l2Yield.l0 k x0 x1 x5 (wrap64 (x6 + 1)))) else (none)) else (some x5)
def spec_l2Yield.f : Nat → List Int → Int → Option (Int)
 | 0, _, _ => none
 | k + 1, l0, a1 => if 0 ≤ (wrap64 (a1 - 1)) then (spec_l2Yield.l0 k l0 a1 (shl .i64 1 (wrap64 (a1 - 1))) 0) else (none)
end
theorem spec_l2Yield.mono_l : ∀ k, (∀ y0 y1, LeO (spec_l2Yield.f k y0 y1) (spec_l2Yield.f (k + 1) y0 y1)) ∧ (∀ y0 y1 y2 y3, LeO (spec_l2Yield.l0 k y0 y1 y2 y3) (spec_l2Yield.l0 (k + 1) y0 y1 y2 y3))
 | 0 => ⟨fun _ _ r h => by simp [spec_l2Yield.f] at h, fun _ _ _ _ r h => by simp [spec_l2Yield.l0] at h⟩
 | k + 1 => by
  obtain ⟨ih0, ih1⟩ := spec_l2Yield.mono_l k
  refine ⟨?_, ?_⟩
  ·intro y0 y1
   unfold spec_l2Yield.f
   exact zmono
  ·intro y0 y1 y2 y3
   unfold spec_l2Yield.l0
   exact zmono
theorem spec_l2Yield.mono : ∀ a0 a1 k, LeO (spec_l2Yield.f k a0 a1) (spec_l2Yield.f (k + 1) a0 a1) := by
 intro a0 a1 k;obtain ⟨ih0, ih1⟩ := spec_l2Yield.mono_l k;exact ih0 a0 a1
set_option maxHeartbeats 8000000 in
set_option maxRecDepth 100000 in
theorem spec_l2Yield.calls (k : Nat) : ∀ (A0 : Option Addr) (c0 : Nat) (l0 : List Int) (a1 : Int) (r : Int) (w : World) (hr0 : Kd.C (Kd.int .i64) w A0 l0.length l0) (hc0 : l0.length ≤ c0) (h : spec_l2Yield.f k l0 a1 = some r),
  Calls Try.prog 124 #[.slice A0 l0.length c0, .int .i64 a1] w fun e w' => e = .returned (.int .i64 r) ∧ Drawn0 w w' := by
 induction k using Nat.strongRecOn with
 | _ k ih =>
 intro A0 c0 l0 a1 r w hr0 hc0 h;cases k with
 | zero => exact absurd h (by simp [spec_l2Yield.f])
 | succ k =>
 simp only [spec_l2Yield.f] at h;have HR0:=zM hr0;have HC0:=zM hc0;clear hr0 hc0;have H : (if 0 ≤ (wrap64 (a1 - 1)) then (spec_l2Yield.l0 k l0 a1 (shl .i64 1 (wrap64 (a1 - 1))) 0) else (none)) = some r := h;clear h;obtain ⟨ji3, hji3⟩ : ∃ j_ : Int, (wrap64 (a1 - 1)) = j_ := ⟨_, rfl⟩;(replace H : (if 0 ≤ (ji3) then (spec_l2Yield.l0 k l0 a1 (shl .i64 1 (ji3)) 0) else (none)) = some r := by first | (rw [hji3] at H; exact H) | (simp only [hji3] at H ⊢; exact H));have hji3w : (IntKind.i64.wrap (a1 - 1)) = ji3 := (i64_w _).trans hji3;replace H := zn H; obtain ⟨c4, H⟩ := H;have c4b0 := eq_true c4;have c4b1 := decide_eq_true c4;clear c4;obtain ⟨ji5, hji5⟩ : ∃ j_ : Int, (shl .i64 1 (ji3)) = j_ := ⟨_, rfl⟩;(replace H : (spec_l2Yield.l0 k l0 a1 ji5 0) = some r := by first | (rw [hji5] at H; exact H) | (simp only [hji5] at H ⊢; exact H));have hji5_ : (IntKind.i64.wrap (1 * 2 ^ min (ji3).toNat 64)) = ji5 := hji5;have hji5z : (ji3) ≤ 64 → (IntKind.i64.wrap (1 * 2 ^ (ji3).toNat)) = ji5 := shl_small hji5;(have hji5u : (IntKind.i64.wrap (2 ^ min (ji3).toNat 64)) = ji5 := by have h_ := hji5_; rw [Int.one_mul] at h_; exact h_);(have hji5v : (ji3) ≤ 64 → (IntKind.i64.wrap (2 ^ (ji3).toNat)) = ji5 := fun hle_ => by have h_ := hji5z hle_; rw [Int.one_mul] at h_; exact h_);have hji5y : (wrap64 (1 * 2 ^ min (ji3).toNat 64)) = ji5 := (i64_w _).symm.trans hji5_;have hji5x : (ji3) ≤ 64 → (wrap64 (1 * 2 ^ (ji3).toNat)) = ji5 := fun h_ => (i64_w _).symm.trans (hji5z h_);have H':=zM H;clear H;go_enter Try.func124, Try.ntmps124;go_wp2;go_loopg [5, 6] k (fun kq v5 v6 w' => ∃ (x5_1 : Int) (x6_1 : Int), v5 = .int .i64 x5_1 ∧ v6 = .int .i64 x6_1 ∧ Aside0 (spec_l2Yield.l0 kq l0 a1 x5_1 x6_1 = some r) ∧ Aside0 (kq ≤ k) ∧ Drawn0 w w')
 case atStart => exact ⟨(ji5), (0), (by first | rfl | (simp; done) | (simp only [← hji5] <;> (first | rfl | simp)) | (simp [*]; done)), zs0, H', ⟨Nat.le_refl _⟩, by repeat (first | exact Drawn0.refl _ | apply Drawn0.step)⟩
 case round =>
  clear H';obtain ⟨x5_1, x6_1, rfl, rfl, HA, HK1, ⟨m1, rfl⟩⟩ := hrel;cases gk with
  | zero => exact absurd HA.out (by simp [spec_l2Yield.l0])
  | succ k1 =>
   have H := HA.out;clear HA;simp only [spec_l2Yield.l0] at H;by_cases c6 : x6_1 < (l0.length : Int)
   ·rw [if_pos c6] at H;have c6b0 := decide_eq_true c6;clear c6;replace H := zn H; obtain ⟨c7, H⟩ := H;have c7b0 := decide_eq_true c7;clear c7;by_cases c8 : (rd l0 x6_1) = a1
    ·rw [if_pos c8] at H;have c8b0 := beq_iff_eq.mpr c8;have c8b1 := bne_eq_false_iff_eq.mpr c8;clear c8;replace H := zb H; obtain ⟨t200, A9, H⟩ := H; (try dsimp only at H);have H':=zM H;clear H;have p199 : 0 ≤ (x6_1 : Int) := of_decide_eq_true zs1;have q199 : x6_1 < (l0.length : Int) := of_decide_eq_true zs1;obtain ⟨ad199, e199, hx199_0⟩ := Kd.at_int HR0.out x6_1 p199 q199;cases e199;replace p199 := eq_true p199;replace q199 := eq_true q199;go_wp2_with (first | (refine zg 124 (some 26) Try.func124 #[.slice (some ad199) l0.length c0, .int .i64 (wrap64 (x6_1 + 1))] ?_; (with_reducible refine (ih k1 (by have := HK1.out; omega) _ _ l0 (wrap64 (x6_1 + 1)) t200 _ ?side1 ?side2 A9.out).mono ?_); (case side1 => exact (zs3 HR0)); (case side2 => exact HC0.out); rintro e w' ⟨rfl, ⟨nd, rfl⟩⟩; refine ⟨_, rfl, ?_⟩));go_roundg k1
     case measure => have := HK1.out; omega
     case rel => exact ⟨(Go.bits .or .i64 x5_1 t200), (wrap64 (x6_1 + 1)), zs0, zs0, H', ⟨by have := HK1.out; omega⟩, by repeat (first | exact Drawn0.refl _ | apply Drawn0.step)⟩
    ·rw [if_neg c8] at H;have c8b0 := beq_eq_false_iff_ne.mpr c8;have c8b1 := bne_iff_ne.mpr c8;have H':=zM H;clear H;have p199 : 0 ≤ (x6_1 : Int) := of_decide_eq_true zs1;have q199 : x6_1 < (l0.length : Int) := of_decide_eq_true zs1;obtain ⟨ad199, e199, hx199_0⟩ := Kd.at_int HR0.out x6_1 p199 q199;cases e199;replace p199 := eq_true p199;replace q199 := eq_true q199;go_wp2;go_roundg k1
     case measure => have := HK1.out; omega
     case rel => exact ⟨(x5_1), (wrap64 (x6_1 + 1)), zs0, zs0, H', ⟨by have := HK1.out; omega⟩, by repeat (first | exact Drawn0.refl _ | apply Drawn0.step)⟩
   ·rw [if_neg c6] at H;have c6b0 := decide_eq_false c6;clear c6;obtain rfl := Option.some.inj H;go_wp2;go_ret;(exact ⟨by first | rfl | (simp; done) | (simp only [← hji3, ← hji5] <;> (first | rfl | simp)) | (simp [*]; done), by repeat (first | exact Drawn0.refl _ | apply Drawn0.step)⟩)
end Go.Proofs.Ytbbhdgpiocojaaa.LH
