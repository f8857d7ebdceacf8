/- Printed by a program of this session (wip/lp/lp.py) out of the translation: functions with the same answers as the Go code, and their contracts; no conditions beyond those that each theorem names. -/
import Derived.Test.YtbbhdgpiocojaaaLFx0
import Derived.Test.YtbbhdgpiocojaaaLFx6
namespace Go.Proofs.Ytbbhdgpiocojaaa.LF
open Go.RowKit Go.Proofs.YtbbhdgpiocojaaaV.PrintWords Go.Proofs.YtbbhdgpiocojaaaV.PrintLast Go.Proofs.YtbbhdgpiocojaaaV.PrintMore
attribute [local go_sem] max2_int min2_int max_two min_two max_three min_three max_four min_four   -- for this text's walks alone
set_option linter.unusedVariables false
set_option linter.unusedSimpArgs false

/-! ### spec_TreeOk: function 56 -/
mutual
def spec_TreeOk.l0 : Nat → List Int → Int → Int → Int → Option (Bool)
 | 0, _, _, _, _ => none
 | k + 1, x0, x3, x4, x5 => if x5 < x3 then (if 0 ≤ x5 then (if x5 < (x0.length : Int) then ((spec_l1In.f (rd x0 x5) 0 x3).bind fun t270 => (if t270 = true then (spec_TreeOk.j1 k x0 x3 x4 x5 ((rd x0 x5) == (wrap64 (x5 + 1)))) else (spec_TreeOk.j1 k x0 x3 x4 x5 true))) else (none)) else (none)) else (some (x4 == 1))
def spec_TreeOk.j1 : Nat → List Int → Int → Int → Int → Bool → Option (Bool)
 | 0, _, _, _, _, _ => none
 | k + 1, x0, x3, x4, x5, x33 => if x33 = true then (some false) else (if 0 ≤ x5 then (if x5 < (x0.length : Int) then (if (rd x0 x5) = 0 then (spec_TreeOk.j2 k x0 x3 (wrap64 (x4 + 1)) x5) else (spec_TreeOk.j2 k x0 x3 x4 x5)) else (none)) else (none))
def spec_TreeOk.j2 : Nat → List Int → Int → Int → Int → Option (Bool)
 | 0, _, _, _, _ => none
 | k + 1, x0, x3, x4, x5 => spec_TreeOk.l1 k x0 x3 x4 x5 (wrap64 (x5 + 1)) 0
def spec_TreeOk.l1 : Nat → List Int → Int → Int → Int → Int → Int → Option (Bool)
 | 0, _, _, _, _, _, _ => none
 | k + 1, x0, x3, x4, x5, x6, x7 => if x6 > 0 then (spec_TreeOk.j4 k x0 x3 x4 x5 x6 x7 (decide (x7 < x3))) else (spec_TreeOk.j4 k x0 x3 x4 x5 x6 x7 false)
def spec_TreeOk.j4 : Nat → List Int → Int → Int → Int → Int → Int → Bool → Option (Bool)
 | 0, _, _, _, _, _, _, _ => none
 | k + 1, x0, x3, x4, x5, x6, x7, x49 => if x49 = true then (if 0 ≤ (wrap64 (x6 - 1)) then (if (wrap64 (x6 - 1)) < (x0.length : Int) then ((spec_l1In.f (rd x0 (wrap64 (x6 - 1))) 0 x3).bind fun t274 => (if t274 = true then (spec_TreeOk.l1 k x0 x3 x4 x5 (rd x0 (wrap64 (x6 - 1))) (wrap64 (x7 + 1))) else (some false))) else (none)) else (none)) else (if x6 > 0 then (some false) else (spec_TreeOk.l0 k x0 x3 x4 (wrap64 (x5 + 1))))
end
def spec_TreeOk.f (k : Nat) (l0 : List Int) : Option (Bool) := (spec_l1In.f (l0.length : Int) 1 8).bind fun t268 => (if t268 = true then (spec_TreeOk.l0 k l0 (l0.length : Int) 0 0) else (some false))
theorem spec_TreeOk.mono_l : ∀ k, (∀ y0 y1 y2 y3, LeO (spec_TreeOk.l0 k y0 y1 y2 y3) (spec_TreeOk.l0 (k + 1) y0 y1 y2 y3)) ∧ (∀ y0 y1 y2 y3 y4, LeO (spec_TreeOk.j1 k y0 y1 y2 y3 y4) (spec_TreeOk.j1 (k + 1) y0 y1 y2 y3 y4)) ∧ (∀ y0 y1 y2 y3, LeO (spec_TreeOk.j2 k y0 y1 y2 y3) (spec_TreeOk.j2 (k + 1) y0 y1 y2 y3)) ∧ (∀ y0 y1 y2 y3 y4 y5, LeO (spec_TreeOk.l1 k y0 y1 y2 y3 y4 y5) (spec_TreeOk.l1 (k + 1) y0 y1 y2 y3 y4 y5)) ∧ (∀ y0 y1 y2 y3 y4 y5 y6, LeO (spec_TreeOk.j4 k y0 y1 y2 y3 y4 y5 y6) (spec_TreeOk.j4 (k + 1) y0 y1 y2 y3 y4 y5 y6))
 | 0 => ⟨fun _ _ _ _ r h => by simp [spec_TreeOk.l0] at h, fun _ _ _ _ _ r h => by simp [spec_TreeOk.j1] at h, fun _ _ _ _ r h => by simp [spec_TreeOk.j2] at h, fun _ _ _ _ _ _ r h => by simp [spec_TreeOk.l1] at h, fun _ _ _ _ _ _ _ r h => by simp [spec_TreeOk.j4] at h⟩
 | k + 1 => by
  obtain ⟨ih0, ih1, ih2, ih3, ih4⟩ := spec_TreeOk.mono_l k
  refine ⟨?_, ?_, ?_, ?_, ?_⟩
  ·intro y0 y1 y2 y3
   unfold spec_TreeOk.l0
   exact zmono
  ·intro y0 y1 y2 y3 y4
   unfold spec_TreeOk.j1
   exact zmono
  ·intro y0 y1 y2 y3
   unfold spec_TreeOk.j2
   exact zmono
  ·intro y0 y1 y2 y3 y4 y5
   unfold spec_TreeOk.l1
   exact zmono
  ·intro y0 y1 y2 y3 y4 y5 y6
   unfold spec_TreeOk.j4
   exact zmono
theorem spec_TreeOk.mono : ∀ a0 k, LeO (spec_TreeOk.f k a0) (spec_TreeOk.f (k + 1) a0) := by
 intro a0 k;obtain ⟨ih0, ih1, ih2, ih3, ih4⟩ := spec_TreeOk.mono_l k;unfold spec_TreeOk.f;exact zmono
set_option maxHeartbeats 8000000 in
set_option maxRecDepth 100000 in
theorem spec_TreeOk.calls (k : Nat) (A0 : Option Addr) (c0 : Nat) (l0 : List Int) (r : Bool) (w : World) (hr0 : Kd.C (Kd.int .i64) w A0 l0.length l0) (hc0 : l0.length ≤ c0) (h : spec_TreeOk.f k l0 = some r) :
  Calls Try.prog 56 #[.slice A0 l0.length c0] w fun e w' => e = .returned (.bool r) ∧ Drawn0 w w' := by
 have HR0:=zM hr0;have HC0:=zM hc0;clear hr0 hc0;have H : ((spec_l1In.f (l0.length : Int) 1 8).bind fun t268 => (if t268 = true then (spec_TreeOk.l0 k l0 (l0.length : Int) 0 0) else (some false))) = some r := h;clear h;replace H := zb H; obtain ⟨t268, A2, H⟩ := H; (try dsimp only at H);by_cases c3 : t268 = true
 ·subst c3;(have H1 : (spec_TreeOk.l0 k l0 (l0.length : Int) 0 0) = some r := by rw [if_pos rfl] at H; exact H);clear H;have H := H1;clear H1;have H':=zM H;clear H;go_enter Try.func56, Try.ntmps56;go_wp2_with (first | (refine zg 93 (some 11) Try.func93 #[.int .i64 (l0.length : Int), .int .i64 1, .int .i64 8] ?_; (with_reducible refine (spec_l1In.calls (l0.length : Int) 1 8 true _ A2.out).mono ?_); rintro e w' ⟨rfl, ⟨nd, rfl⟩⟩; refine ⟨_, rfl, ?_⟩));go_loopg [4, 5] k (fun kq v4 v5 w' => ∃ (x4_1 : Int) (x5_1 : Int), v4 = .int .i64 x4_1 ∧ v5 = .int .i64 x5_1 ∧ Aside0 (spec_TreeOk.l0 kq l0 (l0.length : Int) x4_1 x5_1 = some r) ∧ Aside0 (kq ≤ k) ∧ Drawn0 w w')
  case atStart => exact ⟨(0), (0), zs0, zs0, H', ⟨Nat.le_refl _⟩, by repeat (first | exact Drawn0.refl _ | apply Drawn0.step)⟩
  case round =>
   clear H';obtain ⟨x4_1, x5_1, rfl, rfl, HA, HK1, ⟨m1, rfl⟩⟩ := hrel;cases gk with
   | zero => exact absurd HA.out (by simp [spec_TreeOk.l0])
   | succ k1 =>
    have H := HA.out;clear HA;simp only [spec_TreeOk.l0] at H;by_cases c4 : x5_1 < (l0.length : Int)
    ·rw [if_pos c4] at H;have c4b0 := decide_eq_true c4;clear c4;have HC5:=zM H;clear H;go_upto_region 8 with (fail);go_cut [33] (fun v33 wc => ∃ (kq : Nat) (x33_4 : Bool), v33 = .bool x33_4 ∧ Aside0 (spec_TreeOk.j1 kq l0 (l0.length : Int) x4_1 x5_1 x33_4 = some r) ∧ Aside0 (kq ≤ k1) ∧ Drawn0 w wc)
     case first =>
      have H := HC5.out;clear HC5;replace H := zn H; obtain ⟨c6, H⟩ := H;have c6b0 := decide_eq_true c6;clear c6;(first | rw [c6b0] | (simp only [i64_w, i32_w]; rw [c6b0]) | skip);replace H := zn H; obtain ⟨c7, H⟩ := H;have c7b0 := decide_eq_true c7;clear c7;replace H := zb H; obtain ⟨t270, A8, H⟩ := H; (try dsimp only at H);by_cases c9 : t270 = true
      ·subst c9;(have H1 : (spec_TreeOk.j1 k1 l0 (l0.length : Int) x4_1 x5_1 ((rd l0 x5_1) == (wrap64 (x5_1 + 1)))) = some r := by rw [if_pos rfl] at H; exact H);clear H;have H := H1;clear H1;have H':=zM H;clear H;have p269 : 0 ≤ (x5_1 : Int) := of_decide_eq_true zs1;have q269 : x5_1 < (l0.length : Int) := of_decide_eq_true zs1;obtain ⟨ad269, e269, hx269_0⟩ := Kd.at_int HR0.out x5_1 p269 q269;cases e269;replace p269 := eq_true p269;replace q269 := eq_true q269;go_wp2_with (first | (refine zg 93 (some 23) Try.func93 #[.int .i64 (rd l0 x5_1), .int .i64 0, .int .i64 (l0.length : Int)] ?_; (with_reducible refine (spec_l1In.calls (rd l0 x5_1) 0 (l0.length : Int) true _ A8.out).mono ?_); rintro e w' ⟨rfl, ⟨nd, rfl⟩⟩; refine ⟨_, rfl, ?_⟩; have p271 : 0 ≤ (x5_1 : Int) := of_decide_eq_true zs1; have q271 : x5_1 < (l0.length : Int) := of_decide_eq_true zs1; obtain ⟨ad271, e271, hx271_0⟩ := Kd.at_int HR0.out x5_1 p271 q271; obtain rfl : ad269 = ad271 := (by injection e271); replace p271 := eq_true p271; replace q271 := eq_true q271));go_meet
       case rel => exact ⟨_, (((rd l0 x5_1) == (wrap64 (x5_1 + 1)))), zs0, H', ⟨by have := HK1.out; first | omega | exact Nat.le_refl _⟩, by repeat (first | exact Drawn0.refl _ | apply Drawn0.step)⟩
      ·replace c9 := Bool.eq_false_iff.mpr c9;subst c9;(have H1 : (spec_TreeOk.j1 k1 l0 (l0.length : Int) x4_1 x5_1 true) = some r := by rw [if_neg (show ¬ (false = true) by decide)] at H; exact H);clear H;have H := H1;clear H1;have H':=zM H;clear H;have p269 : 0 ≤ (x5_1 : Int) := of_decide_eq_true zs1;have q269 : x5_1 < (l0.length : Int) := of_decide_eq_true zs1;obtain ⟨ad269, e269, hx269_0⟩ := Kd.at_int HR0.out x5_1 p269 q269;cases e269;replace p269 := eq_true p269;replace q269 := eq_true q269;go_wp2_with (first | (refine zg 93 (some 23) Try.func93 #[.int .i64 (rd l0 x5_1), .int .i64 0, .int .i64 (l0.length : Int)] ?_; (with_reducible refine (spec_l1In.calls (rd l0 x5_1) 0 (l0.length : Int) false _ A8.out).mono ?_); rintro e w' ⟨rfl, ⟨nd, rfl⟩⟩; refine ⟨_, rfl, ?_⟩));go_meet
       case rel => exact ⟨_, (true), zs0, H', ⟨by have := HK1.out; first | omega | exact Nat.le_refl _⟩, by repeat (first | exact Drawn0.refl _ | apply Drawn0.step)⟩
     case rest =>
      clear HC5;obtain ⟨kq, x33_4, rfl, HA, HJ4, ⟨mc4, rfl⟩⟩ := hcut;cases kq with
      | zero => exact absurd HA.out (by simp [spec_TreeOk.j1])
      | succ kj4 =>
       have H := HA.out;clear HA;simp only [spec_TreeOk.j1] at H;by_cases c10 : x33_4 = true
       ·subst c10;(have H1 : (some false) = some r := by rw [if_pos rfl] at H; exact H);clear H;have H := H1;clear H1;obtain rfl := Option.some.inj H;go_wp2;go_ret;exact ⟨by first | rfl | (simp; done) | (simp [*]; done), by repeat (first | exact Drawn0.refl _ | apply Drawn0.step)⟩
       ·replace c10 := Bool.eq_false_iff.mpr c10;subst c10;(have H1 : (if 0 ≤ x5_1 then (if x5_1 < (l0.length : Int) then (if (rd l0 x5_1) = 0 then (spec_TreeOk.j2 kj4 l0 (l0.length : Int) (wrap64 (x4_1 + 1)) x5_1) else (spec_TreeOk.j2 kj4 l0 (l0.length : Int) x4_1 x5_1)) else (none)) else (none)) = some r := by rw [if_neg (show ¬ (false = true) by decide)] at H; exact H);clear H;have H := H1;clear H1;replace H := zn H; obtain ⟨c11, H⟩ := H;have c11b0 := decide_eq_true c11;clear c11;replace H := zn H; obtain ⟨c12, H⟩ := H;have c12b0 := decide_eq_true c12;clear c12;have HC13:=zM H;clear H;have p272 : 0 ≤ (x5_1 : Int) := of_decide_eq_true zs1;have q272 : x5_1 < (l0.length : Int) := of_decide_eq_true zs1;obtain ⟨ad272, e272, hx272_0⟩ := Kd.at_int HR0.out x5_1 p272 q272;cases e272;replace p272 := eq_true p272;replace q272 := eq_true q272;go_upto_if 38 with (fail);go_cut [4] (fun v4 wc => ∃ (kq : Nat) (x4_12 : Int), v4 = .int .i64 x4_12 ∧ Aside0 (spec_TreeOk.j2 kq l0 (l0.length : Int) x4_12 x5_1 = some r) ∧ Aside0 (kq ≤ kj4) ∧ Drawn0 w wc)
        case first =>
         have H := HC13.out;clear HC13;by_cases c14 : (rd l0 x5_1) = 0
         ·rw [if_pos c14] at H;have c14b0 := beq_iff_eq.mpr c14;have c14b1 := bne_eq_false_iff_eq.mpr c14;clear c14;(first | rw [c14b0] | (simp only [i64_w, i32_w]; rw [c14b0]) | skip);have H':=zM H;clear H;go_wp2;go_meet
          case rel => exact ⟨_, (wrap64 (x4_1 + 1)), zs0, H', ⟨by have := HK1.out; have := HJ4.out; first | omega | exact Nat.le_refl _⟩, by repeat (first | exact Drawn0.refl _ | apply Drawn0.step)⟩
         ·rw [if_neg c14] at H;have c14b0 := beq_eq_false_iff_ne.mpr c14;have c14b1 := bne_iff_ne.mpr c14;(first | rw [c14b0] | (simp only [i64_w, i32_w]; rw [c14b0]) | skip);have H':=zM H;clear H;go_wp2;go_meet
          case rel => exact ⟨_, (x4_1), zs0, H', ⟨by have := HK1.out; have := HJ4.out; first | omega | exact Nat.le_refl _⟩, by repeat (first | exact Drawn0.refl _ | apply Drawn0.step)⟩
        case rest =>
         clear HC13;obtain ⟨kq, x4_12, rfl, HA, HJ12, ⟨mc12, rfl⟩⟩ := hcut;cases kq with
         | zero => exact absurd HA.out (by simp [spec_TreeOk.j2])
         | succ kj12 =>
          have H := HA.out;clear HA;simp only [spec_TreeOk.j2] at H;have H':=zM H;clear H;go_wp2;go_loopg [6, 7] kj12 (fun kq v6 v7 w' => ∃ (x6_4 : Int) (x7_4 : Int), v6 = .int .i64 x6_4 ∧ v7 = .int .i64 x7_4 ∧ Aside0 (spec_TreeOk.l1 kq l0 (l0.length : Int) x4_12 x5_1 x6_4 x7_4 = some r) ∧ Aside0 (kq ≤ kj12) ∧ Drawn0 w w')
          case atStart => exact ⟨(wrap64 (x5_1 + 1)), (0), zs0, zs0, H', ⟨Nat.le_refl _⟩, by repeat (first | exact Drawn0.refl _ | apply Drawn0.step)⟩
          case round =>
           clear H';obtain ⟨x6_4, x7_4, rfl, rfl, HA, HK4, ⟨m4, rfl⟩⟩ := hrel;cases gk with
           | zero => exact absurd HA.out (by simp [spec_TreeOk.l1])
           | succ k4 =>
            have H := HA.out;clear HA;simp only [spec_TreeOk.l1] at H;have HC15:=zM H;clear H;go_upto_region 14 with (fail);go_cut [49] (fun v49 wc => ∃ (kq : Nat) (x49_14 : Bool), v49 = .bool x49_14 ∧ Aside0 (spec_TreeOk.j4 kq l0 (l0.length : Int) x4_12 x5_1 x6_4 x7_4 x49_14 = some r) ∧ Aside0 (kq ≤ k4) ∧ Drawn0 w wc)
            case first =>
             have H := HC15.out;clear HC15;by_cases c16 : x6_4 > 0
             ·rw [if_pos c16] at H;have c16b0 : decide (0 < x6_4) = true := decide_eq_true c16;clear c16;(first | rw [c16b0] | (simp only [i64_w, i32_w]; rw [c16b0]) | skip);have H':=zM H;clear H;go_wp2;go_meet
              case rel => exact ⟨_, (decide (x7_4 < (l0.length : Int))), zs0, H', ⟨by have := HK1.out; have := HJ4.out; have := HJ12.out; have := HK4.out; first | omega | exact Nat.le_refl _⟩, by repeat (first | exact Drawn0.refl _ | apply Drawn0.step)⟩
             ·rw [if_neg c16] at H;have c16b0 : decide (0 < x6_4) = false := decide_eq_false c16;clear c16;(first | rw [c16b0] | (simp only [i64_w, i32_w]; rw [c16b0]) | skip);have H':=zM H;clear H;go_wp2;go_meet
              case rel => exact ⟨_, (false), zs0, H', ⟨by have := HK1.out; have := HJ4.out; have := HJ12.out; have := HK4.out; first | omega | exact Nat.le_refl _⟩, by repeat (first | exact Drawn0.refl _ | apply Drawn0.step)⟩
            case rest =>
             clear HC15;obtain ⟨kq, x49_14, rfl, HA, HJ14, ⟨mc14, rfl⟩⟩ := hcut;cases kq with
             | zero => exact absurd HA.out (by simp [spec_TreeOk.j4])
             | succ kj14 =>
              have H := HA.out;clear HA;simp only [spec_TreeOk.j4] at H;by_cases c17 : x49_14 = true
              ·subst c17;(have H1 : (if 0 ≤ (wrap64 (x6_4 - 1)) then (if (wrap64 (x6_4 - 1)) < (l0.length : Int) then ((spec_l1In.f (rd l0 (wrap64 (x6_4 - 1))) 0 (l0.length : Int)).bind fun t274 => (if t274 = true then (spec_TreeOk.l1 kj14 l0 (l0.length : Int) x4_12 x5_1 (rd l0 (wrap64 (x6_4 - 1))) (wrap64 (x7_4 + 1))) else (some false))) else (none)) else (none)) = some r := by rw [if_pos rfl] at H; exact H);clear H;have H := H1;clear H1;obtain ⟨ji18, hji18⟩ : ∃ j_ : Int, (wrap64 (x6_4 - 1)) = j_ := ⟨_, rfl⟩;(replace H : (if 0 ≤ (ji18) then (if (ji18) < (l0.length : Int) then ((spec_l1In.f (rd l0 (ji18)) 0 (l0.length : Int)).bind fun t274 => (if t274 = true then (spec_TreeOk.l1 kj14 l0 (l0.length : Int) x4_12 x5_1 (rd l0 (ji18)) (wrap64 (x7_4 + 1))) else (some false))) else (none)) else (none)) = some r := by first | (rw [hji18] at H; exact H) | (simp only [hji18] at H ⊢; exact H));have hji18w : (IntKind.i64.wrap (x6_4 - 1)) = ji18 := (i64_w _).trans hji18;replace H := zn H; obtain ⟨c19, H⟩ := H;have c19b0 := decide_eq_true c19;clear c19;replace H := zn H; obtain ⟨c20, H⟩ := H;have c20b0 := decide_eq_true c20;clear c20;replace H := zb H; obtain ⟨t274, A21, H⟩ := H; (try dsimp only at H);by_cases c22 : t274 = true
               ·subst c22;(have H1 : (spec_TreeOk.l1 kj14 l0 (l0.length : Int) x4_12 x5_1 (rd l0 (ji18)) (wrap64 (x7_4 + 1))) = some r := by rw [if_pos rfl] at H; exact H);clear H;have H := H1;clear H1;have H':=zM H;clear H;have p273 : 0 ≤ ((ji18) : Int) := of_decide_eq_true zs1;have q273 : (ji18) < (l0.length : Int) := of_decide_eq_true zs1;obtain ⟨ad273, e273, hx273_0⟩ := Kd.at_int HR0.out (ji18) p273 q273;obtain rfl : ad272 = ad273 := (by injection e273);replace p273 := eq_true p273;replace q273 := eq_true q273;go_wp2_with (first | (refine zg 93 (some 59) Try.func93 #[.int .i64 (rd l0 (ji18)), .int .i64 0, .int .i64 (l0.length : Int)] ?_ (hargs := by (try simp only [List.map_toArray, List.map_cons, List.map_nil]); first | done | (simp only [hji18]; rfl) | rfl); (with_reducible refine (spec_l1In.calls (rd l0 (ji18)) 0 (l0.length : Int) true _ A21.out).mono ?_); rintro e w' ⟨rfl, ⟨nd, rfl⟩⟩; refine ⟨_, rfl, ?_⟩));go_roundg kj14
                case measure => have := HK1.out; have := HJ4.out; have := HJ12.out; have := HK4.out; have := HJ14.out; omega
                case rel => exact ⟨(rd l0 (ji18)), (wrap64 (x7_4 + 1)), (by first | rfl | (simp; done) | (simp only [← hji18] <;> (first | rfl | simp)) | (simp [*]; done)), zs0, H', ⟨by have := HK1.out; have := HJ4.out; have := HJ12.out; have := HK4.out; have := HJ14.out; omega⟩, by repeat (first | exact Drawn0.refl _ | apply Drawn0.step)⟩
               ·replace c22 := Bool.eq_false_iff.mpr c22;subst c22;(have H1 : (some false) = some r := by rw [if_neg (show ¬ (false = true) by decide)] at H; exact H);clear H;have H := H1;clear H1;obtain rfl := Option.some.inj H;have p273 : 0 ≤ ((ji18) : Int) := of_decide_eq_true zs1;have q273 : (ji18) < (l0.length : Int) := of_decide_eq_true zs1;obtain ⟨ad273, e273, hx273_0⟩ := Kd.at_int HR0.out (ji18) p273 q273;obtain rfl : ad272 = ad273 := (by injection e273);replace p273 := eq_true p273;replace q273 := eq_true q273;go_wp2_with (first | (refine zg 93 (some 59) Try.func93 #[.int .i64 (rd l0 (ji18)), .int .i64 0, .int .i64 (l0.length : Int)] ?_ (hargs := by (try simp only [List.map_toArray, List.map_cons, List.map_nil]); first | done | (simp only [hji18]; rfl) | rfl); (with_reducible refine (spec_l1In.calls (rd l0 (ji18)) 0 (l0.length : Int) false _ A21.out).mono ?_); rintro e w' ⟨rfl, ⟨nd, rfl⟩⟩; refine ⟨_, rfl, ?_⟩));go_ret;(exact ⟨by first | rfl | (simp; done) | (simp only [← hji18] <;> (first | rfl | simp)) | (simp [*]; done), by repeat (first | exact Drawn0.refl _ | apply Drawn0.step)⟩)
              ·replace c17 := Bool.eq_false_iff.mpr c17;subst c17;(have H1 : (if x6_4 > 0 then (some false) else (spec_TreeOk.l0 kj14 l0 (l0.length : Int) x4_12 (wrap64 (x5_1 + 1)))) = some r := by rw [if_neg (show ¬ (false = true) by decide)] at H; exact H);clear H;have H := H1;clear H1;by_cases c23 : x6_4 > 0
               ·rw [if_pos c23] at H;have c23b0 : decide (0 < x6_4) = true := decide_eq_true c23;clear c23;obtain rfl := Option.some.inj H;go_wp2;go_ret;exact ⟨by first | rfl | (simp; done) | (simp [*]; done), by repeat (first | exact Drawn0.refl _ | apply Drawn0.step)⟩
               ·rw [if_neg c23] at H;have c23b0 : decide (0 < x6_4) = false := decide_eq_false c23;clear c23;have H':=zM H;clear H;go_wp2;go_roundg kj14
                case measure => have := HK1.out; have := HJ4.out; have := HJ12.out; have := HK4.out; have := HJ14.out; omega
                case rel => exact ⟨(x4_12), (wrap64 (x5_1 + 1)), zs0, zs0, H', ⟨by have := HK1.out; have := HJ4.out; have := HJ12.out; have := HK4.out; have := HJ14.out; omega⟩, by repeat (first | exact Drawn0.refl _ | apply Drawn0.step)⟩
    ·rw [if_neg c4] at H;have c4b0 := decide_eq_false c4;clear c4;obtain rfl := Option.some.inj H;go_wp2;go_ret;exact ⟨by first | rfl | (simp; done) | (simp [*]; done), by repeat (first | exact Drawn0.refl _ | apply Drawn0.step)⟩
 ·replace c3 := Bool.eq_false_iff.mpr c3;subst c3;(have H1 : (some false) = some r := by rw [if_neg (show ¬ (false = true) by decide)] at H; exact H);clear H;have H := H1;clear H1;obtain rfl := Option.some.inj H;go_enter Try.func56, Try.ntmps56;go_wp2_with (first | (refine zg 93 (some 11) Try.func93 #[.int .i64 (l0.length : Int), .int .i64 1, .int .i64 8] ?_; (with_reducible refine (spec_l1In.calls (l0.length : Int) 1 8 false _ A2.out).mono ?_); rintro e w' ⟨rfl, ⟨nd, rfl⟩⟩; refine ⟨_, rfl, ?_⟩));go_ret;exact ⟨by first | rfl | (simp; done) | (simp [*]; done), by repeat (first | exact Drawn0.refl _ | apply Drawn0.step)⟩

/-! ### spec_l2Yield: function 124 -/
mutual
def spec_l2Yield.l0 : Nat → List Int → Int → Int → Int → Option (Int)
 | 0, _, _, _, _ => none
 | k + 1, x0, x1, x5, x6 => if x6 < (x0.length : Int) then (if 0 ≤ x6 then (if (rd x0 x6) = x1 then ((spec_l2Yield.f k x0 (wrap64 (x6 + 1))).bind fun t276 => (spec_l2Yield.l0 k x0 x1 (Go.bits .or .i64 x5 t276) (wrap64 (x6 + 1)))) else (spec_l2Yield.l0 k x0 x1 x5 (wrap64 (x6 + 1)))) else (none)) else (some x5)
def spec_l2Yield.f : Nat → List Int → Int → Option (Int)
 | 0, _, _ => none
 | k + 1, l0, a1 => if 0 ≤ (wrap64 (a1 - 1)) then (spec_l2Yield.l0 k l0 a1 (shl .i64 1 (wrap64 (a1 - 1))) 0) else (none)
end
theorem spec_l2Yield.mono_l : ∀ k, (∀ y0 y1, LeO (spec_l2Yield.f k y0 y1) (spec_l2Yield.f (k + 1) y0 y1)) ∧ (∀ y0 y1 y2 y3, LeO (spec_l2Yield.l0 k y0 y1 y2 y3) (spec_l2Yield.l0 (k + 1) y0 y1 y2 y3))
 | 0 => ⟨fun _ _ r h => by simp [spec_l2Yield.f] at h, fun _ _ _ _ r h => by simp [spec_l2Yield.l0] at h⟩
 | k + 1 => by
  obtain ⟨ih0, ih1⟩ := spec_l2Yield.mono_l k
  refine ⟨?_, ?_⟩
  ·intro y0 y1
   unfold spec_l2Yield.f
   exact zmono
  ·intro y0 y1 y2 y3
   unfold spec_l2Yield.l0
   exact zmono
theorem spec_l2Yield.mono : ∀ a0 a1 k, LeO (spec_l2Yield.f k a0 a1) (spec_l2Yield.f (k + 1) a0 a1) := by
 intro a0 a1 k;obtain ⟨ih0, ih1⟩ := spec_l2Yield.mono_l k;exact ih0 a0 a1
set_option maxHeartbeats 8000000 in
set_option maxRecDepth 100000 in
theorem spec_l2Yield.calls (k : Nat) : ∀ (A0 : Option Addr) (c0 : Nat) (l0 : List Int) (a1 : Int) (r : Int) (w : World) (hr0 : Kd.C (Kd.int .i64) w A0 l0.length l0) (hc0 : l0.length ≤ c0) (h : spec_l2Yield.f k l0 a1 = some r),
  Calls Try.prog 124 #[.slice A0 l0.length c0, .int .i64 a1] w fun e w' => e = .returned (.int .i64 r) ∧ Drawn0 w w' := by
 induction k using Nat.strongRecOn with
 | _ k ih =>
 intro A0 c0 l0 a1 r w hr0 hc0 h;cases k with
 | zero => exact absurd h (by simp [spec_l2Yield.f])
 | succ k =>
 simp only [spec_l2Yield.f] at h;have HR0:=zM hr0;have HC0:=zM hc0;clear hr0 hc0;have H : (if 0 ≤ (wrap64 (a1 - 1)) then (spec_l2Yield.l0 k l0 a1 (shl .i64 1 (wrap64 (a1 - 1))) 0) else (none)) = some r := h;clear h;obtain ⟨ji3, hji3⟩ : ∃ j_ : Int, (wrap64 (a1 - 1)) = j_ := ⟨_, rfl⟩;(replace H : (if 0 ≤ (ji3) then (spec_l2Yield.l0 k l0 a1 (shl .i64 1 (ji3)) 0) else (none)) = some r := by first | (rw [hji3] at H; exact H) | (simp only [hji3] at H ⊢; exact H));have hji3w : (IntKind.i64.wrap (a1 - 1)) = ji3 := (i64_w _).trans hji3;replace H := zn H; obtain ⟨c4, H⟩ := H;have c4b0 := eq_true c4;have c4b1 := decide_eq_true c4;clear c4;obtain ⟨ji5, hji5⟩ : ∃ j_ : Int, (shl .i64 1 (ji3)) = j_ := ⟨_, rfl⟩;(replace H : (spec_l2Yield.l0 k l0 a1 ji5 0) = some r := by first | (rw [hji5] at H; exact H) | (simp only [hji5] at H ⊢; exact H));have hji5_ : (IntKind.i64.wrap (1 * 2 ^ min (ji3).toNat 64)) = ji5 := hji5;have hji5z : (ji3) ≤ 64 → (IntKind.i64.wrap (1 * 2 ^ (ji3).toNat)) = ji5 := shl_small hji5;(have hji5u : (IntKind.i64.wrap (2 ^ min (ji3).toNat 64)) = ji5 := by have h_ := hji5_; rw [Int.one_mul] at h_; exact h_);(have hji5v : (ji3) ≤ 64 → (IntKind.i64.wrap (2 ^ (ji3).toNat)) = ji5 := fun hle_ => by have h_ := hji5z hle_; rw [Int.one_mul] at h_; exact h_);have hji5y : (wrap64 (1 * 2 ^ min (ji3).toNat 64)) = ji5 := (i64_w _).symm.trans hji5_;have hji5x : (ji3) ≤ 64 → (wrap64 (1 * 2 ^ (ji3).toNat)) = ji5 := fun h_ => (i64_w _).symm.trans (hji5z h_);have H':=zM H;clear H;go_enter Try.func124, Try.ntmps124;go_wp2;go_loopg [5, 6] k (fun kq v5 v6 w' => ∃ (x5_1 : Int) (x6_1 : Int), v5 = .int .i64 x5_1 ∧ v6 = .int .i64 x6_1 ∧ Aside0 (spec_l2Yield.l0 kq l0 a1 x5_1 x6_1 = some r) ∧ Aside0 (kq ≤ k) ∧ Drawn0 w w')
 case atStart => exact ⟨(ji5), (0), (by first | rfl | (simp; done) | (simp only [← hji5] <;> (first | rfl | simp)) | (simp [*]; done)), zs0, H', ⟨Nat.le_refl _⟩, by repeat (first | exact Drawn0.refl _ | apply Drawn0.step)⟩
 case round =>
  clear H';obtain ⟨x5_1, x6_1, rfl, rfl, HA, HK1, ⟨m1, rfl⟩⟩ := hrel;cases gk with
  | zero => exact absurd HA.out (by simp [spec_l2Yield.l0])
  | succ k1 =>
   have H := HA.out;clear HA;simp only [spec_l2Yield.l0] at H;by_cases c6 : x6_1 < (l0.length : Int)
   ·rw [if_pos c6] at H;have c6b0 := decide_eq_true c6;clear c6;replace H := zn H; obtain ⟨c7, H⟩ := H;have c7b0 := decide_eq_true c7;clear c7;by_cases c8 : (rd l0 x6_1) = a1
    ·rw [if_pos c8] at H;have c8b0 := beq_iff_eq.mpr c8;have c8b1 := bne_eq_false_iff_eq.mpr c8;clear c8;replace H := zb H; obtain ⟨t276, A9, H⟩ := H; (try dsimp only at H);have H':=zM H;clear H;have p275 : 0 ≤ (x6_1 : Int) := of_decide_eq_true zs1;have q275 : x6_1 < (l0.length : Int) := of_decide_eq_true zs1;obtain ⟨ad275, e275, hx275_0⟩ := Kd.at_int HR0.out x6_1 p275 q275;cases e275;replace p275 := eq_true p275;replace q275 := eq_true q275;go_wp2_with (first | (refine zg 124 (some 26) Try.func124 #[.slice (some ad275) l0.length c0, .int .i64 (wrap64 (x6_1 + 1))] ?_; (with_reducible refine (ih k1 (by have := HK1.out; omega) _ _ l0 (wrap64 (x6_1 + 1)) t276 _ ?side1 ?side2 A9.out).mono ?_); (case side1 => exact (zs3 HR0)); (case side2 => exact HC0.out); rintro e w' ⟨rfl, ⟨nd, rfl⟩⟩; refine ⟨_, rfl, ?_⟩));go_roundg k1
     case measure => have := HK1.out; omega
     case rel => exact ⟨(Go.bits .or .i64 x5_1 t276), (wrap64 (x6_1 + 1)), zs0, zs0, H', ⟨by have := HK1.out; omega⟩, by repeat (first | exact Drawn0.refl _ | apply Drawn0.step)⟩
    ·rw [if_neg c8] at H;have c8b0 := beq_eq_false_iff_ne.mpr c8;have c8b1 := bne_iff_ne.mpr c8;have H':=zM H;clear H;have p275 : 0 ≤ (x6_1 : Int) := of_decide_eq_true zs1;have q275 : x6_1 < (l0.length : Int) := of_decide_eq_true zs1;obtain ⟨ad275, e275, hx275_0⟩ := Kd.at_int HR0.out x6_1 p275 q275;cases e275;replace p275 := eq_true p275;replace q275 := eq_true q275;go_wp2;go_roundg k1
     case measure => have := HK1.out; omega
     case rel => exact ⟨(x5_1), (wrap64 (x6_1 + 1)), zs0, zs0, H', ⟨by have := HK1.out; omega⟩, by repeat (first | exact Drawn0.refl _ | apply Drawn0.step)⟩
   ·rw [if_neg c6] at H;have c6b0 := decide_eq_false c6;clear c6;obtain rfl := Option.some.inj H;go_wp2;go_ret;(exact ⟨by first | rfl | (simp; done) | (simp only [← hji3, ← hji5] <;> (first | rfl | simp)) | (simp [*]; done), by repeat (first | exact Drawn0.refl _ | apply Drawn0.step)⟩)
/-! ### spec_l3Row: function 132 -/
def spec_l3Row.l0 : Nat → Int → Option (Bool)
 | 0, _ => none
 | k + 1, x0 => if (Int.tmod x0 2) = 0 then (spec_l3Row.l0 k (wrap64 (Int.tdiv x0 2))) else (some ((Go.bits .and .i64 x0 (wrap64 (x0 + 1))) == 0))
def spec_l3Row.f (k : Nat) (a0 : Int) : Option (Bool) := spec_l3Row.l0 k a0
theorem spec_l3Row.mono_l : ∀ k, (∀ y0, LeO (spec_l3Row.l0 k y0) (spec_l3Row.l0 (k + 1) y0))
 | 0 => fun _ r h => by simp [spec_l3Row.l0] at h
 | k + 1 => by
  have ih0 := spec_l3Row.mono_l k
  ·intro y0
   unfold spec_l3Row.l0
   exact zmono
theorem spec_l3Row.mono : ∀ a0 k, LeO (spec_l3Row.f k a0) (spec_l3Row.f (k + 1) a0) := by
 intro a0 k;have ih0 := spec_l3Row.mono_l k;unfold spec_l3Row.f;exact zmono
set_option maxHeartbeats 8000000 in
set_option maxRecDepth 100000 in
theorem spec_l3Row.calls (k : Nat) (a0 : Int) (r : Bool) (w : World) (h : spec_l3Row.f k a0 = some r) :
  Calls Try.prog 132 #[.int .i64 a0] w fun e w' => e = .returned (.bool r) ∧ Drawn0 w w' := by
 have H : (spec_l3Row.l0 k a0) = some r := h;clear h;have H':=zM H;clear H;go_enter Try.func132, Try.ntmps132;go_wp2;go_loopg [0] k (fun kq v0 w' => ∃ (x0_1 : Int), v0 = .int .i64 x0_1 ∧ Aside0 (spec_l3Row.l0 kq x0_1 = some r) ∧ Aside0 (kq ≤ k) ∧ Drawn0 w w')
 case atStart => exact ⟨(a0), zs0, H', ⟨Nat.le_refl _⟩, by repeat (first | exact Drawn0.refl _ | apply Drawn0.step)⟩
 case round =>
  clear H';obtain ⟨x0_1, rfl, HA, HK1, ⟨m1, rfl⟩⟩ := hrel;cases gk with
  | zero => exact absurd HA.out (by simp [spec_l3Row.l0])
  | succ k1 =>
   have H := HA.out;clear HA;simp only [spec_l3Row.l0] at H;by_cases c2 : (Int.tmod x0_1 2) = 0
   ·rw [if_pos c2] at H;have c2b0 := beq_iff_eq.mpr c2;have c2b1 := bne_eq_false_iff_eq.mpr c2;clear c2;have H':=zM H;clear H;go_wp2;go_roundg k1
    case measure => have := HK1.out; omega
    case rel => exact ⟨(wrap64 (Int.tdiv x0_1 2)), zs0, H', ⟨by have := HK1.out; omega⟩, by repeat (first | exact Drawn0.refl _ | apply Drawn0.step)⟩
   ·rw [if_neg c2] at H;have c2b0 := beq_eq_false_iff_ne.mpr c2;have c2b1 := bne_iff_ne.mpr c2;obtain rfl := Option.some.inj H;go_wp2;go_ret;exact ⟨by first | rfl | (simp; done) | (simp [*]; done), by repeat (first | exact Drawn0.refl _ | apply Drawn0.step)⟩

end Go.Proofs.Ytbbhdgpiocojaaa.LF
