/- Printed by a program of this session (wip/lp/lp.py) out of the translation: functions with the same answers as the Go code, and their contracts; no conditions beyond those that each theorem names. -/
import Derived.Test.YtbbhdgpiocojaaaLAx0
namespace Go.Proofs.Ytbbhdgpiocojaaa.LA
open Go.RowKit Go.Proofs.YtbbhdgpiocojaaaV.PrintWords Go.Proofs.YtbbhdgpiocojaaaV.PrintLast Go.Proofs.YtbbhdgpiocojaaaV.PrintMore
attribute [local go_sem] max2_int min2_int max_two min_two max_three min_three max_four min_four   -- for this text's walks alone
set_option linter.unusedVariables false
set_option linter.unusedSimpArgs false

/-! ### laws_szIntS: function 52 -/
def laws_szIntS.f (l0 : List Int) (a1 : Int) : Option (Int) := if (wrap64 (a1 - (l0.length : Int))) < 0 then (some (-1)) else (some (wrap64 (a1 - (l0.length : Int))))
set_option maxHeartbeats 8000000 in
set_option maxRecDepth 100000 in
theorem laws_szIntS.calls (A0 : Option Addr) (c0 : Nat) (l0 : List Int) (a1 : Int) (r : Int) (w : World) (hr0 : Kd.C (Kd.int .i64) w A0 l0.length l0) (hc0 : l0.length ≤ c0) (h : laws_szIntS.f l0 a1 = some r) :
  Calls Try.prog 52 #[.slice A0 l0.length c0, .int .i64 a1] w fun e w' => e = .returned (.int .i64 r) ∧ Drawn0 w w' := by
 have HR0:=zM hr0;have HC0:=zM hc0;clear hr0 hc0;have H : (if (wrap64 (a1 - (l0.length : Int))) < 0 then (some (-1)) else (some (wrap64 (a1 - (l0.length : Int))))) = some r := h;clear h;by_cases c3 : (wrap64 (a1 - (l0.length : Int))) < 0
 ·rw [if_pos c3] at H;have c3b0 := decide_eq_true c3;clear c3;obtain rfl := Option.some.inj H;go_enter Try.func52, Try.ntmps52;go_wp2;go_ret;exact ⟨by first | rfl | (simp; done) | (simp [*]; done), by repeat (first | exact Drawn0.refl _ | apply Drawn0.step)⟩
 ·rw [if_neg c3] at H;have c3b0 := decide_eq_false c3;clear c3;obtain rfl := Option.some.inj H;go_enter Try.func52, Try.ntmps52;go_wp2;go_ret;exact ⟨by first | rfl | (simp; done) | (simp [*]; done), by repeat (first | exact Drawn0.refl _ | apply Drawn0.step)⟩

/-! ### laws_szIntSS: function 53 -/
def laws_szIntSS.l0 : Nat → List (List Int) → Int → Int → Option (Int)
 | 0, _, _, _ => none
 | k + 1, x0, x1, x5 => if x5 < (x0.length : Int) then (if 0 ≤ x5 then ((laws_szIntS.f (rd_L1 x0 x5) x1).bind fun t102 => (if t102 < 0 then (some (-1)) else (laws_szIntSS.l0 k x0 t102 (wrap64 (x5 + 1))))) else (none)) else (some x1)
def laws_szIntSS.f (k : Nat) (l0 : List (List Int)) (a1 : Int) : Option (Int) := if (wrap64 (a1 - (l0.length : Int))) < 0 then (some (-1)) else (laws_szIntSS.l0 k l0 (wrap64 (a1 - (l0.length : Int))) 0)
theorem laws_szIntSS.mono_l : ∀ k, (∀ y0 y1 y2, LeO (laws_szIntSS.l0 k y0 y1 y2) (laws_szIntSS.l0 (k + 1) y0 y1 y2))
 | 0 => fun _ _ _ r h => by simp [laws_szIntSS.l0] at h
 | k + 1 => by
  have ih0 := laws_szIntSS.mono_l k
  ·intro y0 y1 y2
   unfold laws_szIntSS.l0
   exact zmono
theorem laws_szIntSS.mono : ∀ a0 a1 k, LeO (laws_szIntSS.f k a0 a1) (laws_szIntSS.f (k + 1) a0 a1) := by
 intro a0 a1 k;have ih0 := laws_szIntSS.mono_l k;unfold laws_szIntSS.f;exact zmono
set_option maxHeartbeats 8000000 in
set_option maxRecDepth 100000 in
theorem laws_szIntSS.calls (k : Nat) (A0 : Option Addr) (c0 : Nat) (l0 : List (List Int)) (a1 : Int) (r : Int) (w : World) (hr0 : Kd.C (Kd.slice 3 (Kd.int .i64)) w A0 l0.length l0) (hc0 : l0.length ≤ c0) (h : laws_szIntSS.f k l0 a1 = some r) :
  Calls Try.prog 53 #[.slice A0 l0.length c0, .int .i64 a1] w fun e w' => e = .returned (.int .i64 r) ∧ Drawn0 w w' := by
 have HR0:=zM hr0;have HC0:=zM hc0;clear hr0 hc0;have H : (if (wrap64 (a1 - (l0.length : Int))) < 0 then (some (-1)) else (laws_szIntSS.l0 k l0 (wrap64 (a1 - (l0.length : Int))) 0)) = some r := h;clear h;by_cases c3 : (wrap64 (a1 - (l0.length : Int))) < 0
 ·rw [if_pos c3] at H;have c3b0 := decide_eq_true c3;clear c3;obtain rfl := Option.some.inj H;go_enter Try.func53, Try.ntmps53;go_wp2;go_ret;exact ⟨by first | rfl | (simp; done) | (simp [*]; done), by repeat (first | exact Drawn0.refl _ | apply Drawn0.step)⟩
 ·rw [if_neg c3] at H;have c3b0 := decide_eq_false c3;clear c3;have H':=zM H;clear H;go_enter Try.func53, Try.ntmps53;go_wp2;go_loopg [1, 5] k (fun kq v1 v5 w' => ∃ (x1_1 : Int) (x5_1 : Int), v1 = .int .i64 x1_1 ∧ v5 = .int .i64 x5_1 ∧ Aside0 (laws_szIntSS.l0 kq l0 x1_1 x5_1 = some r) ∧ Aside0 (kq ≤ k) ∧ Drawn0 w w')
  case atStart => exact ⟨(wrap64 (a1 - (l0.length : Int))), (0), zs0, zs0, H', ⟨Nat.le_refl _⟩, by repeat (first | exact Drawn0.refl _ | apply Drawn0.step)⟩
  case round =>
   clear H';obtain ⟨x1_1, x5_1, rfl, rfl, HA, HK1, ⟨m1, rfl⟩⟩ := hrel;cases gk with
   | zero => exact absurd HA.out (by simp [laws_szIntSS.l0])
   | succ k1 =>
    have H := HA.out;clear HA;simp only [laws_szIntSS.l0] at H;by_cases c4 : x5_1 < (l0.length : Int)
    ·rw [if_pos c4] at H;have c4b0 := decide_eq_true c4;clear c4;replace H := zn H; obtain ⟨c5, H⟩ := H;have c5b0 := decide_eq_true c5;clear c5;replace H := zb H; obtain ⟨t102, A6, H⟩ := H; (try dsimp only at H);by_cases c7 : t102 < 0
     ·rw [if_pos c7] at H;have c7b0 := decide_eq_true c7;clear c7;obtain rfl := Option.some.inj H;have p101 : 0 ≤ (x5_1 : Int) := of_decide_eq_true zs1;have q101 : x5_1 < (l0.length : Int) := of_decide_eq_true zs1;obtain ⟨ad101, A101_0, c101_0, e101, hx101_0, hl101_0, hi101_0⟩ := at_L1 HR0.out x5_1 p101 q101;cases e101;have HR101_0:=zM hi101_0;have HC101_0:=zM hl101_0;clear hi101_0 hl101_0;replace p101 := eq_true p101;replace q101 := eq_true q101;go_wp2_with (first | (refine zg 52 (some 23) Try.func52 #[.slice A101_0 (rd_L1 l0 x5_1).length c101_0, .int .i64 x1_1] ?_; (with_reducible refine (laws_szIntS.calls _ _ (rd_L1 l0 x5_1) x1_1 t102 _ ?side1 ?side2 A6.out).mono ?_); (case side1 => exact (zs2 HR101_0)); (case side2 => exact HC101_0.out); rintro e w' ⟨rfl, ⟨nd, rfl⟩⟩; refine ⟨_, rfl, ?_⟩));go_ret;exact ⟨by first | rfl | (simp; done) | (simp [*]; done), by repeat (first | exact Drawn0.refl _ | apply Drawn0.step)⟩
     ·rw [if_neg c7] at H;have c7b0 := decide_eq_false c7;clear c7;have H':=zM H;clear H;have p101 : 0 ≤ (x5_1 : Int) := of_decide_eq_true zs1;have q101 : x5_1 < (l0.length : Int) := of_decide_eq_true zs1;obtain ⟨ad101, A101_0, c101_0, e101, hx101_0, hl101_0, hi101_0⟩ := at_L1 HR0.out x5_1 p101 q101;cases e101;have HR101_0:=zM hi101_0;have HC101_0:=zM hl101_0;clear hi101_0 hl101_0;replace p101 := eq_true p101;replace q101 := eq_true q101;go_wp2_with (first | (refine zg 52 (some 23) Try.func52 #[.slice A101_0 (rd_L1 l0 x5_1).length c101_0, .int .i64 x1_1] ?_; (with_reducible refine (laws_szIntS.calls _ _ (rd_L1 l0 x5_1) x1_1 t102 _ ?side1 ?side2 A6.out).mono ?_); (case side1 => exact (zs2 HR101_0)); (case side2 => exact HC101_0.out); rintro e w' ⟨rfl, ⟨nd, rfl⟩⟩; refine ⟨_, rfl, ?_⟩));go_roundg k1
      case measure => have := HK1.out; omega
      case rel => exact ⟨(t102), (wrap64 (x5_1 + 1)), zs0, zs0, H', ⟨by have := HK1.out; omega⟩, by repeat (first | exact Drawn0.refl _ | apply Drawn0.step)⟩
    ·rw [if_neg c4] at H;have c4b0 := decide_eq_false c4;clear c4;obtain rfl := Option.some.inj H;go_wp2;go_ret;exact ⟨by first | rfl | (simp; done) | (simp [*]; done), by repeat (first | exact Drawn0.refl _ | apply Drawn0.step)⟩

/-! ### laws_szDesk: function 11 -/
def laws_szDesk.f (k : Nat) (l0_0 : List Int) (l0_1 : List (List Int)) (a1 : Int) : Option (Int) := (laws_szIntS.f l0_0 a1).bind fun t104 => (if t104 < 0 then (some (-1)) else ((laws_szIntSS.f k l0_1 t104).bind fun t105 => (if t105 < 0 then (some (-1)) else (some t105))))
theorem laws_szDesk.mono : ∀ a0 a1 a2 k, LeO (laws_szDesk.f k a0 a1 a2) (laws_szDesk.f (k + 1) a0 a1 a2) := by
 intro a0 a1 a2 k;unfold laws_szDesk.f;have := @laws_szIntSS.mono; exact zmono
set_option maxHeartbeats 8000000 in
set_option maxRecDepth 100000 in
theorem laws_szDesk.calls (k : Nat) (A0_0 : Option Addr) (c0_0 : Nat) (l0_0 : List Int) (A0_1 : Option Addr) (c0_1 : Nat) (l0_1 : List (List Int)) (a1 : Int) (r : Int) (w : World) (hr0_0 : Kd.C (Kd.int .i64) w A0_0 l0_0.length l0_0) (hc0_0 : l0_0.length ≤ c0_0) (hr0_1 : Kd.C (Kd.slice 3 (Kd.int .i64)) w A0_1 l0_1.length l0_1) (hc0_1 : l0_1.length ≤ c0_1) (h : laws_szDesk.f k l0_0 l0_1 a1 = some r) :
  Calls Try.prog 11 #[.agg #[.slice A0_0 l0_0.length c0_0, .slice A0_1 l0_1.length c0_1], .int .i64 a1] w fun e w' => e = .returned (.int .i64 r) ∧ Below w.heap.size w w' := by
 have hu25 := Try.underlying25;have HR0_0:=zM hr0_0;have HC0_0:=zM hc0_0;clear hr0_0 hc0_0;have HR0_1:=zM hr0_1;have HC0_1:=zM hc0_1;clear hr0_1 hc0_1;have HB:=zM (Below.refl w.heap.size w);have H : ((laws_szIntS.f l0_0 a1).bind fun t104 => (if t104 < 0 then (some (-1)) else ((laws_szIntSS.f k l0_1 t104).bind fun t105 => (if t105 < 0 then (some (-1)) else (some t105))))) = some r := h;clear h;replace H := zb H; obtain ⟨t104, A3, H⟩ := H; (try dsimp only at H);by_cases c4 : t104 < 0
 ·rw [if_pos c4] at H;have c4b0 := decide_eq_true c4;clear c4;obtain rfl := Option.some.inj H;go_enter Try.func11, Try.ntmps11;go_wp2_with (first | ((with_reducible refine gate_dst (N := 2) rfl ?_); refine box_event zs3 (N := 2) zs3 (cs := #[.slice A0_0 l0_0.length c0_0, .slice A0_1 l0_1.length c0_1]) (t := 25) zs4 ?_; intro gb103 hg w5 hbox hb; have BK103:=zM (hbox); have GW103 := zg1 (zs5 HB) hg; have GE103 := zg1 (zs5 HB) hg; replace HB:=zM (below_step (zs5 HB) hb); clear hb hbox hg; have ⟨hcz6_0, hfz6_0⟩ := cy0 BK103.out; have ⟨hcz6_1, hfz6_1⟩ := cy1 BK103.out) | (refine zg 52 (some 8) Try.func52 #[.slice A0_0 l0_0.length c0_0, .int .i64 a1] ?_; (with_reducible refine (laws_szIntS.calls _ _ l0_0 a1 t104 _ ?side1 ?side2 A3.out).mono ?_); (case side1 => exact (zs6 HR0_0 HB)); (case side2 => exact HC0_0.out); rintro e w' ⟨rfl, ⟨nd, rfl⟩⟩; refine ⟨_, rfl, ?_⟩));go_ret;exact ⟨zs7, (zs8 HB GE103)⟩
 ·rw [if_neg c4] at H;have c4b0 := decide_eq_false c4;clear c4;replace H := zb H; obtain ⟨t105, A7, H⟩ := H; (try dsimp only at H);by_cases c8 : t105 < 0
  ·rw [if_pos c8] at H;have c8b0 := decide_eq_true c8;clear c8;obtain rfl := Option.some.inj H;go_enter Try.func11, Try.ntmps11;go_wp2_with (first | ((with_reducible refine gate_dst (N := 2) rfl ?_); refine box_event zs3 (N := 2) zs3 (cs := #[.slice A0_0 l0_0.length c0_0, .slice A0_1 l0_1.length c0_1]) (t := 25) zs4 ?_; intro gb103 hg w9 hbox hb; have BK103:=zM (hbox); have GW103 := zg1 (zs5 HB) hg; have GE103 := zg1 (zs5 HB) hg; replace HB:=zM (below_step (zs5 HB) hb); clear hb hbox hg; have ⟨hcz10_0, hfz10_0⟩ := cy0 BK103.out; have ⟨hcz10_1, hfz10_1⟩ := cy1 BK103.out) | (refine zg 52 (some 8) Try.func52 #[.slice A0_0 l0_0.length c0_0, .int .i64 a1] ?_; (with_reducible refine (laws_szIntS.calls _ _ l0_0 a1 t104 _ ?side1 ?side2 A3.out).mono ?_); (case side1 => exact (zs6 HR0_0 HB)); (case side2 => exact HC0_0.out); rintro e w' ⟨rfl, ⟨nd, rfl⟩⟩; refine ⟨_, rfl, ?_⟩) | (refine zg 53 (some 14) Try.func53 #[.slice A0_1 l0_1.length c0_1, .int .i64 t104] ?_; (with_reducible refine (laws_szIntSS.calls k _ _ l0_1 t104 t105 _ ?side1 ?side2 A7.out).mono ?_); (case side1 => exact (zs27 HR0_1)); (case side2 => exact HC0_1.out); rintro e w' ⟨rfl, ⟨nd, rfl⟩⟩; refine ⟨_, rfl, ?_⟩));go_ret;exact ⟨zs7, (zs8 HB GE103)⟩
  ·rw [if_neg c8] at H;have c8b0 := decide_eq_false c8;clear c8;obtain rfl := Option.some.inj H;go_enter Try.func11, Try.ntmps11;go_wp2_with (first | ((with_reducible refine gate_dst (N := 2) rfl ?_); refine box_event zs3 (N := 2) zs3 (cs := #[.slice A0_0 l0_0.length c0_0, .slice A0_1 l0_1.length c0_1]) (t := 25) zs4 ?_; intro gb103 hg w11 hbox hb; have BK103:=zM (hbox); have GW103 := zg1 (zs5 HB) hg; have GE103 := zg1 (zs5 HB) hg; replace HB:=zM (below_step (zs5 HB) hb); clear hb hbox hg; have ⟨hcz12_0, hfz12_0⟩ := cy0 BK103.out; have ⟨hcz12_1, hfz12_1⟩ := cy1 BK103.out) | (refine zg 52 (some 8) Try.func52 #[.slice A0_0 l0_0.length c0_0, .int .i64 a1] ?_; (with_reducible refine (laws_szIntS.calls _ _ l0_0 a1 t104 _ ?side1 ?side2 A3.out).mono ?_); (case side1 => exact (zs6 HR0_0 HB)); (case side2 => exact HC0_0.out); rintro e w' ⟨rfl, ⟨nd, rfl⟩⟩; refine ⟨_, rfl, ?_⟩) | (refine zg 53 (some 14) Try.func53 #[.slice A0_1 l0_1.length c0_1, .int .i64 t104] ?_; (with_reducible refine (laws_szIntSS.calls k _ _ l0_1 t104 t105 _ ?side1 ?side2 A7.out).mono ?_); (case side1 => exact (zs27 HR0_1)); (case side2 => exact HC0_1.out); rintro e w' ⟨rfl, ⟨nd, rfl⟩⟩; refine ⟨_, rfl, ?_⟩));go_ret;exact ⟨zs7, (zs8 HB GE103)⟩

/-! ### spec_l1In: function 93 -/
def spec_l1In.f (a0 : Int) (a1 : Int) (a2 : Int) : Option (Bool) := if a0 ≥ a1 then (some (decide (a0 ≤ a2))) else (some false)
set_option maxHeartbeats 8000000 in
set_option maxRecDepth 100000 in
theorem spec_l1In.calls (a0 : Int) (a1 : Int) (a2 : Int) (r : Bool) (w : World) (h : spec_l1In.f a0 a1 a2 = some r) :
  Calls Try.prog 93 #[.int .i64 a0, .int .i64 a1, .int .i64 a2] w fun e w' => e = .returned (.bool r) ∧ Drawn0 w w' := by
 have H : (if a0 ≥ a1 then (some (decide (a0 ≤ a2))) else (some false)) = some r := h;clear h;by_cases c4 : a0 ≥ a1
 ·rw [if_pos c4] at H;have c4b0 : decide (a1 ≤ a0) = true := decide_eq_true c4;clear c4;obtain rfl := Option.some.inj H;go_enter Try.func93, Try.ntmps93;go_wp2;go_ret;exact ⟨by first | rfl | (simp; done) | (simp [*]; done), by repeat (first | exact Drawn0.refl _ | apply Drawn0.step)⟩
 ·rw [if_neg c4] at H;have c4b0 : decide (a1 ≤ a0) = false := decide_eq_false c4;clear c4;obtain rfl := Option.some.inj H;go_enter Try.func93, Try.ntmps93;go_wp2;go_ret;exact ⟨by first | rfl | (simp; done) | (simp [*]; done), by repeat (first | exact Drawn0.refl _ | apply Drawn0.step)⟩

/-! ### spec_TreeOk: function 56 -/
mutual
def spec_TreeOk.l0 : Nat → List Int → Int → Int → Int → Option (Bool)
 | 0, _, _, _, _ => none
 | k + 1, x0, x3, x4, x5 => if x5 < x3 then (if 0 ≤ x5 then (if x5 < (x0.length : Int) then ((spec_l1In.f (rd x0 x5) 0 x3).bind fun t108 => (if t108 = true then (spec_TreeOk.j1 k x0 x3 x4 x5 ((rd x0 x5) == (wrap64 (x5 + 1)))) else (spec_TreeOk.j1 k x0 x3 x4 x5 true))) else (none)) else (none)) else (some (x4 == 1))
def spec_TreeOk.j1 : Nat → List Int → Int → Int → Int → Bool → Option (Bool)
 | 0, _, _, _, _, _ => none
 | k + 1, x0, x3, x4, x5, x33 => if x33 = true then (some false) else (if 0 ≤ x5 then (if x5 < (x0.length : Int) then (if (rd x0 x5) = 0 then (spec_TreeOk.j2 k x0 x3 (wrap64 (x4 + 1)) x5) else (spec_TreeOk.j2 k x0 x3 x4 x5)) else (none)) else (none))
def spec_TreeOk.j2 : Nat → List Int → Int → Int → Int → Option (Bool)
 | 0, _, _, _, _ => none
 | k + 1, x0, x3, x4, x5 => spec_TreeOk.l1 k x0 x3 x4 x5 (wrap64 (x5 + 1)) 0
def spec_TreeOk.l1 : Nat → List Int → Int → Int → Int → Int → Int → Option (Bool)
 | 0, _, _, _, _, _, _ => none
 | k + 1, x0, x3, x4, x5, x6, x7 => if x6 > 0 then (spec_TreeOk.j4 k x0 x3 x4 x5 x6 x7 (decide (x7 < x3))) else (spec_TreeOk.j4 k x0 x3 x4 x5 x6 x7 false)
def spec_TreeOk.j4 : Nat → List Int → Int → Int → Int → Int → Int → Bool → Option (Bool)
 | 0, _, _, _, _, _, _, _ => none
 | k + 1, x0, x3, x4, x5, x6, x7, x49 => if x49 = true then (if 0 ≤ (wrap64 (x6 - 1)) then (if (wrap64 (x6 - 1)) < (x0.length : Int) then ((spec_l1In.f (rd x0 (wrap64 (x6 - 1))) 0 x3).bind fun t112 => (if t112 = true then (spec_TreeOk.l1 k x0 x3 x4 x5 (rd x0 (wrap64 (x6 - 1))) (wrap64 (x7 + 1))) else (some false))) else (none)) else (none)) else (if x6 > 0 then (some false) else (spec_TreeOk.l0 k x0 x3 x4 (wrap64 (x5 + 1))))
end
def spec_TreeOk.f (k : Nat) (l0 : List Int) : Option (Bool) := (spec_l1In.f (l0.length : Int) 1 8).bind fun t106 => (if t106 = true then (spec_TreeOk.l0 k l0 (l0.length : Int) 0 0) else (some false))
theorem spec_TreeOk.mono_l : ∀ k, (∀ y0 y1 y2 y3, LeO (spec_TreeOk.l0 k y0 y1 y2 y3) (spec_TreeOk.l0 (k + 1) y0 y1 y2 y3)) ∧ (∀ y0 y1 y2 y3 y4, LeO (spec_TreeOk.j1 k y0 y1 y2 y3 y4) (spec_TreeOk.j1 (k + 1) y0 y1 y2 y3 y4)) ∧ (∀ y0 y1 y2 y3, LeO (spec_TreeOk.j2 k y0 y1 y2 y3) (spec_TreeOk.j2 (k + 1) y0 y1 y2 y3)) ∧ (∀ y0 y1 y2 y3 y4 y5, LeO (spec_TreeOk.l1 k y0 y1 y2 y3 y4 y5) (spec_TreeOk.l1 (k + 1) y0 y1 y2 y3 y4 y5)) ∧ (∀ y0 y1 y2 y3 y4 y5 y6, LeO (spec_TreeOk.j4 k y0 y1 y2 y3 y4 y5 y6) (spec_TreeOk.j4 (k + 1) y0 y1 y2 y3 y4 y5 y6))
 | 0 => ⟨fun _ _ _ _ r h => by simp [spec_TreeOk.l0] at h, fun _ _ _ _ _ r h => by simp [spec_TreeOk.j1] at h, fun _ _ _ _ r h => by simp [spec_TreeOk.j2] at h, fun _ _ _ _ _ _ r h => by simp [spec_TreeOk.l1] at h, fun _ _ _ _ _ _ _ r h => by simp [spec_TreeOk.j4] at h⟩
 | k + 1 => by
  obtain ⟨ih0, ih1, ih2, ih3, ih4⟩ := spec_TreeOk.mono_l k
  refine ⟨?_, ?_, ?_, ?_, ?_⟩
  ·intro y0 y1 y2 y3
   unfold spec_TreeOk.l0
   exact zmono
  ·intro y0 y1 y2 y3 y4
   unfold spec_TreeOk.j1
   exact zmono
  ·intro y0 y1 y2 y3
   unfold spec_TreeOk.j2
   exact zmono
  ·intro y0 y1 y2 y3 y4 y5
   unfold spec_TreeOk.l1
   exact zmono
  ·intro y0 y1 y2 y3 y4 y5 y6
   unfold spec_TreeOk.j4
   exact zmono
theorem spec_TreeOk.mono : ∀ a0 k, LeO (spec_TreeOk.f k a0) (spec_TreeOk.f (k + 1) a0) := by
 intro a0 k;obtain ⟨ih0, ih1, ih2, ih3, ih4⟩ := spec_TreeOk.mono_l k;unfold spec_TreeOk.f;exact zmono
set_option maxHeartbeats 8000000 in
set_option maxRecDepth 100000 in
theorem spec_TreeOk.calls (k : Nat) (A0 : Option Addr) (c0 : Nat) (l0 : List Int) (r : Bool) (w : World) (hr0 : Kd.C (Kd.int .i64) w A0 l0.length l0) (hc0 : l0.length ≤ c0) (h : spec_TreeOk.f k l0 = some r) :
  Calls Try.prog 56 #[.slice A0 l0.length c0] w fun e w' => e = .returned (.bool r) ∧ Drawn0 w w' := by
 have HR0:=zM hr0;have HC0:=zM hc0;clear hr0 hc0;have H : ((spec_l1In.f (l0.length : Int) 1 8).bind fun t106 => (if t106 = true then (spec_TreeOk.l0 k l0 (l0.length : Int) 0 0) else (some false))) = some r := h;clear h;replace H := zb H; obtain ⟨t106, A2, H⟩ := H; (try dsimp only at H);by_cases c3 : t106 = true
 ·subst c3;(have H1 : (spec_TreeOk.l0 k l0 (l0.length : Int) 0 0) = some r := by rw [if_pos rfl] at H; exact H);clear H;have H := H1;clear H1;have H':=zM H;clear H;go_enter Try.func56, Try.ntmps56;go_wp2_with (first | (refine zg 93 (some 11) Try.func93 #[.int .i64 (l0.length : Int), .int .i64 1, .int .i64 8] ?_; (with_reducible refine (spec_l1In.calls (l0.length : Int) 1 8 true _ A2.out).mono ?_); rintro e w' ⟨rfl, ⟨nd, rfl⟩⟩; refine ⟨_, rfl, ?_⟩));go_loopg [4, 5] k (fun kq v4 v5 w' => ∃ (x4_1 : Int) (x5_1 : Int), v4 = .int .i64 x4_1 ∧ v5 = .int .i64 x5_1 ∧ Aside0 (spec_TreeOk.l0 kq l0 (l0.length : Int) x4_1 x5_1 = some r) ∧ Aside0 (kq ≤ k) ∧ Drawn0 w w')
  case atStart => exact ⟨(0), (0), zs0, zs0, H', ⟨Nat.le_refl _⟩, by repeat (first | exact Drawn0.refl _ | apply Drawn0.step)⟩
  case round =>
   clear H';obtain ⟨x4_1, x5_1, rfl, rfl, HA, HK1, ⟨m1, rfl⟩⟩ := hrel;cases gk with
   | zero => exact absurd HA.out (by simp [spec_TreeOk.l0])
   | succ k1 =>
    have H := HA.out;clear HA;simp only [spec_TreeOk.l0] at H;by_cases c4 : x5_1 < (l0.length : Int)
    ·rw [if_pos c4] at H;have c4b0 := decide_eq_true c4;clear c4;have HC5:=zM H;clear H;go_upto_region 8 with (fail);go_cut [33] (fun v33 wc => ∃ (kq : Nat) (x33_4 : Bool), v33 = .bool x33_4 ∧ Aside0 (spec_TreeOk.j1 kq l0 (l0.length : Int) x4_1 x5_1 x33_4 = some r) ∧ Aside0 (kq ≤ k1) ∧ Drawn0 w wc)
     case first =>
      have H := HC5.out;clear HC5;replace H := zn H; obtain ⟨c6, H⟩ := H;have c6b0 := decide_eq_true c6;clear c6;(first | rw [c6b0] | (simp only [i64_w, i32_w]; rw [c6b0]) | skip);replace H := zn H; obtain ⟨c7, H⟩ := H;have c7b0 := decide_eq_true c7;clear c7;replace H := zb H; obtain ⟨t108, A8, H⟩ := H; (try dsimp only at H);by_cases c9 : t108 = true
      ·subst c9;(have H1 : (spec_TreeOk.j1 k1 l0 (l0.length : Int) x4_1 x5_1 ((rd l0 x5_1) == (wrap64 (x5_1 + 1)))) = some r := by rw [if_pos rfl] at H; exact H);clear H;have H := H1;clear H1;have H':=zM H;clear H;have p107 : 0 ≤ (x5_1 : Int) := of_decide_eq_true zs1;have q107 : x5_1 < (l0.length : Int) := of_decide_eq_true zs1;obtain ⟨ad107, e107, hx107_0⟩ := Kd.at_int HR0.out x5_1 p107 q107;cases e107;replace p107 := eq_true p107;replace q107 := eq_true q107;go_wp2_with (first | (refine zg 93 (some 23) Try.func93 #[.int .i64 (rd l0 x5_1), .int .i64 0, .int .i64 (l0.length : Int)] ?_; (with_reducible refine (spec_l1In.calls (rd l0 x5_1) 0 (l0.length : Int) true _ A8.out).mono ?_); rintro e w' ⟨rfl, ⟨nd, rfl⟩⟩; refine ⟨_, rfl, ?_⟩; have p109 : 0 ≤ (x5_1 : Int) := of_decide_eq_true zs1; have q109 : x5_1 < (l0.length : Int) := of_decide_eq_true zs1; obtain ⟨ad109, e109, hx109_0⟩ := Kd.at_int HR0.out x5_1 p109 q109; obtain rfl : ad107 = ad109 := (by injection e109); replace p109 := eq_true p109; replace q109 := eq_true q109));go_meet
       case rel => exact ⟨_, (((rd l0 x5_1) == (wrap64 (x5_1 + 1)))), zs0, H', ⟨by have := HK1.out; first | omega | exact Nat.le_refl _⟩, by repeat (first | exact Drawn0.refl _ | apply Drawn0.step)⟩
      ·replace c9 := Bool.eq_false_iff.mpr c9;subst c9;(have H1 : (spec_TreeOk.j1 k1 l0 (l0.length : Int) x4_1 x5_1 true) = some r := by rw [if_neg (show ¬ (false = true) by decide)] at H; exact H);clear H;have H := H1;clear H1;have H':=zM H;clear H;have p107 : 0 ≤ (x5_1 : Int) := of_decide_eq_true zs1;have q107 : x5_1 < (l0.length : Int) := of_decide_eq_true zs1;obtain ⟨ad107, e107, hx107_0⟩ := Kd.at_int HR0.out x5_1 p107 q107;cases e107;replace p107 := eq_true p107;replace q107 := eq_true q107;go_wp2_with (first | (refine zg 93 (some 23) Try.func93 #[.int .i64 (rd l0 x5_1), .int .i64 0, .int .i64 (l0.length : Int)] ?_; (with_reducible refine (spec_l1In.calls (rd l0 x5_1) 0 (l0.length : Int) false _ A8.out).mono ?_); rintro e w' ⟨rfl, ⟨nd, rfl⟩⟩; refine ⟨_, rfl, ?_⟩));go_meet
       case rel => exact ⟨_, (true), zs0, H', ⟨by have := HK1.out; first | omega | exact Nat.le_refl _⟩, by repeat (first | exact Drawn0.refl _ | apply Drawn0.step)⟩
     case rest =>
      clear HC5;obtain ⟨kq, x33_4, rfl, HA, HJ4, ⟨mc4, rfl⟩⟩ := hcut;cases kq with
      | zero => exact absurd HA.out (by simp [spec_TreeOk.j1])
      | succ kj4 =>
       have H := HA.out;clear HA;simp only [spec_TreeOk.j1] at H;by_cases c10 : x33_4 = true
       ·subst c10;(have H1 : (some false) = some r := by rw [if_pos rfl] at H; exact H);clear H;have H := H1;clear H1;obtain rfl := Option.some.inj H;go_wp2;go_ret;exact ⟨by first | rfl | (simp; done) | (simp [*]; done), by repeat (first | exact Drawn0.refl _ | apply Drawn0.step)⟩
       ·replace c10 := Bool.eq_false_iff.mpr c10;subst c10;(have H1 : (if 0 ≤ x5_1 then (if x5_1 < (l0.length : Int) then (if (rd l0 x5_1) = 0 then (spec_TreeOk.j2 kj4 l0 (l0.length : Int) (wrap64 (x4_1 + 1)) x5_1) else (spec_TreeOk.j2 kj4 l0 (l0.length : Int) x4_1 x5_1)) else (none)) else (none)) = some r := by rw [if_neg (show ¬ (false = true) by decide)] at H; exact H);clear H;have H := H1;clear H1;replace H := zn H; obtain ⟨c11, H⟩ := H;have c11b0 := decide_eq_true c11;clear c11;replace H := zn H; obtain ⟨c12, H⟩ := H;have c12b0 := decide_eq_true c12;clear c12;have HC13:=zM H;clear H;have p110 : 0 ≤ (x5_1 : Int) := of_decide_eq_true zs1;have q110 : x5_1 < (l0.length : Int) := of_decide_eq_true zs1;obtain ⟨ad110, e110, hx110_0⟩ := Kd.at_int HR0.out x5_1 p110 q110;cases e110;replace p110 := eq_true p110;replace q110 := eq_true q110;go_upto_if 38 with (fail);go_cut [4] (fun v4 wc => ∃ (kq : Nat) (x4_12 : Int), v4 = .int .i64 x4_12 ∧ Aside0 (spec_TreeOk.j2 kq l0 (l0.length : Int) x4_12 x5_1 = some r) ∧ Aside0 (kq ≤ kj4) ∧ Drawn0 w wc)
        case first =>
         have H := HC13.out;clear HC13;by_cases c14 : (rd l0 x5_1) = 0
         ·rw [if_pos c14] at H;have c14b0 := beq_iff_eq.mpr c14;have c14b1 := bne_eq_false_iff_eq.mpr c14;clear c14;(first | rw [c14b0] | (simp only [i64_w, i32_w]; rw [c14b0]) | skip);have H':=zM H;clear H;go_wp2;go_meet
          case rel => exact ⟨_, (wrap64 (x4_1 + 1)), zs0, H', ⟨by have := HK1.out; have := HJ4.out; first | omega | exact Nat.le_refl _⟩, by repeat (first | exact Drawn0.refl _ | apply Drawn0.step)⟩
         ·rw [if_neg c14] at H;have c14b0 := beq_eq_false_iff_ne.mpr c14;have c14b1 := bne_iff_ne.mpr c14;(first | rw [c14b0] | (simp only [i64_w, i32_w]; rw [c14b0]) | skip);have H':=zM H;clear H;go_wp2;go_meet
          case rel => exact ⟨_, (x4_1), zs0, H', ⟨by have := HK1.out; have := HJ4.out; first | omega | exact Nat.le_refl _⟩, by repeat (first | exact Drawn0.refl _ | apply Drawn0.step)⟩
        case rest =>
         clear HC13;obtain ⟨kq, x4_12, rfl, HA, HJ12, ⟨mc12, rfl⟩⟩ := hcut;cases kq with
         | zero => exact absurd HA.out (by simp [spec_TreeOk.j2])
         | succ kj12 =>
          have H := HA.out;clear HA;simp only [spec_TreeOk.j2] at H;have H':=zM H;clear H;go_wp2;go_loopg [6, 7] kj12 (fun kq v6 v7 w' => ∃ (x6_4 : Int) (x7_4 : Int), v6 = .int .i64 x6_4 ∧ v7 = .int .i64 x7_4 ∧ Aside0 (spec_TreeOk.l1 kq l0 (l0.length : Int) x4_12 x5_1 x6_4 x7_4 = some r) ∧ Aside0 (kq ≤ kj12) ∧ Drawn0 w w')
          case atStart => exact ⟨(wrap64 (x5_1 + 1)), (0), zs0, zs0, H', ⟨Nat.le_refl _⟩, by repeat (first | exact Drawn0.refl _ | apply Drawn0.step)⟩
          case round =>
           clear H';obtain ⟨x6_4, x7_4, rfl, rfl, HA, HK4, ⟨m4, rfl⟩⟩ := hrel;cases gk with
           | zero => exact absurd HA.out (by simp [spec_TreeOk.l1])
           | succ k4 =>
            have H := HA.out;clear HA;simp only [spec_TreeOk.l1] at H;have HC15:=zM H;clear H;go_upto_region 14 with (fail);go_cut [49] (fun v49 wc => ∃ (kq : Nat) (x49_14 : Bool), v49 = .bool x49_14 ∧ Aside0 (spec_TreeOk.j4 kq l0 (l0.length : Int) x4_12 x5_1 x6_4 x7_4 x49_14 = some r) ∧ Aside0 (kq ≤ k4) ∧ Drawn0 w wc)
            case first =>
             have H := HC15.out;clear HC15;by_cases c16 : x6_4 > 0
             ·rw [if_pos c16] at H;have c16b0 : decide (0 < x6_4) = true := decide_eq_true c16;clear c16;(first | rw [c16b0] | (simp only [i64_w, i32_w]; rw [c16b0]) | skip);have H':=zM H;clear H;go_wp2;go_meet
              case rel => exact ⟨_, (decide (x7_4 < (l0.length : Int))), zs0, H', ⟨by have := HK1.out; have := HJ4.out; have := HJ12.out; have := HK4.out; first | omega | exact Nat.le_refl _⟩, by repeat (first | exact Drawn0.refl _ | apply Drawn0.step)⟩
             ·rw [if_neg c16] at H;have c16b0 : decide (0 < x6_4) = false := decide_eq_false c16;clear c16;(first | rw [c16b0] | (simp only [i64_w, i32_w]; rw [c16b0]) | skip);have H':=zM H;clear H;go_wp2;go_meet
              case rel => exact ⟨_, (false), zs0, H', ⟨by have := HK1.out; have := HJ4.out; have := HJ12.out; have := HK4.out; first | omega | exact Nat.le_refl _⟩, by repeat (first | exact Drawn0.refl _ | apply Drawn0.step)⟩
            case rest =>
             clear HC15;obtain ⟨kq, x49_14, rfl, HA, HJ14, ⟨mc14, rfl⟩⟩ := hcut;cases kq with
             | zero => exact absurd HA.out (by simp [spec_TreeOk.j4])
             | succ kj14 =>
              have H := HA.out;clear HA;simp only [spec_TreeOk.j4] at H;by_cases c17 : x49_14 = true
              ·subst c17;(have H1 : (if 0 ≤ (wrap64 (x6_4 - 1)) then (if (wrap64 (x6_4 - 1)) < (l0.length : Int) then ((spec_l1In.f (rd l0 (wrap64 (x6_4 - 1))) 0 (l0.length : Int)).bind fun t112 => (if t112 = true then (spec_TreeOk.l1 kj14 l0 (l0.length : Int) x4_12 x5_1 (rd l0 (wrap64 (x6_4 - 1))) (wrap64 (x7_4 + 1))) else (some false))) else (none)) else (none)) = some r := by rw [if_pos rfl] at H; exact H);clear H;have H := H1;clear H1;obtain ⟨ji18, hji18⟩ : ∃ j_ : Int, (wrap64 (x6_4 - 1)) = j_ := ⟨_, rfl⟩;(replace H : (if 0 ≤ (ji18) then (if (ji18) < (l0.length : Int) then ((spec_l1In.f (rd l0 (ji18)) 0 (l0.length : Int)).bind fun t112 => (if t112 = true then (spec_TreeOk.l1 kj14 l0 (l0.length : Int) x4_12 x5_1 (rd l0 (ji18)) (wrap64 (x7_4 + 1))) else (some false))) else (none)) else (none)) = some r := by first | (rw [hji18] at H; exact H) | (simp only [hji18] at H ⊢; exact H));have hji18w : (IntKind.i64.wrap (x6_4 - 1)) = ji18 := (i64_w _).trans hji18;replace H := zn H; obtain ⟨c19, H⟩ := H;have c19b0 := decide_eq_true c19;clear c19;replace H := zn H; obtain ⟨c20, H⟩ := H;have c20b0 := decide_eq_true c20;clear c20;replace H := zb H; obtain ⟨t112, A21, H⟩ := H; (try dsimp only at H);by_cases c22 : t112 = true
               ·subst c22;(have H1 : (spec_TreeOk.l1 kj14 l0 (l0.length : Int) x4_12 x5_1 (rd l0 (ji18)) (wrap64 (x7_4 + 1))) = some r := by rw [if_pos rfl] at H; exact H);clear H;have H := H1;clear H1;have H':=zM H;clear H;have p111 : 0 ≤ ((ji18) : Int) := of_decide_eq_true zs1;have q111 : (ji18) < (l0.length : Int) := of_decide_eq_true zs1;obtain ⟨ad111, e111, hx111_0⟩ := Kd.at_int HR0.out (ji18) p111 q111;obtain rfl : ad110 = ad111 := (by injection e111);replace p111 := eq_true p111;replace q111 := eq_true q111;go_wp2_with (first | (refine zg 93 (some 59) Try.func93 #[.int .i64 (rd l0 (ji18)), .int .i64 0, .int .i64 (l0.length : Int)] ?_ (hargs := by (try simp only [List.map_toArray, List.map_cons, List.map_nil]); first | done | (simp only [hji18]; rfl) | rfl); (with_reducible refine (spec_l1In.calls (rd l0 (ji18)) 0 (l0.length : Int) true _ A21.out).mono ?_); rintro e w' ⟨rfl, ⟨nd, rfl⟩⟩; refine ⟨_, rfl, ?_⟩));go_roundg kj14
                case measure => have := HK1.out; have := HJ4.out; have := HJ12.out; have := HK4.out; have := HJ14.out; omega
                case rel => exact ⟨(rd l0 (ji18)), (wrap64 (x7_4 + 1)), (by first | rfl | (simp; done) | (simp only [← hji18] <;> (first | rfl | simp)) | (simp [*]; done)), zs0, H', ⟨by have := HK1.out; have := HJ4.out; have := HJ12.out; have := HK4.out; have := HJ14.out; omega⟩, by repeat (first | exact Drawn0.refl _ | apply Drawn0.step)⟩
               ·replace c22 := Bool.eq_false_iff.mpr c22;subst c22;(have H1 : (some false) = some r := by rw [if_neg (show ¬ (false = true) by decide)] at H; exact H);clear H;have H := H1;clear H1;obtain rfl := Option.some.inj H;have p111 : 0 ≤ ((ji18) : Int) := of_decide_eq_true zs1;have q111 : (ji18) < (l0.length : Int) := of_decide_eq_true zs1;obtain ⟨ad111, e111, hx111_0⟩ := Kd.at_int HR0.out (ji18) p111 q111;obtain rfl : ad110 = ad111 := (by injection e111);replace p111 := eq_true p111;replace q111 := eq_true q111;go_wp2_with (first | (refine zg 93 (some 59) Try.func93 #[.int .i64 (rd l0 (ji18)), .int .i64 0, .int .i64 (l0.length : Int)] ?_ (hargs := by (try simp only [List.map_toArray, List.map_cons, List.map_nil]); first | done | (simp only [hji18]; rfl) | rfl); (with_reducible refine (spec_l1In.calls (rd l0 (ji18)) 0 (l0.length : Int) false _ A21.out).mono ?_); rintro e w' ⟨rfl, ⟨nd, rfl⟩⟩; refine ⟨_, rfl, ?_⟩));go_ret;(exact ⟨by first | rfl | (simp; done) | (simp only [← hji18] <;> (first | rfl | simp)) | (simp [*]; done), by repeat (first | exact Drawn0.refl _ | apply Drawn0.step)⟩)
              ·replace c17 := Bool.eq_false_iff.mpr c17;subst c17;(have H1 : (if x6_4 > 0 then (some false) else (spec_TreeOk.l0 kj14 l0 (l0.length : Int) x4_12 (wrap64 (x5_1 + 1)))) = some r := by rw [if_neg (show ¬ (false = true) by decide)] at H; exact H);clear H;have H := H1;clear H1;by_cases c23 : x6_4 > 0
               ·rw [if_pos c23] at H;have c23b0 : decide (0 < x6_4) = true := decide_eq_true c23;clear c23;obtain rfl := Option.some.inj H;go_wp2;go_ret;exact ⟨by first | rfl | (simp; done) | (simp [*]; done), by repeat (first | exact Drawn0.refl _ | apply Drawn0.step)⟩
               ·rw [if_neg c23] at H;have c23b0 : decide (0 < x6_4) = false := decide_eq_false c23;clear c23;have H':=zM H;clear H;go_wp2;go_roundg kj14
                case measure => have := HK1.out; have := HJ4.out; have := HJ12.out; have := HK4.out; have := HJ14.out; omega
                case rel => exact ⟨(x4_12), (wrap64 (x5_1 + 1)), zs0, zs0, H', ⟨by have := HK1.out; have := HJ4.out; have := HJ12.out; have := HK4.out; have := HJ14.out; omega⟩, by repeat (first | exact Drawn0.refl _ | apply Drawn0.step)⟩
    ·rw [if_neg c4] at H;have c4b0 := decide_eq_false c4;clear c4;obtain rfl := Option.some.inj H;go_wp2;go_ret;exact ⟨by first | rfl | (simp; done) | (simp [*]; done), by repeat (first | exact Drawn0.refl _ | apply Drawn0.step)⟩
 ·replace c3 := Bool.eq_false_iff.mpr c3;subst c3;(have H1 : (some false) = some r := by rw [if_neg (show ¬ (false = true) by decide)] at H; exact H);clear H;have H := H1;clear H1;obtain rfl := Option.some.inj H;go_enter Try.func56, Try.ntmps56;go_wp2_with (first | (refine zg 93 (some 11) Try.func93 #[.int .i64 (l0.length : Int), .int .i64 1, .int .i64 8] ?_; (with_reducible refine (spec_l1In.calls (l0.length : Int) 1 8 false _ A2.out).mono ?_); rintro e w' ⟨rfl, ⟨nd, rfl⟩⟩; refine ⟨_, rfl, ?_⟩));go_ret;exact ⟨by first | rfl | (simp; done) | (simp [*]; done), by repeat (first | exact Drawn0.refl _ | apply Drawn0.step)⟩

end Go.Proofs.Ytbbhdgpiocojaaa.LA
