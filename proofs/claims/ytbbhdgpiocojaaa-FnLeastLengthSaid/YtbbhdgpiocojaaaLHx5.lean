/- Printed by a program of this session (wip/lp/lp.py) out of the translation: functions with the same answers as the Go code, and their contracts; no conditions beyond those that each theorem names. -/
import Derived.Test.YtbbhdgpiocojaaaLHx0
import Derived.Test.YtbbhdgpiocojaaaLHx1
import Derived.Test.YtbbhdgpiocojaaaLHx4
namespace Go.Proofs.Ytbbhdgpiocojaaa.LH
open Go.RowKit Go.Proofs.YtbbhdgpiocojaaaV.PrintWords Go.Proofs.YtbbhdgpiocojaaaV.PrintLast Go.Proofs.YtbbhdgpiocojaaaV.PrintMore
attribute [local go_sem] max2_int min2_int max_two min_two max_three min_three max_four min_four   -- for this text's walks alone
set_option linter.unusedVariables false
set_option linter.unusedSimpArgs false

/-! ### impl_FlatOrder: function 81 -/
def impl_FlatOrder.f (k : Nat) (l0 : List Int) : Option (List Int) := (impl_TreeOk.f k l0).bind fun t169 => (if t169 = true then ((impl_RootOf.f k l0).bind fun t170 => ((impl_flatOrder.f k l0 t170).bind fun t171 => ((slices_Clip_int_int.f t171).bind fun t174 => (some t174)))) else (some ([] : List Int)))
theorem impl_FlatOrder.mono : ∀ a0 k, LeO (impl_FlatOrder.f k a0) (impl_FlatOrder.f (k + 1) a0) := by
 intro a0 k;unfold impl_FlatOrder.f;have := @impl_RootOf.mono; have := @impl_TreeOk.mono; have := @impl_flatOrder.mono; exact zmono
set_option maxHeartbeats 8000000 in
set_option maxRecDepth 100000 in
theorem impl_FlatOrder.calls (k : Nat) (A0 : Option Addr) (c0 : Nat) (l0 : List Int) (r : List Int) (w : World) (hr0 : Kd.C (Kd.int .i64) w A0 l0.length l0) (hc0 : l0.length ≤ c0) (h : impl_FlatOrder.f k l0 = some r) :
  Calls Try.prog 81 #[.slice A0 l0.length c0] w fun e w' => ∃ v0_ : Value, e = .returned (v0_) ∧ Kd.R (Kd.int .i64) 3 w' w.heap.size (fun _ => True) v0_ r ∧ Below w.heap.size w w' := by
 have HR0:=zM hr0;have HC0:=zM hc0;clear hr0 hc0;have HB:=zM (Below.refl w.heap.size w);have H : ((impl_TreeOk.f k l0).bind fun t169 => (if t169 = true then ((impl_RootOf.f k l0).bind fun t170 => ((impl_flatOrder.f k l0 t170).bind fun t171 => ((slices_Clip_int_int.f t171).bind fun t174 => (some t174)))) else (some ([] : List Int)))) = some r := h;clear h;replace H := zb H; obtain ⟨t169, A2, H⟩ := H; (try dsimp only at H);by_cases c3 : t169 = true
 ·subst c3;(have H1 : ((impl_RootOf.f k l0).bind fun t170 => ((impl_flatOrder.f k l0 t170).bind fun t171 => ((slices_Clip_int_int.f t171).bind fun t174 => (some t174)))) = some r := by rw [if_pos rfl] at H; exact H);clear H;have H := H1;clear H1;replace H := zb H; obtain ⟨t170, A4, H⟩ := H; (try dsimp only at H);replace H := zb H; obtain ⟨t171, A5, H⟩ := H; (try dsimp only at H);replace H := zb H; obtain ⟨t174, A6, H⟩ := H; (try dsimp only at H);obtain rfl := Option.some.inj H;go_enter Try.func81, Try.ntmps81;go_wp2_with (first | (refine zg 38 (some 4) Try.func38 #[.slice A0 l0.length c0] ?_; (with_reducible refine (impl_TreeOk.calls k _ _ l0 true _ ?side1 ?side2 A2.out).mono ?_); (case side1 => exact (zs3 HR0)); (case side2 => exact HC0.out); rintro e w' ⟨rfl, ⟨nd, rfl⟩⟩; refine ⟨_, rfl, ?_⟩) | (refine zg 100 (some 8) Try.func100 #[.slice A0 l0.length c0] ?_; (with_reducible refine (impl_RootOf.calls k _ _ l0 t170 _ ?side1 ?side2 A4.out).mono ?_); (case side1 => exact (zs3 HR0)); (case side2 => exact HC0.out); rintro e w' ⟨rfl, ⟨nd, rfl⟩⟩; refine ⟨_, rfl, ?_⟩) | (refine zg 114 (some 9) Try.func114 #[.slice A0 l0.length c0, .int .i64 t170] ?_; (with_reducible refine (impl_flatOrder.calls k _ _ l0 t170 t171 _ ?side1 ?side2 A5.out).mono ?_); (case side1 => exact (zs3 HR0)); (case side2 => exact HC0.out); rintro e w7 ⟨v172, rfl, ho0, hb⟩; refine ⟨_, rfl, ?_⟩; have HO173:=zM (Kd.R_lower ho0 (below_size (zs6 HB))); replace HB:=zM (below_step (zs6 HB) hb); clear hb ho0; obtain ⟨Ao8, co8, eo8⟩ := Kd.R_slice HO173.out; subst eo8) | (refine zg 106 (some 10) Try.func106 #[.slice Ao8 t171.length co8] ?_; (with_reducible refine (slices_Clip_int_int.calls (fun k_ => some k_ = (.slice Ao8 t171.length co8 : Value).ownBlock) (.slice Ao8 t171.length co8) t171 t174 w _ (zs6 HB) ?side2 A6.out).mono ?_); (case side2 => exact Kd.R_tight rfl HO173.out); rintro e w9 ⟨v175, rfl, ho0, hb, hkp⟩; refine ⟨_, rfl, ?_⟩; have HO176:=zM (Kd.R_mono (ok' := fun k_ => True) ho0 (fun k_ hk_ => trivial)); replace HB:=zM (hb); clear HO173; clear hb hkp ho0));go_ret;exact ⟨_, zs9, (zs8 HO176), (zs6 HB)⟩
 ·replace c3 := Bool.eq_false_iff.mpr c3;subst c3;(have H1 : (some ([] : List Int)) = some r := by rw [if_neg (show ¬ (false = true) by decide)] at H; exact H);clear H;have H := H1;clear H1;obtain rfl := Option.some.inj H;go_enter Try.func81, Try.ntmps81;go_wp2_with (first | (refine zg 38 (some 4) Try.func38 #[.slice A0 l0.length c0] ?_; (with_reducible refine (impl_TreeOk.calls k _ _ l0 false _ ?side1 ?side2 A2.out).mono ?_); (case side1 => exact (zs3 HR0)); (case side2 => exact HC0.out); rintro e w' ⟨rfl, ⟨nd, rfl⟩⟩; refine ⟨_, rfl, ?_⟩));go_ret;exact ⟨_, zs9, by first | exact Kd.R_nil _ _ _ _ _ | exact Kd.N_nil _ _ _ _ _ | exact Kd.V_nil _ _ _ _ _ | exact Kd.Q_nil _ _ _ _ _ | exact Kd.S_nil _ _ _ _ _, (zs6 HB)⟩

/-! ### impl_MadeFlat: function 35 -/
def impl_MadeFlat.f (k : Nat) (l0 : List Int) : Option (List Int) := (impl_FlatOrder.f k l0).bind fun t177 => ((impl_PutInOrder.f k l0 t177).bind fun bt180 => (some bt180.1))
theorem impl_MadeFlat.mono : ∀ a0 k, LeO (impl_MadeFlat.f k a0) (impl_MadeFlat.f (k + 1) a0) := by
 intro a0 k;unfold impl_MadeFlat.f;have := @impl_FlatOrder.mono; have := @impl_PutInOrder.mono; exact zmono
set_option maxHeartbeats 8000000 in
set_option maxRecDepth 100000 in
theorem impl_MadeFlat.calls (k : Nat) (A0 : Option Addr) (c0 : Nat) (l0 : List Int) (r : List Int) (w : World) (hr0 : Kd.C (Kd.int .i64) w A0 l0.length l0) (hc0 : l0.length ≤ c0) (h : impl_MadeFlat.f k l0 = some r) :
  Calls Try.prog 35 #[.slice A0 l0.length c0] w fun e w' => ∃ v0_ : Value, e = .returned (v0_) ∧ Kd.R (Kd.int .i64) 3 w' w.heap.size (fun _ => True) v0_ r ∧ Below w.heap.size w w' := by
 have HR0:=zM hr0;have HC0:=zM hc0;clear hr0 hc0;have HB:=zM (Below.refl w.heap.size w);have H : ((impl_FlatOrder.f k l0).bind fun t177 => ((impl_PutInOrder.f k l0 t177).bind fun bt180 => (some bt180.1))) = some r := h;clear h;replace H := zb H; obtain ⟨t177, A2, H⟩ := H; (try dsimp only at H);replace H := zb H; obtain ⟨⟨t180, t181⟩, A3, H⟩ := H; (try dsimp only at H);obtain rfl := Option.some.inj H;go_enter Try.func35, Try.ntmps35;go_wp2_with (first | (refine zg 81 (some 8) Try.func81 #[.slice A0 l0.length c0] ?_; (with_reducible refine (impl_FlatOrder.calls k _ _ l0 t177 _ ?side1 ?side2 A2.out).mono ?_); (case side1 => exact (zs3 HR0)); (case side2 => exact HC0.out); rintro e w4 ⟨v178, rfl, ho0, hb⟩; refine ⟨_, rfl, ?_⟩; have HO179:=zM (Kd.R_lower ho0 (below_size (zs6 HB))); replace HB:=zM (below_step (zs6 HB) hb); clear hb ho0; obtain ⟨Ao5, co5, eo5⟩ := Kd.R_slice HO179.out; subst eo5) | (refine zg 50 (some 9) Try.func50 #[.slice A0 l0.length c0, .slice Ao5 t177.length co5] ?_; (with_reducible refine (impl_PutInOrder.calls k _ _ l0 _ _ t177 t180 t181 _ ?side1 ?side2 ?side3 ?side4 A3.out).mono ?_); (case side1 => exact (zs10 HR0 HB)); (case side2 => exact HC0.out); (case side3 => exact (zs7 HO179)); (case side4 => exact (Kd.R_reads' HO179.out).2.1); rintro e w6 ⟨v182, rfl, ho0, hb⟩; refine ⟨_, rfl, ?_⟩; have HO183:=zM (Kd.R_lower (Kd.R_new' ho0 (Kd.R_lt (zs8 HO179))) (below_size (zs6 HB))); replace HO179:=zM (Kd.R_elder' (zs8 HO179) (Kd.R_base ho0) hb); replace HB:=zM (below_step (zs6 HB) hb); clear hb ho0));go_ret;exact ⟨_, zs9, (zs13 HO183), (zs6 HB)⟩

/-! ### spec_l1In: function 93 -/
def spec_l1In.f (a0 : Int) (a1 : Int) (a2 : Int) : Option (Bool) := if a0 ≥ a1 then (some (decide (a0 ≤ a2))) else (some false)
set_option maxHeartbeats 8000000 in
set_option maxRecDepth 100000 in
theorem spec_l1In.calls (a0 : Int) (a1 : Int) (a2 : Int) (r : Bool) (w : World) (h : spec_l1In.f a0 a1 a2 = some r) :
  Calls Try.prog 93 #[.int .i64 a0, .int .i64 a1, .int .i64 a2] w fun e w' => e = .returned (.bool r) ∧ Drawn0 w w' := by
 have H : (if a0 ≥ a1 then (some (decide (a0 ≤ a2))) else (some false)) = some r := h;clear h;by_cases c4 : a0 ≥ a1
 ·rw [if_pos c4] at H;have c4b0 : decide (a1 ≤ a0) = true := decide_eq_true c4;clear c4;obtain rfl := Option.some.inj H;go_enter Try.func93, Try.ntmps93;go_wp2;go_ret;exact ⟨by first | rfl | (simp; done) | (simp [*]; done), by repeat (first | exact Drawn0.refl _ | apply Drawn0.step)⟩
 ·rw [if_neg c4] at H;have c4b0 : decide (a1 ≤ a0) = false := decide_eq_false c4;clear c4;obtain rfl := Option.some.inj H;go_enter Try.func93, Try.ntmps93;go_wp2;go_ret;exact ⟨by first | rfl | (simp; done) | (simp [*]; done), by repeat (first | exact Drawn0.refl _ | apply Drawn0.step)⟩

/-! ### spec_TreeOk: function 56 -/
mutual
def spec_TreeOk.l0 : Nat → List Int → Int → Int → Int → Option (Bool)
 | 0, _, _, _, _ => none
 | k + 1, x0, x3, x4, x5 => if x5 < x3 then (if 0 ≤ x5 then (if x5 < (x0.length : Int) then ((spec_l1In.f (rd x0 x5) 0 x3).bind fun t186 => (if t186 = true then (spec_TreeOk.j1 k x0 x3 x4 x5 ((rd x0 x5) == (wrap64 (x5 + 1)))) else (spec_TreeOk.j1 k x0 x3 x4 x5 true))) else (none)) else (none)) else (some (x4 == 1))
def spec_TreeOk.j1 : Nat → List Int → Int → Int → Int → Bool → Option (Bool)
 | 0, _, _, _, _, _ => none
 | k + 1, x0, x3, x4, x5, x33 => if x33 = true then (some false) else (if 0 ≤ x5 then (if x5 < (x0.length : Int) then (if (rd x0 x5) = 0 then (spec_TreeOk.j2 k x0 x3 (wrap64 (x4 + 1)) x5) else (spec_TreeOk.j2 k x0 x3 x4 x5)) else (none)) else (none))
def spec_TreeOk.j2 : Nat → List Int → Int → Int → Int → Option (Bool)
 | 0, _, _, _, _ => none
 | k + 1, x0, x3, x4, x5 => spec_TreeOk.l1 k x0 x3 x4 x5 (wrap64 (x5 + 1)) 0
def spec_TreeOk.l1 : Nat → List Int → Int → Int → Int → Int → Int → Option (Bool)
 | 0, _, _, _, _, _, _ => none
 | k + 1, x0, x3, x4, x5, x6, x7 => if x6 > 0 then (spec_TreeOk.j4 k x0 x3 x4 x5 x6 x7 (decide (x7 < x3))) else (spec_TreeOk.j4 k x0 x3 x4 x5 x6 x7 false)
def spec_TreeOk.j4 : Nat → List Int → Int → Int → Int → Int → Int → Bool → Option (Bool)
 | 0, _, _, _, _, _, _, _ => none
 | k + 1, x0, x3, x4, x5, x6, x7, x49 => if x49 = true then (if 0 ≤ (wrap64 (x6 - 1)) then (if (wrap64 (x6 - 1)) < (x0.length : Int) then ((spec_l1In.f (rd x0 (wrap64 (x6 - 1))) 0 x3).bind fun t190 => (if t190 = true then (spec_TreeOk.l1 k x0 x3 x4 x5 (rd x0 (wrap64 (x6 - 1))) (wrap64 (x7 + 1))) else (some false))) else (none)) else (none)) else (if x6 > 0 then (some false) else (spec_TreeOk.l0 k x0 x3 x4 (wrap64 (x5 + 1))))
end
def spec_TreeOk.f (k : Nat) (l0 : List Int) : Option (Bool) := (spec_l1In.f (l0.length : Int) 1 8).bind fun t184 => (if t184 = true then (spec_TreeOk.l0 k l0 (l0.length : Int) 0 0) else (some false))
theorem spec_TreeOk.mono_l : ∀ k, (∀ y0 y1 y2 y3, LeO (spec_TreeOk.l0 k y0 y1 y2 y3) (spec_TreeOk.l0 (k + 1) y0 y1 y2 y3)) ∧ (∀ y0 y1 y2 y3 y4, LeO (spec_TreeOk.j1 k y0 y1 y2 y3 y4) (spec_TreeOk.j1 (k + 1) y0 y1 y2 y3 y4)) ∧ (∀ y0 y1 y2 y3, LeO (spec_TreeOk.j2 k y0 y1 y2 y3) (spec_TreeOk.j2 (k + 1) y0 y1 y2 y3)) ∧ (∀ y0 y1 y2 y3 y4 y5, LeO (spec_TreeOk.l1 k y0 y1 y2 y3 y4 y5) (spec_TreeOk.l1 (k + 1) y0 y1 y2 y3 y4 y5)) ∧ (∀ y0 y1 y2 y3 y4 y5 y6, LeO (spec_TreeOk.j4 k y0 y1 y2 y3 y4 y5 y6) (spec_TreeOk.j4 (k + 1) y0 y1 y2 y3 y4 y5 y6))
 | 0 => ⟨fun _ _ _ _ r h => by simp [spec_TreeOk.l0] at h, fun _ _ _ _ _ r h => by simp [spec_TreeOk.j1] at h, fun _ _ _ _ r h => by simp [spec_TreeOk.j2] at h, fun _ _ _ _ _ _ r h => by simp [spec_TreeOk.l1] at h, fun _ _ _ _ _ _ _ r h => by simp [spec_TreeOk.j4] at h⟩
 | k + 1 => by
  obtain ⟨ih0, ih1, ih2, ih3, ih4⟩ := spec_TreeOk.mono_l k
  refine ⟨?_, ?_, ?_, ?_, ?_⟩
  ·intro y0 y1 y2 y3
   unfold spec_TreeOk.l0
   exact zmono
  ·intro y0 y1 y2 y3 y4
   unfold spec_TreeOk.j1
   exact zmono
  ·intro y0 y1 y2 y3
   unfold spec_TreeOk.j2
   exact zmono
  ·intro y0 y1 y2 y3 y4 y5
   unfold spec_TreeOk.l1
   exact zmono
  ·intro y0 y1 y2 y3 y4 y5 y6
   unfold spec_TreeOk.j4
   exact zmono
theorem spec_TreeOk.mono : ∀ a0 k, LeO (spec_TreeOk.f k a0) (spec_TreeOk.f (k + 1) a0) := by
 intro a0 k;obtain ⟨ih0, ih1, ih2, ih3, ih4⟩ := spec_TreeOk.mono_l k;unfold spec_TreeOk.f;exact zmono
set_option maxHeartbeats 8000000 in
set_option maxRecDepth 100000 in
theorem spec_TreeOk.calls (k : Nat) (A0 : Option Addr) (c0 : Nat) (l0 : List Int) (r : Bool) (w : World) (hr0 : Kd.C (Kd.int .i64) w A0 l0.length l0) (hc0 : l0.length ≤ c0) (h : spec_TreeOk.f k l0 = some r) :
  Calls Try.prog 56 #[.slice A0 l0.length c0] w fun e w' => e = .returned (.bool r) ∧ Drawn0 w w' := by
 have HR0:=zM hr0;have HC0:=zM hc0;clear hr0 hc0;have H : ((spec_l1In.f (l0.length : Int) 1 8).bind fun t184 => (if t184 = true then (spec_TreeOk.l0 k l0 (l0.length : Int) 0 0) else (some false))) = some r := h;clear h;replace H := zb H; obtain ⟨t184, A2, H⟩ := H; (try dsimp only at H);by_cases c3 : t184 = true
 ·subst c3;(have H1 : (spec_TreeOk.l0 k l0 (l0.length : Int) 0 0) = some r := by rw [if_pos rfl] at H; exact H);clear H;have H := H1;clear H1;have H':=zM H;clear H;go_enter Try.func56, Try.ntmps56;go_wp2_with (first | (refine zg 93 (some 11) Try.func93 #[.int .i64 (l0.length : Int), .int .i64 1, .int .i64 8] ?_; (with_reducible refine (spec_l1In.calls (l0.length : Int) 1 8 true _ A2.out).mono ?_); rintro e w' ⟨rfl, ⟨nd, rfl⟩⟩; refine ⟨_, rfl, ?_⟩));go_loopg [4, 5] k (fun kq v4 v5 w' => ∃ (x4_1 : Int) (x5_1 : Int), v4 = .int .i64 x4_1 ∧ v5 = .int .i64 x5_1 ∧ Aside0 (spec_TreeOk.l0 kq l0 (l0.length : Int) x4_1 x5_1 = some r) ∧ Aside0 (kq ≤ k) ∧ Drawn0 w w')
  case atStart => exact ⟨(0), (0), zs0, zs0, H', ⟨Nat.le_refl _⟩, by repeat (first | exact Drawn0.refl _ | apply Drawn0.step)⟩
  case round =>
   clear H';obtain ⟨x4_1, x5_1, rfl, rfl, HA, HK1, ⟨m1, rfl⟩⟩ := hrel;cases gk with
   | zero => exact absurd HA.out (by simp [spec_TreeOk.l0])
   | succ k1 =>
    have H := HA.out;clear HA;simp only [spec_TreeOk.l0] at H;by_cases c4 : x5_1 < (l0.length : Int)
    ·rw [if_pos c4] at H;have c4b0 := decide_eq_true c4;clear c4;have HC5:=zM H;clear H;go_upto_region 8 with (fail);go_cut [33] (fun v33 wc => ∃ (kq : Nat) (x33_4 : Bool), v33 = .bool x33_4 ∧ Aside0 (spec_TreeOk.j1 kq l0 (l0.length : Int) x4_1 x5_1 x33_4 = some r) ∧ Aside0 (kq ≤ k1) ∧ Drawn0 w wc)
     case first =>
      have H := HC5.out;clear HC5;replace H := zn H; obtain ⟨c6, H⟩ := H;have c6b0 := decide_eq_true c6;clear c6;(first | rw [c6b0] | (simp only [i64_w, i32_w]; rw [c6b0]) | skip);replace H := zn H; obtain ⟨c7, H⟩ := H;have c7b0 := decide_eq_true c7;clear c7;replace H := zb H; obtain ⟨t186, A8, H⟩ := H; (try dsimp only at H);by_cases c9 : t186 = true
      ·subst c9;(have H1 : (spec_TreeOk.j1 k1 l0 (l0.length : Int) x4_1 x5_1 ((rd l0 x5_1) == (wrap64 (x5_1 + 1)))) = some r := by rw [if_pos rfl] at H; exact H);clear H;have H := H1;clear H1;have H':=zM H;clear H;have p185 : 0 ≤ (x5_1 : Int) := of_decide_eq_true zs1;have q185 : x5_1 < (l0.length : Int) := of_decide_eq_true zs1;obtain ⟨ad185, e185, hx185_0⟩ := Kd.at_int HR0.out x5_1 p185 q185;cases e185;replace p185 := eq_true p185;replace q185 := eq_true q185;go_wp2_with (first | (refine zg 93 (some 23) Try.func93 #[.int .i64 (rd l0 x5_1), .int .i64 0, .int .i64 (l0.length : Int)] ?_; (with_reducible refine (spec_l1In.calls (rd l0 x5_1) 0 (l0.length : Int) true _ A8.out).mono ?_); rintro e w' ⟨rfl, ⟨nd, rfl⟩⟩; refine ⟨_, rfl, ?_⟩; have p187 : 0 ≤ (x5_1 : Int) := of_decide_eq_true zs1; have q187 : x5_1 < (l0.length : Int) := of_decide_eq_true zs1; obtain ⟨ad187, e187, hx187_0⟩ := Kd.at_int HR0.out x5_1 p187 q187; obtain rfl : ad185 = ad187 := (by injection e187); replace p187 := eq_true p187; replace q187 := eq_true q187));go_meet
       case rel => exact ⟨_, (((rd l0 x5_1) == (wrap64 (x5_1 + 1)))), zs0, H', ⟨by have := HK1.out; first | omega | exact Nat.le_refl _⟩, by repeat (first | exact Drawn0.refl _ | apply Drawn0.step)⟩
      ·replace c9 := Bool.eq_false_iff.mpr c9;subst c9;(have H1 : (spec_TreeOk.j1 k1 l0 (l0.length : Int) x4_1 x5_1 true) = some r := by rw [if_neg (show ¬ (false = true) by decide)] at H; exact H);clear H;have H := H1;clear H1;have H':=zM H;clear H;have p185 : 0 ≤ (x5_1 : Int) := of_decide_eq_true zs1;have q185 : x5_1 < (l0.length : Int) := of_decide_eq_true zs1;obtain ⟨ad185, e185, hx185_0⟩ := Kd.at_int HR0.out x5_1 p185 q185;cases e185;replace p185 := eq_true p185;replace q185 := eq_true q185;go_wp2_with (first | (refine zg 93 (some 23) Try.func93 #[.int .i64 (rd l0 x5_1), .int .i64 0, .int .i64 (l0.length : Int)] ?_; (with_reducible refine (spec_l1In.calls (rd l0 x5_1) 0 (l0.length : Int) false _ A8.out).mono ?_); rintro e w' ⟨rfl, ⟨nd, rfl⟩⟩; refine ⟨_, rfl, ?_⟩));go_meet
       case rel => exact ⟨_, (true), zs0, H', ⟨by have := HK1.out; first | omega | exact Nat.le_refl _⟩, by repeat (first | exact Drawn0.refl _ | apply Drawn0.step)⟩
     case rest =>
      clear HC5;obtain ⟨kq, x33_4, rfl, HA, HJ4, ⟨mc4, rfl⟩⟩ := hcut;cases kq with
      | zero => exact absurd HA.out (by simp [spec_TreeOk.j1])
      | succ kj4 =>
       have H := HA.out;clear HA;simp only [spec_TreeOk.j1] at H;by_cases c10 : x33_4 = true
       ·subst c10;(have H1 : (some false) = some r := by rw [if_pos rfl] at H; exact H);clear H;have H := H1;clear H1;obtain rfl := Option.some.inj H;go_wp2;go_ret;exact ⟨by first | rfl | (simp; done) | (simp [*]; done), by repeat (first | exact Drawn0.refl _ | apply Drawn0.step)⟩
       ·replace c10 := Bool.eq_false_iff.mpr c10;subst c10;(have H1 : (if 0 ≤ x5_1 then (if x5_1 < (l0.length : Int) then (if (rd l0 x5_1) = 0 then (spec_TreeOk.j2 kj4 l0 (l0.length : Int) (wrap64 (x4_1 + 1)) x5_1) else (spec_TreeOk.j2 kj4 l0 (l0.length : Int) x4_1 x5_1)) else (none)) else (none)) = some r := by rw [if_neg (show ¬ (false = true) by decide)] at H; exact H);clear H;have H := H1;clear H1;replace H := zn H; obtain ⟨c11, H⟩ := H;have c11b0 := decide_eq_true c11;clear c11;replace H := zn H; obtain ⟨c12, H⟩ := H;have c12b0 := decide_eq_true c12;clear c12;have HC13:=zM H;clear H;have p188 : 0 ≤ (x5_1 : Int) := of_decide_eq_true zs1;have q188 : x5_1 < (l0.length : Int) := of_decide_eq_true zs1;obtain ⟨ad188, e188, hx188_0⟩ := Kd.at_int HR0.out x5_1 p188 q188;cases e188;replace p188 := eq_true p188;replace q188 := eq_true q188;go_upto_if 38 with (fail);go_cut [4] (fun v4 wc => ∃ (kq : Nat) (x4_12 : Int), v4 = .int .i64 x4_12 ∧ Aside0 (spec_TreeOk.j2 kq l0 (l0.length : Int) x4_12 x5_1 = some r) ∧ Aside0 (kq ≤ kj4) ∧ Drawn0 w wc)
        case first =>
         have H := HC13.out;clear HC13;by_cases c14 : (rd l0 x5_1) = 0
         ·rw [if_pos c14] at H;have c14b0 := beq_iff_eq.mpr c14;have c14b1 := bne_eq_false_iff_eq.mpr c14;clear c14;(first | rw [c14b0] | (simp only [i64_w, i32_w]; rw [c14b0]) | skip);have H':=zM H;clear H;go_wp2;go_meet
          case rel => exact ⟨_, (wrap64 (x4_1 + 1)), zs0, H', ⟨by have := HK1.out; have := HJ4.out; first | omega | exact Nat.le_refl _⟩, by repeat (first | exact Drawn0.refl _ | apply Drawn0.step)⟩
         ·rw [if_neg c14] at H;have c14b0 := beq_eq_false_iff_ne.mpr c14;have c14b1 := bne_iff_ne.mpr c14;(first | rw [c14b0] | (simp only [i64_w, i32_w]; rw [c14b0]) | skip);have H':=zM H;clear H;go_wp2;go_meet
          case rel => exact ⟨_, (x4_1), zs0, H', ⟨by have := HK1.out; have := HJ4.out; first | omega | exact Nat.le_refl _⟩, by repeat (first | exact Drawn0.refl _ | apply Drawn0.step)⟩
        case rest =>
         clear HC13;obtain ⟨kq, x4_12, rfl, HA, HJ12, ⟨mc12, rfl⟩⟩ := hcut;cases kq with
         | zero => exact absurd HA.out (by simp [spec_TreeOk.j2])
         | succ kj12 =>
          have H := HA.out;clear HA;simp only [spec_TreeOk.j2] at H;have H':=zM H;clear H;go_wp2;go_loopg [6, 7] kj12 (fun kq v6 v7 w' => ∃ (x6_4 : Int) (x7_4 : Int), v6 = .int .i64 x6_4 ∧ v7 = .int .i64 x7_4 ∧ Aside0 (spec_TreeOk.l1 kq l0 (l0.length : Int) x4_12 x5_1 x6_4 x7_4 = some r) ∧ Aside0 (kq ≤ kj12) ∧ Drawn0 w w')
          case atStart => exact ⟨(wrap64 (x5_1 + 1)), (0), zs0, zs0, H', ⟨Nat.le_refl _⟩, by repeat (first | exact Drawn0.refl _ | apply Drawn0.step)⟩
          case round =>
           clear H';obtain ⟨x6_4, x7_4, rfl, rfl, HA, HK4, ⟨m4, rfl⟩⟩ := hrel;cases gk with
           | zero => exact absurd HA.out (by simp [spec_TreeOk.l1])
           | succ k4 =>
            have H := HA.out;clear HA;simp only [spec_TreeOk.l1] at H;have HC15:=zM H;clear H;go_upto_region 14 with (fail);go_cut [49] (fun v49 wc => ∃ (kq : Nat) (x49_14 : Bool), v49 = .bool x49_14 ∧ Aside0 (spec_TreeOk.j4 kq l0 (l0.length : Int) x4_12 x5_1 x6_4 x7_4 x49_14 = some r) ∧ Aside0 (kq ≤ k4) ∧ Drawn0 w wc)
            case first =>
             have H := HC15.out;clear HC15;by_cases c16 : x6_4 > 0
             ·rw [if_pos c16] at H;have c16b0 : decide (0 < x6_4) = true := decide_eq_true c16;clear c16;(first | rw [c16b0] | (simp only [i64_w, i32_w]; rw [c16b0]) | skip);have H':=zM H;clear H;go_wp2;go_meet
              case rel => exact ⟨_, (decide (x7_4 < (l0.length : Int))), zs0, H', ⟨by have := HK1.out; have := HJ4.out; have := HJ12.out; have := HK4.out; first | omega | exact Nat.le_refl _⟩, by repeat (first | exact Drawn0.refl _ | apply Drawn0.step)⟩
             ·rw [if_neg c16] at H;have c16b0 : decide (0 < x6_4) = false := decide_eq_false c16;clear c16;(first | rw [c16b0] | (simp only [i64_w, i32_w]; rw [c16b0]) | skip);have H':=zM H;clear H;go_wp2;go_meet
              case rel => exact ⟨_, (false), zs0, H', ⟨by have := HK1.out; have := HJ4.out; have := HJ12.out; have := HK4.out; first | omega | exact Nat.le_refl _⟩, by repeat (first | exact Drawn0.refl _ | apply Drawn0.step)⟩
            case rest =>
             clear HC15;obtain ⟨kq, x49_14, rfl, HA, HJ14, ⟨mc14, rfl⟩⟩ := hcut;cases kq with
             | zero => exact absurd HA.out (by simp [spec_TreeOk.j4])
             | succ kj14 =>
              have H := HA.out;clear HA;simp only [spec_TreeOk.j4] at H;by_cases c17 : x49_14 = true
              ·subst c17;(have H1 : (if 0 ≤ (wrap64 (x6_4 - 1)) then (if (wrap64 (x6_4 - 1)) < (l0.length : Int) then ((spec_l1In.f (rd l0 (wrap64 (x6_4 - 1))) 0 (l0.length : Int)).bind fun t190 => (if t190 = true then (spec_TreeOk.l1 kj14 l0 (l0.length : Int) x4_12 x5_1 (rd l0 (wrap64 (x6_4 - 1))) (wrap64 (x7_4 + 1))) else (some false))) else (none)) else (none)) = some r := by rw [if_pos rfl] at H; exact H);clear H;have H := H1;clear H1;obtain ⟨ji18, hji18⟩ : ∃ j_ : Int, (wrap64 (x6_4 - 1)) = j_ := ⟨_, rfl⟩;(replace H : (if 0 ≤ (ji18) then (if (ji18) < (l0.length : Int) then ((spec_l1In.f (rd l0 (ji18)) 0 (l0.length : Int)).bind fun t190 => (if t190 = true then (spec_TreeOk.l1 kj14 l0 (l0.length : Int) x4_12 x5_1 (rd l0 (ji18)) (wrap64 (x7_4 + 1))) else (some false))) else (none)) else (none)) = some r := by first | (rw [hji18] at H; exact H) | (simp only [hji18] at H ⊢; exact H));have hji18w : (IntKind.i64.wrap (x6_4 - 1)) = ji18 := (i64_w _).trans hji18;replace H := zn H; obtain ⟨c19, H⟩ := H;have c19b0 := decide_eq_true c19;clear c19;replace H := zn H; obtain ⟨c20, H⟩ := H;have c20b0 := decide_eq_true c20;clear c20;replace H := zb H; obtain ⟨t190, A21, H⟩ := H; (try dsimp only at H);by_cases c22 : t190 = true
               ·subst c22;(have H1 : (spec_TreeOk.l1 kj14 l0 (l0.length : Int) x4_12 x5_1 (rd l0 (ji18)) (wrap64 (x7_4 + 1))) = some r := by rw [if_pos rfl] at H; exact H);clear H;have H := H1;clear H1;have H':=zM H;clear H;have p189 : 0 ≤ ((ji18) : Int) := of_decide_eq_true zs1;have q189 : (ji18) < (l0.length : Int) := of_decide_eq_true zs1;obtain ⟨ad189, e189, hx189_0⟩ := Kd.at_int HR0.out (ji18) p189 q189;obtain rfl : ad188 = ad189 := (by injection e189);replace p189 := eq_true p189;replace q189 := eq_true q189;go_wp2_with (first | (refine zg 93 (some 59) Try.func93 #[.int .i64 (rd l0 (ji18)), .int .i64 0, .int .i64 (l0.length : Int)] ?_ (hargs := by (try simp only [List.map_toArray, List.map_cons, List.map_nil]); first | done | (simp only [hji18]; rfl) | rfl); (with_reducible refine (spec_l1In.calls (rd l0 (ji18)) 0 (l0.length : Int) true _ A21.out).mono ?_); rintro e w' ⟨rfl, ⟨nd, rfl⟩⟩; refine ⟨_, rfl, ?_⟩));go_roundg kj14
                case measure => have := HK1.out; have := HJ4.out; have := HJ12.out; have := HK4.out; have := HJ14.out; omega
                case rel => exact ⟨(rd l0 (ji18)), (wrap64 (x7_4 + 1)), (by first | rfl | (simp; done) | (simp only [← hji18] <;> (first | rfl | simp)) | (simp [*]; done)), zs0, H', ⟨by have := HK1.out; have := HJ4.out; have := HJ12.out; have := HK4.out; have := HJ14.out; omega⟩, by repeat (first | exact Drawn0.refl _ | apply Drawn0.step)⟩
               ·replace c22 := Bool.eq_false_iff.mpr c22;subst c22;(have H1 : (some false) = some r := by rw [if_neg (show ¬ (false = true) by decide)] at H; exact H);clear H;have H := H1;clear H1;obtain rfl := Option.some.inj H;have p189 : 0 ≤ ((ji18) : Int) := of_decide_eq_true zs1;have q189 : (ji18) < (l0.length : Int) := of_decide_eq_true zs1;obtain ⟨ad189, e189, hx189_0⟩ := Kd.at_int HR0.out (ji18) p189 q189;obtain rfl : ad188 = ad189 := (by injection e189);replace p189 := eq_true p189;replace q189 := eq_true q189;go_wp2_with (first | (refine zg 93 (some 59) Try.func93 #[.int .i64 (rd l0 (ji18)), .int .i64 0, .int .i64 (l0.length : Int)] ?_ (hargs := by (try simp only [List.map_toArray, List.map_cons, List.map_nil]); first | done | (simp only [hji18]; rfl) | rfl); (with_reducible refine (spec_l1In.calls (rd l0 (ji18)) 0 (l0.length : Int) false _ A21.out).mono ?_); rintro e w' ⟨rfl, ⟨nd, rfl⟩⟩; refine ⟨_, rfl, ?_⟩));go_ret;(exact ⟨by first | rfl | (simp; done) | (simp only [← hji18] <;> (first | rfl | simp)) | (simp [*]; done), by repeat (first | exact Drawn0.refl _ | apply Drawn0.step)⟩)
              ·replace c17 := Bool.eq_false_iff.mpr c17;subst c17;(have H1 : (if x6_4 > 0 then (some false) else (spec_TreeOk.l0 kj14 l0 (l0.length : Int) x4_12 (wrap64 (x5_1 + 1)))) = some r := by rw [if_neg (show ¬ (false = true) by decide)] at H; exact H);clear H;have H := H1;clear H1;by_cases c23 : x6_4 > 0
               ·rw [if_pos c23] at H;have c23b0 : decide (0 < x6_4) = true := decide_eq_true c23;clear c23;obtain rfl := Option.some.inj H;go_wp2;go_ret;exact ⟨by first | rfl | (simp; done) | (simp [*]; done), by repeat (first | exact Drawn0.refl _ | apply Drawn0.step)⟩
               ·rw [if_neg c23] at H;have c23b0 : decide (0 < x6_4) = false := decide_eq_false c23;clear c23;have H':=zM H;clear H;go_wp2;go_roundg kj14
                case measure => have := HK1.out; have := HJ4.out; have := HJ12.out; have := HK4.out; have := HJ14.out; omega
                case rel => exact ⟨(x4_12), (wrap64 (x5_1 + 1)), zs0, zs0, H', ⟨by have := HK1.out; have := HJ4.out; have := HJ12.out; have := HK4.out; have := HJ14.out; omega⟩, by repeat (first | exact Drawn0.refl _ | apply Drawn0.step)⟩
    ·rw [if_neg c4] at H;have c4b0 := decide_eq_false c4;clear c4;obtain rfl := Option.some.inj H;go_wp2;go_ret;exact ⟨by first | rfl | (simp; done) | (simp [*]; done), by repeat (first | exact Drawn0.refl _ | apply Drawn0.step)⟩
 ·replace c3 := Bool.eq_false_iff.mpr c3;subst c3;(have H1 : (some false) = some r := by rw [if_neg (show ¬ (false = true) by decide)] at H; exact H);clear H;have H := H1;clear H1;obtain rfl := Option.some.inj H;go_enter Try.func56, Try.ntmps56;go_wp2_with (first | (refine zg 93 (some 11) Try.func93 #[.int .i64 (l0.length : Int), .int .i64 1, .int .i64 8] ?_; (with_reducible refine (spec_l1In.calls (l0.length : Int) 1 8 false _ A2.out).mono ?_); rintro e w' ⟨rfl, ⟨nd, rfl⟩⟩; refine ⟨_, rfl, ?_⟩));go_ret;exact ⟨by first | rfl | (simp; done) | (simp [*]; done), by repeat (first | exact Drawn0.refl _ | apply Drawn0.step)⟩

end Go.Proofs.Ytbbhdgpiocojaaa.LH
