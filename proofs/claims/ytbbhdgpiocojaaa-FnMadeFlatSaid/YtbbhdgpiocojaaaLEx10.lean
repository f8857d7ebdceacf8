/- Printed by a program of this session (wip/lp/lp.py) out of the translation: functions with the same answers as the Go code, and their contracts; no conditions beyond those that each theorem names. -/
import Derived.Test.YtbbhdgpiocojaaaLEx0
import Derived.Test.YtbbhdgpiocojaaaLEx1
import Derived.Test.YtbbhdgpiocojaaaLEx2
import Derived.Test.YtbbhdgpiocojaaaLEx3
import Derived.Test.YtbbhdgpiocojaaaLEx9
namespace Go.Proofs.Ytbbhdgpiocojaaa.LE
open Go.RowKit Go.Proofs.YtbbhdgpiocojaaaV.PrintWords Go.Proofs.YtbbhdgpiocojaaaV.PrintLast Go.Proofs.YtbbhdgpiocojaaaV.PrintMore
attribute [local go_sem] max2_int min2_int max_two min_two max_three min_three max_four min_four   -- for this text's walks alone
set_option linter.unusedVariables false
set_option linter.unusedSimpArgs false

/-! ### impl_FlatOrder: function 81 -/
def impl_FlatOrder.f (k : Nat) (l0 : List Int) : Option (List Int) := (impl_TreeOk.f k l0).bind fun t378 => (if t378 = true then ((impl_RootOf.f k l0).bind fun t379 => ((impl_flatOrder.f k l0 t379).bind fun t380 => ((slices_Clip_int_int.f t380).bind fun t383 => (some t383)))) else (some ([] : List Int)))
theorem impl_FlatOrder.mono : ∀ a0 k, LeO (impl_FlatOrder.f k a0) (impl_FlatOrder.f (k + 1) a0) := by
 intro a0 k;unfold impl_FlatOrder.f;have := @impl_RootOf.mono; have := @impl_TreeOk.mono; have := @impl_flatOrder.mono; exact zmono
set_option maxHeartbeats 8000000 in
set_option maxRecDepth 100000 in
theorem impl_FlatOrder.calls (k : Nat) (A0 : Option Addr) (c0 : Nat) (l0 : List Int) (r : List Int) (w : World) (hr0 : Kd.C (Kd.int .i64) w A0 l0.length l0) (hc0 : l0.length ≤ c0) (h : impl_FlatOrder.f k l0 = some r) :
  Calls Try.prog 81 #[.slice A0 l0.length c0] w fun e w' => ∃ v0_ : Value, e = .returned (v0_) ∧ Kd.R (Kd.int .i64) 3 w' w.heap.size (fun _ => True) v0_ r ∧ Below w.heap.size w w' := by
 have HR0:=zM hr0;have HC0:=zM hc0;clear hr0 hc0;have HB:=zM (Below.refl w.heap.size w);have H : ((impl_TreeOk.f k l0).bind fun t378 => (if t378 = true then ((impl_RootOf.f k l0).bind fun t379 => ((impl_flatOrder.f k l0 t379).bind fun t380 => ((slices_Clip_int_int.f t380).bind fun t383 => (some t383)))) else (some ([] : List Int)))) = some r := h;clear h;replace H := zb H; obtain ⟨t378, A2, H⟩ := H; (try dsimp only at H);by_cases c3 : t378 = true
 ·subst c3;(have H1 : ((impl_RootOf.f k l0).bind fun t379 => ((impl_flatOrder.f k l0 t379).bind fun t380 => ((slices_Clip_int_int.f t380).bind fun t383 => (some t383)))) = some r := by rw [if_pos rfl] at H; exact H);clear H;have H := H1;clear H1;replace H := zb H; obtain ⟨t379, A4, H⟩ := H; (try dsimp only at H);replace H := zb H; obtain ⟨t380, A5, H⟩ := H; (try dsimp only at H);replace H := zb H; obtain ⟨t383, A6, H⟩ := H; (try dsimp only at H);obtain rfl := Option.some.inj H;go_enter Try.func81, Try.ntmps81;go_wp2_with (first | (refine zg 38 (some 4) Try.func38 #[.slice A0 l0.length c0] ?_; (with_reducible refine (impl_TreeOk.calls k _ _ l0 true _ ?side1 ?side2 A2.out).mono ?_); (case side1 => exact (zs3 HR0)); (case side2 => exact HC0.out); rintro e w' ⟨rfl, ⟨nd, rfl⟩⟩; refine ⟨_, rfl, ?_⟩) | (refine zg 100 (some 8) Try.func100 #[.slice A0 l0.length c0] ?_; (with_reducible refine (impl_RootOf.calls k _ _ l0 t379 _ ?side1 ?side2 A4.out).mono ?_); (case side1 => exact (zs3 HR0)); (case side2 => exact HC0.out); rintro e w' ⟨rfl, ⟨nd, rfl⟩⟩; refine ⟨_, rfl, ?_⟩) | (refine zg 114 (some 9) Try.func114 #[.slice A0 l0.length c0, .int .i64 t379] ?_; (with_reducible refine (impl_flatOrder.calls k _ _ l0 t379 t380 _ ?side1 ?side2 A5.out).mono ?_); (case side1 => exact (zs3 HR0)); (case side2 => exact HC0.out); rintro e w7 ⟨v381, rfl, ho0, hb⟩; refine ⟨_, rfl, ?_⟩; have HO382:=zM (Kd.R_lower ho0 (below_size (zs6 HB))); replace HB:=zM (below_step (zs6 HB) hb); clear hb ho0; obtain ⟨Ao8, co8, eo8⟩ := Kd.R_slice HO382.out; subst eo8) | (refine zg 106 (some 10) Try.func106 #[.slice Ao8 t380.length co8] ?_; (with_reducible refine (slices_Clip_int_int.calls (fun k_ => some k_ = (.slice Ao8 t380.length co8 : Value).ownBlock) (.slice Ao8 t380.length co8) t380 t383 w _ (zs6 HB) ?side2 A6.out).mono ?_); (case side2 => exact Kd.R_tight rfl HO382.out); rintro e w9 ⟨v384, rfl, ho0, hb, hkp⟩; refine ⟨_, rfl, ?_⟩; have HO385:=zM (Kd.R_mono (ok' := fun k_ => True) ho0 (fun k_ hk_ => trivial)); replace HB:=zM (hb); clear HO382; clear hb hkp ho0));go_ret;exact ⟨_, zs9, (zs8 HO385), (zs6 HB)⟩
 ·replace c3 := Bool.eq_false_iff.mpr c3;subst c3;(have H1 : (some ([] : List Int)) = some r := by rw [if_neg (show ¬ (false = true) by decide)] at H; exact H);clear H;have H := H1;clear H1;obtain rfl := Option.some.inj H;go_enter Try.func81, Try.ntmps81;go_wp2_with (first | (refine zg 38 (some 4) Try.func38 #[.slice A0 l0.length c0] ?_; (with_reducible refine (impl_TreeOk.calls k _ _ l0 false _ ?side1 ?side2 A2.out).mono ?_); (case side1 => exact (zs3 HR0)); (case side2 => exact HC0.out); rintro e w' ⟨rfl, ⟨nd, rfl⟩⟩; refine ⟨_, rfl, ?_⟩));go_ret;exact ⟨_, zs9, by first | exact Kd.R_nil _ _ _ _ _ | exact Kd.N_nil _ _ _ _ _ | exact Kd.V_nil _ _ _ _ _ | exact Kd.Q_nil _ _ _ _ _ | exact Kd.S_nil _ _ _ _ _, (zs6 HB)⟩

/-! ### impl_MadeFlat: function 35 -/
def impl_MadeFlat.f (k : Nat) (l0 : List Int) : Option (List Int) := (impl_FlatOrder.f k l0).bind fun t386 => ((impl_PutInOrder.f k l0 t386).bind fun bt389 => (some bt389.1))
theorem impl_MadeFlat.mono : ∀ a0 k, LeO (impl_MadeFlat.f k a0) (impl_MadeFlat.f (k + 1) a0) := by
 intro a0 k;unfold impl_MadeFlat.f;have := @impl_FlatOrder.mono; have := @impl_PutInOrder.mono; exact zmono
set_option maxHeartbeats 8000000 in
set_option maxRecDepth 100000 in
theorem impl_MadeFlat.calls (k : Nat) (A0 : Option Addr) (c0 : Nat) (l0 : List Int) (r : List Int) (w : World) (hr0 : Kd.C (Kd.int .i64) w A0 l0.length l0) (hc0 : l0.length ≤ c0) (h : impl_MadeFlat.f k l0 = some r) :
  Calls Try.prog 35 #[.slice A0 l0.length c0] w fun e w' => ∃ v0_ : Value, e = .returned (v0_) ∧ Kd.R (Kd.int .i64) 3 w' w.heap.size (fun _ => True) v0_ r ∧ Below w.heap.size w w' := by
 have HR0:=zM hr0;have HC0:=zM hc0;clear hr0 hc0;have HB:=zM (Below.refl w.heap.size w);have H : ((impl_FlatOrder.f k l0).bind fun t386 => ((impl_PutInOrder.f k l0 t386).bind fun bt389 => (some bt389.1))) = some r := h;clear h;replace H := zb H; obtain ⟨t386, A2, H⟩ := H; (try dsimp only at H);replace H := zb H; obtain ⟨⟨t389, t390⟩, A3, H⟩ := H; (try dsimp only at H);obtain rfl := Option.some.inj H;go_enter Try.func35, Try.ntmps35;go_wp2_with (first | (refine zg 81 (some 8) Try.func81 #[.slice A0 l0.length c0] ?_; (with_reducible refine (impl_FlatOrder.calls k _ _ l0 t386 _ ?side1 ?side2 A2.out).mono ?_); (case side1 => exact (zs3 HR0)); (case side2 => exact HC0.out); rintro e w4 ⟨v387, rfl, ho0, hb⟩; refine ⟨_, rfl, ?_⟩; have HO388:=zM (Kd.R_lower ho0 (below_size (zs6 HB))); replace HB:=zM (below_step (zs6 HB) hb); clear hb ho0; obtain ⟨Ao5, co5, eo5⟩ := Kd.R_slice HO388.out; subst eo5) | (refine zg 50 (some 9) Try.func50 #[.slice A0 l0.length c0, .slice Ao5 t386.length co5] ?_; (with_reducible refine (impl_PutInOrder.calls k _ _ l0 _ _ t386 t389 t390 _ ?side1 ?side2 ?side3 ?side4 A3.out).mono ?_); (case side1 => exact (zs10 HR0 HB)); (case side2 => exact HC0.out); (case side3 => exact (zs7 HO388)); (case side4 => exact (Kd.R_reads' HO388.out).2.1); rintro e w6 ⟨v391, rfl, ho0, hb⟩; refine ⟨_, rfl, ?_⟩; have HO392:=zM (Kd.R_lower (Kd.R_new' ho0 (Kd.R_lt (zs8 HO388))) (below_size (zs6 HB))); replace HO388:=zM (Kd.R_elder' (zs8 HO388) (Kd.R_base ho0) hb); replace HB:=zM (below_step (zs6 HB) hb); clear hb ho0));go_ret;exact ⟨_, zs9, (zs14 HO392), (zs6 HB)⟩

/-! ### laws_sameInts: function 36 -/
def laws_sameInts.l0 : Nat → List Int → List Int → Int → Option (Bool)
 | 0, _, _, _ => none
 | k + 1, x0, x1, x5 => if x5 < (x0.length : Int) then (if 0 ≤ x5 then (if x5 < (x1.length : Int) then (if (rd x0 x5) = (rd x1 x5) then (laws_sameInts.l0 k x0 x1 (wrap64 (x5 + 1))) else (some false)) else (none)) else (none)) else (some true)
def laws_sameInts.f (k : Nat) (l0 : List Int) (l1 : List Int) : Option (Bool) := if (l0.length : Int) = (l1.length : Int) then (laws_sameInts.l0 k l0 l1 0) else (some false)
theorem laws_sameInts.mono_l : ∀ k, (∀ y0 y1 y2, LeO (laws_sameInts.l0 k y0 y1 y2) (laws_sameInts.l0 (k + 1) y0 y1 y2))
 | 0 => fun _ _ _ r h => by simp [laws_sameInts.l0] at h
 | k + 1 => by
  have ih0 := laws_sameInts.mono_l k
  ·intro y0 y1 y2
   unfold laws_sameInts.l0
   exact zmono
theorem laws_sameInts.mono : ∀ a0 a1 k, LeO (laws_sameInts.f k a0 a1) (laws_sameInts.f (k + 1) a0 a1) := by
 intro a0 a1 k;have ih0 := laws_sameInts.mono_l k;unfold laws_sameInts.f;exact zmono
set_option maxHeartbeats 8000000 in
set_option maxRecDepth 100000 in
theorem laws_sameInts.calls (k : Nat) (A0 : Option Addr) (c0 : Nat) (l0 : List Int) (A1 : Option Addr) (c1 : Nat) (l1 : List Int) (r : Bool) (w : World) (hr0 : Kd.C (Kd.int .i64) w A0 l0.length l0) (hc0 : l0.length ≤ c0) (hr1 : Kd.C (Kd.int .i64) w A1 l1.length l1) (hc1 : l1.length ≤ c1) (h : laws_sameInts.f k l0 l1 = some r) :
  Calls Try.prog 36 #[.slice A0 l0.length c0, .slice A1 l1.length c1] w fun e w' => e = .returned (.bool r) ∧ Drawn0 w w' := by
 have HR0:=zM hr0;have HC0:=zM hc0;clear hr0 hc0;have HR1:=zM hr1;have HC1:=zM hc1;clear hr1 hc1;have H : (if (l0.length : Int) = (l1.length : Int) then (laws_sameInts.l0 k l0 l1 0) else (some false)) = some r := h;clear h;by_cases c3 : (l0.length : Int) = (l1.length : Int)
 ·rw [if_pos c3] at H;have c3b0 := beq_iff_eq.mpr c3;have c3b1 := bne_eq_false_iff_eq.mpr c3;(have c3b2 : (l0.length == l1.length) = true := by first | simpa using c3 | (simp at c3 ⊢; omega));clear c3;have H':=zM H;clear H;go_enter Try.func36, Try.ntmps36;go_wp2;(repeat (go_quiet (fail); try go_wp2));go_loopg [5] k (fun kq v5 w' => ∃ (x5_1 : Int), v5 = .int .i64 x5_1 ∧ Aside0 (laws_sameInts.l0 kq l0 l1 x5_1 = some r) ∧ Aside0 (kq ≤ k) ∧ Drawn0 w w')
  case atStart => exact ⟨(0), zs0, H', ⟨Nat.le_refl _⟩, by repeat (first | exact Drawn0.refl _ | apply Drawn0.step)⟩
  case round =>
   clear H';obtain ⟨x5_1, rfl, HA, HK1, ⟨m1, rfl⟩⟩ := hrel;cases gk with
   | zero => exact absurd HA.out (by simp [laws_sameInts.l0])
   | succ k1 =>
    have H := HA.out;clear HA;simp only [laws_sameInts.l0] at H;by_cases c4 : x5_1 < (l0.length : Int)
    ·rw [if_pos c4] at H;have c4b0 := decide_eq_true c4;clear c4;replace H := zn H; obtain ⟨c5, H⟩ := H;have c5b0 := decide_eq_true c5;clear c5;replace H := zn H; obtain ⟨c6, H⟩ := H;have c6b0 := decide_eq_true c6;clear c6;by_cases c7 : (rd l0 x5_1) = (rd l1 x5_1)
     ·rw [if_pos c7] at H;have c7b0 := beq_iff_eq.mpr c7;have c7b1 := bne_eq_false_iff_eq.mpr c7;clear c7;have H':=zM H;clear H;have p393 : 0 ≤ (x5_1 : Int) := of_decide_eq_true zs1;have q393 : x5_1 < (l0.length : Int) := of_decide_eq_true zs1;obtain ⟨ad393, e393, hx393_0⟩ := Kd.at_int HR0.out x5_1 p393 q393;cases e393;replace p393 := eq_true p393;replace q393 := eq_true q393;have p394 : 0 ≤ (x5_1 : Int) := of_decide_eq_true zs1;have q394 : x5_1 < (l1.length : Int) := of_decide_eq_true zs1;obtain ⟨ad394, e394, hx394_0⟩ := Kd.at_int HR1.out x5_1 p394 q394;cases e394;replace p394 := eq_true p394;replace q394 := eq_true q394;go_wp2;(repeat (go_quiet (fail); try go_wp2));go_roundg k1
      case measure => have := HK1.out; omega
      case rel => exact ⟨(wrap64 (x5_1 + 1)), zs0, H', ⟨by have := HK1.out; omega⟩, by repeat (first | exact Drawn0.refl _ | apply Drawn0.step)⟩
     ·rw [if_neg c7] at H;have c7b0 := beq_eq_false_iff_ne.mpr c7;have c7b1 := bne_iff_ne.mpr c7;obtain rfl := Option.some.inj H;have p393 : 0 ≤ (x5_1 : Int) := of_decide_eq_true zs1;have q393 : x5_1 < (l0.length : Int) := of_decide_eq_true zs1;obtain ⟨ad393, e393, hx393_0⟩ := Kd.at_int HR0.out x5_1 p393 q393;cases e393;replace p393 := eq_true p393;replace q393 := eq_true q393;have p394 : 0 ≤ (x5_1 : Int) := of_decide_eq_true zs1;have q394 : x5_1 < (l1.length : Int) := of_decide_eq_true zs1;obtain ⟨ad394, e394, hx394_0⟩ := Kd.at_int HR1.out x5_1 p394 q394;cases e394;replace p394 := eq_true p394;replace q394 := eq_true q394;go_wp2;(repeat (go_quiet (fail); try go_wp2));go_ret;exact ⟨by first | rfl | (simp; done) | (simp [*]; done), by repeat (first | exact Drawn0.refl _ | apply Drawn0.step)⟩
    ·rw [if_neg c4] at H;have c4b0 := decide_eq_false c4;clear c4;obtain rfl := Option.some.inj H;go_wp2;(repeat (go_quiet (fail); try go_wp2));go_ret;exact ⟨by first | rfl | (simp; done) | (simp [*]; done), by repeat (first | exact Drawn0.refl _ | apply Drawn0.step)⟩
 ·rw [if_neg c3] at H;have c3b0 := beq_eq_false_iff_ne.mpr c3;have c3b1 := bne_iff_ne.mpr c3;(have c3b2 : (l0.length == l1.length) = false := by first | simpa using c3 | (simp at c3 ⊢; omega));obtain rfl := Option.some.inj H;go_enter Try.func36, Try.ntmps36;go_wp2;(repeat (go_quiet (fail); try go_wp2));go_ret;exact ⟨by first | rfl | (simp; done) | (simp [*]; done), by repeat (first | exact Drawn0.refl _ | apply Drawn0.step)⟩

/-! ### spec_l8Walk: function 116 -/
mutual
def spec_l8Walk.l0 : Nat → List Int → Int → List Int → Int → Option (List Int)
 | 0, _, _, _, _ => none
 | k + 1, x0, x1, x5, x6 => if x6 < x1 then (if 0 ≤ (wrap64 (x6 - 1)) then (if (wrap64 (x6 - 1)) < (x0.length : Int) then (if (rd x0 (wrap64 (x6 - 1))) = x1 then ((spec_l8Walk.f k x0 x6).bind fun t399 => (if x5.length + t399.length < 17592186044416 then (spec_l8Walk.l0 k x0 x1 (x5 ++ t399) (wrap64 (x6 + 1))) else (none))) else (spec_l8Walk.l0 k x0 x1 x5 (wrap64 (x6 + 1)))) else (none)) else (none)) else (if x5.length < 17592186044416 then (spec_l8Walk.l1 k x0 x1 (x5 ++ [x1]) (wrap64 (x1 + 1))) else (none))
def spec_l8Walk.l1 : Nat → List Int → Int → List Int → Int → Option (List Int)
 | 0, _, _, _, _ => none
 | k + 1, x0, x1, x5, x7 => if x7 ≤ (x0.length : Int) then (if 0 ≤ (wrap64 (x7 - 1)) then (if (wrap64 (x7 - 1)) < (x0.length : Int) then (if (rd x0 (wrap64 (x7 - 1))) = x1 then ((spec_l8Walk.f k x0 x7).bind fun t409 => (if x5.length + t409.length < 17592186044416 then (spec_l8Walk.l1 k x0 x1 (x5 ++ t409) (wrap64 (x7 + 1))) else (none))) else (spec_l8Walk.l1 k x0 x1 x5 (wrap64 (x7 + 1)))) else (none)) else (none)) else (some x5)
def spec_l8Walk.f : Nat → List Int → Int → Option (List Int)
 | 0, _, _ => none
 | k + 1, l0, a1 => spec_l8Walk.l0 k l0 a1 (([] : List Int)) 1
end
theorem spec_l8Walk.mono_l : ∀ k, (∀ y0 y1, LeO (spec_l8Walk.f k y0 y1) (spec_l8Walk.f (k + 1) y0 y1)) ∧ (∀ y0 y1 y2 y3, LeO (spec_l8Walk.l0 k y0 y1 y2 y3) (spec_l8Walk.l0 (k + 1) y0 y1 y2 y3)) ∧ (∀ y0 y1 y2 y3, LeO (spec_l8Walk.l1 k y0 y1 y2 y3) (spec_l8Walk.l1 (k + 1) y0 y1 y2 y3))
 | 0 => ⟨fun _ _ r h => by simp [spec_l8Walk.f] at h, fun _ _ _ _ r h => by simp [spec_l8Walk.l0] at h, fun _ _ _ _ r h => by simp [spec_l8Walk.l1] at h⟩
 | k + 1 => by
  obtain ⟨ih0, ih1, ih2⟩ := spec_l8Walk.mono_l k
  refine ⟨?_, ?_, ?_⟩
  ·intro y0 y1
   unfold spec_l8Walk.f
   exact zmono
  ·intro y0 y1 y2 y3
   unfold spec_l8Walk.l0
   exact zmono
  ·intro y0 y1 y2 y3
   unfold spec_l8Walk.l1
   exact zmono
theorem spec_l8Walk.mono : ∀ a0 a1 k, LeO (spec_l8Walk.f k a0 a1) (spec_l8Walk.f (k + 1) a0 a1) := by
 intro a0 a1 k;obtain ⟨ih0, ih1, ih2⟩ := spec_l8Walk.mono_l k;exact ih0 a0 a1
set_option maxHeartbeats 8000000 in
set_option maxRecDepth 100000 in
theorem spec_l8Walk.calls (k : Nat) : ∀ (A0 : Option Addr) (c0 : Nat) (l0 : List Int) (a1 : Int) (r : List Int) (w : World) (hr0 : Kd.C (Kd.int .i64) w A0 l0.length l0) (hc0 : l0.length ≤ c0) (h : spec_l8Walk.f k l0 a1 = some r),
  Calls Try.prog 116 #[.slice A0 l0.length c0, .int .i64 a1] w fun e w' => ∃ v0_ : Value, e = .returned (v0_) ∧ Kd.R (Kd.int .i64) 3 w' w.heap.size (fun _ => True) v0_ r ∧ Below w.heap.size w w' := by
 induction k using Nat.strongRecOn with
 | _ k ih =>
 intro A0 c0 l0 a1 r w hr0 hc0 h;cases k with
 | zero => exact absurd h (by simp [spec_l8Walk.f])
 | succ k =>
 simp only [spec_l8Walk.f] at h;have HR0:=zM hr0;have HC0:=zM hc0;clear hr0 hc0;have HB:=zM (Below.refl w.heap.size w);have H : (spec_l8Walk.l0 k l0 a1 (([] : List Int)) 1) = some r := h;clear h;obtain ⟨y395, hy395⟩ : ∃ y_ : List Int, y_ = (([] : List Int)) := ⟨_, rfl⟩;(replace H : (spec_l8Walk.l0 k l0 a1 y395 1) = some r := by first | (rw [hy395]; with_reducible exact H) | (have H2_ := (Option.bind_some _ _).symm.trans H; rw [hy395]; with_reducible exact H2_) | (have H2_ := (Option.bind_some _ _).symm.trans H; with_reducible exact H2_) | with_reducible exact H | (rw [hy395]; exact H) | exact H);have Ny395:=zM hy395;clear hy395;have H':=zM H;clear H;go_enter Try.func116, Try.ntmps116;go_wp2_with (first | ((with_reducible refine gate_dst (N := 8) rfl ?_); refine Kd.R_lit (Kd.int .i64) _ 3 zs4 (N := 8) zs4 (xs := ([] : List Int)) (inner := []) (ok := fun _ => True) (okp := fun _ => True) zs5 ?hp (fun _ hk => hk) trivial (Below.refl _ _) (Nat.le_refl _) (by simp) ?_; (case hp => exact (Reps.none _ _)); intro v396 w3 ho4 hb hg_ hnew_; clear hg_ hnew_; (first | rw [← Ny395.out] at ho4 | (simp only [Int.reduceToNat] at ho4; rw [← Ny395.out] at ho4)); have HO397:=zM (Kd.R_lower ho4 (below_size (zs6 HB))); replace HB:=zM (below_step (zs6 HB) hb); clear hb ho4));go_loopg [5, 6] k (fun kq v5 v6 w' => ∃ (x5_1 : List Int) (x6_1 : Int), v6 = .int .i64 x6_1 ∧ Aside0 (spec_l8Walk.l0 kq l0 a1 x5_1 x6_1 = some r) ∧ Aside0 (kq ≤ k) ∧ Aside0 (Kd.R (Kd.int .i64) 3 w' w.heap.size (fun _ => True) v5 x5_1) ∧ Aside0 (Below w.heap.size w w'))
 case atStart => exact ⟨(y395), (1), zs0, H', ⟨Nat.le_refl _⟩, ⟨(zs8 HO397)⟩, ⟨(zs6 HB)⟩⟩
 case round =>
  clear H';obtain ⟨x5_1, x6_1, rfl, HA, HK1, HO_5, HB⟩ := hrel;cases gk with
  | zero => exact absurd HA.out (by simp [spec_l8Walk.l0])
  | succ k1 =>
   have H := HA.out;clear HA;simp only [spec_l8Walk.l0] at H;by_cases c5 : x6_1 < a1
   ·rw [if_pos c5] at H;have c5b0 := decide_eq_true c5;clear c5;obtain ⟨ji6, hji6⟩ : ∃ j_ : Int, (wrap64 (x6_1 - 1)) = j_ := ⟨_, rfl⟩;(replace H : (if 0 ≤ (ji6) then (if (ji6) < (l0.length : Int) then (if (rd l0 (ji6)) = a1 then ((spec_l8Walk.f k1 l0 x6_1).bind fun t399 => (if x5_1.length + t399.length < 17592186044416 then (spec_l8Walk.l0 k1 l0 a1 (x5_1 ++ t399) (wrap64 (x6_1 + 1))) else (none))) else (spec_l8Walk.l0 k1 l0 a1 x5_1 (wrap64 (x6_1 + 1)))) else (none)) else (none)) = some r := by first | (rw [hji6] at H; exact H) | (simp only [hji6] at H ⊢; exact H));have hji6w : (IntKind.i64.wrap (x6_1 - 1)) = ji6 := (i64_w _).trans hji6;replace H := zn H; obtain ⟨c7, H⟩ := H;have c7b0 := decide_eq_true c7;clear c7;replace H := zn H; obtain ⟨c8, H⟩ := H;have c8b0 := decide_eq_true c8;clear c8;by_cases c9 : (rd l0 (ji6)) = a1
    ·rw [if_pos c9] at H;have c9b0 := beq_iff_eq.mpr c9;have c9b1 := bne_eq_false_iff_eq.mpr c9;clear c9;replace H := zb H; obtain ⟨t399, A10, H⟩ := H; (try dsimp only at H);replace H := zn H; obtain ⟨c11, H⟩ := H;have LMc11:=zM c11;clear c11;obtain ⟨y402, hy402⟩ : ∃ y_ : List Int, y_ = (x5_1 ++ t399) := ⟨_, rfl⟩; rw [← hy402] at H; have Ny402:=zM hy402; clear hy402;have H':=zM H;clear H;have p398 : 0 ≤ ((ji6) : Int) := of_decide_eq_true zs1;have q398 : (ji6) < (l0.length : Int) := of_decide_eq_true zs1;obtain ⟨ad398, e398, hx398_0⟩ := Kd.at_int HR0.out (ji6) p398 q398;cases e398;replace hx398_0 := (HB.out.cell (World.block_lt_of_cell? w _ hx398_0)).trans hx398_0;replace p398 := eq_true p398;replace q398 := eq_true q398;go_wp2_with (first | (refine zg 116 (some 24) Try.func116 #[.slice (some ad398) l0.length c0, .int .i64 x6_1] ?_; (with_reducible refine (ih k1 (by have := HK1.out; omega) _ _ l0 x6_1 t399 _ ?side1 ?side2 A10.out).mono ?_); (case side1 => exact (zs10 HR0 HB)); (case side2 => exact HC0.out); rintro e w12 ⟨v400, rfl, ho0, hb⟩; refine ⟨_, rfl, ?_⟩; have HO401:=zM (Kd.R_lower (Kd.R_new' ho0 (Kd.R_lt (zs8 HO_5))) (below_size (zs6 HB))); replace HO_5:=zM (Kd.R_elder' (zs8 HO_5) (Kd.R_base ho0) hb); replace HB:=zM (below_step (zs6 HB) hb); clear hb ho0; obtain ⟨Ao14, co14, eo14⟩ := Kd.R_slice HO401.out; subst eo14) | ((with_reducible refine gate_builtin (b := .append) (xs := #[.tmp 21, .tmp 24]) rfl ?_); at_builtin; refine Kd.R_append_rows (Kd.int .i64) (w0 := w) w.heap.size rfl (.tmp 21) (.tmp 24) 22 3 (.int .i64 0) 8 rfl Try.underlying22 info3 rfl zd zo_ u5 x5_1 t399 _ _ _ (fun k_ => some k_ ≠ (.slice Ao14 t399.length co14 : Value).ownBlock) (fun _ => False) rfl rfl ?aO ?aR (fun _ _ h => h) (fun _ h => h.elim) ?aF ?aB ?aS ?aL ?_; (case aR => repeat (first | exact (Kd.R_reads' HO401.out).2.2 | (with_reducible refine Kd.C_alloc ?_ _) | (with_reducible refine Kd.C_drewN ?_ _) | (with_reducible refine Kd.C_drew ?_))); (case aB => exact (zs6 HB)); (case aF => exact (fun k_ hk => Kd.fresh' (Kd.R_lt (zs8 HO401)) k_ hk)); (case aO => exact ((zs12 HO_5))); (case aS => exact (below_size (zs6 HB))); (case aL => have := LMc11.out; omega); intro v403 w13 ho hb hg hat; rw [← Ny402.out] at ho; replace HO401:=zM (Kd.R_after (ok := (fun _ => True)) (zs8 HO401) hg hat); replace HB:=zM (hb); have HO404:=zM (ho); clear HO_5; clear ho hb hg hat));go_roundg k1
     case measure => have := HK1.out; omega
     case rel => exact ⟨(y402), (wrap64 (x6_1 + 1)), zs0, H', ⟨by have := HK1.out; omega⟩, ⟨(zs14 HO404)⟩, ⟨(zs6 HB)⟩⟩
    ·rw [if_neg c9] at H;have c9b0 := beq_eq_false_iff_ne.mpr c9;have c9b1 := bne_iff_ne.mpr c9;have H':=zM H;clear H;have p398 : 0 ≤ ((ji6) : Int) := of_decide_eq_true zs1;have q398 : (ji6) < (l0.length : Int) := of_decide_eq_true zs1;obtain ⟨ad398, e398, hx398_0⟩ := Kd.at_int HR0.out (ji6) p398 q398;cases e398;replace hx398_0 := (HB.out.cell (World.block_lt_of_cell? w _ hx398_0)).trans hx398_0;replace p398 := eq_true p398;replace q398 := eq_true q398;go_wp2;go_roundg k1
     case measure => have := HK1.out; omega
     case rel => exact ⟨(x5_1), (wrap64 (x6_1 + 1)), zs0, H', ⟨by have := HK1.out; omega⟩, ⟨(zs8 HO_5)⟩, ⟨(zs6 HB)⟩⟩
   ·rw [if_neg c5] at H;have c5b0 := decide_eq_false c5;clear c5;replace H := zn H; obtain ⟨c15, H⟩ := H;have LMc15:=zM c15;clear c15;obtain ⟨y405, hy405⟩ : ∃ y_ : List Int, y_ = (x5_1 ++ [a1]) := ⟨_, rfl⟩;(replace H : (spec_l8Walk.l1 k1 l0 a1 y405 (wrap64 (a1 + 1))) = some r := by first | (rw [hy405]; with_reducible exact H) | (have H2_ := (Option.bind_some _ _).symm.trans H; rw [hy405]; with_reducible exact H2_) | (have H2_ := (Option.bind_some _ _).symm.trans H; with_reducible exact H2_) | with_reducible exact H | (rw [hy405]; exact H) | exact H);have Ny405:=zM hy405;clear hy405;have H':=zM H;clear H;go_wp2_with (first | ((with_reducible refine gate_builtin (b := .append) (xs := #[.tmp 26, .tmp 28]) rfl ?_); at_builtin; refine Kd.R_append (Kd.int .i64) (w0 := w) w.heap.size rfl (.tmp 26) (.tmp 28) 22 3 (.int .i64 0) 8 rfl Try.underlying22 info3 rfl zd zo_ u5 x5_1 a1 [.int .i64 a1] (fun _ => True) (fun _ => False) rfl rfl ?aP (fun _ hk => hk.elim) ?aF ?aO ?aB ?aS ?aL ?_; (case aP => exact rfl); (case aB => exact (zs6 HB)); (case aF => exact (fun _ _ => trivial)); (case aO => exact (zs8 HO_5)); (case aS => exact (below_size (zs6 HB))); (case aL => have := LMc15.out; omega); intro v406 w16 ho hb hg hat; rw [← Ny405.out] at ho; replace HB:=zM (hb); have HO407:=zM (ho); clear HO_5; clear ho hb hg hat));go_loopg [5, 7] k1 (fun kq v5 v7 w' => ∃ (x5_2 : List Int) (x7_2 : Int), v7 = .int .i64 x7_2 ∧ Aside0 (spec_l8Walk.l1 kq l0 a1 x5_2 x7_2 = some r) ∧ Aside0 (kq ≤ k1) ∧ Aside0 (Kd.R (Kd.int .i64) 3 w' w.heap.size (fun _ => True) v5 x5_2) ∧ Aside0 (Below w.heap.size w w'))
    case atStart => exact ⟨(y405), (wrap64 (a1 + 1)), zs0, H', ⟨Nat.le_refl _⟩, ⟨(zs8 HO407)⟩, ⟨(zs6 HB)⟩⟩
    case round =>
     clear H';obtain ⟨x5_2, x7_2, rfl, HA, HK2, HO_5, HB⟩ := hrel;cases gk with
     | zero => exact absurd HA.out (by simp [spec_l8Walk.l1])
     | succ k2 =>
      have H := HA.out;clear HA;simp only [spec_l8Walk.l1] at H;by_cases c17 : x7_2 ≤ (l0.length : Int)
      ·rw [if_pos c17] at H;have c17b0 := decide_eq_true c17;clear c17;obtain ⟨ji18, hji18⟩ : ∃ j_ : Int, (wrap64 (x7_2 - 1)) = j_ := ⟨_, rfl⟩;(replace H : (if 0 ≤ (ji18) then (if (ji18) < (l0.length : Int) then (if (rd l0 (ji18)) = a1 then ((spec_l8Walk.f k2 l0 x7_2).bind fun t409 => (if x5_2.length + t409.length < 17592186044416 then (spec_l8Walk.l1 k2 l0 a1 (x5_2 ++ t409) (wrap64 (x7_2 + 1))) else (none))) else (spec_l8Walk.l1 k2 l0 a1 x5_2 (wrap64 (x7_2 + 1)))) else (none)) else (none)) = some r := by first | (rw [hji18] at H; exact H) | (simp only [hji18] at H ⊢; exact H));have hji18w : (IntKind.i64.wrap (x7_2 - 1)) = ji18 := (i64_w _).trans hji18;replace H := zn H; obtain ⟨c19, H⟩ := H;have c19b0 := decide_eq_true c19;clear c19;replace H := zn H; obtain ⟨c20, H⟩ := H;have c20b0 := decide_eq_true c20;clear c20;by_cases c21 : (rd l0 (ji18)) = a1
       ·rw [if_pos c21] at H;have c21b0 := beq_iff_eq.mpr c21;have c21b1 := bne_eq_false_iff_eq.mpr c21;clear c21;replace H := zb H; obtain ⟨t409, A22, H⟩ := H; (try dsimp only at H);replace H := zn H; obtain ⟨c23, H⟩ := H;have LMc23:=zM c23;clear c23;obtain ⟨y412, hy412⟩ : ∃ y_ : List Int, y_ = (x5_2 ++ t409) := ⟨_, rfl⟩; rw [← hy412] at H; have Ny412:=zM hy412; clear hy412;have H':=zM H;clear H;have p408 : 0 ≤ ((ji18) : Int) := of_decide_eq_true zs1;have q408 : (ji18) < (l0.length : Int) := of_decide_eq_true zs1;obtain ⟨ad408, e408, hx408_0⟩ := Kd.at_int HR0.out (ji18) p408 q408;cases e408;replace hx408_0 := (HB.out.cell (World.block_lt_of_cell? w _ hx408_0)).trans hx408_0;replace p408 := eq_true p408;replace q408 := eq_true q408;go_wp2_with (first | (refine zg 116 (some 48) Try.func116 #[.slice (some ad408) l0.length c0, .int .i64 x7_2] ?_; (with_reducible refine (ih k2 (by have := HK1.out; have := HK2.out; omega) _ _ l0 x7_2 t409 _ ?side1 ?side2 A22.out).mono ?_); (case side1 => exact (zs10 HR0 HB)); (case side2 => exact HC0.out); rintro e w24 ⟨v410, rfl, ho0, hb⟩; refine ⟨_, rfl, ?_⟩; have HO411:=zM (Kd.R_lower (Kd.R_new' ho0 (Kd.R_lt (zs8 HO_5))) (below_size (zs6 HB))); replace HO_5:=zM (Kd.R_elder' (zs8 HO_5) (Kd.R_base ho0) hb); replace HB:=zM (below_step (zs6 HB) hb); clear hb ho0; obtain ⟨Ao26, co26, eo26⟩ := Kd.R_slice HO411.out; subst eo26) | ((with_reducible refine gate_builtin (b := .append) (xs := #[.tmp 45, .tmp 48]) rfl ?_); at_builtin; refine Kd.R_append_rows (Kd.int .i64) (w0 := w) w.heap.size rfl (.tmp 45) (.tmp 48) 22 3 (.int .i64 0) 8 rfl Try.underlying22 info3 rfl zd zo_ u5 x5_2 t409 _ _ _ (fun k_ => some k_ ≠ (.slice Ao26 t409.length co26 : Value).ownBlock) (fun _ => False) rfl rfl ?aO ?aR (fun _ _ h => h) (fun _ h => h.elim) ?aF ?aB ?aS ?aL ?_; (case aR => repeat (first | exact (Kd.R_reads' HO411.out).2.2 | (with_reducible refine Kd.C_alloc ?_ _) | (with_reducible refine Kd.C_drewN ?_ _) | (with_reducible refine Kd.C_drew ?_))); (case aB => exact (zs6 HB)); (case aF => exact (fun k_ hk => Kd.fresh' (Kd.R_lt (zs8 HO411)) k_ hk)); (case aO => exact ((zs12 HO_5))); (case aS => exact (below_size (zs6 HB))); (case aL => have := LMc23.out; omega); intro v413 w25 ho hb hg hat; rw [← Ny412.out] at ho; replace HO411:=zM (Kd.R_after (ok := (fun _ => True)) (zs8 HO411) hg hat); replace HB:=zM (hb); have HO414:=zM (ho); clear HO_5; clear ho hb hg hat));go_roundg k2
        case measure => have := HK1.out; have := HK2.out; omega
        case rel => exact ⟨(y412), (wrap64 (x7_2 + 1)), zs0, H', ⟨by have := HK1.out; have := HK2.out; omega⟩, ⟨(zs14 HO414)⟩, ⟨(zs6 HB)⟩⟩
       ·rw [if_neg c21] at H;have c21b0 := beq_eq_false_iff_ne.mpr c21;have c21b1 := bne_iff_ne.mpr c21;have H':=zM H;clear H;have p408 : 0 ≤ ((ji18) : Int) := of_decide_eq_true zs1;have q408 : (ji18) < (l0.length : Int) := of_decide_eq_true zs1;obtain ⟨ad408, e408, hx408_0⟩ := Kd.at_int HR0.out (ji18) p408 q408;cases e408;replace hx408_0 := (HB.out.cell (World.block_lt_of_cell? w _ hx408_0)).trans hx408_0;replace p408 := eq_true p408;replace q408 := eq_true q408;go_wp2;go_roundg k2
        case measure => have := HK1.out; have := HK2.out; omega
        case rel => exact ⟨(x5_2), (wrap64 (x7_2 + 1)), zs0, H', ⟨by have := HK1.out; have := HK2.out; omega⟩, ⟨(zs8 HO_5)⟩, ⟨(zs6 HB)⟩⟩
      ·rw [if_neg c17] at H;have c17b0 := decide_eq_false c17;clear c17;obtain rfl := Option.some.inj H;go_wp2;go_ret;exact ⟨_, zs9, (zs8 HO_5), (zs6 HB)⟩
/-! ### spec_RootOf: function 117 -/
mutual
def spec_RootOf.l0 : Nat → List Int → Int → Option (Int)
 | 0, _, _ => none
 | k + 1, x0, x3 => if x3 < (x0.length : Int) then ((spec_TreeOk.f k x0).bind fun t415 => (spec_RootOf.j1 k x0 x3 t415)) else (spec_RootOf.j1 k x0 x3 false)
def spec_RootOf.j1 : Nat → List Int → Int → Bool → Option (Int)
 | 0, _, _, _ => none
 | k + 1, x0, x3, x11 => if x11 = true then (if 0 ≤ x3 then (if x3 < (x0.length : Int) then (if (rd x0 x3) = 0 then (some (wrap64 (x3 + 1))) else (spec_RootOf.l0 k x0 (wrap64 (x3 + 1)))) else (none)) else (none)) else (some (-1))
end
def spec_RootOf.f (k : Nat) (l0 : List Int) : Option (Int) := spec_RootOf.l0 k l0 0
theorem spec_RootOf.mono_l : ∀ k, (∀ y0 y1, LeO (spec_RootOf.l0 k y0 y1) (spec_RootOf.l0 (k + 1) y0 y1)) ∧ (∀ y0 y1 y2, LeO (spec_RootOf.j1 k y0 y1 y2) (spec_RootOf.j1 (k + 1) y0 y1 y2))
 | 0 => ⟨fun _ _ r h => by simp [spec_RootOf.l0] at h, fun _ _ _ r h => by simp [spec_RootOf.j1] at h⟩
 | k + 1 => by
  obtain ⟨ih0, ih1⟩ := spec_RootOf.mono_l k
  refine ⟨?_, ?_⟩
  ·intro y0 y1
   unfold spec_RootOf.l0
   have := @spec_TreeOk.mono; exact zmono
  ·intro y0 y1 y2
   unfold spec_RootOf.j1
   have := @spec_TreeOk.mono; exact zmono
theorem spec_RootOf.mono : ∀ a0 k, LeO (spec_RootOf.f k a0) (spec_RootOf.f (k + 1) a0) := by
 intro a0 k;obtain ⟨ih0, ih1⟩ := spec_RootOf.mono_l k;unfold spec_RootOf.f;have := @spec_TreeOk.mono; exact zmono
set_option maxHeartbeats 8000000 in
set_option maxRecDepth 100000 in
theorem spec_RootOf.calls (k : Nat) (A0 : Option Addr) (c0 : Nat) (l0 : List Int) (r : Int) (w : World) (hr0 : Kd.C (Kd.int .i64) w A0 l0.length l0) (hc0 : l0.length ≤ c0) (h : spec_RootOf.f k l0 = some r) :
  Calls Try.prog 117 #[.slice A0 l0.length c0] w fun e w' => e = .returned (.int .i64 r) ∧ Drawn0 w w' := by
 have HR0:=zM hr0;have HC0:=zM hc0;clear hr0 hc0;have H : (spec_RootOf.l0 k l0 0) = some r := h;clear h;have H':=zM H;clear H;go_enter Try.func117, Try.ntmps117;go_wp2;go_loopg [3] k (fun kq v3 w' => ∃ (x3_1 : Int), v3 = .int .i64 x3_1 ∧ Aside0 (spec_RootOf.l0 kq l0 x3_1 = some r) ∧ Aside0 (kq ≤ k) ∧ Drawn0 w w')
 case atStart => exact ⟨(0), zs0, H', ⟨Nat.le_refl _⟩, by repeat (first | exact Drawn0.refl _ | apply Drawn0.step)⟩
 case round =>
  clear H';obtain ⟨x3_1, rfl, HA, HK1, ⟨m1, rfl⟩⟩ := hrel;cases gk with
  | zero => exact absurd HA.out (by simp [spec_RootOf.l0])
  | succ k1 =>
   have H := HA.out;clear HA;simp only [spec_RootOf.l0] at H;have HC2:=zM H;clear H;go_upto_region 2 with (fail);go_cut [11] (fun v11 wc => ∃ (kq : Nat) (x11_1 : Bool), v11 = .bool x11_1 ∧ Aside0 (spec_RootOf.j1 kq l0 x3_1 x11_1 = some r) ∧ Aside0 (kq ≤ k1) ∧ Drawn0 w wc)
   case first =>
    have H := HC2.out;clear HC2;by_cases c3 : x3_1 < (l0.length : Int)
    ·rw [if_pos c3] at H;have c3b0 := decide_eq_true c3;clear c3;(first | rw [c3b0] | (simp only [i64_w, i32_w]; rw [c3b0]) | skip);replace H := zb H; obtain ⟨t415, A4, H⟩ := H; (try dsimp only at H);have H':=zM H;clear H;go_wp2_with (first | (go_at_call 56; (with_reducible refine (spec_TreeOk.calls k1 _ _ l0 t415 _ ?side1 ?side2 A4.out).mono ?_); (case side1 => exact (zs3 HR0)); (case side2 => exact HC0.out); rintro e w' ⟨rfl, ⟨nd, rfl⟩⟩));go_meet
     case rel => exact ⟨_, (t415), zs0, H', ⟨by have := HK1.out; first | omega | exact Nat.le_refl _⟩, by repeat (first | exact Drawn0.refl _ | apply Drawn0.step)⟩
    ·rw [if_neg c3] at H;have c3b0 := decide_eq_false c3;clear c3;(first | rw [c3b0] | (simp only [i64_w, i32_w]; rw [c3b0]) | skip);have H':=zM H;clear H;go_wp2;go_meet
     case rel => exact ⟨_, (false), zs0, H', ⟨by have := HK1.out; first | omega | exact Nat.le_refl _⟩, by repeat (first | exact Drawn0.refl _ | apply Drawn0.step)⟩
   case rest =>
    clear HC2;obtain ⟨kq, x11_1, rfl, HA, HJ1, ⟨mc1, rfl⟩⟩ := hcut;cases kq with
    | zero => exact absurd HA.out (by simp [spec_RootOf.j1])
    | succ kj1 =>
     have H := HA.out;clear HA;simp only [spec_RootOf.j1] at H;by_cases c5 : x11_1 = true
     ·subst c5;(have H1 : (if 0 ≤ x3_1 then (if x3_1 < (l0.length : Int) then (if (rd l0 x3_1) = 0 then (some (wrap64 (x3_1 + 1))) else (spec_RootOf.l0 kj1 l0 (wrap64 (x3_1 + 1)))) else (none)) else (none)) = some r := by rw [if_pos rfl] at H; exact H);clear H;have H := H1;clear H1;replace H := zn H; obtain ⟨c6, H⟩ := H;have c6b0 := decide_eq_true c6;clear c6;replace H := zn H; obtain ⟨c7, H⟩ := H;have c7b0 := decide_eq_true c7;clear c7;by_cases c8 : (rd l0 x3_1) = 0
      ·rw [if_pos c8] at H;have c8b0 := beq_iff_eq.mpr c8;have c8b1 := bne_eq_false_iff_eq.mpr c8;clear c8;obtain rfl := Option.some.inj H;have p416 : 0 ≤ (x3_1 : Int) := of_decide_eq_true zs1;have q416 : x3_1 < (l0.length : Int) := of_decide_eq_true zs1;obtain ⟨ad416, e416, hx416_0⟩ := Kd.at_int HR0.out x3_1 p416 q416;cases e416;replace p416 := eq_true p416;replace q416 := eq_true q416;go_wp2;go_ret;exact ⟨by first | rfl | (simp; done) | (simp [*]; done), by repeat (first | exact Drawn0.refl _ | apply Drawn0.step)⟩
      ·rw [if_neg c8] at H;have c8b0 := beq_eq_false_iff_ne.mpr c8;have c8b1 := bne_iff_ne.mpr c8;have H':=zM H;clear H;have p416 : 0 ≤ (x3_1 : Int) := of_decide_eq_true zs1;have q416 : x3_1 < (l0.length : Int) := of_decide_eq_true zs1;obtain ⟨ad416, e416, hx416_0⟩ := Kd.at_int HR0.out x3_1 p416 q416;cases e416;replace p416 := eq_true p416;replace q416 := eq_true q416;go_wp2;go_roundg kj1
       case measure => have := HK1.out; have := HJ1.out; omega
       case rel => exact ⟨(wrap64 (x3_1 + 1)), zs0, H', ⟨by have := HK1.out; have := HJ1.out; omega⟩, by repeat (first | exact Drawn0.refl _ | apply Drawn0.step)⟩
     ·replace c5 := Bool.eq_false_iff.mpr c5;subst c5;(have H1 : (some (-1)) = some r := by rw [if_neg (show ¬ (false = true) by decide)] at H; exact H);clear H;have H := H1;clear H1;obtain rfl := Option.some.inj H;go_wp2;go_ret;exact ⟨by first | rfl | (simp; done) | (simp [*]; done), by repeat (first | exact Drawn0.refl _ | apply Drawn0.step)⟩

/-! ### spec_FlatOrder: function 83 -/
def spec_FlatOrder.f (k : Nat) (l0 : List Int) : Option (List Int) := (spec_TreeOk.f k l0).bind fun t417 => (if t417 = true then ((spec_RootOf.f k l0).bind fun t418 => ((spec_l8Walk.f k l0 t418).bind fun t419 => (some t419))) else (some (([] : List Int))))
theorem spec_FlatOrder.mono : ∀ a0 k, LeO (spec_FlatOrder.f k a0) (spec_FlatOrder.f (k + 1) a0) := by
 intro a0 k;unfold spec_FlatOrder.f;have := @spec_RootOf.mono; have := @spec_TreeOk.mono; have := @spec_l8Walk.mono; exact zmono
set_option maxHeartbeats 8000000 in
set_option maxRecDepth 100000 in
theorem spec_FlatOrder.calls (k : Nat) (A0 : Option Addr) (c0 : Nat) (l0 : List Int) (r : List Int) (w : World) (hr0 : Kd.C (Kd.int .i64) w A0 l0.length l0) (hc0 : l0.length ≤ c0) (h : spec_FlatOrder.f k l0 = some r) :
  Calls Try.prog 83 #[.slice A0 l0.length c0] w fun e w' => ∃ v0_ : Value, e = .returned (v0_) ∧ Kd.R (Kd.int .i64) 3 w' w.heap.size (fun _ => True) v0_ r ∧ Below w.heap.size w w' := by
 have HR0:=zM hr0;have HC0:=zM hc0;clear hr0 hc0;have HB:=zM (Below.refl w.heap.size w);have H : ((spec_TreeOk.f k l0).bind fun t417 => (if t417 = true then ((spec_RootOf.f k l0).bind fun t418 => ((spec_l8Walk.f k l0 t418).bind fun t419 => (some t419))) else (some (([] : List Int))))) = some r := h;clear h;replace H := zb H; obtain ⟨t417, A2, H⟩ := H; (try dsimp only at H);by_cases c3 : t417 = true
 ·subst c3;(have H1 : ((spec_RootOf.f k l0).bind fun t418 => ((spec_l8Walk.f k l0 t418).bind fun t419 => (some t419))) = some r := by rw [if_pos rfl] at H; exact H);clear H;have H := H1;clear H1;replace H := zb H; obtain ⟨t418, A4, H⟩ := H; (try dsimp only at H);replace H := zb H; obtain ⟨t419, A5, H⟩ := H; (try dsimp only at H);obtain rfl := Option.some.inj H;go_enter Try.func83, Try.ntmps83;go_wp2_with (first | (refine zg 56 (some 4) Try.func56 #[.slice A0 l0.length c0] ?_; (with_reducible refine (spec_TreeOk.calls k _ _ l0 true _ ?side1 ?side2 A2.out).mono ?_); (case side1 => exact (zs3 HR0)); (case side2 => exact HC0.out); rintro e w' ⟨rfl, ⟨nd, rfl⟩⟩; refine ⟨_, rfl, ?_⟩) | (refine zg 117 (some 9) Try.func117 #[.slice A0 l0.length c0] ?_; (with_reducible refine (spec_RootOf.calls k _ _ l0 t418 _ ?side1 ?side2 A4.out).mono ?_); (case side1 => exact (zs3 HR0)); (case side2 => exact HC0.out); rintro e w' ⟨rfl, ⟨nd, rfl⟩⟩; refine ⟨_, rfl, ?_⟩) | (refine zg 116 (some 10) Try.func116 #[.slice A0 l0.length c0, .int .i64 t418] ?_; (with_reducible refine (spec_l8Walk.calls k _ _ l0 t418 t419 _ ?side1 ?side2 A5.out).mono ?_); (case side1 => exact (zs3 HR0)); (case side2 => exact HC0.out); rintro e w6 ⟨v420, rfl, ho0, hb⟩; refine ⟨_, rfl, ?_⟩; have HO421:=zM (Kd.R_lower ho0 (below_size (zs6 HB))); replace HB:=zM (below_step (zs6 HB) hb); clear hb ho0));go_ret;exact ⟨_, zs9, (zs8 HO421), (zs6 HB)⟩
 ·replace c3 := Bool.eq_false_iff.mpr c3;subst c3;(have H1 : (some (([] : List Int))) = some r := by rw [if_neg (show ¬ (false = true) by decide)] at H; exact H);clear H;have H := H1;clear H1;obtain ⟨y422, hy422⟩ : ∃ y_ : List Int, y_ = (([] : List Int)) := ⟨_, rfl⟩;(replace H : (some y422) = some r := by first | (rw [hy422]; with_reducible exact H) | (have H2_ := (Option.bind_some _ _).symm.trans H; rw [hy422]; with_reducible exact H2_) | (have H2_ := (Option.bind_some _ _).symm.trans H; with_reducible exact H2_) | with_reducible exact H | (rw [hy422]; exact H) | exact H);have Ny422:=zM hy422;clear hy422;obtain rfl := Option.some.inj H;go_enter Try.func83, Try.ntmps83;go_wp2_with (first | (refine zg 56 (some 4) Try.func56 #[.slice A0 l0.length c0] ?_; (with_reducible refine (spec_TreeOk.calls k _ _ l0 false _ ?side1 ?side2 A2.out).mono ?_); (case side1 => exact (zs3 HR0)); (case side2 => exact HC0.out); rintro e w' ⟨rfl, ⟨nd, rfl⟩⟩; refine ⟨_, rfl, ?_⟩) | ((with_reducible refine gate_dst (N := 6) rfl ?_); refine Kd.R_lit (Kd.int .i64) _ 3 zs4 (N := 6) zs4 (xs := ([] : List Int)) (inner := []) (ok := fun _ => True) (okp := fun _ => True) zs5 ?hp (fun _ hk => hk) trivial (Below.refl _ _) (Nat.le_refl _) (by simp) ?_; (case hp => exact (Reps.none _ _)); intro v423 w7 ho8 hb hg_ hnew_; clear hg_ hnew_; (first | rw [← Ny422.out] at ho8 | (simp only [Int.reduceToNat] at ho8; rw [← Ny422.out] at ho8)); have HO424:=zM (Kd.R_lower ho8 (below_size (zs6 HB))); replace HB:=zM (below_step (zs6 HB) hb); clear hb ho8));go_ret;exact ⟨_, zs9, (zs8 HO424), (zs6 HB)⟩

/-! ### spec_MadeFlat: function 37 -/
def spec_MadeFlat.f (k : Nat) (l0 : List Int) : Option (List Int) := (spec_FlatOrder.f k l0).bind fun t425 => ((spec_PutInOrder.f k l0 t425).bind fun bt428 => (some bt428.1))
theorem spec_MadeFlat.mono : ∀ a0 k, LeO (spec_MadeFlat.f k a0) (spec_MadeFlat.f (k + 1) a0) := by
 intro a0 k;unfold spec_MadeFlat.f;have := @spec_FlatOrder.mono; have := @spec_PutInOrder.mono; exact zmono
set_option maxHeartbeats 8000000 in
set_option maxRecDepth 100000 in
theorem spec_MadeFlat.calls (k : Nat) (A0 : Option Addr) (c0 : Nat) (l0 : List Int) (r : List Int) (w : World) (hr0 : Kd.C (Kd.int .i64) w A0 l0.length l0) (hc0 : l0.length ≤ c0) (h : spec_MadeFlat.f k l0 = some r) :
  Calls Try.prog 37 #[.slice A0 l0.length c0] w fun e w' => ∃ v0_ : Value, e = .returned (v0_) ∧ Kd.R (Kd.int .i64) 3 w' w.heap.size (fun _ => True) v0_ r ∧ Below w.heap.size w w' := by
 have HR0:=zM hr0;have HC0:=zM hc0;clear hr0 hc0;have HB:=zM (Below.refl w.heap.size w);have H : ((spec_FlatOrder.f k l0).bind fun t425 => ((spec_PutInOrder.f k l0 t425).bind fun bt428 => (some bt428.1))) = some r := h;clear h;replace H := zb H; obtain ⟨t425, A2, H⟩ := H; (try dsimp only at H);replace H := zb H; obtain ⟨⟨t428, t429⟩, A3, H⟩ := H; (try dsimp only at H);obtain rfl := Option.some.inj H;go_enter Try.func37, Try.ntmps37;go_wp2_with (first | (refine zg 83 (some 8) Try.func83 #[.slice A0 l0.length c0] ?_; (with_reducible refine (spec_FlatOrder.calls k _ _ l0 t425 _ ?side1 ?side2 A2.out).mono ?_); (case side1 => exact (zs3 HR0)); (case side2 => exact HC0.out); rintro e w4 ⟨v426, rfl, ho0, hb⟩; refine ⟨_, rfl, ?_⟩; have HO427:=zM (Kd.R_lower ho0 (below_size (zs6 HB))); replace HB:=zM (below_step (zs6 HB) hb); clear hb ho0; obtain ⟨Ao5, co5, eo5⟩ := Kd.R_slice HO427.out; subst eo5) | (refine zg 82 (some 9) Try.func82 #[.slice A0 l0.length c0, .slice Ao5 t425.length co5] ?_; (with_reducible refine (spec_PutInOrder.calls k _ _ l0 _ _ t425 t428 t429 _ ?side1 ?side2 ?side3 ?side4 A3.out).mono ?_); (case side1 => exact (zs10 HR0 HB)); (case side2 => exact HC0.out); (case side3 => exact (zs7 HO427)); (case side4 => exact (Kd.R_reads' HO427.out).2.1); rintro e w6 ⟨v430, rfl, ho0, hb⟩; refine ⟨_, rfl, ?_⟩; have HO431:=zM (Kd.R_lower (Kd.R_new' ho0 (Kd.R_lt (zs8 HO427))) (below_size (zs6 HB))); replace HO427:=zM (Kd.R_elder' (zs8 HO427) (Kd.R_base ho0) hb); replace HB:=zM (below_step (zs6 HB) hb); clear hb ho0));go_ret;exact ⟨_, zs9, (zs14 HO431), (zs6 HB)⟩

end Go.Proofs.Ytbbhdgpiocojaaa.LE
