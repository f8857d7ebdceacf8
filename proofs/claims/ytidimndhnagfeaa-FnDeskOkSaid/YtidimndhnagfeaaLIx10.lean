/- Printed out of the translation (wip/lp); no conditions beyond those that each theorem names. -/
import Derived.Test.YtidimndhnagfeaaLIx0
import Derived.Test.YtidimndhnagfeaaLIx1
import Derived.Test.YtidimndhnagfeaaLIx3
import Derived.Test.YtidimndhnagfeaaLIx4
import Derived.Test.YtidimndhnagfeaaLIx9
namespace Go.Proofs.Ytidimndhnagfeaa.LI
open Go.RowKit Go.Proofs.YtidimndhnagfeaaV.PrintWords Go.Proofs.YtidimndhnagfeaaV.PrintLast Go.Proofs.YtidimndhnagfeaaV.PrintMore
attribute [local go_sem] max2_int min2_int max_two min_two max_three min_three max_four min_four   -- for this text's walks alone
set_option linter.unusedVariables false
set_option linter.unusedSimpArgs false

attribute [local go_sem high] eqA65
/-! ### spec_RootOf: function 132 -/
mutual
def spec_RootOf.l0 : Nat → List Int → Int → Option (Int)
 | 0, _, _ => none
 | k + 1, x0, x3 => if x3 < (x0.length : Int) then ((spec_TreeOk.f k x0).bind fun t398 => (spec_RootOf.j1 k x0 x3 t398)) else (spec_RootOf.j1 k x0 x3 false)
def spec_RootOf.j1 : Nat → List Int → Int → Bool → Option (Int)
 | 0, _, _, _ => none
 | k + 1, x0, x3, x11 => if x11 = true then (if 0 ≤ x3 then (if x3 < (x0.length : Int) then (if (rd x0 x3) = 0 then (some (wrap64 (x3 + 1))) else (spec_RootOf.l0 k x0 (wrap64 (x3 + 1)))) else (none)) else (none)) else (some (-1))
end
def spec_RootOf.f (k : Nat) (l0 : List Int) : Option (Int) := spec_RootOf.l0 k l0 0
theorem spec_RootOf.mono_l : ∀ k, (∀ y0 y1, LeO (spec_RootOf.l0 k y0 y1) (spec_RootOf.l0 (k + 1) y0 y1)) ∧ (∀ y0 y1 y2, LeO (spec_RootOf.j1 k y0 y1 y2) (spec_RootOf.j1 (k + 1) y0 y1 y2))
 | 0 => ⟨fun _ _ r h => by simp [spec_RootOf.l0] at h, fun _ _ _ r h => by simp [spec_RootOf.j1] at h⟩
 | k + 1 => by
  obtain ⟨ih0, ih1⟩ := spec_RootOf.mono_l k
  refine ⟨?_, ?_⟩
  ·intro y0 y1
   unfold spec_RootOf.l0
   repeat' first
   | (with_reducible exact ih0 _ _)
   | (with_reducible exact ih1 _ _ _)
   | (with_reducible exact spec_TreeOk.mono _ _)
   | (with_reducible exact LeO.refl _)
   | (with_reducible exact LeO.none _)
   | (with_reducible refine LeO.ite ?_ ?_)
   | (with_reducible refine LeO.bind ?_ (fun _ => ?_))
   | refine LeO.ite ?_ ?_
   | refine LeO.bind ?_ (fun _ => ?_)
  ·intro y0 y1 y2
   unfold spec_RootOf.j1
   repeat' first
   | (with_reducible exact ih0 _ _)
   | (with_reducible exact ih1 _ _ _)
   | (with_reducible exact spec_TreeOk.mono _ _)
   | (with_reducible exact LeO.refl _)
   | (with_reducible exact LeO.none _)
   | (with_reducible refine LeO.ite ?_ ?_)
   | (with_reducible refine LeO.bind ?_ (fun _ => ?_))
   | refine LeO.ite ?_ ?_
   | refine LeO.bind ?_ (fun _ => ?_)
theorem spec_RootOf.mono : ∀ a0 k, LeO (spec_RootOf.f k a0) (spec_RootOf.f (k + 1) a0) := by
 intro a0 k
 obtain ⟨ih0, ih1⟩ := spec_RootOf.mono_l k
 unfold spec_RootOf.f
 repeat' first
   | (with_reducible exact ih0 _ _)
   | (with_reducible exact ih1 _ _ _)
   | (with_reducible exact spec_TreeOk.mono _ _)
   | (with_reducible exact LeO.refl _)
   | (with_reducible exact LeO.none _)
   | (with_reducible refine LeO.ite ?_ ?_)
   | (with_reducible refine LeO.bind ?_ (fun _ => ?_))
   | refine LeO.ite ?_ ?_
   | refine LeO.bind ?_ (fun _ => ?_)
set_option maxHeartbeats 8000000 in
set_option maxRecDepth 100000 in
theorem spec_RootOf.calls (k : Nat) (A0 : Option Addr) (c0 : Nat) (l0 : List Int) (r : Int) (w : World) (hr0 : Kd.C (Kd.int .i64) w A0 l0.length l0) (hc0 : l0.length ≤ c0) (h : spec_RootOf.f k l0 = some r) :
  Calls Try.prog 132 #[.slice A0 l0.length c0] w fun e w' => e = .returned (.int .i64 r) ∧ Drawn0 w w' := by
 have HR0 := zM hr0
 have HC0 := zM hc0
 clear hr0 hc0
 have H : (spec_RootOf.l0 k l0 0) = some r := h
 clear h
 have H' := zM H
 clear H
 go_enter Try.func132, Try.ntmps132
 go_wp2
 go_loopg [3] k (fun kq v3 w' => ∃ (x3_1 : Int), v3 = .int .i64 x3_1 ∧ Aside0 (spec_RootOf.l0 kq l0 x3_1 = some r) ∧ Aside0 (kq ≤ k) ∧ Drawn0 w w')
 case atStart => exact ⟨(0), (by first | rfl | (simp; done) | (simp [*]; done)), H', ⟨Nat.le_refl _⟩, by repeat (first | exact Drawn0.refl _ | apply Drawn0.step)⟩
 case round =>
  clear H'
  try clear c1
  obtain ⟨x3_1, rfl, HA, HK1, ⟨m1, rfl⟩⟩ := hrel
  cases gk with
  | zero => exact absurd HA.out (by simp [spec_RootOf.l0])
  | succ k1 =>
   have H := HA.out
   clear HA
   simp only [spec_RootOf.l0] at H
   have HC2 := zM H
   clear H
   go_upto_region 2 with (fail)
   go_cut [11] (fun v11 wc => ∃ (kq : Nat) (x11_1 : Bool), v11 = .bool x11_1 ∧ Aside0 (spec_RootOf.j1 kq l0 x3_1 x11_1 = some r) ∧ Aside0 (kq ≤ k1) ∧ Drawn0 w wc)
   case first =>
    have H := HC2.out
    clear HC2
    by_cases c3 : x3_1 < (l0.length : Int)
    ·rw [if_pos c3] at H
     have c3b0 : decide (x3_1 < (l0.length : Int)) = true := decide_eq_true c3
     clear c3
     (first | rw [c3b0] | (simp only [i64_w, i32_w]; rw [c3b0]) | skip)
     replace H := Option.bind_eq_some_iff.mp H
     obtain ⟨t398, A40, H⟩ := H
     replace H : (spec_RootOf.j1 k1 l0 x3_1 t398) = some r := H
     have A4 := zM A40
     clear A40
     have H' := zM H
     clear H
     go_wp2_with (first | (go_at_call 74; (with_reducible refine (spec_TreeOk.calls k1 _ _ l0 t398 _ ?side1 ?side2 A4.out).mono ?_); (case side1 => repeat (first | exact HR0.out | (with_reducible refine Kd.C_alloc ?_ _) | (with_reducible refine Kd.C_drewN ?_ _) | (with_reducible refine Kd.C_drew ?_))); (case side2 => exact HC0.out); rintro e w' ⟨rfl, ⟨nd, rfl⟩⟩))
     go_meet
     case rel => exact ⟨_, (t398), (by first | rfl | (simp; done) | (simp [*]; done)), H', ⟨by have := HK1.out; first | omega | exact Nat.le_refl _⟩, by repeat (first | exact Drawn0.refl _ | apply Drawn0.step)⟩
    ·rw [if_neg c3] at H
     have c3b0 : decide (x3_1 < (l0.length : Int)) = false := decide_eq_false c3
     clear c3
     (first | rw [c3b0] | (simp only [i64_w, i32_w]; rw [c3b0]) | skip)
     have H' := zM H
     clear H
     go_wp2
     go_meet
     case rel => exact ⟨_, (false), (by first | rfl | (simp; done) | (simp [*]; done)), H', ⟨by have := HK1.out; first | omega | exact Nat.le_refl _⟩, by repeat (first | exact Drawn0.refl _ | apply Drawn0.step)⟩
   case rest =>
    clear HC2
    try clear c1
    try clear p2
    try clear c3
    try clear c3b0
    obtain ⟨kq, x11_1, rfl, HA, HJ1, ⟨mc1, rfl⟩⟩ := hcut
    cases kq with
    | zero => exact absurd HA.out (by simp [spec_RootOf.j1])
    | succ kj1 =>
     have H := HA.out
     clear HA
     simp only [spec_RootOf.j1] at H
     by_cases c5 : x11_1 = true
     ·subst c5
      have H1 : (if 0 ≤ x3_1 then (if x3_1 < (l0.length : Int) then (if (rd l0 x3_1) = 0 then (some (wrap64 (x3_1 + 1))) else (spec_RootOf.l0 kj1 l0 (wrap64 (x3_1 + 1)))) else (none)) else (none)) = some r := by rw [if_pos rfl] at H; exact H
      clear H
      have H := H1
      clear H1
      by_cases c6 : 0 ≤ x3_1
      ·rw [if_pos c6] at H
       have c6b0 : decide (0 ≤ x3_1) = true := decide_eq_true c6
       clear c6
       by_cases c7 : x3_1 < (l0.length : Int)
       ·rw [if_pos c7] at H
        have c7b0 : decide (x3_1 < (l0.length : Int)) = true := decide_eq_true c7
        clear c7
        by_cases c8 : (rd l0 x3_1) = 0
        ·rw [if_pos c8] at H
         have c8b0 : ((rd l0 x3_1) == 0) = true := beq_iff_eq.mpr c8
         have c8b1 : ((rd l0 x3_1) != 0) = false := bne_eq_false_iff_eq.mpr c8
         clear c8
         obtain rfl := Option.some.inj H
         have p399 : 0 ≤ (x3_1 : Int) := of_decide_eq_true (by first | (with_reducible assumption) | assumption)
         have q399 : x3_1 < (l0.length : Int) := of_decide_eq_true (by first | (with_reducible assumption) | assumption)
         obtain ⟨ad399, e399, hx399_0⟩ := Kd.at_int HR0.out x3_1 p399 q399
         cases e399
         replace p399 := eq_true p399
         replace q399 := eq_true q399
         go_wp2
         go_ret
         exact ⟨by first | rfl | (simp; done) | (simp [*]; done), by repeat (first | exact Drawn0.refl _ | apply Drawn0.step)⟩
        ·rw [if_neg c8] at H
         have c8b0 : ((rd l0 x3_1) == 0) = false := beq_eq_false_iff_ne.mpr c8
         have c8b1 : ((rd l0 x3_1) != 0) = true := bne_iff_ne.mpr c8
         have H' := zM H
         clear H
         have p399 : 0 ≤ (x3_1 : Int) := of_decide_eq_true (by first | (with_reducible assumption) | assumption)
         have q399 : x3_1 < (l0.length : Int) := of_decide_eq_true (by first | (with_reducible assumption) | assumption)
         obtain ⟨ad399, e399, hx399_0⟩ := Kd.at_int HR0.out x3_1 p399 q399
         cases e399
         replace p399 := eq_true p399
         replace q399 := eq_true q399
         go_wp2
         go_roundg kj1
         case measure => have := HK1.out; have := HJ1.out; omega
         case rel => exact ⟨(wrap64 (x3_1 + 1)), (by first | rfl | (simp; done) | (simp [*]; done)), H', ⟨by have := HK1.out; have := HJ1.out; omega⟩, by repeat (first | exact Drawn0.refl _ | apply Drawn0.step)⟩
       ·rw [if_neg c7] at H
        exact absurd H (by simp)
      ·rw [if_neg c6] at H
       exact absurd H (by simp)
     ·replace c5 := Bool.eq_false_iff.mpr c5
      subst c5
      have H1 : (some (-1)) = some r := by rw [if_neg (show ¬ (false = true) by decide)] at H; exact H
      clear H
      have H := H1
      clear H1
      obtain rfl := Option.some.inj H
      go_wp2
      go_ret
      exact ⟨by first | rfl | (simp; done) | (simp [*]; done), by repeat (first | exact Drawn0.refl _ | apply Drawn0.step)⟩

/-! ### spec_FlatOrder: function 76 -/
def spec_FlatOrder.f (k : Nat) (l0 : List Int) : Option (List Int) := (spec_TreeOk.f k l0).bind fun t400 => (if t400 = true then ((spec_RootOf.f k l0).bind fun t401 => ((spec_l8Walk.f k l0 t401).bind fun t402 => (some t402))) else (some (([] : List Int))))
theorem spec_FlatOrder.mono : ∀ a0 k, LeO (spec_FlatOrder.f k a0) (spec_FlatOrder.f (k + 1) a0) := by
 intro a0 k
 unfold spec_FlatOrder.f
 repeat' first
   | (with_reducible exact spec_RootOf.mono _ _)
   | (with_reducible exact spec_TreeOk.mono _ _)
   | (with_reducible exact spec_l8Walk.mono _ _ _)
   | (with_reducible exact LeO.refl _)
   | (with_reducible exact LeO.none _)
   | (with_reducible refine LeO.ite ?_ ?_)
   | (with_reducible refine LeO.bind ?_ (fun _ => ?_))
   | refine LeO.ite ?_ ?_
   | refine LeO.bind ?_ (fun _ => ?_)
set_option maxHeartbeats 8000000 in
set_option maxRecDepth 100000 in
theorem spec_FlatOrder.calls (k : Nat) (A0 : Option Addr) (c0 : Nat) (l0 : List Int) (r : List Int) (w : World) (hr0 : Kd.C (Kd.int .i64) w A0 l0.length l0) (hc0 : l0.length ≤ c0) (h : spec_FlatOrder.f k l0 = some r) :
  Calls Try.prog 76 #[.slice A0 l0.length c0] w fun e w' => ∃ v0_ : Value, e = .returned (v0_) ∧ Kd.R (Kd.int .i64) 3 w' w.heap.size (fun _ => True) v0_ r ∧ Below w.heap.size w w' := by
 have HR0 := zM hr0
 have HC0 := zM hc0
 clear hr0 hc0
 have HB := zM (Below.refl w.heap.size w)
 have H : ((spec_TreeOk.f k l0).bind fun t400 => (if t400 = true then ((spec_RootOf.f k l0).bind fun t401 => ((spec_l8Walk.f k l0 t401).bind fun t402 => (some t402))) else (some (([] : List Int))))) = some r := h
 clear h
 replace H := Option.bind_eq_some_iff.mp H
 obtain ⟨t400, A20, H⟩ := H
 replace H : (if t400 = true then ((spec_RootOf.f k l0).bind fun t401 => ((spec_l8Walk.f k l0 t401).bind fun t402 => (some t402))) else (some (([] : List Int)))) = some r := H
 have A2 := zM A20
 clear A20
 by_cases c3 : t400 = true
 ·subst c3
  have H1 : ((spec_RootOf.f k l0).bind fun t401 => ((spec_l8Walk.f k l0 t401).bind fun t402 => (some t402))) = some r := by rw [if_pos rfl] at H; exact H
  clear H
  have H := H1
  clear H1
  replace H := Option.bind_eq_some_iff.mp H
  obtain ⟨t401, A40, H⟩ := H
  replace H : ((spec_l8Walk.f k l0 t401).bind fun t402 => (some t402)) = some r := H
  have A4 := zM A40
  clear A40
  replace H := Option.bind_eq_some_iff.mp H
  obtain ⟨t402, A50, H⟩ := H
  replace H : (some t402) = some r := H
  have A5 := zM A50
  clear A50
  obtain rfl := Option.some.inj H
  go_enter Try.func76, Try.ntmps76
  go_wp2_with (first | ((with_reducible refine gate_callee (f := 74) rfl ?_); refine goesL_ (some 4) rfl rfl Try.func74 (by kernel_rfl) rfl #[.slice A0 l0.length c0] rfl (by (try simp only [List.map_toArray, List.map_cons, List.map_nil]); first | done | rfl | (simp only [List.length_drop, List.length_take]; rfl)) ?_; (with_reducible refine (spec_TreeOk.calls k _ _ l0 true _ ?side1 ?side2 A2.out).mono ?_); (case side1 => repeat (first | exact HR0.out | (with_reducible refine Kd.C_alloc ?_ _) | (with_reducible refine Kd.C_drewN ?_ _) | (with_reducible refine Kd.C_drew ?_))); (case side2 => exact HC0.out); rintro e w' ⟨rfl, ⟨nd, rfl⟩⟩; refine ⟨_, rfl, ?_⟩) | ((with_reducible refine gate_callee (f := 132) rfl ?_); refine goesL_ (some 9) rfl rfl Try.func132 (by kernel_rfl) rfl #[.slice A0 l0.length c0] rfl (by (try simp only [List.map_toArray, List.map_cons, List.map_nil]); first | done | rfl | (simp only [List.length_drop, List.length_take]; rfl)) ?_; (with_reducible refine (spec_RootOf.calls k _ _ l0 t401 _ ?side1 ?side2 A4.out).mono ?_); (case side1 => repeat (first | exact HR0.out | (with_reducible refine Kd.C_alloc ?_ _) | (with_reducible refine Kd.C_drewN ?_ _) | (with_reducible refine Kd.C_drew ?_))); (case side2 => exact HC0.out); rintro e w' ⟨rfl, ⟨nd, rfl⟩⟩; refine ⟨_, rfl, ?_⟩) | ((with_reducible refine gate_callee (f := 131) rfl ?_); refine goesL_ (some 10) rfl rfl Try.func131 (by kernel_rfl) rfl #[.slice A0 l0.length c0, .int .i64 t401] rfl (by (try simp only [List.map_toArray, List.map_cons, List.map_nil]); first | done | rfl | (simp only [List.length_drop, List.length_take]; rfl)) ?_; (with_reducible refine (spec_l8Walk.calls k _ _ l0 t401 t402 _ ?side1 ?side2 A5.out).mono ?_); (case side1 => repeat (first | exact HR0.out | (with_reducible refine Kd.C_alloc ?_ _) | (with_reducible refine Kd.C_drewN ?_ _) | (with_reducible refine Kd.C_drew ?_))); (case side2 => exact HC0.out); rintro e w6 ⟨v403, rfl, ho0, hb⟩; refine ⟨_, rfl, ?_⟩;have n0_:=zM (Kd.R_lower ho0 (below_size (by repeat (first | (with_reducible first | exact HB.out | apply zB | apply zA | apply zC) | exact HB.out))));have n1_:=zM (below_step (by repeat (first | (with_reducible first | exact HB.out | apply zB | apply zA | apply zC) | exact HB.out)) hb);clear HB; have HO404 := n0_; have HB := n1_; clear n0_ n1_; (try clear hb); (try clear hb2); (try clear hk); (try clear hi); (try clear ho0)))
  go_ret
  exact ⟨_, by first | rfl | (simp [errW_none, errW_some] <;> rfl) | (simp [*, errW_none, errW_some] <;> rfl), by exact HO404.out, by repeat (first | (with_reducible first | exact HB.out | apply zB | apply zA | apply zC) | exact HB.out)⟩
 ·replace c3 := Bool.eq_false_iff.mpr c3
  subst c3
  have H1 : (some (([] : List Int))) = some r := by rw [if_neg (show ¬ (false = true) by decide)] at H; exact H
  clear H
  have H := H1
  clear H1
  obtain ⟨y405, hy405⟩ : ∃ y_ : List Int, y_ = (([] : List Int)) := ⟨_, rfl⟩
  replace H : (some y405) = some r := by first | (rw [hy405]; with_reducible exact H) | (have H2_ := (Option.bind_some _ _).symm.trans H; rw [hy405]; with_reducible exact H2_) | (have H2_ := (Option.bind_some _ _).symm.trans H; with_reducible exact H2_) | with_reducible exact H | (rw [hy405]; exact H) | exact H
  have Ny405 := zM hy405
  clear hy405
  obtain rfl := Option.some.inj H
  go_enter Try.func76, Try.ntmps76
  go_wp2_with (first | ((with_reducible refine gate_callee (f := 74) rfl ?_); refine goesL_ (some 4) rfl rfl Try.func74 (by kernel_rfl) rfl #[.slice A0 l0.length c0] rfl (by (try simp only [List.map_toArray, List.map_cons, List.map_nil]); first | done | rfl | (simp only [List.length_drop, List.length_take]; rfl)) ?_; (with_reducible refine (spec_TreeOk.calls k _ _ l0 false _ ?side1 ?side2 A2.out).mono ?_); (case side1 => repeat (first | exact HR0.out | (with_reducible refine Kd.C_alloc ?_ _) | (with_reducible refine Kd.C_drewN ?_ _) | (with_reducible refine Kd.C_drew ?_))); (case side2 => exact HC0.out); rintro e w' ⟨rfl, ⟨nd, rfl⟩⟩; refine ⟨_, rfl, ?_⟩) | ((with_reducible refine gate_dst (N := 6) rfl ?_); refine Kd.R_lit (Kd.int .i64) _ 3 ?hg (N := 6) ?hd (xs := ([] : List Int)) (inner := []) (ok := fun _ => True) (okp := fun _ => True) ?hr ?hp (fun _ hk => hk) trivial (Below.refl _ _) (Nat.le_refl _) (by simp) ?_; (case hd => rfl);(case hg => rfl);(case hr => first | (go_simp; done) | (go_simp; rfl)); (case hp => exact (Reps.none _ _)); intro v406 w7 ho8 hb hg_ hnew_; clear hg_ hnew_; (first | rw [← Ny405.out] at ho8 | (simp only [Int.reduceToNat] at ho8; rw [← Ny405.out] at ho8));have n0_:=zM (Kd.R_lower ho8 (below_size (by repeat (first | (with_reducible first | exact HB.out | apply zB | apply zA | apply zC) | exact HB.out))));have n1_:=zM (below_step (by repeat (first | (with_reducible first | exact HB.out | apply zB | apply zA | apply zC) | exact HB.out)) hb);clear HB; have HO407 := n0_; have HB := n1_; clear n0_ n1_; clear hb ho8))
  go_ret
  exact ⟨_, by first | rfl | (simp [errW_none, errW_some] <;> rfl) | (simp [*, errW_none, errW_some] <;> rfl), by exact HO407.out, by repeat (first | (with_reducible first | exact HB.out | apply zB | apply zA | apply zC) | exact HB.out)⟩

/-! ### spec_MadeFlat: function 24 -/
def spec_MadeFlat.f (k : Nat) (l0 : List Int) : Option (List Int) := (spec_FlatOrder.f k l0).bind fun t408 => ((spec_PutInOrder.f k l0 t408).bind fun bt411 => (some bt411.1))
theorem spec_MadeFlat.mono : ∀ a0 k, LeO (spec_MadeFlat.f k a0) (spec_MadeFlat.f (k + 1) a0) := by
 intro a0 k
 unfold spec_MadeFlat.f
 repeat' first
   | (with_reducible exact spec_FlatOrder.mono _ _)
   | (with_reducible exact spec_PutInOrder.mono _ _ _)
   | (with_reducible exact LeO.refl _)
   | (with_reducible exact LeO.none _)
   | (with_reducible refine LeO.ite ?_ ?_)
   | (with_reducible refine LeO.bind ?_ (fun _ => ?_))
   | refine LeO.ite ?_ ?_
   | refine LeO.bind ?_ (fun _ => ?_)
set_option maxHeartbeats 8000000 in
set_option maxRecDepth 100000 in
theorem spec_MadeFlat.calls (k : Nat) (A0 : Option Addr) (c0 : Nat) (l0 : List Int) (r : List Int) (w : World) (hr0 : Kd.C (Kd.int .i64) w A0 l0.length l0) (hc0 : l0.length ≤ c0) (h : spec_MadeFlat.f k l0 = some r) :
  Calls Try.prog 24 #[.slice A0 l0.length c0] w fun e w' => ∃ v0_ : Value, e = .returned (v0_) ∧ Kd.R (Kd.int .i64) 3 w' w.heap.size (fun _ => True) v0_ r ∧ Below w.heap.size w w' := by
 have HR0 := zM hr0
 have HC0 := zM hc0
 clear hr0 hc0
 have HB := zM (Below.refl w.heap.size w)
 have H : ((spec_FlatOrder.f k l0).bind fun t408 => ((spec_PutInOrder.f k l0 t408).bind fun bt411 => (some bt411.1))) = some r := h
 clear h
 replace H := Option.bind_eq_some_iff.mp H
 obtain ⟨t408, A20, H⟩ := H
 replace H : ((spec_PutInOrder.f k l0 t408).bind fun bt411 => (some bt411.1)) = some r := H
 have A2 := zM A20
 clear A20
 replace H := Option.bind_eq_some_iff.mp H
 obtain ⟨⟨t411, t412⟩, A30, H⟩ := H
 replace H : (some t411) = some r := H
 have A3 := zM A30
 clear A30
 obtain rfl := Option.some.inj H
 go_enter Try.func24, Try.ntmps24
 go_wp2_with (first | ((with_reducible refine gate_callee (f := 76) rfl ?_); refine goesL_ (some 8) rfl rfl Try.func76 (by kernel_rfl) rfl #[.slice A0 l0.length c0] rfl (by (try simp only [List.map_toArray, List.map_cons, List.map_nil]); first | done | rfl | (simp only [List.length_drop, List.length_take]; rfl)) ?_; (with_reducible refine (spec_FlatOrder.calls k _ _ l0 t408 _ ?side1 ?side2 A2.out).mono ?_); (case side1 => repeat (first | exact HR0.out | (with_reducible refine Kd.C_alloc ?_ _) | (with_reducible refine Kd.C_drewN ?_ _) | (with_reducible refine Kd.C_drew ?_))); (case side2 => exact HC0.out); rintro e w4 ⟨v409, rfl, ho0, hb⟩; refine ⟨_, rfl, ?_⟩;have n0_:=zM (Kd.R_lower ho0 (below_size (by repeat (first | (with_reducible first | exact HB.out | apply zB | apply zA | apply zC) | exact HB.out))));have n1_:=zM (below_step (by repeat (first | (with_reducible first | exact HB.out | apply zB | apply zA | apply zC) | exact HB.out)) hb);clear HB; have HO410 := n0_; have HB := n1_; clear n0_ n1_; (try clear hb); (try clear hb2); (try clear hk); (try clear hi); (try clear ho0); obtain ⟨Ao5, co5, eo5⟩ := Kd.R_slice HO410.out; subst eo5) | ((with_reducible refine gate_callee (f := 79) rfl ?_); refine goesL_ (some 9) rfl rfl Try.func79 (by kernel_rfl) rfl #[.slice A0 l0.length c0, .slice Ao5 t408.length co5] rfl (by (try simp only [List.map_toArray, List.map_cons, List.map_nil]); first | done | rfl | (simp only [List.length_drop, List.length_take]; rfl)) ?_; (with_reducible refine (spec_PutInOrder.calls k _ _ l0 _ _ t408 t411 t412 _ ?side1 ?side2 ?side3 ?side4 A3.out).mono ?_); (case side1 => repeat (first | exact (Kd.C_below HR0.out HB.out) | (with_reducible refine Kd.C_alloc ?_ _) | (with_reducible refine Kd.C_drewN ?_ _) | (with_reducible refine Kd.C_drew ?_))); (case side2 => exact HC0.out); (case side3 => repeat (first | exact (Kd.R_reads' HO410.out).2.2 | (with_reducible refine Kd.C_alloc ?_ _) | (with_reducible refine Kd.C_drewN ?_ _) | (with_reducible refine Kd.C_drew ?_))); (case side4 => exact (Kd.R_reads' HO410.out).2.1); rintro e w6 ⟨v413, rfl, ho0, hb⟩; refine ⟨_, rfl, ?_⟩;have n0_:=zM (Kd.R_elder' (by exact HO410.out) (Kd.R_base ho0) hb);have n1_:=zM (Kd.R_lower (Kd.R_new' ho0 (Kd.R_lt (by exact HO410.out))) (below_size (by repeat (first | (with_reducible first | exact HB.out | apply zB | apply zA | apply zC) | exact HB.out))));have n2_:=zM (below_step (by repeat (first | (with_reducible first | exact HB.out | apply zB | apply zA | apply zC) | exact HB.out)) hb);clear HO410; clear HB; have HO410 := n0_; have HO414 := n1_; have HB := n2_; clear n0_ n1_ n2_; (try clear hb); (try clear hb2); (try clear hk); (try clear hi); (try clear ho0)))
 go_ret
 exact ⟨_, by first | rfl | (simp [errW_none, errW_some] <;> rfl) | (simp [*, errW_none, errW_some] <;> rfl), by exact Kd.R_mono HO414.out (fun _ hk => trivial), by repeat (first | (with_reducible first | exact HB.out | apply zB | apply zA | apply zC) | exact HB.out)⟩

/-! ### spec_BackOf: function 146 -/
mutual
def spec_BackOf.l0 : Nat → List Int → List Int → Int → Int → Option (List Int)
 | 0, _, _, _, _ => none
 | k + 1, x0, x3, x4, x5 => if x5 ≥ 0 then ((spec_TreeOk.f k x0).bind fun t418 => (spec_BackOf.j1 k x0 x3 x4 x5 t418)) else (spec_BackOf.j1 k x0 x3 x4 x5 false)
def spec_BackOf.j1 : Nat → List Int → List Int → Int → Int → Bool → Option (List Int)
 | 0, _, _, _, _, _ => none
 | k + 1, x0, x3, x4, x5, x16 => if x16 = true then (if 0 ≤ x5 then (if x5 < (x0.length : Int) then (if (rd x0 x5) = 0 then (if x3.length < 17592186044416 then (spec_BackOf.l0 k x0 (x3 ++ [0]) x4 (wrap64 (x5 - 1))) else (none)) else (if x3.length < 17592186044416 then (spec_BackOf.l0 k x0 (x3 ++ [wrap64 ((wrap64 (x4 + 1)) - (rd x0 x5))]) x4 (wrap64 (x5 - 1))) else (none))) else (none)) else (none)) else (some x3)
end
def spec_BackOf.f (k : Nat) (l0 : List Int) : Option (List Int) := spec_BackOf.l0 k l0 (([] : List Int)) (l0.length : Int) (wrap64 ((l0.length : Int) - 1))
theorem spec_BackOf.mono_l : ∀ k, (∀ y0 y1 y2 y3, LeO (spec_BackOf.l0 k y0 y1 y2 y3) (spec_BackOf.l0 (k + 1) y0 y1 y2 y3)) ∧ (∀ y0 y1 y2 y3 y4, LeO (spec_BackOf.j1 k y0 y1 y2 y3 y4) (spec_BackOf.j1 (k + 1) y0 y1 y2 y3 y4))
 | 0 => ⟨fun _ _ _ _ r h => by simp [spec_BackOf.l0] at h, fun _ _ _ _ _ r h => by simp [spec_BackOf.j1] at h⟩
 | k + 1 => by
  obtain ⟨ih0, ih1⟩ := spec_BackOf.mono_l k
  refine ⟨?_, ?_⟩
  ·intro y0 y1 y2 y3
   unfold spec_BackOf.l0
   repeat' first
   | (with_reducible exact ih0 _ _ _ _)
   | (with_reducible exact ih1 _ _ _ _ _)
   | (with_reducible exact spec_TreeOk.mono _ _)
   | (with_reducible exact LeO.refl _)
   | (with_reducible exact LeO.none _)
   | (with_reducible refine LeO.ite ?_ ?_)
   | (with_reducible refine LeO.bind ?_ (fun _ => ?_))
   | refine LeO.ite ?_ ?_
   | refine LeO.bind ?_ (fun _ => ?_)
  ·intro y0 y1 y2 y3 y4
   unfold spec_BackOf.j1
   repeat' first
   | (with_reducible exact ih0 _ _ _ _)
   | (with_reducible exact ih1 _ _ _ _ _)
   | (with_reducible exact spec_TreeOk.mono _ _)
   | (with_reducible exact LeO.refl _)
   | (with_reducible exact LeO.none _)
   | (with_reducible refine LeO.ite ?_ ?_)
   | (with_reducible refine LeO.bind ?_ (fun _ => ?_))
   | refine LeO.ite ?_ ?_
   | refine LeO.bind ?_ (fun _ => ?_)
theorem spec_BackOf.mono : ∀ a0 k, LeO (spec_BackOf.f k a0) (spec_BackOf.f (k + 1) a0) := by
 intro a0 k
 obtain ⟨ih0, ih1⟩ := spec_BackOf.mono_l k
 unfold spec_BackOf.f
 repeat' first
   | (with_reducible exact ih0 _ _ _ _)
   | (with_reducible exact ih1 _ _ _ _ _)
   | (with_reducible exact spec_TreeOk.mono _ _)
   | (with_reducible exact LeO.refl _)
   | (with_reducible exact LeO.none _)
   | (with_reducible refine LeO.ite ?_ ?_)
   | (with_reducible refine LeO.bind ?_ (fun _ => ?_))
   | refine LeO.ite ?_ ?_
   | refine LeO.bind ?_ (fun _ => ?_)
set_option maxHeartbeats 8000000 in
set_option maxRecDepth 100000 in
theorem spec_BackOf.calls (k : Nat) (A0 : Option Addr) (c0 : Nat) (l0 : List Int) (r : List Int) (w : World) (hr0 : Kd.C (Kd.int .i64) w A0 l0.length l0) (hc0 : l0.length ≤ c0) (h : spec_BackOf.f k l0 = some r) :
  Calls Try.prog 146 #[.slice A0 l0.length c0] w fun e w' => ∃ v0_ : Value, e = .returned (v0_) ∧ Kd.R (Kd.int .i64) 3 w' w.heap.size (fun _ => True) v0_ r ∧ Below w.heap.size w w' := by
 have HR0 := zM hr0
 have HC0 := zM hc0
 clear hr0 hc0
 have HB := zM (Below.refl w.heap.size w)
 have H : (spec_BackOf.l0 k l0 (([] : List Int)) (l0.length : Int) (wrap64 ((l0.length : Int) - 1))) = some r := h
 clear h
 obtain ⟨y415, hy415⟩ : ∃ y_ : List Int, y_ = (([] : List Int)) := ⟨_, rfl⟩
 replace H : (spec_BackOf.l0 k l0 y415 (l0.length : Int) (wrap64 ((l0.length : Int) - 1))) = some r := by first | (rw [hy415]; with_reducible exact H) | (have H2_ := (Option.bind_some _ _).symm.trans H; rw [hy415]; with_reducible exact H2_) | (have H2_ := (Option.bind_some _ _).symm.trans H; with_reducible exact H2_) | with_reducible exact H | (rw [hy415]; exact H) | exact H
 have Ny415 := zM hy415
 clear hy415
 have H' := zM H
 clear H
 go_enter Try.func146, Try.ntmps146
 go_wp2_with (first | ((with_reducible refine gate_dst (N := 6) rfl ?_); refine Kd.R_lit (Kd.int .i64) _ 3 ?hg (N := 6) ?hd (xs := ([] : List Int)) (inner := []) (ok := fun _ => True) (okp := fun _ => True) ?hr ?hp (fun _ hk => hk) trivial (Below.refl _ _) (Nat.le_refl _) (by simp) ?_; (case hd => rfl);(case hg => rfl);(case hr => first | (go_simp; done) | (go_simp; rfl)); (case hp => exact (Reps.none _ _)); intro v416 w2 ho3 hb hg_ hnew_; clear hg_ hnew_; (first | rw [← Ny415.out] at ho3 | (simp only [Int.reduceToNat] at ho3; rw [← Ny415.out] at ho3));have n0_:=zM (Kd.R_lower ho3 (below_size (by repeat (first | (with_reducible first | exact HB.out | apply zB | apply zA | apply zC) | exact HB.out))));have n1_:=zM (below_step (by repeat (first | (with_reducible first | exact HB.out | apply zB | apply zA | apply zC) | exact HB.out)) hb);clear HB; have HO417 := n0_; have HB := n1_; clear n0_ n1_; clear hb ho3))
 go_loopg [3, 5] k (fun kq v3 v5 w' => ∃ (x3_1 : List Int) (x5_1 : Int), v5 = .int .i64 x5_1 ∧ Aside0 (spec_BackOf.l0 kq l0 x3_1 (l0.length : Int) x5_1 = some r) ∧ Aside0 (kq ≤ k) ∧ Aside0 (Kd.R (Kd.int .i64) 3 w' w.heap.size (fun _ => True) v3 x3_1) ∧ Aside0 (Below w.heap.size w w'))
 case atStart => exact ⟨(y415), (wrap64 ((l0.length : Int) - 1)), (by first | rfl | (simp; done) | (simp [*]; done)), H', ⟨Nat.le_refl _⟩, ⟨by exact HO417.out⟩, ⟨by repeat (first | (with_reducible first | exact HB.out | apply zB | apply zA | apply zC) | exact HB.out)⟩⟩
 case round =>
  clear H'
  try clear c1
  try clear p2
  obtain ⟨x3_1, x5_1, rfl, HA, HK1, HO_3, HB⟩ := hrel
  cases gk with
  | zero => exact absurd HA.out (by simp [spec_BackOf.l0])
  | succ k1 =>
   have H := HA.out
   clear HA
   simp only [spec_BackOf.l0] at H
   have HC4 := zM H
   clear H
   go_upto_region 4 with (fail)
   go_cut [16] (fun v16 wc => ∃ (kq : Nat) (x16_3 : Bool), v16 = .bool x16_3 ∧ Aside0 (spec_BackOf.j1 kq l0 x3_1 (l0.length : Int) x5_1 x16_3 = some r) ∧ Aside0 (kq ≤ k1) ∧ Aside0 (Kd.R (Kd.int .i64) 3 wc w.heap.size (fun _ => True) u3 x3_1) ∧ Aside0 (Below w.heap.size w wc))
   case first =>
    have H := HC4.out
    clear HC4
    by_cases c5 : x5_1 ≥ 0
    ·rw [if_pos c5] at H
     have c5b0 : decide (0 ≤ x5_1) = true := decide_eq_true c5
     clear c5
     (first | rw [c5b0] | (simp only [i64_w, i32_w]; rw [c5b0]) | skip)
     replace H := Option.bind_eq_some_iff.mp H
     obtain ⟨t418, A60, H⟩ := H
     replace H : (spec_BackOf.j1 k1 l0 x3_1 (l0.length : Int) x5_1 t418) = some r := H
     have A6 := zM A60
     clear A60
     have H' := zM H
     clear H
     go_wp2_with (first | (go_at_call 74; (with_reducible refine (spec_TreeOk.calls k1 _ _ l0 t418 _ ?side1 ?side2 A6.out).mono ?_); (case side1 => repeat (first | exact (Kd.C_below HR0.out HB.out) | (with_reducible refine Kd.C_alloc ?_ _) | (with_reducible refine Kd.C_drewN ?_ _) | (with_reducible refine Kd.C_drew ?_))); (case side2 => exact HC0.out); rintro e w' ⟨rfl, ⟨nd, rfl⟩⟩))
     go_meet
     case rel => exact ⟨_, (t418), (by first | rfl | (simp; done) | (simp [*]; done)), H', ⟨by have := HK1.out; first | omega | exact Nat.le_refl _⟩, ⟨by exact HO_3.out⟩, ⟨by repeat (first | (with_reducible first | exact HB.out | apply zB | apply zA | apply zC) | exact HB.out)⟩⟩
    ·rw [if_neg c5] at H
     have c5b0 : decide (0 ≤ x5_1) = false := decide_eq_false c5
     clear c5
     (first | rw [c5b0] | (simp only [i64_w, i32_w]; rw [c5b0]) | skip)
     have H' := zM H
     clear H
     go_wp2
     go_meet
     case rel => exact ⟨_, (false), (by first | rfl | (simp; done) | (simp [*]; done)), H', ⟨by have := HK1.out; first | omega | exact Nat.le_refl _⟩, ⟨by exact HO_3.out⟩, ⟨by repeat (first | (with_reducible first | exact HB.out | apply zB | apply zA | apply zC) | exact HB.out)⟩⟩
   case rest =>
    clear HC4
    try clear c1
    try clear p2
    try clear c5
    try clear c5b0
    try clear p6
    try clear p2
    obtain ⟨kq, x16_3, rfl, HA, HJ3, HO_3, HB⟩ := hcut
    cases kq with
    | zero => exact absurd HA.out (by simp [spec_BackOf.j1])
    | succ kj3 =>
     have H := HA.out
     clear HA
     simp only [spec_BackOf.j1] at H
     by_cases c7 : x16_3 = true
     ·subst c7
      have H1 : (if 0 ≤ x5_1 then (if x5_1 < (l0.length : Int) then (if (rd l0 x5_1) = 0 then (if x3_1.length < 17592186044416 then (spec_BackOf.l0 kj3 l0 (x3_1 ++ [0]) (l0.length : Int) (wrap64 (x5_1 - 1))) else (none)) else (if x3_1.length < 17592186044416 then (spec_BackOf.l0 kj3 l0 (x3_1 ++ [wrap64 ((wrap64 ((l0.length : Int) + 1)) - (rd l0 x5_1))]) (l0.length : Int) (wrap64 (x5_1 - 1))) else (none))) else (none)) else (none)) = some r := by rw [if_pos rfl] at H; exact H
      clear H
      have H := H1
      clear H1
      by_cases c8 : 0 ≤ x5_1
      ·rw [if_pos c8] at H
       have c8b0 : decide (0 ≤ x5_1) = true := decide_eq_true c8
       clear c8
       by_cases c9 : x5_1 < (l0.length : Int)
       ·rw [if_pos c9] at H
        have c9b0 : decide (x5_1 < (l0.length : Int)) = true := decide_eq_true c9
        clear c9
        by_cases c10 : (rd l0 x5_1) = 0
        ·rw [if_pos c10] at H
         have c10b0 : ((rd l0 x5_1) == 0) = true := beq_iff_eq.mpr c10
         have c10b1 : ((rd l0 x5_1) != 0) = false := bne_eq_false_iff_eq.mpr c10
         clear c10
         by_cases c11 : x3_1.length < 17592186044416
         ·rw [if_pos c11] at H
          have LMc11 := zM c11
          clear c11
          obtain ⟨y420, hy420⟩ : ∃ y_ : List Int, y_ = (x3_1 ++ [0]) := ⟨_, rfl⟩
          replace H : (spec_BackOf.l0 kj3 l0 y420 (l0.length : Int) (wrap64 (x5_1 - 1))) = some r := by first | (rw [hy420]; with_reducible exact H) | (have H2_ := (Option.bind_some _ _).symm.trans H; rw [hy420]; with_reducible exact H2_) | (have H2_ := (Option.bind_some _ _).symm.trans H; with_reducible exact H2_) | with_reducible exact H | (rw [hy420]; exact H) | exact H
          have Ny420 := zM hy420
          clear hy420
          have H' := zM H
          clear H
          have p419 : 0 ≤ (x5_1 : Int) := of_decide_eq_true (by first | (with_reducible assumption) | assumption)
          have q419 : x5_1 < (l0.length : Int) := of_decide_eq_true (by first | (with_reducible assumption) | assumption)
          obtain ⟨ad419, e419, hx419_0⟩ := Kd.at_int HR0.out x5_1 p419 q419
          cases e419
          replace hx419_0 := (HB.out.cell (World.block_lt_of_cell? w _ hx419_0)).trans hx419_0
          replace p419 := eq_true p419
          replace q419 := eq_true q419
          go_wp2_with (first | ((with_reducible refine gate_builtin (b := .append) (xs := #[.tmp 24, .tmp 25]) rfl ?_); at_builtin; refine Kd.R_append (Kd.int .i64) (w0 := w) w.heap.size rfl (.tmp 24) (.tmp 25) 23 3 (.int .i64 0) 8 rfl Try.underlying23 info3 rfl (by decide) (by omega) u3 x3_1 0 [.int .i64 0] (fun _ => True) (fun _ => False) rfl rfl ?aP (fun _ hk => hk.elim) ?aF ?aO ?aB ?aS ?aL ?_; (case aP => exact rfl); (case aB => exact (by repeat (first | (with_reducible first | exact HB.out | apply zB | apply zA | apply zC) | exact HB.out))); (case aF => exact (fun _ _ => trivial)); (case aO => exact (by exact HO_3.out)); (case aS => exact (below_size (by repeat (first | (with_reducible first | exact HB.out | apply zB | apply zA | apply zC) | exact HB.out)))); (case aL => have := LMc11.out; omega); intro v421 w12 ho hb hg hat; rw [← Ny420.out] at ho;have n0_:=zM (hb);have n1_:=zM (ho);clear HB; clear HO_3; have HB := n0_; have HO422 := n1_; clear n0_ n1_; clear ho hb hg hat))
          go_roundg kj3
          case measure => have := HK1.out; have := HJ3.out; omega
          case rel => exact ⟨(y420), (wrap64 (x5_1 - 1)), (by first | rfl | (simp; done) | (simp [*]; done)), H', ⟨by have := HK1.out; have := HJ3.out; omega⟩, ⟨by exact HO422.out⟩, ⟨by repeat (first | (with_reducible first | exact HB.out | apply zB | apply zA | apply zC) | exact HB.out)⟩⟩
         ·rw [if_neg c11] at H
          exact absurd H (by simp)
        ·rw [if_neg c10] at H
         have c10b0 : ((rd l0 x5_1) == 0) = false := beq_eq_false_iff_ne.mpr c10
         have c10b1 : ((rd l0 x5_1) != 0) = true := bne_iff_ne.mpr c10
         by_cases c13 : x3_1.length < 17592186044416
         ·rw [if_pos c13] at H
          have LMc13 := zM c13
          clear c13
          obtain ⟨y424, hy424⟩ : ∃ y_ : List Int, y_ = (x3_1 ++ [wrap64 ((wrap64 ((l0.length : Int) + 1)) - (rd l0 x5_1))]) := ⟨_, rfl⟩
          replace H : (spec_BackOf.l0 kj3 l0 y424 (l0.length : Int) (wrap64 (x5_1 - 1))) = some r := by first | (rw [hy424]; with_reducible exact H) | (have H2_ := (Option.bind_some _ _).symm.trans H; rw [hy424]; with_reducible exact H2_) | (have H2_ := (Option.bind_some _ _).symm.trans H; with_reducible exact H2_) | with_reducible exact H | (rw [hy424]; exact H) | exact H
          have Ny424 := zM hy424
          clear hy424
          have H' := zM H
          clear H
          have p419 : 0 ≤ (x5_1 : Int) := of_decide_eq_true (by first | (with_reducible assumption) | assumption)
          have q419 : x5_1 < (l0.length : Int) := of_decide_eq_true (by first | (with_reducible assumption) | assumption)
          obtain ⟨ad419, e419, hx419_0⟩ := Kd.at_int HR0.out x5_1 p419 q419
          cases e419
          replace hx419_0 := (HB.out.cell (World.block_lt_of_cell? w _ hx419_0)).trans hx419_0
          replace p419 := eq_true p419
          replace q419 := eq_true q419
          have p423 : 0 ≤ (x5_1 : Int) := of_decide_eq_true (by first | (with_reducible assumption) | assumption)
          have q423 : x5_1 < (l0.length : Int) := of_decide_eq_true (by first | (with_reducible assumption) | assumption)
          obtain ⟨ad423, e423, hx423_0⟩ := Kd.at_int HR0.out x5_1 p423 q423
          obtain rfl : ad419 = ad423 := (by injection e423)
          replace hx423_0 := (HB.out.cell (World.block_lt_of_cell? w _ hx423_0)).trans hx423_0
          replace p423 := eq_true p423
          replace q423 := eq_true q423
          go_wp2_with (first | ((with_reducible refine gate_builtin (b := .append) (xs := #[.tmp 27, .tmp 35]) rfl ?_); at_builtin; refine Kd.R_append (Kd.int .i64) (w0 := w) w.heap.size rfl (.tmp 27) (.tmp 35) 23 3 (.int .i64 0) 8 rfl Try.underlying23 info3 rfl (by decide) (by omega) u3 x3_1 (wrap64 ((wrap64 ((l0.length : Int) + 1)) - (rd l0 x5_1))) [.int .i64 (wrap64 ((wrap64 ((l0.length : Int) + 1)) - (rd l0 x5_1)))] (fun _ => True) (fun _ => False) rfl rfl ?aP (fun _ hk => hk.elim) ?aF ?aO ?aB ?aS ?aL ?_; (case aP => exact rfl); (case aB => exact (by repeat (first | (with_reducible first | exact HB.out | apply zB | apply zA | apply zC) | exact HB.out))); (case aF => exact (fun _ _ => trivial)); (case aO => exact (by exact HO_3.out)); (case aS => exact (below_size (by repeat (first | (with_reducible first | exact HB.out | apply zB | apply zA | apply zC) | exact HB.out)))); (case aL => have := LMc13.out; omega); intro v425 w14 ho hb hg hat; rw [← Ny424.out] at ho;have n0_:=zM (hb);have n1_:=zM (ho);clear HB; clear HO_3; have HB := n0_; have HO426 := n1_; clear n0_ n1_; clear ho hb hg hat))
          go_roundg kj3
          case measure => have := HK1.out; have := HJ3.out; omega
          case rel => exact ⟨(y424), (wrap64 (x5_1 - 1)), (by first | rfl | (simp; done) | (simp [*]; done)), H', ⟨by have := HK1.out; have := HJ3.out; omega⟩, ⟨by exact HO426.out⟩, ⟨by repeat (first | (with_reducible first | exact HB.out | apply zB | apply zA | apply zC) | exact HB.out)⟩⟩
         ·rw [if_neg c13] at H
          exact absurd H (by simp)
       ·rw [if_neg c9] at H
        exact absurd H (by simp)
      ·rw [if_neg c8] at H
       exact absurd H (by simp)
     ·replace c7 := Bool.eq_false_iff.mpr c7
      subst c7
      have H1 : (some x3_1) = some r := by rw [if_neg (show ¬ (false = true) by decide)] at H; exact H
      clear H
      have H := H1
      clear H1
      obtain rfl := Option.some.inj H
      go_wp2
      go_ret
      exact ⟨_, by first | rfl | (simp [errW_none, errW_some] <;> rfl) | (simp [*, errW_none, errW_some] <;> rfl), by exact HO_3.out, by repeat (first | (with_reducible first | exact HB.out | apply zB | apply zA | apply zC) | exact HB.out)⟩

/-! ### spec_l12Made: function 117 -/
def spec_l12Made.j0 : Nat → List Int → List Int → Bool → Int → Int → Int → Option (List Int)
 | 0, _, _, _, _, _, _ => none
 | k + 1, x0, x5, x9, x428000, x428001, x428002 => if x9 = true then (if 0 ≤ (wrap64 (x428001 - 1)) then (if (wrap64 (x428001 - 1)) < (x5.length : Int) then (some (x5.set ((wrap64 (x428001 - 1)) : Int).toNat x428002)) else (none)) else (none)) else (if (x428000 == 1 && (x428002 == 0)) = true then (if x5.length < 17592186044416 then (some (x5 ++ [x428001])) else (none)) else (if (x428000 == 2 && (x428001 == 0 && (x428002 == 0))) = true then (if 0 ≤ (wrap64 ((x5.length : Int) - 1)) then (if (wrap64 ((x5.length : Int) - 1)) ≤ (x5.length : Int) then (some (x5.take ((wrap64 ((x5.length : Int) - 1)) : Int).toNat)) else (none)) else (none)) else (if (x428000 == 3 && (x428001 == 0 && (x428002 == 0))) = true then ((spec_BackOf.f k x0).bind fun t442 => (some t442)) else (if (x428000 == 4 && (x428001 == 0 && (x428002 == 0))) = true then ((spec_MadeFlat.f k x0).bind fun t445 => (some t445)) else (some (([] : List Int)))))))
def spec_l12Made.f (k : Nat) (l0 : List Int) (a1_0 : Int) (a1_1 : Int) (a1_2 : Int) : Option (List Int) := (some (([] : List Int) : List Int)).bind fun y428 => (if y428.length + l0.length < 17592186044416 then ((some (y428 ++ l0 : List Int)).bind fun y431 => (if a1_0 = 0 then ((spec_l1In.f a1_1 1 (l0.length : Int)).bind fun t434 => (spec_l12Made.j0 k l0 y431 t434 a1_0 a1_1 a1_2)) else (spec_l12Made.j0 k l0 y431 false a1_0 a1_1 a1_2))) else (none))
theorem spec_l12Made.mono_l : ∀ k, (∀ y0 y1 y2 y3 y4 y5, LeO (spec_l12Made.j0 k y0 y1 y2 y3 y4 y5) (spec_l12Made.j0 (k + 1) y0 y1 y2 y3 y4 y5))
 | 0 => fun _ _ _ _ _ _ r h => by simp [spec_l12Made.j0] at h
 | k + 1 => by
  have ih0 := spec_l12Made.mono_l k
  ·intro y0 y1 y2 y3 y4 y5
   unfold spec_l12Made.j0
   repeat' first
   | (with_reducible exact ih0 _ _ _ _ _ _)
   | (with_reducible exact spec_BackOf.mono _ _)
   | (with_reducible exact spec_MadeFlat.mono _ _)
   | (with_reducible exact LeO.refl _)
   | (with_reducible exact LeO.none _)
   | (with_reducible refine LeO.ite ?_ ?_)
   | (with_reducible refine LeO.bind ?_ (fun _ => ?_))
   | refine LeO.ite ?_ ?_
   | refine LeO.bind ?_ (fun _ => ?_)
theorem spec_l12Made.mono : ∀ a0 a1 a2 a3 k, LeO (spec_l12Made.f k a0 a1 a2 a3) (spec_l12Made.f (k + 1) a0 a1 a2 a3) := by
 intro a0 a1 a2 a3 k
 have ih0 := spec_l12Made.mono_l k
 unfold spec_l12Made.f
 repeat' first
   | (with_reducible exact ih0 _ _ _ _ _ _)
   | (with_reducible exact spec_BackOf.mono _ _)
   | (with_reducible exact spec_MadeFlat.mono _ _)
   | (with_reducible exact LeO.refl _)
   | (with_reducible exact LeO.none _)
   | (with_reducible refine LeO.ite ?_ ?_)
   | (with_reducible refine LeO.bind ?_ (fun _ => ?_))
   | refine LeO.ite ?_ ?_
   | refine LeO.bind ?_ (fun _ => ?_)
set_option maxHeartbeats 8000000 in
set_option maxRecDepth 100000 in
theorem spec_l12Made.calls (k : Nat) (A0 : Option Addr) (c0 : Nat) (l0 : List Int) (a1_0 : Int) (a1_1 : Int) (a1_2 : Int) (r : List Int) (w : World) (hr0 : Kd.C (Kd.int .i64) w A0 l0.length l0) (hc0 : l0.length ≤ c0) (h : spec_l12Made.f k l0 a1_0 a1_1 a1_2 = some r) :
  Calls Try.prog 117 #[.slice A0 l0.length c0, .agg #[.int .i64 a1_0, .int .i64 a1_1, .int .i64 a1_2]] w fun e w' => ∃ v0_ : Value, e = .returned (v0_) ∧ Kd.R (Kd.int .i64) 3 w' w.heap.size (fun _ => True) v0_ r ∧ Below w.heap.size w w' := by
 have hu65 := Try.underlying65
 have HR0 := zM hr0
 have HC0 := zM hc0
 clear hr0 hc0
 have HB := zM (Below.refl w.heap.size w)
 have H : ((some (([] : List Int) : List Int)).bind fun y428 => (if y428.length + l0.length < 17592186044416 then ((some (y428 ++ l0 : List Int)).bind fun y431 => (if a1_0 = 0 then ((spec_l1In.f a1_1 1 (l0.length : Int)).bind fun t434 => (spec_l12Made.j0 k l0 y431 t434 a1_0 a1_1 a1_2)) else (spec_l12Made.j0 k l0 y431 false a1_0 a1_1 a1_2))) else (none))) = some r := h
 clear h
 obtain ⟨y428, hy428⟩ : ∃ y_ : List Int, y_ = (([] : List Int)) := ⟨_, rfl⟩
 replace H : (if y428.length + l0.length < 17592186044416 then ((some (y428 ++ l0 : List Int)).bind fun y431 => (if a1_0 = 0 then ((spec_l1In.f a1_1 1 (l0.length : Int)).bind fun t434 => (spec_l12Made.j0 k l0 y431 t434 a1_0 a1_1 a1_2)) else (spec_l12Made.j0 k l0 y431 false a1_0 a1_1 a1_2))) else (none)) = some r := by first | (rw [hy428]; with_reducible exact H) | (have H2_ := (Option.bind_some _ _).symm.trans H; rw [hy428]; with_reducible exact H2_) | (have H2_ := (Option.bind_some _ _).symm.trans H; with_reducible exact H2_) | with_reducible exact H | (rw [hy428]; exact H) | exact H
 have Ny428 := zM hy428
 clear hy428
 by_cases c3 : y428.length + l0.length < 17592186044416
 ·rw [if_pos c3] at H
  have LMc3 := zM c3
  clear c3
  obtain ⟨y431, hy431⟩ : ∃ y_ : List Int, y_ = (y428 ++ l0) := ⟨_, rfl⟩
  replace H : (if a1_0 = 0 then ((spec_l1In.f a1_1 1 (l0.length : Int)).bind fun t434 => (spec_l12Made.j0 k l0 y431 t434 a1_0 a1_1 a1_2)) else (spec_l12Made.j0 k l0 y431 false a1_0 a1_1 a1_2)) = some r := by first | (rw [hy431]; with_reducible exact H) | (have H2_ := (Option.bind_some _ _).symm.trans H; rw [hy431]; with_reducible exact H2_) | (have H2_ := (Option.bind_some _ _).symm.trans H; with_reducible exact H2_) | with_reducible exact H | (rw [hy431]; exact H) | exact H
  have Ny431 := zM hy431
  clear hy431
  have HC4 := zM H
  clear H
  go_enter Try.func117, Try.ntmps117
  go_upto_region 2 with (first | ((with_reducible refine gate_dst (N := 3) rfl ?_); (try (refine gate_guard (by rfl) ?_; dsimp only)); refine box_event ?hg (N := 3) ?hd (cs := #[.int .i64 a1_0, .int .i64 a1_1, .int .i64 a1_2]) (t := 65) ?hr ?_; (case hd => rfl);(case hg => rfl);(case hr => first | (go_simp; done) | (go_simp; rfl)); intro gb427 hg w5 hbox hb;have n0_:=zM (below_step (by repeat (first | (with_reducible first | exact HB.out | apply zB | apply zA | apply zC) | exact HB.out)) hb);have n1_:=zM (hbox);have n2_:=zM ((by rw [hg]; exact (below_size (by repeat (first | (with_reducible first | exact HB.out | apply zB | apply zA | apply zC) | exact HB.out))) : w.heap.size ≤ gb427));have n3_:=zM ((by rw [hg]; exact (below_size (by repeat (first | (with_reducible first | exact HB.out | apply zB | apply zA | apply zC) | exact HB.out))) : w.heap.size ≤ gb427));clear HB; have HB := n0_; have BK427 := n1_; have GW427 := n2_; have GE427 := n3_; clear n0_ n1_ n2_ n3_; clear hb hbox hg) | ((with_reducible refine gate_dst (N := 6) rfl ?_); (try (refine gate_guard (by rfl) ?_; dsimp only)); refine Kd.R_lit (Kd.int .i64) _ 3 ?hg (N := 6) ?hd (xs := ([] : List Int)) (inner := []) (ok := fun _ => True) (okp := fun _ => True) ?hr ?hp (fun _ hk => hk) trivial (Below.refl _ _) (Nat.le_refl _) (by simp) ?_; (case hd => rfl);(case hg => rfl);(case hr => first | (go_simp; done) | (go_simp; rfl)); (case hp => exact (Reps.none _ _)); intro v429 w6 ho7 hb hg_ hnew_; clear hg_ hnew_; (first | rw [← Ny428.out] at ho7 | (simp only [Int.reduceToNat] at ho7; rw [← Ny428.out] at ho7));have n0_:=zM (Kd.R_lower ho7 (below_size (by repeat (first | (with_reducible first | exact HB.out | apply zB | apply zA | apply zC | refine zD ?_ GE427.out) | exact HB.out))));have n1_:=zM (blk_below (g := gb427) (o := .cells #[.int .i64 a1_0, .int .i64 a1_1, .int .i64 a1_2] 65 (0, 0)) (by exact BK427.out) hb);have n2_:=zM (below_step (by repeat (first | (with_reducible first | exact HB.out | apply zB | apply zA | apply zC | refine zD ?_ GE427.out) | exact HB.out)) hb);clear BK427; clear HB; have HO430 := n0_; have BK427 := n1_; have HB := n2_; clear n0_ n1_ n2_; clear hb ho7) | ((with_reducible refine gate_builtin (b := .append) (xs := #[.tmp 6, .tmp 7]) rfl ?_); (try (refine gate_guard (by rfl) ?_; dsimp only)); at_builtin; refine Kd.R_append_rows (Kd.int .i64) (w0 := w) w.heap.size rfl (.tmp 6) (.tmp 7) 23 3 (.int .i64 0) 8 rfl Try.underlying23 info3 rfl (by decide) (by omega) v429 y428 l0 _ _ _ (fun _ => True) (fun _ => False) rfl rfl ?aO ?aR (fun _ _ h => h) (fun _ h => h.elim) ?aF ?aB ?aS ?aL ?_; (case aR => repeat (first | exact (Kd.C_below HR0.out HB.out) | (with_reducible refine Kd.C_alloc ?_ _) | (with_reducible refine Kd.C_drewN ?_ _) | (with_reducible refine Kd.C_drew ?_))); (case aB => exact (by repeat (first | (with_reducible first | exact HB.out | apply zB | apply zA | apply zC | refine zD ?_ GE427.out) | exact HB.out))); (case aF => exact (fun _ _ => trivial)); (case aO => exact (by exact HO430.out)); (case aS => exact (below_size (by repeat (first | (with_reducible first | exact HB.out | apply zB | apply zA | apply zC | refine zD ?_ GE427.out) | exact HB.out)))); (case aL => have := LMc3.out; omega); intro v432 w8 ho hb hg hat; rw [← Ny431.out] at ho;have n0_:=zM (blk_grown (g := gb427) (o := .cells #[.int .i64 a1_0, .int .i64 a1_1, .int .i64 a1_2] 65 (0, 0)) (by exact BK427.out) hg (Kd.R_ne HO430.out BK427.out (by decide)));have n1_:=zM (hb);have n2_:=zM (ho);clear BK427; clear HB;clear HO430; have BK427 := n0_; have HB := n1_; have HO433 := n2_; clear n0_ n1_ n2_; clear ho hb hg hat))
  (try simp only [Act.put, zE, zF, zG])
  go_cut [9] (fun v9 wc => ∃ (kq : Nat) (x9_3 : Bool), v9 = .bool x9_3 ∧ Aside0 (spec_l12Made.j0 kq l0 y431 x9_3 a1_0 a1_1 a1_2 = some r) ∧ Aside0 (kq ≤ k) ∧ Aside0 (Kd.R (Kd.int .i64) 3 wc w.heap.size (fun _ => True) v432 y431) ∧ Aside0 (wc.heap[gb427]? = some (.cells #[.int .i64 a1_0, .int .i64 a1_1, .int .i64 a1_2] 65 (0, 0))) ∧ Aside0 (Below w.heap.size w wc))
  case first =>
   have H := HC4.out
   clear HC4
   by_cases c9 : a1_0 = 0
   ·rw [if_pos c9] at H
    have c9b0 : (a1_0 == 0) = true := beq_iff_eq.mpr c9
    have c9b1 : (a1_0 != 0) = false := bne_eq_false_iff_eq.mpr c9
    clear c9
    (first | rw [c9b0] | (simp only [i64_w, i32_w]; rw [c9b0]) | skip)
    replace H := Option.bind_eq_some_iff.mp H
    obtain ⟨t434, A100, H⟩ := H
    replace H : (spec_l12Made.j0 k l0 y431 t434 a1_0 a1_1 a1_2) = some r := H
    have A10 := zM A100
    clear A100
    have H' := zM H
    clear H
    have hcz11_0 : w8.cell? ⟨gb427, 0, none⟩ = some (.int .i64 a1_0) := (blk_cell BK427.out 0).trans rfl
    have hcz11_1 : w8.cell? ⟨gb427, 1, none⟩ = some (.int .i64 a1_1) := (blk_cell BK427.out 1).trans rfl
    have hcz11_2 : w8.cell? ⟨gb427, 2, none⟩ = some (.int .i64 a1_2) := (blk_cell BK427.out 2).trans rfl
    have hfz11_0 := blk_frozen BK427.out 0
    have hfz11_1 := blk_frozen BK427.out 1
    have hfz11_2 := blk_frozen BK427.out 2
    go_wp2_with (first | (go_at_call 98; (with_reducible refine (spec_l1In.calls a1_1 1 (l0.length : Int) t434 _ A10.out).mono ?_); rintro e w' ⟨rfl, ⟨nd, rfl⟩⟩))
    go_meet
    case rel => exact ⟨_, (t434), (by first | rfl | (simp; done) | (simp [*]; done)), H', ⟨by first | omega | exact Nat.le_refl _⟩, ⟨by exact HO433.out⟩, ⟨by exact BK427.out⟩, ⟨by repeat (first | (with_reducible first | exact HB.out | apply zB | apply zA | apply zC | refine zD ?_ GE427.out) | exact HB.out)⟩⟩
   ·rw [if_neg c9] at H
    have c9b0 : (a1_0 == 0) = false := beq_eq_false_iff_ne.mpr c9
    have c9b1 : (a1_0 != 0) = true := bne_iff_ne.mpr c9
    (first | rw [c9b0] | (simp only [i64_w, i32_w]; rw [c9b0]) | skip)
    have H' := zM H
    clear H
    have hcz12_0 : w8.cell? ⟨gb427, 0, none⟩ = some (.int .i64 a1_0) := (blk_cell BK427.out 0).trans rfl
    have hcz12_1 : w8.cell? ⟨gb427, 1, none⟩ = some (.int .i64 a1_1) := (blk_cell BK427.out 1).trans rfl
    have hcz12_2 : w8.cell? ⟨gb427, 2, none⟩ = some (.int .i64 a1_2) := (blk_cell BK427.out 2).trans rfl
    have hfz12_0 := blk_frozen BK427.out 0
    have hfz12_1 := blk_frozen BK427.out 1
    have hfz12_2 := blk_frozen BK427.out 2
    go_wp2
    go_meet
    case rel => exact ⟨_, (false), (by first | rfl | (simp; done) | (simp [*]; done)), H', ⟨by first | omega | exact Nat.le_refl _⟩, ⟨by exact HO433.out⟩, ⟨by exact BK427.out⟩, ⟨by repeat (first | (with_reducible first | exact HB.out | apply zB | apply zA | apply zC | refine zD ?_ GE427.out) | exact HB.out)⟩⟩
  case rest =>
   clear HC4
   try clear c1
   try clear p2
   try clear c3
   try clear c9
   try clear c9b0
   try clear c9b1
   try clear c11
   try clear hcz11_0
   try clear hcz11_1
   try clear hcz11_2
   try clear hcz12_0
   try clear hcz12_1
   try clear hcz12_2
   try clear hfz11_0
   try clear hfz11_1
   try clear hfz11_2
   try clear hfz12_0
   try clear hfz12_1
   try clear hfz12_2
   obtain ⟨kq, x9_3, rfl, HA, HJ3, HO_5, BK427, HB⟩ := hcut
   cases kq with
   | zero => exact absurd HA.out (by simp [spec_l12Made.j0])
   | succ kj3 =>
    have H := HA.out
    clear HA
    simp only [spec_l12Made.j0] at H
    by_cases c13 : x9_3 = true
    ·subst c13
     have H1 : (if 0 ≤ (wrap64 (a1_1 - 1)) then (if (wrap64 (a1_1 - 1)) < (y431.length : Int) then (some (y431.set ((wrap64 (a1_1 - 1)) : Int).toNat a1_2)) else (none)) else (none)) = some r := by rw [if_pos rfl] at H; exact H
     clear H
     have H := H1
     clear H1
     obtain ⟨ji14, hji14⟩ : ∃ j_ : Int, (wrap64 (a1_1 - 1)) = j_ := ⟨_, rfl⟩
     replace H : (if 0 ≤ (ji14) then (if (ji14) < (y431.length : Int) then (some (y431.set ((ji14) : Int).toNat a1_2)) else (none)) else (none)) = some r := by first | (rw [hji14] at H; exact H) | (simp only [hji14] at H ⊢; exact H)
     have hji14w : (IntKind.i64.wrap (a1_1 - 1)) = ji14 := (i64_w _).trans hji14
     by_cases c15 : 0 ≤ (ji14)
     ·rw [if_pos c15] at H
      have c15b0 : decide (0 ≤ (ji14)) = true := decide_eq_true c15
      clear c15
      by_cases c16 : (ji14) < (y431.length : Int)
      ·rw [if_pos c16] at H
       have c16b0 : decide ((ji14) < (y431.length : Int)) = true := decide_eq_true c16
       clear c16
       obtain ⟨y435, hy435⟩ : ∃ y_ : List Int, y_ = (y431.set ((ji14) : Int).toNat a1_2) := ⟨_, rfl⟩
       replace H : (some y435) = some r := by first | (rw [hy435]; with_reducible exact H) | (have H2_ := (Option.bind_some _ _).symm.trans H; rw [hy435]; with_reducible exact H2_) | (have H2_ := (Option.bind_some _ _).symm.trans H; with_reducible exact H2_) | with_reducible exact H | (rw [hy435]; exact H) | exact H
       have Ny435 := zM hy435
       clear hy435
       obtain rfl := Option.some.inj H
       have hcz18_0 : wc.cell? ⟨gb427, 0, none⟩ = some (.int .i64 a1_0) := (blk_cell BK427.out 0).trans rfl
       have hcz18_1 : wc.cell? ⟨gb427, 1, none⟩ = some (.int .i64 a1_1) := (blk_cell BK427.out 1).trans rfl
       have hcz18_2 : wc.cell? ⟨gb427, 2, none⟩ = some (.int .i64 a1_2) := (blk_cell BK427.out 2).trans rfl
       have hfz18_0 := blk_frozen BK427.out 0
       have hfz18_1 := blk_frozen BK427.out 1
       have hfz18_2 := blk_frozen BK427.out 2
       have p17 : 0 ≤ ((ji14) : Int) := of_decide_eq_true (by first | (with_reducible assumption) | assumption)
       have q17 : ((ji14) : Int) < ((y431.length : Int) : Int) := of_decide_eq_true (by first | (with_reducible assumption) | assumption)
       obtain ⟨go17, co17, eo17, gb17, gl17, cl17, HG17⟩ := Kd.R_form HO_5.out (by omega)
       (first | cases eo17 | (injection eo17 with ea_ en_ ec_; (first | subst ea_ | (injection ea_ with ea_; subst ea_)); subst ec_; clear en_))
       have GB17 := zM gb17
       have GG17 := zM HG17
       clear gb17 gl17 HG17
       obtain ⟨hx17_0, hf17_0⟩ := Kd.R_celln 0 HO_5.out ((ji14) : Int) p17 q17
       replace p17 := eq_true p17
       replace q17 := eq_true q17
       have HP19 := Kd.R_putg HO_5.out ((ji14) : Int) a1_2
       go_wp2_with (first | ((with_reducible refine gate_store (t := 3) (p := 26) rfl ?_); refine store_event (t := 3) (p := 26) (v := ?vo_w20) (w1 := (wc.setCell ⟨go17, ((ji14) : Int).toNat, none⟩ (.int .i64 a1_2))) ?hg ?ho ?hn ?hr ?_; (case ho => rfl); (case hg => rfl); (case hn => rfl); (case hr => first | (go_simp; done) | (go_simp; rfl)); intro w20 hw; have hg : wc.grownBy w20 (some go17) := (by rw [hw]; exact HP19.2); have hp_ : Kd.R (Kd.int .i64) 3 w20 w.heap.size (fun _ => True) (.slice (some ⟨go17, 0, none⟩) y431.length co17) y435 := (by rw [hw, Ny435.out]; exact HP19.1);clear HP19;have n0_:=zM (hp_);have n1_:=zM (blk_grown (g := gb427) (o := .cells #[.int .i64 a1_0, .int .i64 a1_1, .int .i64 a1_2] 65 (0, 0)) (by exact BK427.out) hg (Kd.R_ne HO_5.out BK427.out (by decide)));have n2_:=zM ((by rw [hw]; exact zD (HB.out) GB17.out : Below w.heap.size w w20));clear HO_5; clear BK427;clear HB; have HO_5 := n0_; have BK427 := n1_; have HB := n2_; clear n0_ n1_ n2_; clear hg hw hp_))
       go_ret
       exact ⟨_, by first | rfl | (simp [errW_none, errW_some] <;> rfl) | (simp only [← hji14]; first | rfl | (simp [errW_none, errW_some] <;> rfl)) | (simp [*, errW_none, errW_some] <;> rfl), by exact HO_5.out, by repeat (first | (with_reducible first | exact HB.out | apply zB | apply zA | apply zC | refine zD ?_ GE427.out) | exact HB.out)⟩
      ·rw [if_neg c16] at H
       exact absurd H (by simp)
     ·rw [if_neg c15] at H
      exact absurd H (by simp)
    ·replace c13 := Bool.eq_false_iff.mpr c13
     subst c13
     have H1 : (if (a1_0 == 1 && (a1_2 == 0)) = true then (if y431.length < 17592186044416 then (some (y431 ++ [a1_1])) else (none)) else (if (a1_0 == 2 && (a1_1 == 0 && (a1_2 == 0))) = true then (if 0 ≤ (wrap64 ((y431.length : Int) - 1)) then (if (wrap64 ((y431.length : Int) - 1)) ≤ (y431.length : Int) then (some (y431.take ((wrap64 ((y431.length : Int) - 1)) : Int).toNat)) else (none)) else (none)) else (if (a1_0 == 3 && (a1_1 == 0 && (a1_2 == 0))) = true then ((spec_BackOf.f kj3 l0).bind fun t442 => (some t442)) else (if (a1_0 == 4 && (a1_1 == 0 && (a1_2 == 0))) = true then ((spec_MadeFlat.f kj3 l0).bind fun t445 => (some t445)) else (some (([] : List Int))))))) = some r := by rw [if_neg (show ¬ (false = true) by decide)] at H; exact H
     clear H
     have H := H1
     clear H1
     by_cases c21 : (a1_0 == 1 && (a1_2 == 0)) = true
     ·rw [if_pos c21] at H
      have c21b0 : (a1_0 == 1 && (a1_2 == 0)) = true := c21
      (try (have c21b1 : decide (a1_0 = 1 && (a1_2 == 0)) = true := by simpa using c21))
      (try (have c21b2 : (a1_0 == 1 && (a1_2 == 0)) = true := by simpa using c21))
      clear c21
      by_cases c22 : y431.length < 17592186044416
      ·rw [if_pos c22] at H
       have LMc22 := zM c22
       clear c22
       obtain ⟨y436, hy436⟩ : ∃ y_ : List Int, y_ = (y431 ++ [a1_1]) := ⟨_, rfl⟩
       replace H : (some y436) = some r := by first | (rw [hy436]; with_reducible exact H) | (have H2_ := (Option.bind_some _ _).symm.trans H; rw [hy436]; with_reducible exact H2_) | (have H2_ := (Option.bind_some _ _).symm.trans H; with_reducible exact H2_) | with_reducible exact H | (rw [hy436]; exact H) | exact H
       have Ny436 := zM hy436
       clear hy436
       obtain rfl := Option.some.inj H
       have hcz23_0 : wc.cell? ⟨gb427, 0, none⟩ = some (.int .i64 a1_0) := (blk_cell BK427.out 0).trans rfl
       have hcz23_1 : wc.cell? ⟨gb427, 1, none⟩ = some (.int .i64 a1_1) := (blk_cell BK427.out 1).trans rfl
       have hcz23_2 : wc.cell? ⟨gb427, 2, none⟩ = some (.int .i64 a1_2) := (blk_cell BK427.out 2).trans rfl
       have hfz23_0 := blk_frozen BK427.out 0
       have hfz23_1 := blk_frozen BK427.out 1
       have hfz23_2 := blk_frozen BK427.out 2
       go_wp2_with (first | ((with_reducible refine gate_builtin (b := .append) (xs := #[.tmp 34, .tmp 37]) rfl ?_); (try (refine gate_guard (by rfl) ?_; dsimp only)); at_builtin; refine Kd.R_append (Kd.int .i64) (w0 := w) w.heap.size rfl (.tmp 34) (.tmp 37) 23 3 (.int .i64 0) 8 rfl Try.underlying23 info3 rfl (by decide) (by omega) v432 y431 a1_1 [.int .i64 a1_1] (fun _ => True) (fun _ => False) rfl rfl ?aP (fun _ hk => hk.elim) ?aF ?aO ?aB ?aS ?aL ?_; (case aP => exact rfl); (case aB => exact (by repeat (first | (with_reducible first | exact HB.out | apply zB | apply zA | apply zC | refine zD ?_ GE427.out) | exact HB.out))); (case aF => exact (fun _ _ => trivial)); (case aO => exact (by exact HO_5.out)); (case aS => exact (below_size (by repeat (first | (with_reducible first | exact HB.out | apply zB | apply zA | apply zC | refine zD ?_ GE427.out) | exact HB.out)))); (case aL => have := LMc22.out; omega); intro v437 w24 ho hb hg hat; rw [← Ny436.out] at ho;have n0_:=zM (blk_grown (g := gb427) (o := .cells #[.int .i64 a1_0, .int .i64 a1_1, .int .i64 a1_2] 65 (0, 0)) (by exact BK427.out) hg (Kd.R_ne HO_5.out BK427.out (by decide)));have n1_:=zM (hb);have n2_:=zM (ho);clear BK427; clear HB;clear HO_5; have BK427 := n0_; have HB := n1_; have HO438 := n2_; clear n0_ n1_ n2_; clear ho hb hg hat))
       go_ret
       exact ⟨_, by first | rfl | (simp [errW_none, errW_some] <;> rfl) | (simp [*, errW_none, errW_some] <;> rfl), by exact HO438.out, by repeat (first | (with_reducible first | exact HB.out | apply zB | apply zA | apply zC | refine zD ?_ GE427.out) | exact HB.out)⟩
      ·rw [if_neg c22] at H
       exact absurd H (by simp)
     ·rw [if_neg c21] at H
      have c21b0 : (a1_0 == 1 && (a1_2 == 0)) = false := by simpa using c21
      (try (have c21b1 : decide (a1_0 = 1 && (a1_2 == 0)) = false := by simpa using c21))
      (try (have c21b2 : (a1_0 == 1 && (a1_2 == 0)) = false := by simpa using c21))
      (try (have c21b3 : ¬ (a1_0 = 1 && (a1_2 == 0)) := by simpa using c21))
      clear c21
      by_cases c25 : (a1_0 == 2 && (a1_1 == 0 && (a1_2 == 0))) = true
      ·rw [if_pos c25] at H
       have c25b0 : (a1_0 == 2 && (a1_1 == 0 && (a1_2 == 0))) = true := c25
       (try (have c25b1 : decide (a1_0 = 2 && (a1_1 == 0 && (a1_2 == 0))) = true := by simpa using c25))
       (try (have c25b2 : (a1_0 == 2 && (a1_1 == 0 && (a1_2 == 0))) = true := by simpa using c25))
       clear c25
       obtain ⟨ji26, hji26⟩ : ∃ j_ : Int, (wrap64 ((y431.length : Int) - 1)) = j_ := ⟨_, rfl⟩
       replace H : (if 0 ≤ (ji26) then (if (ji26) ≤ (y431.length : Int) then (some (y431.take ((ji26) : Int).toNat)) else (none)) else (none)) = some r := by first | (rw [hji26] at H; exact H) | (simp only [hji26] at H ⊢; exact H)
       have hji26w : (IntKind.i64.wrap ((y431.length : Int) - 1)) = ji26 := (i64_w _).trans hji26
       by_cases c27 : 0 ≤ (ji26)
       ·rw [if_pos c27] at H
        have c27b0 := eq_true c27
        have c27b1 : decide (0 ≤ (ji26)) = true := decide_eq_true c27
        clear c27
        by_cases c28 : (ji26) ≤ (y431.length : Int)
        ·rw [if_pos c28] at H
         have c28b0 := eq_true c28
         have c28b1 : decide ((ji26) ≤ (y431.length : Int)) = true := decide_eq_true c28
         clear c28
         obtain ⟨y439, hy439⟩ : ∃ y_ : List Int, y_ = (y431.take ((ji26) : Int).toNat) := ⟨_, rfl⟩
         replace H : (some y439) = some r := by first | (rw [hy439]; with_reducible exact H) | (have H2_ := (Option.bind_some _ _).symm.trans H; rw [hy439]; with_reducible exact H2_) | (have H2_ := (Option.bind_some _ _).symm.trans H; with_reducible exact H2_) | with_reducible exact H | (rw [hy439]; exact H) | exact H
         have Ny439 := zM hy439
         clear hy439
         obtain rfl := Option.some.inj H
         have hcz29_0 : wc.cell? ⟨gb427, 0, none⟩ = some (.int .i64 a1_0) := (blk_cell BK427.out 0).trans rfl
         have hcz29_1 : wc.cell? ⟨gb427, 1, none⟩ = some (.int .i64 a1_1) := (blk_cell BK427.out 1).trans rfl
         have hcz29_2 : wc.cell? ⟨gb427, 2, none⟩ = some (.int .i64 a1_2) := (blk_cell BK427.out 2).trans rfl
         have hfz29_0 := blk_frozen BK427.out 0
         have hfz29_1 := blk_frozen BK427.out 1
         have hfz29_2 := blk_frozen BK427.out 2
         obtain ⟨Ao30, co30, eo30⟩ := Kd.R_slice HO_5.out
         subst eo30
         have q31 : ((ji26) : Int) ≤ ((y431.length : Int) : Int) := of_decide_eq_true (by first | (with_reducible assumption) | assumption)
         obtain ⟨i031, hi031, _, hsz31, _⟩ := info_parts info3
         have hcut31 := cut_to (P := Try.prog) 23 3 .i64 Try.underlying23 hi031 Ao30 y431.length co30 (ji26) (of_decide_eq_true (by first | (with_reducible assumption) | assumption)) q31 (Kd.R_reads' HO_5.out).2.1
         have hr31 := Kd.R_take (m := ((ji26) : Int).toNat) HO_5.out (by omega)
         have hy31 : y439.length = ((ji26) : Int).toNat := (by rw [Ny439.out, List.length_take]; omega)
         rw [← Ny439.out] at hr31
         rw [← hy31] at hr31 hcut31
         clear hy31 hi031 hsz31 HO_5
         have HO441 := zM hr31
         clear hr31
         replace q31 := eq_true q31
         go_wp2
         go_ret
         exact ⟨_, by first | rfl | (simp [errW_none, errW_some] <;> rfl) | (simp only [← hji26]; first | rfl | (simp [errW_none, errW_some] <;> rfl)) | (simp [*, errW_none, errW_some] <;> rfl), by exact HO441.out, by repeat (first | (with_reducible first | exact HB.out | apply zB | apply zA | apply zC | refine zD ?_ GE427.out) | exact HB.out)⟩
        ·rw [if_neg c28] at H
         exact absurd H (by simp)
       ·rw [if_neg c27] at H
        exact absurd H (by simp)
      ·rw [if_neg c25] at H
       have c25b0 : (a1_0 == 2 && (a1_1 == 0 && (a1_2 == 0))) = false := by simpa using c25
       (try (have c25b1 : decide (a1_0 = 2 && (a1_1 == 0 && (a1_2 == 0))) = false := by simpa using c25))
       (try (have c25b2 : (a1_0 == 2 && (a1_1 == 0 && (a1_2 == 0))) = false := by simpa using c25))
       (try (have c25b3 : ¬ (a1_0 = 2 && (a1_1 == 0 && (a1_2 == 0))) := by simpa using c25))
       clear c25
       by_cases c32 : (a1_0 == 3 && (a1_1 == 0 && (a1_2 == 0))) = true
       ·rw [if_pos c32] at H
        have c32b0 : (a1_0 == 3 && (a1_1 == 0 && (a1_2 == 0))) = true := c32
        (try (have c32b1 : decide (a1_0 = 3 && (a1_1 == 0 && (a1_2 == 0))) = true := by simpa using c32))
        (try (have c32b2 : (a1_0 == 3 && (a1_1 == 0 && (a1_2 == 0))) = true := by simpa using c32))
        clear c32
        replace H := Option.bind_eq_some_iff.mp H
        obtain ⟨t442, A330, H⟩ := H
        replace H : (some t442) = some r := H
        have A33 := zM A330
        clear A330
        obtain rfl := Option.some.inj H
        have hcz34_0 : wc.cell? ⟨gb427, 0, none⟩ = some (.int .i64 a1_0) := (blk_cell BK427.out 0).trans rfl
        have hcz34_1 : wc.cell? ⟨gb427, 1, none⟩ = some (.int .i64 a1_1) := (blk_cell BK427.out 1).trans rfl
        have hcz34_2 : wc.cell? ⟨gb427, 2, none⟩ = some (.int .i64 a1_2) := (blk_cell BK427.out 2).trans rfl
        have hfz34_0 := blk_frozen BK427.out 0
        have hfz34_1 := blk_frozen BK427.out 1
        have hfz34_2 := blk_frozen BK427.out 2
        go_wp2_with (first | ((with_reducible refine gate_callee (f := 146) rfl ?_); refine goesL_ (some 53) rfl rfl Try.func146 (by kernel_rfl) rfl #[.slice A0 l0.length c0] rfl (by (try simp only [List.map_toArray, List.map_cons, List.map_nil]); first | done | rfl | (simp only [List.length_drop, List.length_take]; rfl)) ?_; (with_reducible refine (spec_BackOf.calls kj3 _ _ l0 t442 _ ?side1 ?side2 A33.out).mono ?_); (case side1 => repeat (first | exact (Kd.C_below HR0.out HB.out) | (with_reducible refine Kd.C_alloc ?_ _) | (with_reducible refine Kd.C_drewN ?_ _) | (with_reducible refine Kd.C_drew ?_))); (case side2 => exact HC0.out); rintro e w35 ⟨v443, rfl, ho0, hb⟩; refine ⟨_, rfl, ?_⟩;have n0_:=zM (Kd.R_elder' (by exact HO_5.out) (Kd.R_base ho0) hb);have n1_:=zM (Kd.R_lower (Kd.R_new' ho0 (Kd.R_lt (by exact HO_5.out))) (below_size (by repeat (first | (with_reducible first | exact HB.out | apply zB | apply zA | apply zC | refine zD ?_ GE427.out) | exact HB.out))));have n2_:=zM (blk_below (g := gb427) (o := .cells #[.int .i64 a1_0, .int .i64 a1_1, .int .i64 a1_2] 65 (0, 0)) (by exact BK427.out) hb);have n3_:=zM (below_step (by repeat (first | (with_reducible first | exact HB.out | apply zB | apply zA | apply zC | refine zD ?_ GE427.out) | exact HB.out)) hb);clear HO_5; clear BK427;clear HB; have HO_5 := n0_; have HO444 := n1_; have BK427 := n2_; have HB := n3_; clear n0_ n1_ n2_ n3_; (try clear hb); (try clear hb2); (try clear hk); (try clear hi); (try clear ho0)))
        go_ret
        exact ⟨_, by first | rfl | (simp [errW_none, errW_some] <;> rfl) | (simp [*, errW_none, errW_some] <;> rfl), by exact Kd.R_mono HO444.out (fun _ hk => trivial), by repeat (first | (with_reducible first | exact HB.out | apply zB | apply zA | apply zC | refine zD ?_ GE427.out) | exact HB.out)⟩
       ·rw [if_neg c32] at H
        have c32b0 : (a1_0 == 3 && (a1_1 == 0 && (a1_2 == 0))) = false := by simpa using c32
        (try (have c32b1 : decide (a1_0 = 3 && (a1_1 == 0 && (a1_2 == 0))) = false := by simpa using c32))
        (try (have c32b2 : (a1_0 == 3 && (a1_1 == 0 && (a1_2 == 0))) = false := by simpa using c32))
        (try (have c32b3 : ¬ (a1_0 = 3 && (a1_1 == 0 && (a1_2 == 0))) := by simpa using c32))
        clear c32
        by_cases c36 : (a1_0 == 4 && (a1_1 == 0 && (a1_2 == 0))) = true
        ·rw [if_pos c36] at H
         have c36b0 : (a1_0 == 4 && (a1_1 == 0 && (a1_2 == 0))) = true := c36
         (try (have c36b1 : decide (a1_0 = 4 && (a1_1 == 0 && (a1_2 == 0))) = true := by simpa using c36))
         (try (have c36b2 : (a1_0 == 4 && (a1_1 == 0 && (a1_2 == 0))) = true := by simpa using c36))
         clear c36
         replace H := Option.bind_eq_some_iff.mp H
         obtain ⟨t445, A370, H⟩ := H
         replace H : (some t445) = some r := H
         have A37 := zM A370
         clear A370
         obtain rfl := Option.some.inj H
         have hcz38_0 : wc.cell? ⟨gb427, 0, none⟩ = some (.int .i64 a1_0) := (blk_cell BK427.out 0).trans rfl
         have hcz38_1 : wc.cell? ⟨gb427, 1, none⟩ = some (.int .i64 a1_1) := (blk_cell BK427.out 1).trans rfl
         have hcz38_2 : wc.cell? ⟨gb427, 2, none⟩ = some (.int .i64 a1_2) := (blk_cell BK427.out 2).trans rfl
         have hfz38_0 := blk_frozen BK427.out 0
         have hfz38_1 := blk_frozen BK427.out 1
         have hfz38_2 := blk_frozen BK427.out 2
         go_wp2_with (first | ((with_reducible refine gate_callee (f := 24) rfl ?_); refine goesL_ (some 59) rfl rfl Try.func24 (by kernel_rfl) rfl #[.slice A0 l0.length c0] rfl (by (try simp only [List.map_toArray, List.map_cons, List.map_nil]); first | done | rfl | (simp only [List.length_drop, List.length_take]; rfl)) ?_; (with_reducible refine (spec_MadeFlat.calls kj3 _ _ l0 t445 _ ?side1 ?side2 A37.out).mono ?_); (case side1 => repeat (first | exact (Kd.C_below HR0.out HB.out) | (with_reducible refine Kd.C_alloc ?_ _) | (with_reducible refine Kd.C_drewN ?_ _) | (with_reducible refine Kd.C_drew ?_))); (case side2 => exact HC0.out); rintro e w39 ⟨v446, rfl, ho0, hb⟩; refine ⟨_, rfl, ?_⟩;have n0_:=zM (Kd.R_elder' (by exact HO_5.out) (Kd.R_base ho0) hb);have n1_:=zM (Kd.R_lower (Kd.R_new' ho0 (Kd.R_lt (by exact HO_5.out))) (below_size (by repeat (first | (with_reducible first | exact HB.out | apply zB | apply zA | apply zC | refine zD ?_ GE427.out) | exact HB.out))));have n2_:=zM (blk_below (g := gb427) (o := .cells #[.int .i64 a1_0, .int .i64 a1_1, .int .i64 a1_2] 65 (0, 0)) (by exact BK427.out) hb);have n3_:=zM (below_step (by repeat (first | (with_reducible first | exact HB.out | apply zB | apply zA | apply zC | refine zD ?_ GE427.out) | exact HB.out)) hb);clear HO_5; clear BK427;clear HB; have HO_5 := n0_; have HO447 := n1_; have BK427 := n2_; have HB := n3_; clear n0_ n1_ n2_ n3_; (try clear hb); (try clear hb2); (try clear hk); (try clear hi); (try clear ho0)))
         go_ret
         exact ⟨_, by first | rfl | (simp [errW_none, errW_some] <;> rfl) | (simp [*, errW_none, errW_some] <;> rfl), by exact Kd.R_mono HO447.out (fun _ hk => trivial), by repeat (first | (with_reducible first | exact HB.out | apply zB | apply zA | apply zC | refine zD ?_ GE427.out) | exact HB.out)⟩
        ·rw [if_neg c36] at H
         have c36b0 : (a1_0 == 4 && (a1_1 == 0 && (a1_2 == 0))) = false := by simpa using c36
         (try (have c36b1 : decide (a1_0 = 4 && (a1_1 == 0 && (a1_2 == 0))) = false := by simpa using c36))
         (try (have c36b2 : (a1_0 == 4 && (a1_1 == 0 && (a1_2 == 0))) = false := by simpa using c36))
         (try (have c36b3 : ¬ (a1_0 = 4 && (a1_1 == 0 && (a1_2 == 0))) := by simpa using c36))
         clear c36
         obtain ⟨y448, hy448⟩ : ∃ y_ : List Int, y_ = (([] : List Int)) := ⟨_, rfl⟩
         replace H : (some y448) = some r := by first | (rw [hy448]; with_reducible exact H) | (have H2_ := (Option.bind_some _ _).symm.trans H; rw [hy448]; with_reducible exact H2_) | (have H2_ := (Option.bind_some _ _).symm.trans H; with_reducible exact H2_) | with_reducible exact H | (rw [hy448]; exact H) | exact H
         have Ny448 := zM hy448
         clear hy448
         obtain rfl := Option.some.inj H
         have hcz40_0 : wc.cell? ⟨gb427, 0, none⟩ = some (.int .i64 a1_0) := (blk_cell BK427.out 0).trans rfl
         have hcz40_1 : wc.cell? ⟨gb427, 1, none⟩ = some (.int .i64 a1_1) := (blk_cell BK427.out 1).trans rfl
         have hcz40_2 : wc.cell? ⟨gb427, 2, none⟩ = some (.int .i64 a1_2) := (blk_cell BK427.out 2).trans rfl
         have hfz40_0 := blk_frozen BK427.out 0
         have hfz40_1 := blk_frozen BK427.out 1
         have hfz40_2 := blk_frozen BK427.out 2
         go_wp2_with (first | ((with_reducible refine gate_dst (N := 60) rfl ?_); (try (refine gate_guard (by rfl) ?_; dsimp only)); refine Kd.R_lit (Kd.int .i64) _ 3 ?hg (N := 60) ?hd (xs := ([] : List Int)) (inner := []) (ok := fun _ => True) (okp := fun _ => True) ?hr ?hp (fun _ hk => hk) trivial (Below.refl _ _) (Nat.le_refl _) (by simp) ?_; (case hd => rfl);(case hg => rfl);(case hr => first | (go_simp; done) | (go_simp; rfl)); (case hp => exact (Reps.none _ _)); intro v449 w41 ho42 hb hg_ hnew_; clear hg_ hnew_; (first | rw [← Ny448.out] at ho42 | (simp only [Int.reduceToNat] at ho42; rw [← Ny448.out] at ho42));have n0_:=zM (Kd.R_elder' (by exact HO_5.out) (Kd.R_base ho42) hb);have n1_:=zM (Kd.R_lower (Kd.R_new' ho42 (Kd.R_lt (by exact HO_5.out))) (below_size (by repeat (first | (with_reducible first | exact HB.out | apply zB | apply zA | apply zC | refine zD ?_ GE427.out) | exact HB.out))));have n2_:=zM (blk_below (g := gb427) (o := .cells #[.int .i64 a1_0, .int .i64 a1_1, .int .i64 a1_2] 65 (0, 0)) (by exact BK427.out) hb);have n3_:=zM (below_step (by repeat (first | (with_reducible first | exact HB.out | apply zB | apply zA | apply zC | refine zD ?_ GE427.out) | exact HB.out)) hb);clear HO_5; clear BK427;clear HB; have HO_5 := n0_; have HO450 := n1_; have BK427 := n2_; have HB := n3_; clear n0_ n1_ n2_ n3_; clear hb ho42))
         go_ret
         exact ⟨_, by first | rfl | (simp [errW_none, errW_some] <;> rfl) | (simp [*, errW_none, errW_some] <;> rfl), by exact Kd.R_mono HO450.out (fun _ hk => trivial), by repeat (first | (with_reducible first | exact HB.out | apply zB | apply zA | apply zC | refine zD ?_ GE427.out) | exact HB.out)⟩
 ·rw [if_neg c3] at H
  exact absurd H (by simp)

end Go.Proofs.Ytidimndhnagfeaa.LI
