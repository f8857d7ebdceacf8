/- Printed by a program of this session (wip/lp/lp.py) out of the translation: functions with the same answers as the Go code, and their contracts; no conditions beyond those that each theorem names. -/
import Derived.Test.YtbbhdgpiocojaaaLFx0
import Derived.Test.YtbbhdgpiocojaaaLFx2
import Derived.Test.YtbbhdgpiocojaaaLFx3
import Derived.Test.YtbbhdgpiocojaaaLFx6
import Derived.Test.YtbbhdgpiocojaaaLFx8
import Derived.Test.YtbbhdgpiocojaaaLFx9
namespace Go.Proofs.Ytbbhdgpiocojaaa.LF
open Go.RowKit Go.Proofs.YtbbhdgpiocojaaaV.PrintWords Go.Proofs.YtbbhdgpiocojaaaV.PrintLast Go.Proofs.YtbbhdgpiocojaaaV.PrintMore
attribute [local go_sem] max2_int min2_int max_two min_two max_three min_three max_four min_four   -- for this text's walks alone
set_option linter.unusedVariables false
set_option linter.unusedSimpArgs false

/-! ### spec_DrawRunEager: function 41 -/
def spec_DrawRunEager.f (k : Nat) (l0 : List Int) : Option (Int × ByteArray) := (spec_l20Open.f l0).bind fun bt281 => ((spec_l20Rd_pick.f k bt281.1 bt281.2 8).bind fun bt284 => ((spec_l20Rd_pick.f k bt281.1 bt284.2 3).bind fun bt286 => (if bt286.1 = 0 then ((spec_l20Flat.f k bt281.1 bt286.2 0).bind fun bt288 => ((spec_EagerFor.f k bt288.1).bind fun bt292 => (if bt292.2 = true then (some ((bt288.1.length : Int), bt292.1)) else ((spec_l20Rd_pick.f k bt281.1 bt288.2 30).bind fun bt294 => ((spec_l20Eager.f k bt281.1 bt294.2 (wrap64 (1 + bt284.1))).bind fun bt296 => (some (wrap64 ((wrap64 (1 + bt284.1)) + (wrap64 (Int.tdiv bt294.1 29))), bt296.1))))))) else ((spec_l20Rd_pick.f k bt281.1 bt286.2 30).bind fun bt298 => ((spec_l20Eager.f k bt281.1 bt298.2 (wrap64 (1 + bt284.1))).bind fun bt300 => (some (wrap64 ((wrap64 (1 + bt284.1)) + (wrap64 (Int.tdiv bt298.1 29))), bt300.1)))))))
theorem spec_DrawRunEager.mono : ∀ a0 k, LeO (spec_DrawRunEager.f k a0) (spec_DrawRunEager.f (k + 1) a0) := by
  intro a0 k
  unfold spec_DrawRunEager.f
  repeat' first
      | (with_reducible exact spec_EagerFor.mono _ _)
      | (with_reducible exact spec_l20Eager.mono _ _ _ _)
      | (with_reducible exact spec_l20Flat.mono _ _ _ _)
      | (with_reducible exact spec_l20Rd_pick.mono _ _ _ _)
      | (with_reducible exact LeO.refl _)
      | (with_reducible exact LeO.none _)
      | (with_reducible refine LeO.ite ?_ ?_)
      | (with_reducible refine LeO.bind ?_ (fun _ => ?_))
      | exact spec_EagerFor.mono _ _
      | exact spec_l20Eager.mono _ _ _ _
      | exact spec_l20Flat.mono _ _ _ _
      | exact spec_l20Rd_pick.mono _ _ _ _
      | exact LeO.none _
      | refine LeO.ite ?_ ?_
      | refine LeO.bind ?_ (fun _ => ?_)
set_option maxHeartbeats 8000000 in
set_option maxRecDepth 100000 in
theorem spec_DrawRunEager.calls (k : Nat) (A0 : Option Addr) (c0 : Nat) (l0 : List Int) (r1 : Int) (r2 : ByteArray) (w : World) (hr0 : Kd.C (Kd.int .u8) w A0 l0.length l0) (hc0 : l0.length ≤ c0) (h : spec_DrawRunEager.f k l0 = some (r1, r2)) :
    Calls Try.prog 41 #[.slice A0 l0.length c0] w fun e w' => e = .returned (.tuple #[.int .i64 r1, .string r2]) ∧ Below w.heap.size w w' := by
  have HR0 := Aside0.mk hr0
  have HC0 := Aside0.mk hc0
  clear hr0 hc0
  have HB := Aside0.mk (Below.refl w.heap.size w)
  have H : ((spec_l20Open.f l0).bind fun bt281 => ((spec_l20Rd_pick.f k bt281.1 bt281.2 8).bind fun bt284 => ((spec_l20Rd_pick.f k bt281.1 bt284.2 3).bind fun bt286 => (if bt286.1 = 0 then ((spec_l20Flat.f k bt281.1 bt286.2 0).bind fun bt288 => ((spec_EagerFor.f k bt288.1).bind fun bt292 => (if bt292.2 = true then (some ((bt288.1.length : Int), bt292.1)) else ((spec_l20Rd_pick.f k bt281.1 bt288.2 30).bind fun bt294 => ((spec_l20Eager.f k bt281.1 bt294.2 (wrap64 (1 + bt284.1))).bind fun bt296 => (some (wrap64 ((wrap64 (1 + bt284.1)) + (wrap64 (Int.tdiv bt294.1 29))), bt296.1))))))) else ((spec_l20Rd_pick.f k bt281.1 bt286.2 30).bind fun bt298 => ((spec_l20Eager.f k bt281.1 bt298.2 (wrap64 (1 + bt284.1))).bind fun bt300 => (some (wrap64 ((wrap64 (1 + bt284.1)) + (wrap64 (Int.tdiv bt298.1 29))), bt300.1)))))))) = some (r1, r2) := h
  clear h
  replace H := Option.bind_eq_some_iff.mp H
  obtain ⟨⟨t281, t282⟩, A20, H⟩ := H
  replace H : ((spec_l20Rd_pick.f k t281 t282 8).bind fun bt284 => ((spec_l20Rd_pick.f k t281 bt284.2 3).bind fun bt286 => (if bt286.1 = 0 then ((spec_l20Flat.f k t281 bt286.2 0).bind fun bt288 => ((spec_EagerFor.f k bt288.1).bind fun bt292 => (if bt292.2 = true then (some ((bt288.1.length : Int), bt292.1)) else ((spec_l20Rd_pick.f k t281 bt288.2 30).bind fun bt294 => ((spec_l20Eager.f k t281 bt294.2 (wrap64 (1 + bt284.1))).bind fun bt296 => (some (wrap64 ((wrap64 (1 + bt284.1)) + (wrap64 (Int.tdiv bt294.1 29))), bt296.1))))))) else ((spec_l20Rd_pick.f k t281 bt286.2 30).bind fun bt298 => ((spec_l20Eager.f k t281 bt298.2 (wrap64 (1 + bt284.1))).bind fun bt300 => (some (wrap64 ((wrap64 (1 + bt284.1)) + (wrap64 (Int.tdiv bt298.1 29))), bt300.1))))))) = some (r1, r2) := H
  have A2 := Aside0.mk A20
  clear A20
  replace H := Option.bind_eq_some_iff.mp H
  obtain ⟨⟨t284, t285⟩, A30, H⟩ := H
  replace H : ((spec_l20Rd_pick.f k t281 t285 3).bind fun bt286 => (if bt286.1 = 0 then ((spec_l20Flat.f k t281 bt286.2 0).bind fun bt288 => ((spec_EagerFor.f k bt288.1).bind fun bt292 => (if bt292.2 = true then (some ((bt288.1.length : Int), bt292.1)) else ((spec_l20Rd_pick.f k t281 bt288.2 30).bind fun bt294 => ((spec_l20Eager.f k t281 bt294.2 (wrap64 (1 + t284))).bind fun bt296 => (some (wrap64 ((wrap64 (1 + t284)) + (wrap64 (Int.tdiv bt294.1 29))), bt296.1))))))) else ((spec_l20Rd_pick.f k t281 bt286.2 30).bind fun bt298 => ((spec_l20Eager.f k t281 bt298.2 (wrap64 (1 + t284))).bind fun bt300 => (some (wrap64 ((wrap64 (1 + t284)) + (wrap64 (Int.tdiv bt298.1 29))), bt300.1)))))) = some (r1, r2) := H
  have A3 := Aside0.mk A30
  clear A30
  replace H := Option.bind_eq_some_iff.mp H
  obtain ⟨⟨t286, t287⟩, A40, H⟩ := H
  replace H : (if t286 = 0 then ((spec_l20Flat.f k t281 t287 0).bind fun bt288 => ((spec_EagerFor.f k bt288.1).bind fun bt292 => (if bt292.2 = true then (some ((bt288.1.length : Int), bt292.1)) else ((spec_l20Rd_pick.f k t281 bt288.2 30).bind fun bt294 => ((spec_l20Eager.f k t281 bt294.2 (wrap64 (1 + t284))).bind fun bt296 => (some (wrap64 ((wrap64 (1 + t284)) + (wrap64 (Int.tdiv bt294.1 29))), bt296.1))))))) else ((spec_l20Rd_pick.f k t281 t287 30).bind fun bt298 => ((spec_l20Eager.f k t281 bt298.2 (wrap64 (1 + t284))).bind fun bt300 => (some (wrap64 ((wrap64 (1 + t284)) + (wrap64 (Int.tdiv bt298.1 29))), bt300.1))))) = some (r1, r2) := H
  have A4 := Aside0.mk A40
  clear A40
  by_cases c5 : t286 = 0
  · rw [if_pos c5] at H
    have c5b0 : (t286 == 0) = true := beq_iff_eq.mpr c5
    have c5b1 : (t286 != 0) = false := bne_eq_false_iff_eq.mpr c5
    clear c5
    replace H := Option.bind_eq_some_iff.mp H
    obtain ⟨⟨t288, t291⟩, A60, H⟩ := H
    replace H : ((spec_EagerFor.f k t288).bind fun bt292 => (if bt292.2 = true then (some ((t288.length : Int), bt292.1)) else ((spec_l20Rd_pick.f k t281 t291 30).bind fun bt294 => ((spec_l20Eager.f k t281 bt294.2 (wrap64 (1 + t284))).bind fun bt296 => (some (wrap64 ((wrap64 (1 + t284)) + (wrap64 (Int.tdiv bt294.1 29))), bt296.1)))))) = some (r1, r2) := H
    have A6 := Aside0.mk A60
    clear A60
    replace H := Option.bind_eq_some_iff.mp H
    obtain ⟨⟨t292, t293⟩, A70, H⟩ := H
    replace H : (if t293 = true then (some ((t288.length : Int), t292)) else ((spec_l20Rd_pick.f k t281 t291 30).bind fun bt294 => ((spec_l20Eager.f k t281 bt294.2 (wrap64 (1 + t284))).bind fun bt296 => (some (wrap64 ((wrap64 (1 + t284)) + (wrap64 (Int.tdiv bt294.1 29))), bt296.1))))) = some (r1, r2) := H
    have A7 := Aside0.mk A70
    clear A70
    by_cases c8 : t293 = true
    · subst c8
      have H1 : (some ((t288.length : Int), t292)) = some (r1, r2) := by rw [if_pos rfl] at H; exact H
      clear H
      have H := H1
      clear H1
      simp only [Option.some.injEq, Prod.mk.injEq] at H
      obtain ⟨rfl, rfl⟩ := H
      go_enter Try.func41, Try.ntmps41
      go_wp2_with (first | ((with_reducible refine gate_callee (f := 70) rfl ?_); refine goesL_ (some 10) rfl rfl Try.func70 (by kernel_rfl) rfl #[.slice A0 l0.length c0] rfl (by (try simp only [List.map_toArray, List.map_cons, List.map_nil]); first | done | rfl | (simp only [List.length_drop, List.length_take]; rfl)) ?_; (with_reducible refine (spec_l20Open.calls _ _ l0 t281 t282 w _ ?side1 ?side2 ?side3 A2.out).mono ?_); (case side1 => repeat (first | (with_reducible first | exact HB.out | apply below_alloc | apply pw_below_drewN | apply below_drew1) | exact HB.out)); (case side2 => exact HR0.out); (case side3 => exact HC0.out); rintro e w9 ⟨g283, rfl, hi, hb, hb2⟩; refine ⟨_, rfl, ?_⟩; have n0_ := Aside0.mk (hb); have n1_ := Aside0.mk (hi); clear HB; have HB := n0_; have HI283 := n1_; clear n0_ n1_; (try clear hb); (try clear hb2); (try clear hk); (try clear hi)) | ((with_reducible refine gate_callee (f := 88) rfl ?_); refine goesL_ (some 12) rfl rfl Try.func88 (by kernel_rfl) rfl #[.pointer (some ⟨g283, 0, none⟩), .int .i64 8] rfl (by (try simp only [List.map_toArray, List.map_cons, List.map_nil]); first | done | rfl | (simp only [List.length_drop, List.length_take]; rfl)) ?_; (with_reducible refine (spec_l20Rd_pick.calls k g283 t281 t282 8 t284 t285 w _ ?side1 ?side2 A3.out).mono ?_); (case side1 => repeat (first | (with_reducible first | exact HI283.out | apply IsS102.alloc | apply IsS102.drewN | apply IsS102.drew | apply IsS102.set_1) | exact HI283.out)); (case side2 => repeat (first | (with_reducible first | exact HB.out | apply below_alloc | apply pw_below_drewN | apply below_drew1 | refine below_set ?_ (IsS102.ge HI283.out)) | exact HB.out)); rintro e w10 ⟨rfl, hi, hb, hk⟩; refine ⟨_, rfl, ?_⟩; have n0_ := Aside0.mk (hb); have n1_ := Aside0.mk (hi); clear HB; clear HI283; have HB := n0_; have HI283 := n1_; clear n0_ n1_; (try clear hb); (try clear hb2); (try clear hk); (try clear hi)) | ((with_reducible refine gate_callee (f := 88) rfl ?_); refine goesL_ (some 15) rfl rfl Try.func88 (by kernel_rfl) rfl #[.pointer (some ⟨g283, 0, none⟩), .int .i64 3] rfl (by (try simp only [List.map_toArray, List.map_cons, List.map_nil]); first | done | rfl | (simp only [List.length_drop, List.length_take]; rfl)) ?_; (with_reducible refine (spec_l20Rd_pick.calls k g283 t281 t285 3 t286 t287 w _ ?side1 ?side2 A4.out).mono ?_); (case side1 => repeat (first | (with_reducible first | exact HI283.out | apply IsS102.alloc | apply IsS102.drewN | apply IsS102.drew | apply IsS102.set_1) | exact HI283.out)); (case side2 => repeat (first | (with_reducible first | exact HB.out | apply below_alloc | apply pw_below_drewN | apply below_drew1 | refine below_set ?_ (IsS102.ge HI283.out)) | exact HB.out)); rintro e w11 ⟨rfl, hi, hb, hk⟩; refine ⟨_, rfl, ?_⟩; have n0_ := Aside0.mk (hb); have n1_ := Aside0.mk (hi); clear HB; clear HI283; have HB := n0_; have HI283 := n1_; clear n0_ n1_; (try clear hb); (try clear hb2); (try clear hk); (try clear hi)) | ((with_reducible refine gate_callee (f := 89) rfl ?_); refine goesL_ (some 18) rfl rfl Try.func89 (by kernel_rfl) rfl #[.pointer (some ⟨g283, 0, none⟩), .int .i64 0] rfl (by (try simp only [List.map_toArray, List.map_cons, List.map_nil]); first | done | rfl | (simp only [List.length_drop, List.length_take]; rfl)) ?_; (with_reducible refine (spec_l20Flat.calls k g283 t281 t287 0 t288 t291 w _ ?side1 ?side2 A6.out).mono ?_); (case side1 => repeat (first | (with_reducible first | exact HI283.out | apply IsS102.alloc | apply IsS102.drewN | apply IsS102.drew | apply IsS102.set_1) | exact HI283.out)); (case side2 => repeat (first | (with_reducible first | exact HB.out | apply below_alloc | apply pw_below_drewN | apply below_drew1 | refine below_set ?_ (IsS102.ge HI283.out)) | exact HB.out)); rintro e w12 ⟨v289, rfl, ho0, hi, hb, hk⟩; refine ⟨_, rfl, ?_⟩; have n0_ := Aside0.mk (Kd.R_lower ho0 (below_size (by repeat (first | (with_reducible first | exact HB.out | apply below_alloc | apply pw_below_drewN | apply below_drew1 | refine below_set ?_ (IsS102.ge HI283.out)) | exact HB.out)))); have n1_ := Aside0.mk (hb); have n2_ := Aside0.mk (hi); clear HB; clear HI283; have HO290 := n0_; have HB := n1_; have HI283 := n2_; clear n0_ n1_ n2_; (try clear hb); (try clear hb2); (try clear hk); (try clear hi); (try clear ho0); obtain ⟨Ao13, co13, eo13⟩ := Kd.R_slice HO290.out; subst eo13) | ((with_reducible refine gate_callee (f := 90) rfl ?_); refine goesL_ (some 21) rfl rfl Try.func90 (by kernel_rfl) rfl #[.slice Ao13 t288.length co13] rfl (by (try simp only [List.map_toArray, List.map_cons, List.map_nil]); first | done | rfl | (simp only [List.length_drop, List.length_take]; rfl)) ?_; (with_reducible refine (spec_EagerFor.calls k _ _ t288 t292 true _ ?side1 ?side2 A7.out).mono ?_); (case side1 => repeat (first | exact (Kd.R_reads' HO290.out).2.2 | (with_reducible refine Kd.C_alloc ?_ _) | (with_reducible refine Kd.C_drewN ?_ _) | (with_reducible refine Kd.C_drew ?_))); (case side2 => exact (Kd.R_reads' HO290.out).2.1); rintro e w14 ⟨rfl, hb⟩; refine ⟨_, rfl, ?_⟩; have n0_ := Aside0.mk (Kd.R_below (by (with_reducible repeat (first | apply Kd.R_alloc | apply Kd.R_drewN | apply Kd.R_drew)); exact HO290.out) hb); have n1_ := Aside0.mk (IsS102.below (by repeat (first | (with_reducible first | exact HI283.out | apply IsS102.alloc | apply IsS102.drewN | apply IsS102.drew | apply IsS102.set_1) | exact HI283.out)) hb); have n2_ := Aside0.mk (below_step (by repeat (first | (with_reducible first | exact HB.out | apply below_alloc | apply pw_below_drewN | apply below_drew1 | refine below_set ?_ (IsS102.ge HI283.out)) | exact HB.out)) hb); clear HO290; clear HI283; clear HB; have HO290 := n0_; have HI283 := n1_; have HB := n2_; clear n0_ n1_ n2_; (try clear hb); (try clear hb2); (try clear hk); (try clear hi)))
      go_ret2
      exact ⟨by first | rfl | (simp [errW_none, errW_some] <;> rfl) | (simp [*, errW_none, errW_some] <;> rfl), by repeat (first | (with_reducible first | exact HB.out | apply below_alloc | apply pw_below_drewN | apply below_drew1 | refine below_set ?_ (IsS102.ge HI283.out)) | exact HB.out)⟩
    · replace c8 := Bool.eq_false_iff.mpr c8
      subst c8
      have H1 : ((spec_l20Rd_pick.f k t281 t291 30).bind fun bt294 => ((spec_l20Eager.f k t281 bt294.2 (wrap64 (1 + t284))).bind fun bt296 => (some (wrap64 ((wrap64 (1 + t284)) + (wrap64 (Int.tdiv bt294.1 29))), bt296.1)))) = some (r1, r2) := by rw [if_neg (show ¬ (false = true) by decide)] at H; exact H
      clear H
      have H := H1
      clear H1
      replace H := Option.bind_eq_some_iff.mp H
      obtain ⟨⟨t294, t295⟩, A150, H⟩ := H
      replace H : ((spec_l20Eager.f k t281 t295 (wrap64 (1 + t284))).bind fun bt296 => (some (wrap64 ((wrap64 (1 + t284)) + (wrap64 (Int.tdiv t294 29))), bt296.1))) = some (r1, r2) := H
      have A15 := Aside0.mk A150
      clear A150
      replace H := Option.bind_eq_some_iff.mp H
      obtain ⟨⟨t296, t297⟩, A160, H⟩ := H
      replace H : (some (wrap64 ((wrap64 (1 + t284)) + (wrap64 (Int.tdiv t294 29))), t296)) = some (r1, r2) := H
      have A16 := Aside0.mk A160
      clear A160
      simp only [Option.some.injEq, Prod.mk.injEq] at H
      obtain ⟨rfl, rfl⟩ := H
      go_enter Try.func41, Try.ntmps41
      go_wp2_with (first | ((with_reducible refine gate_callee (f := 70) rfl ?_); refine goesL_ (some 10) rfl rfl Try.func70 (by kernel_rfl) rfl #[.slice A0 l0.length c0] rfl (by (try simp only [List.map_toArray, List.map_cons, List.map_nil]); first | done | rfl | (simp only [List.length_drop, List.length_take]; rfl)) ?_; (with_reducible refine (spec_l20Open.calls _ _ l0 t281 t282 w _ ?side1 ?side2 ?side3 A2.out).mono ?_); (case side1 => repeat (first | (with_reducible first | exact HB.out | apply below_alloc | apply pw_below_drewN | apply below_drew1) | exact HB.out)); (case side2 => exact HR0.out); (case side3 => exact HC0.out); rintro e w17 ⟨g283, rfl, hi, hb, hb2⟩; refine ⟨_, rfl, ?_⟩; have n0_ := Aside0.mk (hb); have n1_ := Aside0.mk (hi); clear HB; have HB := n0_; have HI283 := n1_; clear n0_ n1_; (try clear hb); (try clear hb2); (try clear hk); (try clear hi)) | ((with_reducible refine gate_callee (f := 88) rfl ?_); refine goesL_ (some 12) rfl rfl Try.func88 (by kernel_rfl) rfl #[.pointer (some ⟨g283, 0, none⟩), .int .i64 8] rfl (by (try simp only [List.map_toArray, List.map_cons, List.map_nil]); first | done | rfl | (simp only [List.length_drop, List.length_take]; rfl)) ?_; (with_reducible refine (spec_l20Rd_pick.calls k g283 t281 t282 8 t284 t285 w _ ?side1 ?side2 A3.out).mono ?_); (case side1 => repeat (first | (with_reducible first | exact HI283.out | apply IsS102.alloc | apply IsS102.drewN | apply IsS102.drew | apply IsS102.set_1) | exact HI283.out)); (case side2 => repeat (first | (with_reducible first | exact HB.out | apply below_alloc | apply pw_below_drewN | apply below_drew1 | refine below_set ?_ (IsS102.ge HI283.out)) | exact HB.out)); rintro e w18 ⟨rfl, hi, hb, hk⟩; refine ⟨_, rfl, ?_⟩; have n0_ := Aside0.mk (hb); have n1_ := Aside0.mk (hi); clear HB; clear HI283; have HB := n0_; have HI283 := n1_; clear n0_ n1_; (try clear hb); (try clear hb2); (try clear hk); (try clear hi)) | ((with_reducible refine gate_callee (f := 88) rfl ?_); refine goesL_ (some 15) rfl rfl Try.func88 (by kernel_rfl) rfl #[.pointer (some ⟨g283, 0, none⟩), .int .i64 3] rfl (by (try simp only [List.map_toArray, List.map_cons, List.map_nil]); first | done | rfl | (simp only [List.length_drop, List.length_take]; rfl)) ?_; (with_reducible refine (spec_l20Rd_pick.calls k g283 t281 t285 3 t286 t287 w _ ?side1 ?side2 A4.out).mono ?_); (case side1 => repeat (first | (with_reducible first | exact HI283.out | apply IsS102.alloc | apply IsS102.drewN | apply IsS102.drew | apply IsS102.set_1) | exact HI283.out)); (case side2 => repeat (first | (with_reducible first | exact HB.out | apply below_alloc | apply pw_below_drewN | apply below_drew1 | refine below_set ?_ (IsS102.ge HI283.out)) | exact HB.out)); rintro e w19 ⟨rfl, hi, hb, hk⟩; refine ⟨_, rfl, ?_⟩; have n0_ := Aside0.mk (hb); have n1_ := Aside0.mk (hi); clear HB; clear HI283; have HB := n0_; have HI283 := n1_; clear n0_ n1_; (try clear hb); (try clear hb2); (try clear hk); (try clear hi)) | ((with_reducible refine gate_callee (f := 89) rfl ?_); refine goesL_ (some 18) rfl rfl Try.func89 (by kernel_rfl) rfl #[.pointer (some ⟨g283, 0, none⟩), .int .i64 0] rfl (by (try simp only [List.map_toArray, List.map_cons, List.map_nil]); first | done | rfl | (simp only [List.length_drop, List.length_take]; rfl)) ?_; (with_reducible refine (spec_l20Flat.calls k g283 t281 t287 0 t288 t291 w _ ?side1 ?side2 A6.out).mono ?_); (case side1 => repeat (first | (with_reducible first | exact HI283.out | apply IsS102.alloc | apply IsS102.drewN | apply IsS102.drew | apply IsS102.set_1) | exact HI283.out)); (case side2 => repeat (first | (with_reducible first | exact HB.out | apply below_alloc | apply pw_below_drewN | apply below_drew1 | refine below_set ?_ (IsS102.ge HI283.out)) | exact HB.out)); rintro e w20 ⟨v289, rfl, ho0, hi, hb, hk⟩; refine ⟨_, rfl, ?_⟩; have n0_ := Aside0.mk (Kd.R_lower ho0 (below_size (by repeat (first | (with_reducible first | exact HB.out | apply below_alloc | apply pw_below_drewN | apply below_drew1 | refine below_set ?_ (IsS102.ge HI283.out)) | exact HB.out)))); have n1_ := Aside0.mk (hb); have n2_ := Aside0.mk (hi); clear HB; clear HI283; have HO290 := n0_; have HB := n1_; have HI283 := n2_; clear n0_ n1_ n2_; (try clear hb); (try clear hb2); (try clear hk); (try clear hi); (try clear ho0); obtain ⟨Ao21, co21, eo21⟩ := Kd.R_slice HO290.out; subst eo21) | ((with_reducible refine gate_callee (f := 90) rfl ?_); refine goesL_ (some 21) rfl rfl Try.func90 (by kernel_rfl) rfl #[.slice Ao21 t288.length co21] rfl (by (try simp only [List.map_toArray, List.map_cons, List.map_nil]); first | done | rfl | (simp only [List.length_drop, List.length_take]; rfl)) ?_; (with_reducible refine (spec_EagerFor.calls k _ _ t288 t292 false _ ?side1 ?side2 A7.out).mono ?_); (case side1 => repeat (first | exact (Kd.R_reads' HO290.out).2.2 | (with_reducible refine Kd.C_alloc ?_ _) | (with_reducible refine Kd.C_drewN ?_ _) | (with_reducible refine Kd.C_drew ?_))); (case side2 => exact (Kd.R_reads' HO290.out).2.1); rintro e w22 ⟨rfl, hb⟩; refine ⟨_, rfl, ?_⟩; have n0_ := Aside0.mk (Kd.R_below (by (with_reducible repeat (first | apply Kd.R_alloc | apply Kd.R_drewN | apply Kd.R_drew)); exact HO290.out) hb); have n1_ := Aside0.mk (IsS102.below (by repeat (first | (with_reducible first | exact HI283.out | apply IsS102.alloc | apply IsS102.drewN | apply IsS102.drew | apply IsS102.set_1) | exact HI283.out)) hb); have n2_ := Aside0.mk (below_step (by repeat (first | (with_reducible first | exact HB.out | apply below_alloc | apply pw_below_drewN | apply below_drew1 | refine below_set ?_ (IsS102.ge HI283.out)) | exact HB.out)) hb); clear HO290; clear HI283; clear HB; have HO290 := n0_; have HI283 := n1_; have HB := n2_; clear n0_ n1_ n2_; (try clear hb); (try clear hb2); (try clear hk); (try clear hi)) | ((with_reducible refine gate_callee (f := 88) rfl ?_); refine goesL_ (some 30) rfl rfl Try.func88 (by kernel_rfl) rfl #[.pointer (some ⟨g283, 0, none⟩), .int .i64 30] rfl (by (try simp only [List.map_toArray, List.map_cons, List.map_nil]); first | done | rfl | (simp only [List.length_drop, List.length_take]; rfl)) ?_; (with_reducible refine (spec_l20Rd_pick.calls k g283 t281 t291 30 t294 t295 w _ ?side1 ?side2 A15.out).mono ?_); (case side1 => repeat (first | (with_reducible first | exact HI283.out | apply IsS102.alloc | apply IsS102.drewN | apply IsS102.drew | apply IsS102.set_1) | exact HI283.out)); (case side2 => repeat (first | (with_reducible first | exact HB.out | apply below_alloc | apply pw_below_drewN | apply below_drew1 | refine below_set ?_ (IsS102.ge HI283.out)) | exact HB.out)); rintro e w23 ⟨rfl, hi, hb, hk⟩; refine ⟨_, rfl, ?_⟩; have n0_ := Aside0.mk (Kd.R_mono (Kd.R_keep (IsS102.apart (show IsS102 w _ g283 t281 t291 from by repeat (first | (with_reducible first | exact HI283.out | apply IsS102.alloc | apply IsS102.drewN | apply IsS102.drew | apply IsS102.set_1) | exact HI283.out)) (by (with_reducible repeat (first | apply Kd.R_alloc | apply Kd.R_drewN | apply Kd.R_drew)); exact HO290.out) (by decide)) hk (fun _ h => h.2)) (fun _ h => h.1)); have n1_ := Aside0.mk (hb); have n2_ := Aside0.mk (hi); clear HO290; clear HB; clear HI283; have HO290 := n0_; have HB := n1_; have HI283 := n2_; clear n0_ n1_ n2_; (try clear hb); (try clear hb2); (try clear hk); (try clear hi)) | ((with_reducible refine gate_callee (f := 91) rfl ?_); refine goesL_ (some 35) rfl rfl Try.func91 (by kernel_rfl) rfl #[.pointer (some ⟨g283, 0, none⟩), .int .i64 (wrap64 (1 + t284))] rfl (by (try simp only [List.map_toArray, List.map_cons, List.map_nil]); first | done | rfl | (simp only [List.length_drop, List.length_take]; rfl)) ?_; (with_reducible refine (spec_l20Eager.calls k g283 t281 t295 (wrap64 (1 + t284)) t296 t297 w _ ?side1 ?side2 A16.out).mono ?_); (case side1 => repeat (first | (with_reducible first | exact HI283.out | apply IsS102.alloc | apply IsS102.drewN | apply IsS102.drew | apply IsS102.set_1) | exact HI283.out)); (case side2 => repeat (first | (with_reducible first | exact HB.out | apply below_alloc | apply pw_below_drewN | apply below_drew1 | refine below_set ?_ (IsS102.ge HI283.out)) | exact HB.out)); rintro e w24 ⟨rfl, hi, hb, hk⟩; refine ⟨_, rfl, ?_⟩; have n0_ := Aside0.mk (Kd.R_mono (Kd.R_keep (IsS102.apart (show IsS102 w _ g283 t281 t295 from by repeat (first | (with_reducible first | exact HI283.out | apply IsS102.alloc | apply IsS102.drewN | apply IsS102.drew | apply IsS102.set_1) | exact HI283.out)) (by (with_reducible repeat (first | apply Kd.R_alloc | apply Kd.R_drewN | apply Kd.R_drew)); exact HO290.out) (by decide)) hk (fun _ h => h.2)) (fun _ h => h.1)); have n1_ := Aside0.mk (hb); have n2_ := Aside0.mk (hi); clear HO290; clear HB; clear HI283; have HO290 := n0_; have HB := n1_; have HI283 := n2_; clear n0_ n1_ n2_; (try clear hb); (try clear hb2); (try clear hk); (try clear hi)))
      go_ret2
      exact ⟨by first | rfl | (simp [errW_none, errW_some] <;> rfl) | (simp [*, errW_none, errW_some] <;> rfl), by repeat (first | (with_reducible first | exact HB.out | apply below_alloc | apply pw_below_drewN | apply below_drew1 | refine below_set ?_ (IsS102.ge HI283.out)) | exact HB.out)⟩
  · rw [if_neg c5] at H
    have c5b0 : (t286 == 0) = false := beq_eq_false_iff_ne.mpr c5
    have c5b1 : (t286 != 0) = true := bne_iff_ne.mpr c5
    replace H := Option.bind_eq_some_iff.mp H
    obtain ⟨⟨t298, t299⟩, A250, H⟩ := H
    replace H : ((spec_l20Eager.f k t281 t299 (wrap64 (1 + t284))).bind fun bt300 => (some (wrap64 ((wrap64 (1 + t284)) + (wrap64 (Int.tdiv t298 29))), bt300.1))) = some (r1, r2) := H
    have A25 := Aside0.mk A250
    clear A250
    replace H := Option.bind_eq_some_iff.mp H
    obtain ⟨⟨t300, t301⟩, A260, H⟩ := H
    replace H : (some (wrap64 ((wrap64 (1 + t284)) + (wrap64 (Int.tdiv t298 29))), t300)) = some (r1, r2) := H
    have A26 := Aside0.mk A260
    clear A260
    simp only [Option.some.injEq, Prod.mk.injEq] at H
    obtain ⟨rfl, rfl⟩ := H
    go_enter Try.func41, Try.ntmps41
    go_wp2_with (first | ((with_reducible refine gate_callee (f := 70) rfl ?_); refine goesL_ (some 10) rfl rfl Try.func70 (by kernel_rfl) rfl #[.slice A0 l0.length c0] rfl (by (try simp only [List.map_toArray, List.map_cons, List.map_nil]); first | done | rfl | (simp only [List.length_drop, List.length_take]; rfl)) ?_; (with_reducible refine (spec_l20Open.calls _ _ l0 t281 t282 w _ ?side1 ?side2 ?side3 A2.out).mono ?_); (case side1 => repeat (first | (with_reducible first | exact HB.out | apply below_alloc | apply pw_below_drewN | apply below_drew1) | exact HB.out)); (case side2 => exact HR0.out); (case side3 => exact HC0.out); rintro e w27 ⟨g283, rfl, hi, hb, hb2⟩; refine ⟨_, rfl, ?_⟩; have n0_ := Aside0.mk (hb); have n1_ := Aside0.mk (hi); clear HB; have HB := n0_; have HI283 := n1_; clear n0_ n1_; (try clear hb); (try clear hb2); (try clear hk); (try clear hi)) | ((with_reducible refine gate_callee (f := 88) rfl ?_); refine goesL_ (some 12) rfl rfl Try.func88 (by kernel_rfl) rfl #[.pointer (some ⟨g283, 0, none⟩), .int .i64 8] rfl (by (try simp only [List.map_toArray, List.map_cons, List.map_nil]); first | done | rfl | (simp only [List.length_drop, List.length_take]; rfl)) ?_; (with_reducible refine (spec_l20Rd_pick.calls k g283 t281 t282 8 t284 t285 w _ ?side1 ?side2 A3.out).mono ?_); (case side1 => repeat (first | (with_reducible first | exact HI283.out | apply IsS102.alloc | apply IsS102.drewN | apply IsS102.drew | apply IsS102.set_1) | exact HI283.out)); (case side2 => repeat (first | (with_reducible first | exact HB.out | apply below_alloc | apply pw_below_drewN | apply below_drew1 | refine below_set ?_ (IsS102.ge HI283.out)) | exact HB.out)); rintro e w28 ⟨rfl, hi, hb, hk⟩; refine ⟨_, rfl, ?_⟩; have n0_ := Aside0.mk (hb); have n1_ := Aside0.mk (hi); clear HB; clear HI283; have HB := n0_; have HI283 := n1_; clear n0_ n1_; (try clear hb); (try clear hb2); (try clear hk); (try clear hi)) | ((with_reducible refine gate_callee (f := 88) rfl ?_); refine goesL_ (some 15) rfl rfl Try.func88 (by kernel_rfl) rfl #[.pointer (some ⟨g283, 0, none⟩), .int .i64 3] rfl (by (try simp only [List.map_toArray, List.map_cons, List.map_nil]); first | done | rfl | (simp only [List.length_drop, List.length_take]; rfl)) ?_; (with_reducible refine (spec_l20Rd_pick.calls k g283 t281 t285 3 t286 t287 w _ ?side1 ?side2 A4.out).mono ?_); (case side1 => repeat (first | (with_reducible first | exact HI283.out | apply IsS102.alloc | apply IsS102.drewN | apply IsS102.drew | apply IsS102.set_1) | exact HI283.out)); (case side2 => repeat (first | (with_reducible first | exact HB.out | apply below_alloc | apply pw_below_drewN | apply below_drew1 | refine below_set ?_ (IsS102.ge HI283.out)) | exact HB.out)); rintro e w29 ⟨rfl, hi, hb, hk⟩; refine ⟨_, rfl, ?_⟩; have n0_ := Aside0.mk (hb); have n1_ := Aside0.mk (hi); clear HB; clear HI283; have HB := n0_; have HI283 := n1_; clear n0_ n1_; (try clear hb); (try clear hb2); (try clear hk); (try clear hi)) | ((with_reducible refine gate_callee (f := 88) rfl ?_); refine goesL_ (some 30) rfl rfl Try.func88 (by kernel_rfl) rfl #[.pointer (some ⟨g283, 0, none⟩), .int .i64 30] rfl (by (try simp only [List.map_toArray, List.map_cons, List.map_nil]); first | done | rfl | (simp only [List.length_drop, List.length_take]; rfl)) ?_; (with_reducible refine (spec_l20Rd_pick.calls k g283 t281 t287 30 t298 t299 w _ ?side1 ?side2 A25.out).mono ?_); (case side1 => repeat (first | (with_reducible first | exact HI283.out | apply IsS102.alloc | apply IsS102.drewN | apply IsS102.drew | apply IsS102.set_1) | exact HI283.out)); (case side2 => repeat (first | (with_reducible first | exact HB.out | apply below_alloc | apply pw_below_drewN | apply below_drew1 | refine below_set ?_ (IsS102.ge HI283.out)) | exact HB.out)); rintro e w30 ⟨rfl, hi, hb, hk⟩; refine ⟨_, rfl, ?_⟩; have n0_ := Aside0.mk (hb); have n1_ := Aside0.mk (hi); clear HB; clear HI283; have HB := n0_; have HI283 := n1_; clear n0_ n1_; (try clear hb); (try clear hb2); (try clear hk); (try clear hi)) | ((with_reducible refine gate_callee (f := 91) rfl ?_); refine goesL_ (some 35) rfl rfl Try.func91 (by kernel_rfl) rfl #[.pointer (some ⟨g283, 0, none⟩), .int .i64 (wrap64 (1 + t284))] rfl (by (try simp only [List.map_toArray, List.map_cons, List.map_nil]); first | done | rfl | (simp only [List.length_drop, List.length_take]; rfl)) ?_; (with_reducible refine (spec_l20Eager.calls k g283 t281 t299 (wrap64 (1 + t284)) t300 t301 w _ ?side1 ?side2 A26.out).mono ?_); (case side1 => repeat (first | (with_reducible first | exact HI283.out | apply IsS102.alloc | apply IsS102.drewN | apply IsS102.drew | apply IsS102.set_1) | exact HI283.out)); (case side2 => repeat (first | (with_reducible first | exact HB.out | apply below_alloc | apply pw_below_drewN | apply below_drew1 | refine below_set ?_ (IsS102.ge HI283.out)) | exact HB.out)); rintro e w31 ⟨rfl, hi, hb, hk⟩; refine ⟨_, rfl, ?_⟩; have n0_ := Aside0.mk (hb); have n1_ := Aside0.mk (hi); clear HB; clear HI283; have HB := n0_; have HI283 := n1_; clear n0_ n1_; (try clear hb); (try clear hb2); (try clear hk); (try clear hi)))
    go_ret2
    exact ⟨by first | rfl | (simp [errW_none, errW_some] <;> rfl) | (simp [*, errW_none, errW_some] <;> rfl), by repeat (first | (with_reducible first | exact HB.out | apply below_alloc | apply pw_below_drewN | apply below_drew1 | refine below_set ?_ (IsS102.ge HI283.out)) | exact HB.out)⟩

/-! ### impl_stack_eager: function 92, told by hand -/
section
set_option maxHeartbeats 8000000
set_option maxRecDepth 100000
theorem sm_one_of {ws : List Int} (h : ws ≠ []) : ∃ xs u, ws = xs ++ [u] := ⟨_, _, (List.dropLast_concat_getLast h).symm⟩
theorem sm_owns_cut1 {w : World} {B gw c : Nat} {xs : List Int} {u : Int} (h : w.ownsRow B 3 1 (.slice (some ⟨gw, 0, none⟩) (xs.length + 1) c) (xs.length + 1) (nums .i64 (xs ++ [u]))) : w.ownsRow B 3 1 (.slice (some ⟨gw, 0, none⟩) xs.length c) xs.length (nums .i64 xs) := by
  obtain ⟨_, ⟨h1, h2⟩ | ⟨g, cap, cur, h1, h2, h3, h4, h5, h6, h7⟩⟩ := h
  · cases h1
  · cases h1
    refine ⟨by simp [nums], .inr ⟨_, _, cur, rfl, h2, h3, by omega, h5, h6, ?_⟩⟩
    have := congrArg (List.take xs.length) h7
    rw [List.take_take] at this
    simpa [nums, Nat.min_eq_left] using this
/-- one move of the eager machine: whether it can be done, and the state behind it -/
def sm_eg (m : Int) (ws : List Int) (nx : Int) (hs : List Int) : Bool × List Int × Int × List Int :=
  if m = 83 then (if nx = hs.length then (false, ws, nx, hs) else (true, ws ++ [nx + 1], nx + 1, hs))
  else if ws = [] then (false, ws, nx, hs)
  else if m = 76 ∧ nx < hs.length ∧ rd hs (ws.getLastD 0 - 1) = 0 then (true, ws.dropLast, nx, hs.set ((ws.getLastD 0).toNat - 1) (nx + 1))
  else if m = 82 ∧ nx < hs.length then (true, ws ++ [nx + 1], nx + 1, hs.set nx.toNat (ws.getLastD 0))
  else if m = 68 ∧ rd hs (ws.getLastD 0 - 1) ≠ 0 then (true, ws.dropLast, nx, hs)
  else (false, ws, nx, hs)
theorem sm_eg_one (m : Int) (xs : List Int) (u nx : Int) (hs : List Int) (h : ¬ m = 83) : sm_eg m (xs ++ [u]) nx hs =
    if m = 76 ∧ nx < hs.length ∧ rd hs (u - 1) = 0 then (true, xs, nx, hs.set (u.toNat - 1) (nx + 1))
    else if m = 82 ∧ nx < hs.length then (true, xs ++ [u, nx + 1], nx + 1, hs.set nx.toNat u)
    else if m = 68 ∧ rd hs (u - 1) ≠ 0 then (true, xs, nx, hs) else (false, xs ++ [u], nx, hs) := by
  unfold sm_eg
  rw [if_neg h, if_neg (by simp)]
  simp
theorem sm_okm_eg (m : Int) {ws : List Int} {nx : Int} {hs : List Int} (h : sm_Okm ws nx hs) : sm_Okm (sm_eg m ws nx hs).2.1 (sm_eg m ws nx hs).2.2.1 (sm_eg m ws nx hs).2.2.2 ∧ (sm_eg m ws nx hs).2.2.2.length = hs.length := by
  by_cases h1 : m = 83
  · unfold sm_eg
    rw [if_pos h1]
    split
    · exact ⟨h, rfl⟩
    · obtain ⟨a, b, c, d⟩ := h
      refine ⟨⟨by simp; omega, by simp; omega, by simp; omega, ?_⟩, rfl⟩
      intro x hx
      simp only [List.mem_append, List.mem_singleton] at hx
      rcases hx with hx | rfl
      · exact d x hx
      · simp; omega
  · by_cases h2 : ws = []
    · unfold sm_eg
      rw [if_neg h1, if_pos h2]
      exact ⟨h, rfl⟩
    · obtain ⟨xs, u, rfl⟩ := sm_one_of h2
      rw [sm_eg_one m xs u nx hs h1]
      obtain ⟨a, b, c, d⟩ := h
      simp only [List.length_append, List.length_cons, List.length_nil] at c
      split
      · exact ⟨⟨a, by simpa using b, by simp; omega, fun x hx => by simpa using d x (by simp [hx])⟩, by simp⟩
      · split
        · rename_i q
          refine ⟨⟨by simp; omega, by simp; omega, by simp; omega, ?_⟩, by simp⟩
          intro x hx
          simp only [List.mem_append, List.mem_cons, List.not_mem_nil, or_false] at hx
          rcases hx with hx | rfl | rfl
          · simpa using d x (by simp [hx])
          · simpa using d x (by simp)
          · simp; omega
        · split
          · exact ⟨⟨a, b, by simp; omega, fun x hx => d x (by simp [hx])⟩, rfl⟩
          · exact ⟨⟨a, b, by simp; omega, d⟩, rfl⟩
theorem sm_St.pop {w : World} {B g gw n c : Nat} {xs : List Int} {u nx : Int} {gh : Nat} {hs : List Int} {dp : Int} (h : sm_St w B g (.slice (some ⟨gw, 0, none⟩) n c) (xs ++ [u]) nx gh hs dp) :
    sm_St (w.setCell ⟨g, 0, none⟩ (.slice (some ⟨gw, 0, none⟩) xs.length c)) B g (.slice (some ⟨gw, 0, none⟩) xs.length c) xs nx gh hs dp := by
  have ho := h.own
  obtain ⟨A, c', e⟩ := sm_owns_form ho
  cases e
  simp only [List.length_append, List.length_singleton] at ho
  exact h.upd' (vw' := .slice (some ⟨gw, 0, none⟩) xs.length c) (ws' := xs) (sm_grown_set (World.grownBy.refl _ _) _ _) rfl (blk_put h.blk 0 _ rfl) (sm_owns_cut1 ho)
theorem sm_eag_push (w : World) (B g : Nat) (vw : Value) (ws : List Int) (nx : Int) (gh : Nat) (hs : List Int) (dp : Int) (hS : sm_St w B g vw ws nx gh hs dp) (h0 : 0 ≤ nx) (h1 : nx < hs.length) (h2 : hs.length ≤ 100) (h3 : ws.length < 100) (h4 : 0 ≤ dp) (h5 : dp ≤ 100000) :
    Calls Try.prog 92 #[.pointer (some ⟨g, 0, none⟩), .int .u8 83] w (sm_StP w B g (ws ++ [nx + 1]) (nx + 1) gh hs (.bool true)) := by
  have HS := Aside0.mk hS
  clear hS
  go_enter Try.func92, Try.ntmps92
  go_wp2_with (go_at_call 118; (with_reducible refine (sm_push_yes _ B g _ ws nx gh hs dp HS.out h0 h1 h2 (by omega) h4 h5).mono ?_); rintro e w1 ⟨v1, d1, rfl, s1, s2, s3, s4⟩)
  go_ret
  exact ⟨_, _, rfl, s1, s2, s3, s4⟩
theorem sm_eag_full (w : World) (B g : Nat) (vw : Value) (ws : List Int) (nx : Int) (gh : Nat) (hs : List Int) (dp : Int) (hS : sm_St w B g vw ws nx gh hs dp) (h1 : nx = hs.length) (h2 : hs.length ≤ 100) (h4 : 0 ≤ dp) (h5 : dp ≤ 100000) :
    Calls Try.prog 92 #[.pointer (some ⟨g, 0, none⟩), .int .u8 83] w (sm_StP w B g ws nx gh hs (.bool false)) := by
  have HS := Aside0.mk hS
  have H1 := Aside0.mk h1
  clear hS h1
  go_enter Try.func92, Try.ntmps92
  go_wp2_with (go_at_call 118; (with_reducible refine (sm_push_no _ B g _ ws nx gh hs dp HS.out H1.out h2 h4 h5).mono ?_); rintro e w1 ⟨v1, d1, rfl, s1, s2, s3, s4⟩)
  go_ret
  exact ⟨_, _, rfl, s1, s2, s3, s4⟩
theorem sm_eag_empty (w : World) (B g : Nat) (vw : Value) (nx : Int) (gh : Nat) (hs : List Int) (dp : Int) (hS : sm_St w B g vw [] nx gh hs dp) (m : Int) (h1 : ¬ m = 83) (h4 : 0 ≤ dp) (h5 : dp ≤ 100000) :
    Calls Try.prog 92 #[.pointer (some ⟨g, 0, none⟩), .int .u8 m] w (sm_StP w B g [] nx gh hs (.bool false)) := by
  have HS := Aside0.mk hS
  obtain ⟨A, c, rfl⟩ := sm_owns_form hS.own
  have bk := hS.blk
  have k0 : w.cell? ⟨g, 0, none⟩ = some (.slice A 0 c) := (blk_cell bk 0).trans rfl
  have e1 : (m == 83) = false := beq_eq_false_iff_ne.mpr h1
  clear bk hS h1
  go_enter Try.func92, Try.ntmps92
  go_wp2
  go_ret
  exact ⟨_, _, rfl, HS.out, h4, h5, Below.refl _ _⟩
/-- what the walk needs to know of the cells -/
theorem sm_eag_any (w : World) (B g : Nat) (vw : Value) (xs : List Int) (u nx : Int) (gh : Nat) (hs : List Int) (dp : Int) (hS : sm_St w B g vw (xs ++ [u]) nx gh hs dp) (h0 : 0 ≤ nx) (h1 : nx ≤ hs.length) (h2 : hs.length ≤ 90) (h3 : xs.length < 90) (h4 : 0 ≤ dp) (h5 : dp ≤ 100000) (b1 : 1 ≤ u) (b2 : u ≤ hs.length) (m : Int) (hm : ¬ m = 83) :
    Calls Try.prog 92 #[.pointer (some ⟨g, 0, none⟩), .int .u8 m] w (sm_StP w B g (sm_eg m (xs ++ [u]) nx hs).2.1 (sm_eg m (xs ++ [u]) nx hs).2.2.1 gh (sm_eg m (xs ++ [u]) nx hs).2.2.2 (.bool (sm_eg m (xs ++ [u]) nx hs).1)) := by
  have HS := Aside0.mk hS
  obtain ⟨gw, c, rfl, -, -⟩ := hS.own.form (by simp)
  have hl : (xs ++ [u]).length = xs.length + 1 := by simp
  have ho := hS.own
  have bk := hS.blk
  rw [hl] at ho bk
  have k0 : w.cell? ⟨g, 0, none⟩ = some (.slice (some ⟨gw, 0, none⟩) (xs.length + 1) c) := (blk_cell bk 0).trans rfl
  have k1 : w.cell? ⟨g, 1, none⟩ = some (.int .i64 nx) := (blk_cell bk 1).trans rfl
  have k2 : w.cell? ⟨g, 2, none⟩ = some (.slice (some ⟨gh, 0, none⟩) hs.length hs.length) := (blk_cell bk 2).trans rfl
  have f0 := blk_frozen bk 0
  have c0 : w.cell? ⟨gw, xs.length, none⟩ = some (.int .i64 u) := by
    have := ho.cells (g := gw) rfl xs.length (.int .i64 u) (by simp [nums])
    simpa [add_plain] using this
  have hc0 : xs.length ≤ c := by
    obtain ⟨_, ⟨h1, _⟩ | ⟨_, _, _, h1, _, _, h4, _⟩⟩ := ho
    · cases h1
    · cases h1; omega
  have hc : w.cell? ⟨gh, u.toNat - 1, none⟩ = some (.int .i64 (rd hs (u - 1))) := by
    rw [blk_cell HS.out.hds]
    simp [nums, rd, List.getD_eq_getElem?_getD, List.getElem?_eq_getElem (show u.toNat - 1 < hs.length by omega)]
  have hf := blk_frozen HS.out.hds (u.toNat - 1)
  have hne := HS.out.ne
  have BK := Aside0.mk bk
  have HO := Aside0.mk ho
  clear bk ho hS hl
  have p1 : (0 : Int) ≤ (xs.length : Int) := Int.natCast_nonneg _
  have e0 : (m == 83) = false := beq_eq_false_iff_ne.mpr hm
  have hE := sm_eg_one m xs u nx hs hm
  have hcx : nx < hs.length → w.cell? ⟨gh, nx.toNat, none⟩ = some (.int .i64 (rd hs nx)) := by
    intro q
    rw [blk_cell HS.out.hds]
    simp [nums, rd, List.getD_eq_getElem?_getD, List.getElem?_eq_getElem (show nx.toNat < hs.length by omega)]
  have hfx := blk_frozen HS.out.hds nx.toNat
  by_cases c76 : m = 76
  · subst c76
    clear e0
    by_cases cn : nx < hs.length
    · have cnb : decide (nx < (hs.length : Int)) = true := decide_eq_true cn
      by_cases cz : rd hs (u - 1) = 0
      · have czb : (rd hs (u - 1) == 0) = true := beq_iff_eq.mpr cz
        rw [if_pos ⟨rfl, cn, cz⟩] at hE
        rw [hE]
        clear hE hm cn cz hcx
        go_enter Try.func92, Try.ntmps92
        go_wp2
        go_quiet (fail)
        go_wp2
        go_region
        all_goals
          go_wp2
          go_ret
          exact ⟨_, _, rfl, ((HS.out.drewN _).put_head (u.toNat - 1) (nx + 1)).pop, h4, h5, ((pw_below_drewN (Below.refl _ _) _).setCell HS.out.low' _).setCell HS.out.low _⟩
      · have czb : (rd hs (u - 1) == 0) = false := beq_eq_false_iff_ne.mpr cz
        rw [if_neg (fun q => cz q.2.2), if_neg (fun q => absurd q.1 (by decide)), if_neg (fun q => absurd q.1 (by decide))] at hE
        rw [hE]
        clear hE hm cn cz hcx
        go_enter Try.func92, Try.ntmps92
        go_wp2
        go_quiet (fail)
        go_wp2
        go_ret
        exact ⟨_, _, rfl, HS.out.drewN _, h4, h5, pw_below_drewN (Below.refl _ _) _⟩
    · have cnb : decide (nx < (hs.length : Int)) = false := decide_eq_false cn
      rw [if_neg (fun q => cn q.2.1), if_neg (fun q => cn q.2), if_neg (fun q => absurd q.1 (by decide))] at hE
      rw [hE]
      clear hE hm cn hcx
      go_enter Try.func92, Try.ntmps92
      go_wp2
      go_quiet (fail)
      go_wp2
      go_ret
      exact ⟨_, _, rfl, HS.out.drewN _, h4, h5, pw_below_drewN (Below.refl _ _) _⟩
  · have e76 : (m == 76) = false := beq_eq_false_iff_ne.mpr c76
    rw [if_neg (fun q => c76 q.1)] at hE
    clear c76
    by_cases c82 : m = 82
    · subst c82
      clear e0 e76
      by_cases cn : nx < hs.length
      · have cnb : decide (nx < (hs.length : Int)) = true := decide_eq_true cn
        have hcy := hcx cn
        rw [if_pos ⟨rfl, cn⟩] at hE
        rw [hE]
        clear hE hm hcx
        go_enter Try.func92, Try.ntmps92
        go_wp2
        go_quiet (fail)
        go_wp2
        go_region
        go_wp2_with (go_at_call 118; (with_reducible refine (sm_push_yes _ B g _ (xs ++ [u]) nx gh (hs.set nx.toNat u) dp ((HS.out.drewN _).put_head nx.toNat u) h0 (by rw [List.length_set]; exact cn) (by rw [List.length_set]; omega) (by simp; omega) h4 h5).mono ?_); rintro e w1 ⟨v1, d1, rfl, s1, s2, s3, s4⟩)
        go_ret
        exact ⟨v1, d1, rfl, by simpa using s1, s2, s3, Below.trans ((pw_below_drewN (Below.refl _ _) _).setCell HS.out.low' _) s4⟩
      · have cnb : decide (nx < (hs.length : Int)) = false := decide_eq_false cn
        rw [if_neg (fun q => cn q.2), if_neg (fun q => absurd q.1 (by decide))] at hE
        rw [hE]
        clear hE hm cn hcx
        go_enter Try.func92, Try.ntmps92
        go_wp2
        go_quiet (fail)
        go_wp2
        go_ret
        exact ⟨_, _, rfl, HS.out.drewN _, h4, h5, pw_below_drewN (Below.refl _ _) _⟩
    · have e82 : (m == 82) = false := beq_eq_false_iff_ne.mpr c82
      rw [if_neg (fun q => c82 q.1)] at hE
      clear c82 hcx
      by_cases c68 : m = 68
      · subst c68
        clear e0 e76 e82
        by_cases cz : rd hs (u - 1) = 0
        · have czb : (rd hs (u - 1) != 0) = false := bne_eq_false_iff_eq.mpr cz
          rw [if_neg (fun q => q.2 cz)] at hE
          rw [hE]
          clear hE hm cz
          go_enter Try.func92, Try.ntmps92
          go_wp2
          go_quiet (fail)
          go_wp2
          go_ret
          exact ⟨_, _, rfl, HS.out.drewN _, h4, h5, pw_below_drewN (Below.refl _ _) _⟩
        · have czb : (rd hs (u - 1) != 0) = true := bne_iff_ne.mpr cz
          rw [if_pos ⟨rfl, cz⟩] at hE
          rw [hE]
          clear hE hm cz
          go_enter Try.func92, Try.ntmps92
          go_wp2
          go_quiet (fail)
          go_wp2
          go_ret
          exact ⟨_, _, rfl, (HS.out.drewN _).pop, h4, h5, (pw_below_drewN (Below.refl _ _) _).setCell HS.out.low _⟩
      · have e68 : (m == 68) = false := beq_eq_false_iff_ne.mpr c68
        rw [if_neg (fun q => c68 q.1)] at hE
        rw [hE]
        clear hE hm c68
        go_enter Try.func92, Try.ntmps92
        go_wp2
        go_quiet (fail)
        go_wp2
        go_ret
        exact ⟨_, _, rfl, HS.out.drewN _, h4, h5, pw_below_drewN (Below.refl _ _) _⟩
theorem sm_eager_any (w : World) (B g : Nat) (vw : Value) (ws : List Int) (nx : Int) (gh : Nat) (hs : List Int) (dp : Int) (hS : sm_St w B g vw ws nx gh hs dp) (hok : sm_Okm ws nx hs) (h2 : hs.length ≤ 90) (h4 : 0 ≤ dp) (h5 : dp ≤ 100000) (m : Int) :
    Calls Try.prog 92 #[.pointer (some ⟨g, 0, none⟩), .int .u8 m] w (sm_StP w B g (sm_eg m ws nx hs).2.1 (sm_eg m ws nx hs).2.2.1 gh (sm_eg m ws nx hs).2.2.2 (.bool (sm_eg m ws nx hs).1)) := by
  have hl : ws.length ≤ 90 := by have := hok.len; have := hok.n1; omega
  by_cases h1 : m = 83
  · subst h1
    by_cases h6 : nx = hs.length
    · have e : sm_eg 83 ws nx hs = (false, ws, nx, hs) := by unfold sm_eg; rw [if_pos rfl, if_pos h6]
      rw [e]
      exact sm_eag_full w B g vw ws nx gh hs dp hS h6 (by omega) h4 h5
    · have e : sm_eg 83 ws nx hs = (true, ws ++ [nx + 1], nx + 1, hs) := by unfold sm_eg; rw [if_pos rfl, if_neg h6]
      rw [e]
      exact sm_eag_push w B g vw ws nx gh hs dp hS hok.n0 (by have := hok.n1; omega) (by omega) (by omega) h4 h5
  · by_cases h7 : ws = []
    · subst h7
      have e : sm_eg m [] nx hs = (false, [], nx, hs) := by unfold sm_eg; rw [if_neg h1, if_pos rfl]
      rw [e]
      exact sm_eag_empty w B g vw nx gh hs dp hS m h1 h4 h5
    · obtain ⟨xs, u, rfl⟩ := sm_one_of h7
      have hx : xs.length < 90 := by simp at hl; omega
      have hu := hok.mem u (by simp)
      exact sm_eag_any w B g vw xs u nx gh hs dp hS hok.n0 hok.n1 (by omega) hx h4 h5 hu.1 hu.2 m h1
end

/-! ### impl_RunEager: function 42, told by hand -/
section
set_option maxHeartbeats 8000000
set_option maxRecDepth 100000
/-! the eager machine over moves -/
def sm_esteps : List Int → List Int → Int → List Int → Option (List Int × Int × List Int)
  | [], ws, nx, hs => some (ws, nx, hs)
  | m :: ms, ws, nx, hs => if (sm_eg m ws nx hs).1 = true then sm_esteps ms (sm_eg m ws nx hs).2.1 (sm_eg m ws nx hs).2.2.1 (sm_eg m ws nx hs).2.2.2 else none
def sm_zeros (hs : List Int) : Nat → Int
  | 0 => 0
  | k + 1 => sm_zeros hs k + if rd hs k = 0 then 1 else 0
theorem sm_zeros_succ (hs : List Int) (k : Nat) : sm_zeros hs (k + 1) = sm_zeros hs k + if rd hs k = 0 then 1 else 0 := rfl
theorem sm_zeros_le (hs : List Int) : ∀ k, 0 ≤ sm_zeros hs k ∧ sm_zeros hs k ≤ k
  | 0 => ⟨Int.le_refl _, Int.le_refl _⟩
  | k + 1 => by
    have := sm_zeros_le hs k
    rw [sm_zeros_succ]
    split <;> omega
def sm_eend (n : Nat) (r : List Int × Int × List Int) : List Int × Bool := if r.2.1 < (n : Int) ∨ sm_zeros r.2.2 n ≠ 1 then ([], false) else (r.2.2, true)
def sm_runE (n : Int) (s : ByteArray) : List Int × Bool :=
  if n < 1 ∨ 8 < n then ([], false) else match sm_esteps (bytesOf s) [] 0 (List.replicate n.toNat 0) with | none => ([], false) | some r => sm_eend n.toNat r
theorem sm_esteps_drop {s : ByteArray} {i : Nat} (h : i < s.size) (ws : List Int) (nx : Int) (hs : List Int) : sm_esteps ((bytesOf s).drop i) ws nx hs = if (sm_eg (bt s i) ws nx hs).1 = true then sm_esteps ((bytesOf s).drop (i + 1)) (sm_eg (bt s i) ws nx hs).2.1 (sm_eg (bt s i) ws nx hs).2.2.1 (sm_eg (bt s i) ws nx hs).2.2.2 else none := by
  have hl : i < (bytesOf s).length := by rw [bytesOf_length]; exact h
  rw [List.drop_eq_getElem_cons hl]
  have e : (bytesOf s)[i] = bt s i := by
    rw [← rd_bytesOf]
    simp [rd, List.getD_eq_getElem?_getD, List.getElem?_eq_getElem hl]
  rw [e]
  rfl
theorem sm_RunE_any (n : Int) (s : ByteArray) (w : World) (hs1 : s.size ≤ 1000000000) (r : List Int × Bool) (hr : sm_runE n s = r) : Calls Try.prog 42 #[.int .i64 n, .string s] w (sm_RunP w r.1 r.2) := by
  by_cases h : n < 1 ∨ 8 < n
  · obtain rfl : r = ([], false) := by rw [← hr]; unfold sm_runE; rw [if_pos h]
    clear hr
    by_cases h1 : n < 1
    · have e1 : decide (n < 1) = true := decide_eq_true h1
      clear h h1
      go_enter Try.func42, Try.ntmps42
      go_wp2
      go_ret2
      exact ⟨_, rfl, Kd.R_nil _ _ _ _ _, Below.refl _ _⟩
    · have e1 : decide (n < 1) = false := decide_eq_false h1
      have e2 : decide (8 < n) = true := decide_eq_true (h.resolve_left h1)
      clear h h1
      go_enter Try.func42, Try.ntmps42
      go_wp2
      go_ret2
      exact ⟨_, rfl, Kd.R_nil _ _ _ _ _, Below.refl _ _⟩
  · obtain ⟨m, rfl⟩ : ∃ m : Nat, n = (m : Int) := ⟨n.toNat, by omega⟩
    have h1 : 1 ≤ m := by omega
    have h8 : m ≤ 8 := by omega
    have HRR : Aside0 ((match sm_esteps ((bytesOf s).drop 0) [] 0 (List.replicate m 0) with | none => (([], false) : List Int × Bool) | some r => sm_eend m r) = r) := ⟨by
      unfold sm_runE at hr
      rw [if_neg h, Int.toNat_natCast] at hr
      exact hr⟩
    have hm := print_make (P := Try.prog) 22 3 .i64 8 Try.underlying22 info3 (by omega) m (by omega)
    have e1 : decide ((m : Int) < 1) = false := decide_eq_false (by omega)
    have e2 : decide (8 < (m : Int)) = false := decide_eq_false (by omega)
    clear h hr
    go_enter Try.func42, Try.ntmps42
    go_wp2
    clear e1 e2
    have hS0 : sm_St ((w.alloc (.cells (madeCells #[.int .i64 0] m) 3)).alloc (.cells #[.slice none 0 0, .int .i64 0, .slice (some ⟨w.heap.size, 0, none⟩) m m, .int .i64 0] 87)) w.heap.size (w.heap.size + 1) (.slice none 0 0) [] 0 w.heap.size (List.replicate m 0) 0 := by
      have e1 : (w.alloc (.cells (madeCells #[.int .i64 0] m) 3)).heap.size = w.heap.size + 1 := by simp
      have e2 := heap_alloc_new (w.alloc (.cells (madeCells #[.int .i64 0] m) 3)) (.cells #[.slice none 0 0, .int .i64 0, .slice (some ⟨w.heap.size, 0, none⟩) m m, .int .i64 0] 87)
      rw [e1] at e2
      refine ⟨by rw [List.length_replicate]; exact e2, by omega, World.ownsRow_nil _ _ _ _, by simp [Value.ownBlock], by simp [Value.ownBlock], ?_, Nat.le_refl _, by omega⟩
      exact (Below.heap_alloc _ _ _ (by simp)).trans (sm_made_blk w _)
    have hB0 : Below w.heap.size w ((w.alloc (.cells (madeCells #[.int .i64 0] m) 3)).alloc (.cells #[.slice none 0 0, .int .i64 0, .slice (some ⟨w.heap.size, 0, none⟩) m m, .int .i64 0] 87)) :=
      ((Below.refl _ _).alloc (Nat.le_refl _) _).alloc (by simp) _
    generalize (w.alloc (.cells (madeCells #[.int .i64 0] m) 3)).alloc (.cells #[.slice none 0 0, .int .i64 0, .slice (some ⟨w.heap.size, 0, none⟩) m m, .int .i64 0] 87) = W0 at *
    have HS0 := Aside0.mk hS0
    have HB0 := Aside0.mk hB0
    clear hS0 hB0 hm
    have HRP := Aside0.mk (List.length_replicate (n := m) (a := (0 : Int)))
    generalize List.replicate m (0 : Int) = hs0 at *
    have HSZ := Aside0.mk (bytesOf_length s)
    go_loopg [23] s.size (fun kq v23 w' => ∃ (i : Nat) (ws : List Int) (nx : Int) (hs : List Int) (vw : Value) (dp : Int), v23 = .int .i64 (i : Int) ∧ Aside0 (i + kq = s.size) ∧ Aside0 ((match sm_esteps ((bytesOf s).drop i) ws nx hs with | none => (([], false) : List Int × Bool) | some r => sm_eend m r) = r) ∧ Aside0 (sm_St w' w.heap.size (w.heap.size + 1) vw ws nx w.heap.size hs dp) ∧ Aside0 (sm_Okm ws nx hs ∧ hs.length = m ∧ 0 ≤ dp ∧ dp ≤ 100000) ∧ Aside0 (Below w.heap.size w w'))
    case atStart => exact ⟨0, [], 0, hs0, _, 0, rfl, ⟨by omega⟩, HRR, HS0, ⟨⟨by omega, by omega, by simp, by simp⟩, HRP.out, by omega, by omega⟩, HB0⟩
    case round =>
      obtain ⟨i, ws, nx, hs, vw, dp, rfl, HI, HA, HS, HK, HB⟩ := hrel
      have ik := HI.out
      cases gk with
      | zero =>
        have q1 : ¬ ((i : Int) < (s.size : Int)) := by omega
        have HF : Aside0 (sm_eend m (ws, nx, hs) = r) := ⟨by
          have := HA.out
          rw [List.drop_eq_nil_of_le (by rw [HSZ.out]; omega)] at this
          exact this⟩
        clear ik
        have k1 : wr.cell? ⟨w.heap.size + 1, 1, none⟩ = some (.int .i64 nx) := (blk_cell HS.out.blk 1).trans rfl
        have k2 : wr.cell? ⟨w.heap.size + 1, 2, none⟩ = some (.slice (some ⟨w.heap.size, 0, none⟩) hs.length hs.length) := (blk_cell HS.out.blk 2).trans rfl
        rw [HK.out.2.1] at k2
        go_wp2
        go_loop [8, 38] (fun v8 v38 => ∃ k : Nat, k ≤ m ∧ v38 = .int .i64 (k : Int) ∧ v8 = .int .i64 (sm_zeros hs k)) (fun _ v => m - (match v with | .int _ n => n.toNat | _ => 0))
        case atStart => exact ⟨0, Nat.zero_le _, rfl, rfl⟩
        case round =>
          obtain ⟨k, hk, rfl, rfl⟩ := hrel
          have hz := sm_zeros_le hs k
          by_cases hlt : k < m
          · have q3 : (k : Int) < (m : Int) := by omega
            have q4 : (0 : Int) ≤ (k : Int) := Int.natCast_nonneg _
            have hc : wr.cell? ⟨w.heap.size, k, none⟩ = some (.int .i64 (rd hs k)) := by
              rw [blk_cell HS.out.hds]
              have := HK.out.2.1
              simp [nums, rd, List.getD_eq_getElem?_getD, List.getElem?_eq_getElem (show k < hs.length by omega)]
            have HZ := Aside0.mk (sm_zeros_succ hs k)
            by_cases c2 : rd hs k = 0
            · have c2b := beq_iff_eq.mpr c2
              have HZ2 := Aside0.mk (HZ.out.trans (by rw [if_pos c2]))
              clear c2
              go_wp2
              go_round
              case rel => exact ⟨k + 1, by omega, by go_num, by rw [HZ2.out]⟩
              case measure => simp; omega
            · have c2b := beq_eq_false_iff_ne.mpr c2
              have HZ2 := Aside0.mk (HZ.out.trans (by rw [if_neg c2]))
              clear c2
              go_wp2
              go_round
              case rel => exact ⟨k + 1, by omega, by go_num, by rw [HZ2.out]; go_num⟩
              case measure => simp; omega
          · obtain rfl : k = m := by omega
            have q3 : ¬ (k : Int) < (k : Int) := by omega
            by_cases c3 : nx < (k : Int)
            · have e3 : decide (nx < (k : Int)) = true := decide_eq_true c3
              have HG := Aside0.mk (HF.out.symm.trans (if_pos (.inl c3)))
              clear c3 hz
              go_wp2
              go_ret2
              obtain rfl := HG.out
              exact ⟨_, rfl, Kd.R_nil _ _ _ _ _, HB.out⟩
            · have e3 : decide (nx < (k : Int)) = false := decide_eq_false c3
              by_cases c4 : sm_zeros hs k = 1
              · have e4 : (sm_zeros hs k != 1) = false := bne_eq_false_iff_eq.mpr c4
                have HG := Aside0.mk (HF.out.symm.trans (if_neg (fun q => q.elim c3 (fun q => q c4))))
                clear c3 c4 hz
                go_wp2
                go_ret2
                obtain rfl := HG.out
                exact ⟨.slice (some ⟨w.heap.size, 0, none⟩) k k, rfl, by have := HS.out.row (by rw [HK.out.2.1]; omega); rw [HK.out.2.1] at this; exact this, HB.out⟩
              · have e4 : (sm_zeros hs k != 1) = true := bne_iff_ne.mpr c4
                have HG := Aside0.mk (HF.out.symm.trans (if_pos (.inr c4)))
                clear c3 c4 hz
                go_wp2
                go_ret2
                obtain rfl := HG.out
                exact ⟨_, rfl, Kd.R_nil _ _ _ _ _, HB.out⟩
      | succ k1 =>
        have q0 : i < s.size := by omega
        have q1 : (i : Int) < (s.size : Int) := by omega
        have q2 : (0 : Int) ≤ (i : Int) := Int.natCast_nonneg _
        have hb : ((s[i]'q0).toNat : Int) = bt s i := bt_at s i q0
        have HM := Aside0.mk (sm_okm_eg (bt s i) HK.out.1)
        have HN := Aside0.mk (sm_esteps_drop q0 ws nx hs)
        clear ik
        by_cases c1 : (sm_eg (bt s i) ws nx hs).1 = true
        · have HG := Aside0.mk (HN.out.trans (by rw [if_pos c1]))
          go_wp2_with (go_at_call 92; (with_reducible refine (sm_eager_any _ _ _ _ ws nx _ hs dp HS.out HK.out.1 (by rw [HK.out.2.1]; omega) HK.out.2.2.1 HK.out.2.2.2 _).mono ?_); rintro e w2 ⟨v2, d2, rfl, s1, s2, s3, s4⟩)
          go_roundg k1
          case measure => omega
          case rel => exact ⟨i + 1, _, _, _, v2, d2, by go_num, ⟨by have := HI.out; omega⟩, ⟨by have := HA.out; rw [HG.out] at this; exact this⟩, ⟨s1⟩, ⟨HM.out.1, HM.out.2.trans HK.out.2.1, s2, s3⟩, ⟨HB.out.trans s4⟩⟩
        · have HG : Aside0 ((([], false) : List Int × Bool) = r) := ⟨by have := HA.out; rw [HN.out, if_neg c1] at this; exact this⟩
          have c2 : (sm_eg (bt s i) ws nx hs).1 = false := by simpa using c1
          clear c1
          go_wp2_with (go_at_call 92; (with_reducible refine (sm_eager_any _ _ _ _ ws nx _ hs dp HS.out HK.out.1 (by rw [HK.out.2.1]; omega) HK.out.2.2.1 HK.out.2.2.2 _).mono ?_); rintro e w2 ⟨v2, d2, rfl, s1, s2, s3, s4⟩)
          go_ret2
          obtain rfl := HG.out
          exact ⟨_, rfl, Kd.R_nil _ _ _ _ _, HB.out.trans s4⟩

def impl_RunEager.f (a0 : Int) (a1 : ByteArray) : Option (List Int × Bool) := if a1.size ≤ 1000000000 then some (sm_runE a0 a1) else none
theorem impl_RunEager.calls (a0 : Int) (a1 : ByteArray) (r1 : List Int) (r2 : Bool) (w : World) (h : impl_RunEager.f a0 a1 = some (r1, r2)) :
    Calls Try.prog 42 #[.int .i64 a0, .string a1] w fun e w' => ∃ v0_ : Value, e = .returned (.tuple #[v0_, .bool r2]) ∧ Kd.R (Kd.int .i64) 3 w' w.heap.size (fun _ => True) v0_ r1 ∧ Below w.heap.size w w' := by
  unfold impl_RunEager.f at h
  by_cases c : a1.size ≤ 1000000000
  · rw [if_pos c] at h
    exact sm_RunE_any a0 a1 w c (r1, r2) (Option.some.inj h)
  · rw [if_neg c] at h
    cases h
end

/-! ### spec_RunEager: function 43, told by hand -/
section
set_option maxHeartbeats 8000000
set_option maxRecDepth 100000
theorem ss_l1In_val (a b c : Int) : spec_l1In.f a b c = some (decide (b ≤ a ∧ a ≤ c)) := by
  unfold spec_l1In.f
  by_cases h : b ≤ a
  · rw [if_pos (show a ≥ b from h)]
    simp [h]
  · rw [if_neg (show ¬ a ≥ b from h)]
    simp [h]
def ss_RunP (w : World) (r1 : List Int) (r2 : Bool) (e : Ending) (w' : World) : Prop :=
  ∃ v0 : Value, e = .returned (.tuple #[v0, .bool r2]) ∧ Kd.R (Kd.int .i64) 3 w' w.heap.size (fun _ => True) v0 r1 ∧ Below w.heap.size w w'
theorem ss_Rw.row {w : World} {B g c : Nat} {xs : List Int} (h : ss_Rw w B g c xs) : Kd.R (Kd.int .i64) 3 w B (fun _ => True) (.slice (some ⟨g, 0, none⟩) xs.length c) xs := by
  have hz : (Kd.int .i64).sz = 1 := rfl
  refine ⟨fun _ _ => trivial, nums .i64 xs, World.ownsRow.loose h, ?_⟩
  refine ⟨by simp [nums, hz], fun j p hj => ?_⟩
  show _ = [Value.int .i64 p]
  obtain ⟨h1, rfl⟩ := List.getElem?_eq_some_iff.1 hj
  rw [hz, Nat.mul_one, List.drop_eq_getElem_cons (by simpa [nums] using h1)]
  simp [nums]
def ss_ssteps : List Int → List Int → Int → List Int → Option (List Int × Int × List Int)
  | [], ws, nt, hs => some (ws, nt, hs)
  | m :: ms, ws, nt, hs => if (ss_sp m ws nt hs).1 = true then ss_ssteps ms (ss_sp m ws nt hs).2.1 (ss_sp m ws nt hs).2.2.1 (ss_sp m ws nt hs).2.2.2 else none
def ss_negs (hs : List Int) : Nat → Int
  | 0 => 0
  | k + 1 => ss_negs hs k + if rd hs k < 0 then 1 else 0
theorem ss_negs_succ (hs : List Int) (k : Nat) : ss_negs hs (k + 1) = ss_negs hs k + if rd hs k < 0 then 1 else 0 := rfl
theorem ss_negs_le (hs : List Int) : ∀ k, 0 ≤ ss_negs hs k ∧ ss_negs hs k ≤ k
  | 0 => ⟨Int.le_refl _, Int.le_refl _⟩
  | k + 1 => by
    have := ss_negs_le hs k
    rw [ss_negs_succ]
    split <;> omega
def ss_fixK (hs : List Int) : Nat → List Int
  | 0 => hs
  | k + 1 => if rd hs k < 0 then (ss_fixK hs k).set k 0 else ss_fixK hs k
theorem ss_fixK_len (hs : List Int) : ∀ k, (ss_fixK hs k).length = hs.length
  | 0 => rfl
  | k + 1 => by
    unfold ss_fixK
    split
    · rw [List.length_set]; exact ss_fixK_len hs k
    · exact ss_fixK_len hs k
theorem ss_fixK_rd (hs : List Int) : ∀ (k j : Nat), k ≤ j → rd (ss_fixK hs k) j = rd hs j
  | 0, _, _ => rfl
  | k + 1, j, h => by
    unfold ss_fixK
    split
    · rw [show rd ((ss_fixK hs k).set k 0) (j : Int) = rd (ss_fixK hs k) (j : Int) by
        simp only [rd, List.getD_eq_getElem?_getD, Int.toNat_natCast]
        rw [List.getElem?_set_ne (by omega)]]
      exact ss_fixK_rd hs k j (by omega)
    · exact ss_fixK_rd hs k j (by omega)
def ss_send (n : Nat) (r : List Int × Int × List Int) : List Int × Bool := if ss_negs r.2.2 n ≠ 1 ∨ r.2.1 ≤ (n : Int) then ([], false) else (ss_fixK r.2.2 n, true)
def ss_srunE (n : Int) (s : ByteArray) : List Int × Bool :=
  if n < 1 ∨ 8 < n then ([], false) else match ss_ssteps (bytesOf s) [] 1 (List.replicate n.toNat (-1)) with | none => ([], false) | some r => ss_send n.toNat r
theorem ss_ssteps_drop {s : ByteArray} {i : Nat} (h : i < s.size) (ws : List Int) (nt : Int) (hs : List Int) : ss_ssteps ((bytesOf s).drop i) ws nt hs = if (ss_sp (bt s i) ws nt hs).1 = true then ss_ssteps ((bytesOf s).drop (i + 1)) (ss_sp (bt s i) ws nt hs).2.1 (ss_sp (bt s i) ws nt hs).2.2.1 (ss_sp (bt s i) ws nt hs).2.2.2 else none := by
  have hl : i < (bytesOf s).length := by rw [bytesOf_length]; exact h
  rw [List.drop_eq_getElem_cons hl]
  have e : (bytesOf s)[i] = bt s i := by
    rw [← rd_bytesOf]
    simp [rd, List.getD_eq_getElem?_getD, List.getElem?_eq_getElem hl]
  rw [e]
  rfl
theorem ss_sRun_any (n : Int) (s : ByteArray) (w : World) (hs1 : s.size ≤ 1000000000) (r : List Int × Bool) (hr : ss_srunE n s = r) : Calls Try.prog 43 #[.int .i64 n, .string s] w (ss_RunP w r.1 r.2) := by
  by_cases h : n < 1 ∨ 8 < n
  · obtain rfl : r = ([], false) := by rw [← hr]; unfold ss_srunE; rw [if_pos h]
    have HL := Aside0.mk ((ss_l1In_val n 1 8).trans (by rw [decide_eq_false (by omega)]))
    clear hr h
    go_enter Try.func43, Try.ntmps43
    go_wp2_with (go_at_call 93; (with_reducible refine (spec_l1In.calls n 1 8 false _ HL.out).mono ?_); rintro e w' ⟨rfl, ⟨nd, rfl⟩⟩)
    go_ret2
    exact ⟨.slice (some ⟨(w.drewN nd).heap.size, 0, none⟩) 0 0, rfl, (ss_lit_row (w.drewN nd) (Nat.le_refl _)).row, (pw_below_drewN (Below.refl _ _) _).alloc (Nat.le_refl _) _⟩
  · obtain ⟨m, rfl⟩ : ∃ m : Nat, n = (m : Int) := ⟨n.toNat, by omega⟩
    have h1 : 1 ≤ m := by omega
    have h8 : m ≤ 8 := by omega
    have HRR : Aside0 ((match ss_ssteps ((bytesOf s).drop 0) [] 1 (List.replicate m (-1)) with | none => (([], false) : List Int × Bool) | some r => ss_send m r) = r) := ⟨by
      unfold ss_srunE at hr
      rw [if_neg h, Int.toNat_natCast] at hr
      exact hr⟩
    have HL := Aside0.mk ((ss_l1In_val (m : Int) 1 8).trans (by rw [decide_eq_true (by omega)]))
    clear h hr
    obtain ⟨i0, hi0, hz0, hz1, hz2⟩ := info_parts info3
    have HI := Aside0.mk hi0
    have HZ0 := Aside0.mk hz0
    have HZ1 := Aside0.mk hz1
    have HZ2 := Aside0.mk hz2
    clear hi0 hz0 hz1 hz2
    go_enter Try.func43, Try.ntmps43
    go_wp2_with (go_at_call 93; (with_reducible refine (spec_l1In.calls m 1 8 true _ HL.out).mono ?_); rintro e w' ⟨rfl, ⟨nd, rfl⟩⟩)
    have hw0 := ss_lit_row (w.drewN nd) (B := w.heap.size) (Nat.le_refl _)
    have hb0 : Below w.heap.size w ((w.drewN nd).alloc (.cells #[] 3)) := (pw_below_drewN (Below.refl _ _) _).alloc (Nat.le_refl _) _
    generalize (w.drewN nd).alloc (.cells #[] 3) = W0 at *
    have HR0 := Aside0.mk hw0
    have HB0 := Aside0.mk hb0
    clear hw0 hb0
    go_loopg [6, 7] m (fun kq v6 v7 w' => ∃ (k g c : Nat), v6 = .slice (some ⟨g, 0, none⟩) k c ∧ v7 = .int .i64 (k : Int) ∧ Aside0 (k + kq = m) ∧ Aside0 (ss_Rw w' w.heap.size g c (List.replicate k (-1))) ∧ Aside0 (Below w.heap.size w w'))
    case atStart => exact ⟨0, _, _, rfl, rfl, ⟨by omega⟩, HR0, HB0⟩
    case round =>
      obtain ⟨k, g, c, rfl, rfl, HK, HR, HB⟩ := hrel
      have hk := HK.out
      cases gk with
      | succ k1 =>
        have q1 : (k : Int) < (m : Int) := by omega
        have q2 : (0 : Int) ≤ (k : Int) := Int.natCast_nonneg _
        go_wp2_with (at_builtin; refine wpList_append_lies _ (by rfl) _ _ _ (by rfl) w.heap.size 3 i0 _ 1 8 Try.underlying22 HI.out HZ0.out HZ1.out HZ2.out rfl (by omega) (.slice (some ⟨g, 0, none⟩) k c) k (nums .i64 (List.replicate k (-1))) (by rfl) (World.ownsRow.alloc (by simpa [ss_Rw] using HR.out) _) ⟨wr.heap.size, 0, none⟩ 1 1 [.int .i64 (-1)] (by rfl) (by rfl) (World.news_of_block (cs := #[.int .i64 (-1)]) (t := 3) (fr := (0, 0)) (heap_alloc_new wr _)) (by simp [Value.oneCell']) (by omega) (by unfold maxLen; omega) (by omega) (by have := HB.out.size; simp; omega) (wr.heap.size + 1) (by simp) ?_; intro g2 c2 w2 hown hgrow hat hlt; obtain ⟨s1, s2, s3⟩ := ss_grown_one HR.out (by simpa using hown) hgrow hat; clear hown hgrow hat)
        go_roundg k1
        case measure => omega
        case rel =>
          refine ⟨k + 1, g2, c2, rfl, by go_num, ⟨by omega⟩, ⟨?_⟩, ⟨HB.out.trans (ss_below_of_grown s2 (by intro j hj; injection hj with hj; have := HR.out.lt; omega) HB.out.size)⟩⟩
          rw [List.replicate_succ']
          exact s1
      | zero =>
        have q1 : ¬ (k : Int) < (m : Int) := by omega
        obtain rfl : k = m := by omega
        clear hk
        have HRL := Aside0.mk (List.length_replicate (n := k) (a := (-1 : Int)))
        go_upto_region 10 with (fail)
        have hh1 := HR.out.keep (World.grownBy_alloc wr (.cells #[] 3) none) (by simp)
        have hs1 := ss_lit_row wr HB.out.size
        have hb1 := HB.out.alloc HB.out.size (.cells #[] 3)
        have hne : wr.heap.size ≠ g := by have := HR.out.lt; omega
        generalize wr.alloc (.cells #[] 3) = W1 at *
        generalize wr.heap.size = gs at *
        have HH1 := Aside0.mk hh1
        have HS1 := Aside0.mk hs1
        have HB1 := Aside0.mk hb1
        have HNE := Aside0.mk hne
        clear hh1 hs1 hb1 hne HR HB HR0 HB0
        generalize List.replicate k (-1 : Int) = hs0 at *
        have HSZ := Aside0.mk (bytesOf_length s)
        go_wp2
        go_loopg [8, 9, 10] s.size (fun kq v8 v9 v10 w' => ∃ (i gs cs : Nat) (ws : List Int) (nt : Int) (hs : List Int), v8 = .slice (some ⟨gs, 0, none⟩) ws.length cs ∧ v9 = .int .i64 nt ∧ v10 = .int .i64 (i : Int) ∧ Aside0 (i + kq = s.size) ∧ Aside0 ((match ss_ssteps ((bytesOf s).drop i) ws nt hs with | none => (([], false) : List Int × Bool) | some r => ss_send k r) = r) ∧ Aside0 (ss_Rw w' w.heap.size g c hs) ∧ Aside0 (ss_Rw w' w.heap.size gs cs ws) ∧ Aside0 (gs ≠ g) ∧ Aside0 (ss_Oks ws nt hs ∧ hs.length = k) ∧ Aside0 (Below w.heap.size w w'))
        case atStart => exact ⟨0, _, _, [], 1, hs0, rfl, rfl, rfl, ⟨by omega⟩, HRR, HH1, HS1, HNE, ⟨⟨by omega, by omega, by simp, by simp⟩, HRL.out⟩, HB1⟩
        case round =>
          obtain ⟨i, gs, cs, ws, nt, hs, rfl, rfl, rfl, HI, HA, HH, HS, HN, HK2, HB⟩ := hrel
          have ik := HI.out
          cases gk with
          | succ k1 =>
            have q0 : i < s.size := by omega
            have q1 : (i : Int) < (s.size : Int) := by omega
            have q2 : (0 : Int) ≤ (i : Int) := Int.natCast_nonneg _
            have hb : ((s[i]'q0).toNat : Int) = bt s i := bt_at s i q0
            have HM := Aside0.mk (ss_oks_sp (bt s i) HK2.out.1)
            have HD := Aside0.mk (ss_ssteps_drop q0 ws nt hs)
            have hc := ss_step_any wr w.heap.size g c gs cs hs ws nt (bt s i) HH.out HS.out HN.out HK2.out.1.n0 HK2.out.1.mem (by rw [HK2.out.2]; omega) (by have := HK2.out.1.len; have := HK2.out.1.n1; have := HK2.out.2; omega)
            rw [HK2.out.2] at hc
            have HC := Aside0.mk hc
            clear hc ik
            by_cases c1 : (ss_sp (bt s i) ws nt hs).1 = true
            · have HG := Aside0.mk (HD.out.trans (by rw [if_pos c1]))
              go_wp2_with (go_at_call 94; (with_reducible refine HC.out.mono ?_); rintro e w2 ⟨g2, c2, rfl, s1, s2, s3, s4⟩)
              go_roundg k1
              case measure => omega
              case rel => exact ⟨i + 1, g2, c2, _, _, _, rfl, rfl, by go_num, ⟨by have := HI.out; omega⟩, ⟨by have := HA.out; rw [HG.out] at this; exact this⟩, ⟨s2⟩, ⟨s1⟩, ⟨s3⟩, ⟨HM.out.1, HM.out.2.trans HK2.out.2⟩, ⟨HB.out.trans s4⟩⟩
            · have HG : Aside0 ((([], false) : List Int × Bool) = r) := ⟨by have := HA.out; rw [HD.out, if_neg c1] at this; exact this⟩
              have c2 : (ss_sp (bt s i) ws nt hs).1 = false := by simpa using c1
              clear c1
              go_wp2_with (go_at_call 94; (with_reducible refine HC.out.mono ?_); rintro e w2 ⟨g2, c2, rfl, s1, s2, s3, s4⟩)
              go_ret2
              obtain rfl := HG.out
              exact ⟨.slice (some ⟨w2.heap.size, 0, none⟩) 0 0, rfl, (ss_lit_row w2 (HB.out.trans s4).size).row, (HB.out.trans s4).alloc (HB.out.trans s4).size _⟩
          | zero =>
            have q1 : ¬ ((i : Int) < (s.size : Int)) := by omega
            have HF : Aside0 (ss_send k (ws, nt, hs) = r) := ⟨by
              have := HA.out
              rw [List.drop_eq_nil_of_le (by rw [HSZ.out]; omega)] at this
              exact this⟩
            clear ik
            go_wp2
            go_loopg [14, 15] k (fun kq v14 v15 w' => ∃ j : Nat, v14 = .int .i64 (ss_negs hs j) ∧ v15 = .int .i64 (j : Int) ∧ Aside0 (j + kq = k) ∧ Aside0 (ss_Rw w' w.heap.size g c (ss_fixK hs j)) ∧ Aside0 (Below w.heap.size w w'))
            case atStart => exact ⟨0, rfl, rfl, ⟨by omega⟩, HH, HB⟩
            case round =>
              obtain ⟨j, rfl, rfl, HJ, HX, HY⟩ := hrel
              have jk := HJ.out
              have hz := ss_negs_le hs j
              have hlen := (ss_fixK_len hs j).trans HK2.out.2
              cases gk with
              | succ k1 =>
                have q3 : (j : Int) < (k : Int) := by omega
                have q4 : (0 : Int) ≤ (j : Int) := Int.natCast_nonneg _
                have hc := HX.out.cell j (by omega)
                rw [ss_fixK_rd hs j j (Nat.le_refl _)] at hc
                have hf := HX.out.frz j
                have HZ := Aside0.mk (ss_negs_succ hs j)
                by_cases c2 : rd hs j < 0
                · have c2b := decide_eq_true c2
                  have HZ3 := Aside0.mk (HZ.out.trans (by rw [if_pos c2]))
                  have HX2 : Aside0 (ss_Rw (wr.setCell ⟨g, j, none⟩ (.int .i64 0)) w.heap.size g c (ss_fixK hs (j + 1))) := ⟨by
                    have := HX.out.set j 0
                    unfold ss_fixK
                    rw [if_pos c2]
                    exact this⟩
                  have HY2 : Aside0 (Below w.heap.size w (wr.setCell ⟨g, j, none⟩ (.int .i64 0))) := ⟨HY.out.setCell HX.out.lt.1 _⟩
                  clear c2 hlen
                  go_wp2
                  go_roundg k1
                  case measure => omega
                  case rel => exact ⟨j + 1, by rw [HZ3.out], by go_num, ⟨by have := HJ.out; omega⟩, HX2, HY2⟩
                · have c2b := decide_eq_false c2
                  have HZ3 := Aside0.mk (HZ.out.trans (by rw [if_neg c2]))
                  have HX2 : Aside0 (ss_Rw wr w.heap.size g c (ss_fixK hs (j + 1))) := ⟨by
                    unfold ss_fixK
                    rw [if_neg c2]
                    exact HX.out⟩
                  clear c2 hlen
                  go_wp2
                  go_roundg k1
                  case measure => omega
                  case rel => exact ⟨j + 1, by rw [HZ3.out]; go_num, by go_num, ⟨by have := HJ.out; omega⟩, HX2, HY⟩
              | zero =>
                obtain rfl : j = k := by omega
                have q3 : ¬ (j : Int) < (j : Int) := by omega
                clear jk
                by_cases c3 : ss_negs hs j = 1
                · have e3 : (ss_negs hs j != 1) = false := bne_eq_false_iff_eq.mpr c3
                  by_cases c4 : nt ≤ (j : Int)
                  · have e4 : decide (nt ≤ (j : Int)) = true := decide_eq_true c4
                    have HG := Aside0.mk (HF.out.symm.trans (if_pos (.inr c4)))
                    clear c3 c4 hz
                    go_wp2
                    go_ret2
                    obtain rfl := HG.out
                    exact ⟨.slice (some ⟨wr.heap.size, 0, none⟩) 0 0, rfl, (ss_lit_row wr HY.out.size).row, HY.out.alloc HY.out.size _⟩
                  · have e4 : decide (nt ≤ (j : Int)) = false := decide_eq_false c4
                    have HG := Aside0.mk (HF.out.symm.trans (if_neg (fun q => q.elim (fun q => q c3) c4)))
                    clear c3 c4 hz
                    go_wp2
                    go_ret2
                    obtain rfl := HG.out
                    exact ⟨.slice (some ⟨g, 0, none⟩) j c, rfl, by have := HX.out.row; rw [hlen] at this; exact this, HY.out⟩
                · have e3 : (ss_negs hs j != 1) = true := bne_iff_ne.mpr c3
                  have HG := Aside0.mk (HF.out.symm.trans (if_pos (.inl c3)))
                  clear c3 hz
                  go_wp2
                  go_ret2
                  obtain rfl := HG.out
                  exact ⟨.slice (some ⟨wr.heap.size, 0, none⟩) 0 0, rfl, (ss_lit_row wr HY.out.size).row, HY.out.alloc HY.out.size _⟩

def spec_RunEager.f (a0 : Int) (a1 : ByteArray) : Option (List Int × Bool) := if a1.size ≤ 1000000000 then some (ss_srunE a0 a1) else none
theorem spec_RunEager.calls (a0 : Int) (a1 : ByteArray) (r1 : List Int) (r2 : Bool) (w : World) (h : spec_RunEager.f a0 a1 = some (r1, r2)) :
    Calls Try.prog 43 #[.int .i64 a0, .string a1] w fun e w' => ∃ v0_ : Value, e = .returned (.tuple #[v0_, .bool r2]) ∧ Kd.R (Kd.int .i64) 3 w' w.heap.size (fun _ => True) v0_ r1 ∧ Below w.heap.size w w' := by
  unfold spec_RunEager.f at h
  by_cases c : a1.size ≤ 1000000000
  · rw [if_pos c] at h
    exact ss_sRun_any a0 a1 w c (r1, r2) (Option.some.inj h)
  · rw [if_neg c] at h
    cases h
end

end Go.Proofs.Ytbbhdgpiocojaaa.LF
