/- Printed out of the translation (wip/lp); no conditions beyond those that each theorem names. -/
import Derived.Test.YtidimndhnagfeaaLIx0
import Derived.Test.YtidimndhnagfeaaLIx3
import Derived.Test.YtidimndhnagfeaaLIx5
import Derived.Test.YtidimndhnagfeaaLIx7
import Derived.Test.YtidimndhnagfeaaLIx8
import Derived.Test.YtidimndhnagfeaaLIx11
namespace Go.Proofs.Ytidimndhnagfeaa.LI
open Go.RowKit Go.Proofs.YtidimndhnagfeaaV.PrintWords Go.Proofs.YtidimndhnagfeaaV.PrintLast Go.Proofs.YtidimndhnagfeaaV.PrintMore
attribute [local go_sem] max2_int min2_int max_two min_two max_three min_three max_four min_four   -- for this text's walks alone
set_option linter.unusedVariables false
set_option linter.unusedSimpArgs false

/-! ### spec_l20Desk: function 109 -/
def spec_l20Desk.l0 : Nat → Int → Int → List Int → Int → List Int → List (List Int) → Option (List Int × (List (List Int)) × Int)
 | 0, _, _, _, _, _, _ => none
 | k + 1, x1, x7, x1000, x1001, x497000, x497001 => if x7 > 0 then ((spec_l20Deed.f k x1000 x1001 x497000).bind fun bt499 => ((spec_DeskDo_owned.f k x497000 x497001 bt499.1 bt499.2.1 bt499.2.2.1).bind fun bt503 => (if bt503.2.2 = true then (spec_l20Desk.l0 k x1 (wrap64 (x7 - 1)) x1000 bt499.2.2.2 bt503.1 bt503.2.1) else (spec_l20Desk.l0 k x1 (wrap64 (x7 - 1)) x1000 bt499.2.2.2 x497000 x497001)))) else ((spec_l20Rd_odd.f k x1000 x1001 x1).bind fun bt511 => (if bt511.1 = true then ((spec_l20Rd_pick.f k x1000 bt511.2 3).bind fun bt513 => (if bt513.1 = 0 then (some ((([1] : List Int)), x497001, bt513.2)) else (if bt513.1 = 1 then (if x497001.length < 5864062014805 then (some (x497000, (x497001 ++ [(([] : List Int))]), bt513.2)) else (none)) else (some (([] : List Int), ([] : List (List Int)), bt513.2))))) else (some (x497000, x497001, bt511.2))))
def spec_l20Desk.f (k : Nat) (s0_0 : List Int) (s0_1 : Int) (a1 : Int) : Option (List Int × (List (List Int)) × Int) := (spec_l20Wild.f k s0_0 s0_1 0).bind fun bt485 => ((spec_DeskNew.f k bt485.1).bind fun bt489 => ((spec_l20Rd_pick.f k s0_0 bt485.2 6).bind fun bt497 => (spec_l20Desk.l0 k a1 bt497.1 s0_0 bt497.2 bt489.1 bt489.2.1)))
theorem spec_l20Desk.mono_l : ∀ k, (∀ y0 y1 y2 y3 y4 y5, LeO (spec_l20Desk.l0 k y0 y1 y2 y3 y4 y5) (spec_l20Desk.l0 (k + 1) y0 y1 y2 y3 y4 y5))
 | 0 => fun _ _ _ _ _ _ r h => by simp [spec_l20Desk.l0] at h
 | k + 1 => by
  have ih0 := spec_l20Desk.mono_l k
  ·intro y0 y1 y2 y3 y4 y5
   unfold spec_l20Desk.l0
   repeat' first
   | (with_reducible exact ih0 _ _ _ _ _ _)
   | (with_reducible exact spec_DeskDo_owned.mono _ _ _ _ _ _)
   | (with_reducible exact spec_DeskNew.mono _ _)
   | (with_reducible exact spec_l20Deed.mono _ _ _ _)
   | (with_reducible exact spec_l20Rd_odd.mono _ _ _ _)
   | (with_reducible exact spec_l20Rd_pick.mono _ _ _ _)
   | (with_reducible exact spec_l20Wild.mono _ _ _ _)
   | (with_reducible exact LeO.refl _)
   | (with_reducible exact LeO.none _)
   | (with_reducible refine LeO.ite ?_ ?_)
   | (with_reducible refine LeO.bind ?_ (fun _ => ?_))
   | refine LeO.ite ?_ ?_
   | refine LeO.bind ?_ (fun _ => ?_)
theorem spec_l20Desk.mono : ∀ a0 a1 a2 k, LeO (spec_l20Desk.f k a0 a1 a2) (spec_l20Desk.f (k + 1) a0 a1 a2) := by
 intro a0 a1 a2 k
 have ih0 := spec_l20Desk.mono_l k
 unfold spec_l20Desk.f
 repeat' first
   | (with_reducible exact ih0 _ _ _ _ _ _)
   | (with_reducible exact spec_DeskDo_owned.mono _ _ _ _ _ _)
   | (with_reducible exact spec_DeskNew.mono _ _)
   | (with_reducible exact spec_l20Deed.mono _ _ _ _)
   | (with_reducible exact spec_l20Rd_odd.mono _ _ _ _)
   | (with_reducible exact spec_l20Rd_pick.mono _ _ _ _)
   | (with_reducible exact spec_l20Wild.mono _ _ _ _)
   | (with_reducible exact LeO.refl _)
   | (with_reducible exact LeO.none _)
   | (with_reducible refine LeO.ite ?_ ?_)
   | (with_reducible refine LeO.bind ?_ (fun _ => ?_))
   | refine LeO.ite ?_ ?_
   | refine LeO.bind ?_ (fun _ => ?_)
def spec_l20Desk.T5 : Bool × List (List Nat × List Nat) := (true, [([], []), ([], []), ([], []), ([2], [2]), ([1, 3], [1, 3]), ([0, 4, 4], [0, 4]), ([5], [5]), ([6], [6]), ([6], [6]), ([], []), ([9, 7, 5, 0, 1, 2, 3, 4, 5, 6, 7, 9], [7, 9]), ([8, 10, 0, 1, 2, 3, 4, 5, 6, 7, 8, 9, 10], [8])])
def spec_l20Desk.B5 : List Nat := [0, 0, 0, 4, 14, 31, 63, 127, 127, 0, 767, 2047]
theorem spec_l20Desk.tab5 : rtab .any (opsOf Try.f109 5) = spec_l20Desk.T5 := by kernel_rfl
theorem spec_l20Desk.bits5 : waitsOk spec_l20Desk.T5.2 spec_l20Desk.B5 = true := by kernel_rfl
set_option maxHeartbeats 8000000 in
set_option maxRecDepth 100000 in
theorem spec_l20Desk.calls (k : Nat) (g : Nat) (s0_0 : List Int) (s0_1 : Int) (a1 : Int) (r1 : List Int) (r2 : List (List Int)) (r3 : Int) (w0 w : World) (hI : Z107 w0 w g s0_0 s0_1) (hB : Below w0.heap.size w0 w) (h : spec_l20Desk.f k s0_0 s0_1 a1 = some (r1, r2, r3)) :
  Calls Try.prog 109 #[.pointer (some ⟨g, 0, none⟩), .int .i64 a1] w fun e w' => ∃ v0_ v1_ : Value, e = .returned (.agg #[v0_, v1_]) ∧ Kd.R (Kd.int .i64) 3 w' w.heap.size (fun _ => True) v0_ r1 ∧ Kd.S (Kd.slice 3 (Kd.int .i64)) 23 w' w.heap.size (fun k_ => some k_ ≠ (v0_ : Value).ownBlock) v1_ r2 ∧ Z107 w0 w' g s0_0 r3 ∧ Below w0.heap.size w0 w' ∧ KeepBut w w' g none := by
 have hu52 := Try.underlying52
 have HI0 := zM hI
 have HK := zM (KeepBut.refl w g none)
 have HL := zM hB.size
 clear hI
 have HW0 := zM hB.size
 have HB := zM hB
 clear hB
 have H : ((spec_l20Wild.f k s0_0 s0_1 0).bind fun bt485 => ((spec_DeskNew.f k bt485.1).bind fun bt489 => ((spec_l20Rd_pick.f k s0_0 bt485.2 6).bind fun bt497 => (spec_l20Desk.l0 k a1 bt497.1 s0_0 bt497.2 bt489.1 bt489.2.1)))) = some (r1, r2, r3) := h
 clear h
 replace H := Option.bind_eq_some_iff.mp H
 obtain ⟨⟨t485, t488⟩, A30, H⟩ := H
 replace H : ((spec_DeskNew.f k t485).bind fun bt489 => ((spec_l20Rd_pick.f k s0_0 t488 6).bind fun bt497 => (spec_l20Desk.l0 k a1 bt497.1 s0_0 bt497.2 bt489.1 bt489.2.1))) = some (r1, r2, r3) := H
 have A3 := zM A30
 clear A30
 replace H := Option.bind_eq_some_iff.mp H
 obtain ⟨⟨t489, t492, t495⟩, A40, H⟩ := H
 replace H : ((spec_l20Rd_pick.f k s0_0 t488 6).bind fun bt497 => (spec_l20Desk.l0 k a1 bt497.1 s0_0 bt497.2 t489 t492)) = some (r1, r2, r3) := H
 have A4 := zM A40
 clear A40
 replace H := Option.bind_eq_some_iff.mp H
 obtain ⟨⟨t497, t498⟩, A50, H⟩ := H
 replace H : (spec_l20Desk.l0 k a1 t497 s0_0 t498 t489 t492) = some (r1, r2, r3) := H
 have A5 := zM A50
 clear A50
 have H' := zM H
 clear H
 go_enter Try.func109, Try.ntmps109
 go_wp2_with (first | ((with_reducible refine gate_dst (N := 4) rfl ?_); refine box_event ?hg (N := 4) ?hd (cs := #[.slice none 0 0, .slice none 0 0]) (t := 52) ?hr ?_; (case hd => rfl);(case hg => rfl);(case hr => first | (go_simp; done) | (go_simp; rfl)); intro gb484 hg w6 hbox hb;have n0_:=zM (Z107.below (by repeat (first | (with_reducible first | exact HI0.out | apply Z107.alloc | apply Z107.drewN | apply Z107.drew | apply Z107.set_1) | exact HI0.out)) hb);have n1_:=zM (KeepBut.trans (by repeat (first | (with_reducible first | exact HK.out | apply zK | apply keep_drewN | apply keep_drew | apply keep_alloc) | exact HK.out)) (KeepBut.of_below hb g none) (.inl rfl));have n2_:=zM (below_step (by repeat (first | (with_reducible first | exact HB.out | apply zB | apply zA | apply zC | refine zD ?_ (Z107.ge HI0.out)) | exact HB.out)) hb);have n3_:=zM (hbox);have n4_:=zM ((by rw [hg]; exact (keep_size (w := w) (g := g) (row := none) (by repeat (first | (with_reducible first | exact HK.out | apply zK | apply keep_drewN | apply keep_drew | apply keep_alloc) | exact HK.out))) : w.heap.size ≤ gb484));have n5_:=zM ((Nat.le_trans HW0.out (by rw [hg]; exact (keep_size (w := w) (g := g) (row := none) (by repeat (first | (with_reducible first | exact HK.out | apply zK | apply keep_drewN | apply keep_drew | apply keep_alloc) | exact HK.out))) : w.heap.size ≤ gb484) : w0.heap.size ≤ gb484));have n6_:=zM ((by rw [hg]; exact Nat.ne_of_lt (Z107.lt (show Z107 w0 _ g s0_0 s0_1 from by repeat (first | (with_reducible first | exact HI0.out | apply Z107.alloc | apply Z107.drewN | apply Z107.drew | apply Z107.set_1) | exact HI0.out))) : g ≠ gb484));have n7_:=zM ((by rw [hg]; exact Nat.ne_of_gt (Z107.lt (show Z107 w0 _ g s0_0 s0_1 from by repeat (first | (with_reducible first | exact HI0.out | apply Z107.alloc | apply Z107.drewN | apply Z107.drew | apply Z107.set_1) | exact HI0.out))) : gb484 ≠ g));clear HI0; clear HK;clear HB; have HI0 := n0_; have HK := n1_; have HB := n2_; have BK484 := n3_; have GW484 := n4_; have GE484 := n5_; have NB0_484 := n6_; have NB484_0 := n7_; clear n0_ n1_ n2_ n3_ n4_ n5_ n6_ n7_; clear hb hbox hg) | ((with_reducible refine gate_callee (f := 70) rfl ?_); refine goesL_ (some 12) rfl rfl Try.func70 (by kernel_rfl) rfl #[.pointer (some ⟨g, 0, none⟩), .int .i64 0] rfl (by (try simp only [List.map_toArray, List.map_cons, List.map_nil]); first | done | rfl | (simp only [List.length_drop, List.length_take]; rfl)) ?_; (with_reducible refine (spec_l20Wild.calls k g s0_0 s0_1 0 t485 t488 w0 _ ?side1 ?side2 A3.out).mono ?_); (case side1 => repeat (first | (with_reducible first | exact HI0.out | apply Z107.alloc | apply Z107.drewN | apply Z107.drew | apply Z107.set_1 | refine Z107.far ?_ NB0_484.out _) | exact HI0.out)); (case side2 => repeat (first | (with_reducible first | exact HB.out | apply zB | apply zA | apply zC | refine zD ?_ (Z107.ge HI0.out) | refine zD ?_ GE484.out) | exact HB.out)); rintro e w7 ⟨v486, rfl, ho0, hi, hb, hk⟩; refine ⟨_, rfl, ?_⟩;have n0_:=zM (KeepBut.blk hk (g' := gb484) (o := .cells #[.slice none 0 0, .slice none 0 0] 52 (0, 0)) (by exact BK484.out) NB484_0.out (by simp));have n1_:=zM (Kd.R_lower ho0 (keep_size (w := w) (g := g) (row := none) (by repeat (first | (with_reducible first | exact HK.out | apply zK | apply keep_drewN | apply keep_drew | apply keep_alloc | refine keep_far ?_ GW484.out _) | exact HK.out))));have n2_:=zM (KeepBut.trans (by repeat (first | (with_reducible first | exact HK.out | apply zK | apply keep_drewN | apply keep_drew | apply keep_alloc | refine keep_far ?_ GW484.out _) | exact HK.out)) hk (.inl rfl));have n3_:=zM (hb);have n4_:=zM (hi);clear BK484; clear HK;clear HB; clear HI0; have BK484 := n0_; have HO487 := n1_; have HK := n2_; have HB := n3_; have HI0 := n4_; clear n0_ n1_ n2_ n3_ n4_; (try clear hb); (try clear hb2); (try clear hk); (try clear hi); (try clear ho0); obtain ⟨Ao8, co8, eo8⟩ := Kd.R_slice HO487.out; subst eo8) | ((with_reducible refine gate_callee (f := 50) rfl ?_); refine goesL_ (some 13) rfl rfl Try.func50 (by kernel_rfl) rfl #[.slice Ao8 t485.length co8] rfl (by (try simp only [List.map_toArray, List.map_cons, List.map_nil]); first | done | rfl | (simp only [List.length_drop, List.length_take]; rfl)) ?_; (with_reducible refine (spec_DeskNew.calls k _ _ t485 t489 t492 t495 _ ?side1 ?side2 A4.out).mono ?_); (case side1 => repeat (first | exact (Kd.R_reads' HO487.out).2.2 | (with_reducible refine Kd.C_alloc ?_ _) | (with_reducible refine Kd.C_drewN ?_ _) | (with_reducible refine Kd.C_drew ?_))); (case side2 => exact (Kd.R_reads' HO487.out).2.1); rintro e w9 ⟨v490, v493, rfl, ho0, ho1, hb⟩; refine ⟨_, rfl, ?_⟩;have n0_:=zM (Kd.R_elder' (by exact HO487.out) (Kd.R_base ho0) hb);have n1_:=zM (Kd.R_lower (Kd.R_new' ho0 (Kd.R_lt (by exact HO487.out))) (keep_size (w := w) (g := g) (row := none) (by repeat (first | (with_reducible first | exact HK.out | apply zK | apply keep_drewN | apply keep_drew | apply keep_alloc | refine keep_far ?_ GW484.out _) | exact HK.out))));have n2_:=zM (Kd.S_lower (Kd.S_new' ho1 (Kd.R_lt (by exact HO487.out))) (keep_size (w := w) (g := g) (row := none) (by repeat (first | (with_reducible first | exact HK.out | apply zK | apply keep_drewN | apply keep_drew | apply keep_alloc | refine keep_far ?_ GW484.out _) | exact HK.out))));have n3_:=zM (Z107.below (by repeat (first | (with_reducible first | exact HI0.out | apply Z107.alloc | apply Z107.drewN | apply Z107.drew | apply Z107.set_1 | refine Z107.far ?_ NB0_484.out _) | exact HI0.out)) hb);have n4_:=zM (blk_below (g := gb484) (o := .cells #[.slice none 0 0, .slice none 0 0] 52 (0, 0)) (by exact BK484.out) hb);have n5_:=zM (KeepBut.trans (by repeat (first | (with_reducible first | exact HK.out | apply zK | apply keep_drewN | apply keep_drew | apply keep_alloc | refine keep_far ?_ GW484.out _) | exact HK.out)) (KeepBut.of_below hb g none) (.inl rfl));have n6_:=zM (below_step (by repeat (first | (with_reducible first | exact HB.out | apply zB | apply zA | apply zC | refine zD ?_ (Z107.ge HI0.out) | refine zD ?_ GE484.out) | exact HB.out)) hb);clear HO487; clear HI0;clear BK484; clear HK;clear HB; have HO487 := n0_; have HO491 := n1_; have HO494 := n2_; have HI0 := n3_; have BK484 := n4_; have HK := n5_; have HB := n6_; clear n0_ n1_ n2_ n3_ n4_ n5_ n6_; (try clear hb); (try clear hb2); (try clear hk); (try clear hi); (try clear ho0); (try clear ho1)) | ((with_reducible refine gate_dst (N := 5) rfl ?_); refine box_event ?hg (N := 5) ?hd (cs := #[.slice none 0 0, .slice none 0 0]) (t := 52) ?hr ?_; (case hd => rfl);(case hg => rfl);(case hr => first | (go_simp; done) | (go_simp; rfl)); intro gb496 hg w10 hbox hb;have n0_:=zM (Kd.R_below (by exact HO487.out) hb);have n1_:=zM (Kd.R_below (by exact HO491.out) hb);have n2_:=zM (Kd.S_below (by exact HO494.out) hb);have n3_:=zM (Z107.below (by repeat (first | (with_reducible first | exact HI0.out | apply Z107.alloc | apply Z107.drewN | apply Z107.drew | apply Z107.set_1 | refine Z107.far ?_ NB0_484.out _) | exact HI0.out)) hb);have n4_:=zM (blk_below (g := gb484) (o := .cells #[.slice none 0 0, .slice none 0 0] 52 (0, 0)) (by exact BK484.out) hb);have n5_:=zM (KeepBut.trans (by repeat (first | (with_reducible first | exact HK.out | apply zK | apply keep_drewN | apply keep_drew | apply keep_alloc | refine keep_far ?_ GW484.out _) | exact HK.out)) (KeepBut.of_below hb g none) (.inl rfl));have n6_:=zM (below_step (by repeat (first | (with_reducible first | exact HB.out | apply zB | apply zA | apply zC | refine zD ?_ (Z107.ge HI0.out) | refine zD ?_ GE484.out) | exact HB.out)) hb);have n7_:=zM (hbox);have n8_:=zM ((by rw [hg]; exact (keep_size (w := w) (g := g) (row := none) (by repeat (first | (with_reducible first | exact HK.out | apply zK | apply keep_drewN | apply keep_drew | apply keep_alloc | refine keep_far ?_ GW484.out _) | exact HK.out))) : w.heap.size ≤ gb496));have n9_:=zM ((Nat.le_trans HW0.out (by rw [hg]; exact (keep_size (w := w) (g := g) (row := none) (by repeat (first | (with_reducible first | exact HK.out | apply zK | apply keep_drewN | apply keep_drew | apply keep_alloc | refine keep_far ?_ GW484.out _) | exact HK.out))) : w.heap.size ≤ gb496) : w0.heap.size ≤ gb496));have n10_:=zM ((by rw [hg]; exact Nat.ne_of_lt (blk_lt (g := gb484) (o := .cells #[.slice none 0 0, .slice none 0 0] 52 (0, 0)) (by exact BK484.out)) : gb484 ≠ gb496));have n11_:=zM ((by rw [hg]; exact Nat.ne_of_gt (blk_lt (g := gb484) (o := .cells #[.slice none 0 0, .slice none 0 0] 52 (0, 0)) (by exact BK484.out)) : gb496 ≠ gb484));have n12_:=zM ((by rw [hg]; exact Nat.ne_of_lt (Z107.lt (show Z107 w0 _ g s0_0 t488 from by repeat (first | (with_reducible first | exact HI0.out | apply Z107.alloc | apply Z107.drewN | apply Z107.drew | apply Z107.set_1 | refine Z107.far ?_ NB0_484.out _) | exact HI0.out))) : g ≠ gb496));have n13_:=zM ((by rw [hg]; exact Nat.ne_of_gt (Z107.lt (show Z107 w0 _ g s0_0 t488 from by repeat (first | (with_reducible first | exact HI0.out | apply Z107.alloc | apply Z107.drewN | apply Z107.drew | apply Z107.set_1 | refine Z107.far ?_ NB0_484.out _) | exact HI0.out))) : gb496 ≠ g));clear HO487; clear HO491;clear HO494; clear HI0;clear BK484; clear HK;clear HB; have HO487 := n0_; have HO491 := n1_; have HO494 := n2_; have HI0 := n3_; have BK484 := n4_; have HK := n5_; have HB := n6_; have BK496 := n7_; have GW496 := n8_; have GE496 := n9_; have NB484_496 := n10_; have NB496_484 := n11_; have NB0_496 := n12_; have NB496_0 := n13_; clear n0_ n1_ n2_ n3_ n4_ n5_ n6_ n7_ n8_ n9_ n10_ n11_ n12_ n13_; clear hb hbox hg; obtain ⟨Ao11, co11, eo11⟩ := Kd.R_slice HO491.out; subst eo11; have hnb12 := NB496_484.out; have hnc12 := NB484_496.out; have hnb13 := NB496_0.out; have hnc13 := NB0_496.out; have hcz14_0 : w10.cell? ⟨gb496, 0, none⟩ = some (.slice none 0 0) := (blk_cell BK496.out 0).trans rfl; have hcz14_1 : w10.cell? ⟨gb496, 1, none⟩ = some (.slice none 0 0) := (blk_cell BK496.out 1).trans rfl; have hfz14_0 := blk_frozen BK496.out 0; have hfz14_1 := blk_frozen BK496.out 1; obtain ⟨Ao15, co15, eo15⟩ := Kd.S_slice HO494.out; subst eo15) | ((with_reducible refine gate_callee (f := 94) rfl ?_); refine goesL_ (some 17) rfl rfl Try.func94 (by kernel_rfl) rfl #[.pointer (some ⟨g, 0, none⟩), .int .i64 6] rfl (by (try simp only [List.map_toArray, List.map_cons, List.map_nil]); first | done | rfl | (simp only [List.length_drop, List.length_take]; rfl)) ?_; (with_reducible refine (spec_l20Rd_pick.calls k g s0_0 t488 6 t497 t498 w0 _ ?side1 ?side2 A5.out).mono ?_); (case side1 => repeat (first | (with_reducible first | exact HI0.out | apply Z107.alloc | apply Z107.drewN | apply Z107.drew | apply Z107.set_1 | refine Z107.far ?_ NB0_484.out _ | refine Z107.far ?_ NB0_496.out _) | exact HI0.out)); (case side2 => repeat (first | (with_reducible first | exact HB.out | apply zB | apply zA | apply zC | refine zD ?_ (Z107.ge HI0.out) | refine zD ?_ GE484.out | refine zD ?_ GE496.out) | exact HB.out)); rintro e w16 ⟨rfl, hi, hb, hk⟩; refine ⟨_, rfl, ?_⟩;have n0_:=zM (KeepBut.blk hk (g' := gb484) (o := .cells #[.slice none 0 0, .slice none 0 0] 52 (0, 0)) (by refine blk_far ?_ NB484_496.out _; refine blk_far ?_ NB484_496.out _; exact BK484.out) NB484_0.out (by simp));have n1_:=zM (Kd.R_mono (Kd.R_keep (Z107.apart (show Z107 w0 _ g s0_0 t488 from by repeat (first | (with_reducible first | exact HI0.out | apply Z107.alloc | apply Z107.drewN | apply Z107.drew | apply Z107.set_1 | refine Z107.far ?_ NB0_484.out _ | refine Z107.far ?_ NB0_496.out _) | exact HI0.out)) (by exact (Kd.R_mono (Kd.R_far (p := ⟨gb496, 1, none⟩) (Kd.R_far (p := ⟨gb496, 0, none⟩) (Kd.R_types HO487.out BK496.out (by decide)) (fun _ h=>h.2) (.slice Ao11 t489.length co11)) (fun _ h=>h.2) (.slice Ao15 t492.length co15)) (fun _ h_ => h_.1))) (by decide)) hk (fun _ h => h.2)) (fun _ h => h.1));have n2_:=zM (Kd.R_mono (Kd.R_keep (Z107.apart (show Z107 w0 _ g s0_0 t488 from by repeat (first | (with_reducible first | exact HI0.out | apply Z107.alloc | apply Z107.drewN | apply Z107.drew | apply Z107.set_1 | refine Z107.far ?_ NB0_484.out _ | refine Z107.far ?_ NB0_496.out _) | exact HI0.out)) (by exact (Kd.R_mono (Kd.R_far (p := ⟨gb496, 1, none⟩) (Kd.R_far (p := ⟨gb496, 0, none⟩) (Kd.R_types HO491.out BK496.out (by decide)) (fun _ h=>h.2) (.slice Ao11 t489.length co11)) (fun _ h=>h.2) (.slice Ao15 t492.length co15)) (fun _ h_ => h_.1))) (by decide)) hk (fun _ h => h.2)) (fun _ h => h.1));have n3_:=zM (Kd.S_mono (Kd.S_keep (Z107.apartS (show Z107 w0 _ g s0_0 t488 from by repeat (first | (with_reducible first | exact HI0.out | apply Z107.alloc | apply Z107.drewN | apply Z107.drew | apply Z107.set_1 | refine Z107.far ?_ NB0_484.out _ | refine Z107.far ?_ NB0_496.out _) | exact HI0.out)) (by exact (Kd.S_mono (Kd.S_far (p := ⟨gb496, 1, none⟩) (Kd.S_far (p := ⟨gb496, 0, none⟩) (Kd.S_types HO494.out BK496.out (by decide)) (fun _ h=>h.2) (.slice Ao11 t489.length co11)) (fun _ h=>h.2) (.slice Ao15 t492.length co15)) (fun _ h_ => h_.1))) (by decide)) hk (fun _ h => h.2)) (fun _ h => h.1));have n4_:=zM (KeepBut.blk hk (g' := gb496) (o := .cells #[.slice Ao11 t489.length co11, .slice Ao15 t492.length co15] 52 (0, 0)) (by refine blk_put (cs := #[.slice Ao11 t489.length co11, .slice none 0 0]) ?_ 1 _ rfl; refine blk_put (cs := #[.slice none 0 0, .slice none 0 0]) ?_ 0 _ rfl; exact BK496.out) NB496_0.out (by simp));have n5_:=zM (KeepBut.trans (by repeat (first | (with_reducible first | exact HK.out | apply zK | apply keep_drewN | apply keep_drew | apply keep_alloc | refine keep_far ?_ GW484.out _ | refine keep_far ?_ GW496.out _) | exact HK.out)) hk (.inl rfl));have n6_:=zM (hb);have n7_:=zM (hi);clear BK484; clear HO487;clear HO491; clear HO494;clear BK496; clear HK;clear HB; clear HI0; have BK484 := n0_; have HO487 := n1_; have HO491 := n2_; have HO494 := n3_; have BK496 := n4_; have HK := n5_; have HB := n6_; have HI0 := n7_; clear n0_ n1_ n2_ n3_ n4_ n5_ n6_ n7_; (try clear hb); (try clear hb2); (try clear hk); (try clear hi)))
 go_loopg [7] k (fun kq v7 w' => ∃ (x7_1 : Int) (x1001_1 : Int) (x497000_1 : List Int) (x497001_1 : List (List Int)) (u497000 : Value) (u497001 : Value), v7 = .int .i64 x7_1 ∧ Aside0 (spec_l20Desk.l0 kq a1 x7_1 s0_0 x1001_1 x497000_1 x497001_1 = some (r1, r2, r3)) ∧ Aside0 (kq ≤ k) ∧ Aside0 (Kd.R (Kd.int .i64) 3 w' w.heap.size (fun _ => True) u497000 x497000_1) ∧ Aside0 (Kd.S (Kd.slice 3 (Kd.int .i64)) 23 w' w.heap.size (fun k_ => some k_ ≠ (u497000 : Value).ownBlock) u497001 x497001_1) ∧ Aside0 (w'.heap[gb484]? = some (.cells #[(.slice none 0 0), (.slice none 0 0)] 52 (0, 0))) ∧ Aside0 (w'.heap[gb496]? = some (.cells #[u497000, u497001] 52 (0, 0))) ∧ Aside0 (Z107 w0 w' g s0_0 x1001_1) ∧ Aside0 (KeepBut w w' g none) ∧ Aside0 (Below w0.heap.size w0 w'))
 case atStart => exact ⟨(t497), (t498), (t489), (t492), (.slice Ao11 t489.length co11), (.slice Ao15 t492.length co15), (by first | rfl | (simp; done) | (simp [*]; done)), H', ⟨Nat.le_refl _⟩, ⟨by exact Kd.R_mono HO491.out (fun _ hk => trivial)⟩, ⟨by exact Kd.S_mono HO494.out (fun _ h=>h.1)⟩, ⟨by exact BK484.out⟩, ⟨by exact BK496.out⟩, ⟨by repeat (first | (with_reducible first | exact HI0.out | apply Z107.alloc | apply Z107.drewN | apply Z107.drew | apply Z107.set_1 | refine Z107.far ?_ NB0_484.out _ | refine Z107.far ?_ NB0_496.out _) | exact HI0.out)⟩, ⟨by repeat (first | (with_reducible first | exact HK.out | apply zK | apply keep_drewN | apply keep_drew | apply keep_alloc | refine keep_far ?_ GW484.out _ | refine keep_far ?_ GW496.out _) | exact HK.out)⟩, ⟨by repeat (first | (with_reducible first | exact HB.out | apply zB | apply zA | apply zC | refine zD ?_ (Z107.ge HI0.out) | refine zD ?_ GE484.out | refine zD ?_ GE496.out) | exact HB.out)⟩⟩
 case round =>
  clear H'
  try clear c1
  try clear p2
  try clear c5
  try clear c7
  try clear c9
  try clear c10
  try clear c12
  try clear c13
  try clear hcz14_0
  try clear hcz14_1
  try clear hfz14_0
  try clear hfz14_1
  obtain ⟨x7_1, x1001_1, x497000_1, x497001_1, u497000, u497001, rfl, HA, HK1, HO_497000, HO_497001, BK484, BK496, HI0, HK, HB⟩ := hrel
  cases gk with
  | zero => exact absurd HA.out (by simp [spec_l20Desk.l0])
  | succ k1 =>
   have H := HA.out
   clear HA
   simp only [spec_l20Desk.l0] at H
   by_cases c17 : x7_1 > 0
   ·rw [if_pos c17] at H
    have c17b0 : decide (0 < x7_1) = true := decide_eq_true c17
    clear c17
    replace H := Option.bind_eq_some_iff.mp H
    obtain ⟨⟨t499, t500, t501, t502⟩, A180, H⟩ := H
    replace H : ((spec_DeskDo_owned.f k1 x497000_1 x497001_1 t499 t500 t501).bind fun bt503 => (if bt503.2.2 = true then (spec_l20Desk.l0 k1 a1 (wrap64 (x7_1 - 1)) s0_0 t502 bt503.1 bt503.2.1) else (spec_l20Desk.l0 k1 a1 (wrap64 (x7_1 - 1)) s0_0 t502 x497000_1 x497001_1))) = some (r1, r2, r3) := H
    have A18 := zM A180
    clear A180
    replace H := Option.bind_eq_some_iff.mp H
    obtain ⟨⟨t503, t506, t509⟩, A190, H⟩ := H
    replace H : (if t509 = true then (spec_l20Desk.l0 k1 a1 (wrap64 (x7_1 - 1)) s0_0 t502 t503 t506) else (spec_l20Desk.l0 k1 a1 (wrap64 (x7_1 - 1)) s0_0 t502 x497000_1 x497001_1)) = some (r1, r2, r3) := H
    have A19 := zM A190
    clear A190
    by_cases c20 : t509 = true
    ·subst c20
     have H1 : (spec_l20Desk.l0 k1 a1 (wrap64 (x7_1 - 1)) s0_0 t502 t503 t506) = some (r1, r2, r3) := by rw [if_pos rfl] at H; exact H
     clear H
     have H := H1
     clear H1
     have H' := zM H
     clear H
     obtain ⟨Ao21, co21, eo21⟩ := Kd.R_slice HO_497000.out
     subst eo21
     obtain ⟨Ao22, co22, eo22⟩ := Kd.S_slice HO_497001.out
     subst eo22
     try go_wp2
     have n0_ := zM (Kd.R_drew HO_497000.out)
     have n1_ := zM (Kd.S_drew HO_497001.out)
     have n2_ := zM (blk_drew BK484.out)
     have n3_ := zM (blk_drew BK496.out)
     have n4_ := zM (Z107.drew HI0.out)
     have n5_ := zM (keep_drew HK.out)
     have n6_ := zM (zC HB.out)
     clear HO_497000
     clear HO_497001
     clear BK484
     clear BK496
     clear HI0
     clear HK
     clear HB
     have HO_497000 := n0_
     have HO_497001 := n1_
     have BK484 := n2_
     have BK496 := n3_
     have HI0 := n4_
     have HK := n5_
     have HB := n6_
     clear n0_ n1_ n2_ n3_ n4_ n5_ n6_
     refine start_ (n := 12) (S := fun w' => w'.cell? ⟨gb496, 0, none⟩ = some (.slice Ao21 x497000_1.length co21) ∧ w'.cell? ⟨gb496, 1, none⟩ = some (.slice Ao22 x497001_1.length co22)) (ds := []) #[false, false, false, false, false, false, false, false, false, false, false, false] (by kernel_rfl) rfl rfl ⟨(blk_cell BK496.out 0).trans rfl, (blk_cell BK496.out 1).trans rfl⟩ (fun hHeld => ?_); refine with_tabW spec_l20Desk.tab5 spec_l20Desk.bits5 (fun HT_ HW_ => ?_)
     generalize wr.drew = w23 at HO_497000 HO_497001 BK484 BK496 HI0 HK HB hHeld ⊢
     refine pure_ (i := 1) (N := some 24) (v := ?_) (a' := ?_) #[false, true, false, false, false, false, false, false, false, false, false, false] rfl rfl (any_of HT_.out (by kernel_rfl)) (fun _ _ _ h => h) (Or.inl ⟨by rfl, ?_⟩) ?_ ?_
     rotate_left
     ·intro w'
      go_simp
      with_reducible rfl
     rotate_left
     ·simp only [Act.put, zE, zF, zG, i64_w, i32_w]
      rfl
     refine pure_ (i := 2) (N := some 25) (v := ?_) (a' := ?_) #[false, true, true, false, false, false, false, false, false, false, false, false] rfl rfl (any_of HT_.out (by kernel_rfl)) (fun _ _ _ h => h) (Or.inl ⟨by rfl, ?_⟩) ?_ ?_
     rotate_left
     ·intro w'
      go_simp
      with_reducible rfl
     rotate_left
     ·simp only [Act.put, zE, zF, zG, i64_w, i32_w]
      rfl
     refine take_ (i := 0) (N := some 23) (v := ?_) (a' := ?_) #[true, true, true, false, false, false, false, false, false, false, false, false] rfl rfl (take_ofW HT_.out HW_.out (by kernel_rfl)) (fun _ _ _ h => h) (Or.inl ⟨by rfl, ?_⟩) hHeld ?_ ?_
     rotate_left
     ·rintro w' ⟨s0, s1⟩
      go_simp
      with_reducible rfl
     rotate_left
     ·simp only [Act.put, zE, zF, zG, i64_w, i32_w]
      rfl
     refine take_ (i := 3) (N := some 26) (v := ?_) (a' := ?_) #[true, true, true, true, false, false, false, false, false, false, false, false] rfl rfl (take_ofW HT_.out HW_.out (by kernel_rfl)) (fun _ _ _ h => h) (Or.inl ⟨by rfl, ?_⟩) hHeld ?_ ?_
     rotate_left
     ·rintro w' ⟨s0, s1⟩
      go_simp
      with_reducible rfl
     rotate_left
     ·simp only [Act.put, zE, zF, zG, i64_w, i32_w]
      rfl
     refine join_ (σ := Value × Value × Nat) 2 #[true, true, true, true, true, true, true, true, true, true, false, false] (fun s_ => [(27, .agg #[.int .i64 t499, .int .i64 t500, .int .i64 t501]), (28, .tuple #[.agg #[s_.1, s_.2.1], .bool true]), (8, .pointer (some ⟨s_.2.2, 0, none⟩)), (22, .tuple #[.agg #[s_.1, s_.2.1], .bool true]), (29, .agg #[s_.1, s_.2.1]), (30, .bool true)]) (fun s_ w' => (w'.cell? ⟨gb496, 0, none⟩ = some (.slice Ao21 x497000_1.length co21) ∧ w'.cell? ⟨gb496, 1, none⟩ = some (.slice Ao22 x497001_1.length co22)) ∧ (Kd.R (Kd.int .i64) 3 w' w.heap.size (fun k_ => some k_ ≠ (.slice Ao21 x497000_1.length co21 : Value).ownBlock) s_.1 t503) ∧ (Kd.S (Kd.slice 3 (Kd.int .i64)) 23 w' w.heap.size (fun k_ => some k_ ≠ (s_.1 : Value).ownBlock ∧ some k_ ≠ (.slice Ao21 x497000_1.length co21 : Value).ownBlock ∧ some k_ ≠ (.slice Ao22 x497001_1.length co22 : Value).ownBlock) s_.2.1 t506) ∧ (Kd.R (Kd.int .i64) 3 w' w.heap.size (fun k_ => some k_ ≠ (s_.1 : Value).ownBlock) (.slice Ao21 x497000_1.length co21) x497000_1) ∧ (Kd.S (Kd.slice 3 (Kd.int .i64)) 23 w' w.heap.size (fun k_ => some k_ ≠ (s_.1 : Value).ownBlock ∧ some k_ ≠ (s_.2.1 : Value).ownBlock ∧ some k_ ≠ (.slice Ao21 x497000_1.length co21 : Value).ownBlock) (.slice Ao22 x497001_1.length co22) x497001_1) ∧ (w'.heap[gb484]? = some (.cells #[.slice none 0 0, .slice none 0 0] 52 (0, 0))) ∧ (w'.heap[gb496]? = some (.cells #[.slice Ao21 x497000_1.length co21, .slice Ao22 x497001_1.length co22] 52 (0, 0))) ∧ (w'.heap[s_.2.2]? = some (.cells #[.slice none 0 0, .slice none 0 0] 52 (0, 0))) ∧ (w.heap.size ≤ s_.2.2) ∧ (w0.heap.size ≤ s_.2.2) ∧ (g ≠ s_.2.2) ∧ (s_.2.2 ≠ g) ∧ (gb484 ≠ s_.2.2) ∧ (s_.2.2 ≠ gb484) ∧ (gb496 ≠ s_.2.2) ∧ (s_.2.2 ≠ gb496) ∧ (Z107 w0 w' g s0_0 t502) ∧ (KeepBut w w' g none) ∧ (Below w0.heap.size w0 w')) ?_ ?_
     rotate_left
     ·intro hCont
      refine two_ (i := 4) (j := 9) (Ni := some 27) (Nj := some 8) #[true, true, true, true, true, false, false, false, false, false, false, false] #[true, true, true, true, false, false, false, false, false, true, false, false] rfl rfl rfl rfl (two_of HT_.out (by kernel_rfl)) (by decide) (by decide) (fun K hK => ?_) (fun K hK => ?_)
      ·skip
       refine goes_ Try.func145 (by kernel_rfl) rfl #[.pointer (some ⟨g, 0, none⟩), .slice Ao21 x497000_1.length co21] (by rfl) rfl rfl (by (try simp only [List.map_toArray, List.map_cons, List.map_nil]); first | done | rfl | (simp only [List.length_drop, List.length_take]; rfl)) ?_
       with_reducible refine (spec_l20Deed.calls k1 g s0_0 x1001_1 _ _ x497000_1 t499 t500 t501 t502 w0 _ ?side1 ?side2 ?side3 ?side4 ?side5 A18.out).mono ?_
       (case side1 => repeat (first | (with_reducible first | exact HI0.out | apply Z107.alloc | apply Z107.drewN | apply Z107.drew | apply Z107.set_1 | refine Z107.far ?_ NB0_484.out _ | refine Z107.far ?_ NB0_496.out _) | exact HI0.out))
       (case side2 => repeat (first | (with_reducible first | exact HB.out | apply zB | apply zA | apply zC | refine zD ?_ (Z107.ge HI0.out) | refine zD ?_ GE484.out | refine zD ?_ GE496.out) | exact HB.out))
       (case side3 => repeat (first | exact (Kd.R_reads' HO_497000.out).2.2 | (with_reducible refine Kd.C_alloc ?_ _) | (with_reducible refine Kd.C_drewN ?_ _) | (with_reducible refine Kd.C_drew ?_)))
       (case side4 => exact (Kd.R_reads' HO_497000.out).2.1)
       (case side5 => exact far_slice (Z107.own_ne HI0.out HO_497000.out (by decide)))
       rintro e w24 ⟨rfl, hi, hb, hk⟩
       refine ⟨_, rfl, ?_⟩
       have n0_ := zM (Kd.R_mono (Kd.R_keep (Z107.apart (show Z107 w0 _ g s0_0 x1001_1 from by repeat (first | (with_reducible first | exact HI0.out | apply Z107.alloc | apply Z107.drewN | apply Z107.drew | apply Z107.set_1 | refine Z107.far ?_ NB0_484.out _ | refine Z107.far ?_ NB0_496.out _) | exact HI0.out)) (by exact HO_497000.out) (by decide)) hk (fun _ h => h.2)) (fun _ h => h.1))
       have n1_ := zM (Kd.S_mono (Kd.S_keep (Z107.apartS (show Z107 w0 _ g s0_0 x1001_1 from by repeat (first | (with_reducible first | exact HI0.out | apply Z107.alloc | apply Z107.drewN | apply Z107.drew | apply Z107.set_1 | refine Z107.far ?_ NB0_484.out _ | refine Z107.far ?_ NB0_496.out _) | exact HI0.out)) (by exact HO_497001.out) (by decide)) hk (fun _ h => h.2)) (fun _ h => h.1))
       have n2_ := zM (KeepBut.blk hk (g' := gb484) (o := .cells #[.slice none 0 0, .slice none 0 0] 52 (0, 0)) (by exact BK484.out) NB484_0.out (by simp))
       have n3_ := zM (KeepBut.blk hk (g' := gb496) (o := .cells #[.slice Ao21 x497000_1.length co21, .slice Ao22 x497001_1.length co22] 52 (0, 0)) (by exact BK496.out) NB496_0.out (by simp))
       have n4_ := zM (KeepBut.trans (by repeat (first | (with_reducible first | exact HK.out | apply zK | apply keep_drewN | apply keep_drew | apply keep_alloc | refine keep_far ?_ GW484.out _ | refine keep_far ?_ GW496.out _) | exact HK.out)) hk (.inl rfl))
       have n5_ := zM (hb)
       have n6_ := zM (hi)
       clear HO_497000
       clear HO_497001
       clear BK484
       clear BK496
       clear HK
       clear HB
       clear HI0
       have HO_497000 := n0_
       have HO_497001 := n1_
       have BK484 := n2_
       have BK496 := n3_
       have HK := n4_
       have HB := n5_
       have HI0 := n6_
       clear n0_ n1_ n2_ n3_ n4_ n5_ n6_
       (try clear hb)
       (try clear hb2)
       (try clear hk)
       (try clear hi)
       refine hK.out _ _ ⟨(blk_cell BK496.out 0).trans rfl, (blk_cell BK496.out 1).trans rfl⟩ (fun hHeld => ?_)
       clear hK K
       refine norm_ (a' := ?_) ?_ ?_
       rotate_left
       ·show Act.put _ (some 27) _ = _
        simp only [Act.put, zE, zF, zG, i64_w, i32_w]
        rfl
       refine two_ (i := 5) (j := 9) (Ni := some 28) (Nj := some 8) #[true, true, true, true, true, true, false, false, false, false, false, false] #[true, true, true, true, true, false, false, false, false, true, false, false] rfl rfl rfl rfl (two_of HT_.out (by kernel_rfl)) (by decide) (by decide) (fun K hK => ?_) (fun K hK => ?_)
       ·skip
        refine goes_ Try.func59 (by kernel_rfl) rfl #[.agg #[.slice Ao21 x497000_1.length co21, .slice Ao22 x497001_1.length co22], .agg #[.int .i64 t499, .int .i64 t500, .int .i64 t501]] (by rfl) rfl rfl (by (try simp only [List.map_toArray, List.map_cons, List.map_nil]); first | done | rfl | (simp only [List.length_drop, List.length_take]; rfl)) ?_
        with_reducible refine (spec_DeskDo_owned.calls k1 _ _ x497000_1 _ _ x497001_1 t499 t500 t501 t503 t506 true _ ?side1 ?side2 ?side3 ?side4 A19.out).mono ?_
        (case side1 => repeat (first | exact (Kd.R_reads' HO_497000.out).2.2 | (with_reducible refine Kd.C_alloc ?_ _) | (with_reducible refine Kd.C_drewN ?_ _) | (with_reducible refine Kd.C_drew ?_)))
        (case side2 => exact (Kd.R_reads' HO_497000.out).2.1)
        (case side3 => repeat (first | exact (Kd.S_reads' HO_497001.out).2.2 | (with_reducible refine Kd.C_alloc ?_ _) | (with_reducible refine Kd.C_drewN ?_ _) | (with_reducible refine Kd.C_drew ?_)))
        (case side4 => exact (Kd.S_reads' HO_497001.out).2.1)
        rintro e w25 ⟨v504, v507, rfl, ho0, ho1, hb⟩
        refine ⟨_, rfl, ?_⟩
        have n0_ := zM (Kd.R_elder' (by exact HO_497000.out) (Kd.R_base ho0) hb)
        have n1_ := zM (Kd.S_mono (Kd.S_told (Kd.S_told (Kd.S_old (by exact HO_497001.out) hb) (Kd.R_base ho0)) (Kd.S_base ho1)) (fun _ h_ => h_.1))
        have n2_ := zM (Kd.R_lower (Kd.R_new' ho0 (Kd.R_lt (by exact HO_497000.out))) (keep_size (w := w) (g := g) (row := none) (by repeat (first | (with_reducible first | exact HK.out | apply zK | apply keep_drewN | apply keep_drew | apply keep_alloc | refine keep_far ?_ GW484.out _ | refine keep_far ?_ GW496.out _) | exact HK.out))))
        have n3_ := zM (Kd.S_lower (Kd.S_new' (Kd.S_new' ho1 (Kd.R_lt (by exact HO_497000.out))) (Kd.S_lt (by exact HO_497001.out))) (keep_size (w := w) (g := g) (row := none) (by repeat (first | (with_reducible first | exact HK.out | apply zK | apply keep_drewN | apply keep_drew | apply keep_alloc | refine keep_far ?_ GW484.out _ | refine keep_far ?_ GW496.out _) | exact HK.out))))
        have n4_ := zM (blk_below (g := gb484) (o := .cells #[.slice none 0 0, .slice none 0 0] 52 (0, 0)) (by exact BK484.out) hb)
        have n5_ := zM (blk_below (g := gb496) (o := .cells #[.slice Ao21 x497000_1.length co21, .slice Ao22 x497001_1.length co22] 52 (0, 0)) (by exact BK496.out) hb)
        have n6_ := zM (Z107.below (by repeat (first | (with_reducible first | exact HI0.out | apply Z107.alloc | apply Z107.drewN | apply Z107.drew | apply Z107.set_1 | refine Z107.far ?_ NB0_484.out _ | refine Z107.far ?_ NB0_496.out _) | exact HI0.out)) hb)
        have n7_ := zM (KeepBut.trans (by repeat (first | (with_reducible first | exact HK.out | apply zK | apply keep_drewN | apply keep_drew | apply keep_alloc | refine keep_far ?_ GW484.out _ | refine keep_far ?_ GW496.out _) | exact HK.out)) (KeepBut.of_below hb g none) (.inl rfl))
        have n8_ := zM (below_step (by repeat (first | (with_reducible first | exact HB.out | apply zB | apply zA | apply zC | refine zD ?_ (Z107.ge HI0.out) | refine zD ?_ GE484.out | refine zD ?_ GE496.out) | exact HB.out)) hb)
        clear HO_497000
        clear HO_497001
        clear BK484
        clear BK496
        clear HI0
        clear HK
        clear HB
        have HO_497000 := n0_
        have HO_497001 := n1_
        have HO505 := n2_
        have HO508 := n3_
        have BK484 := n4_
        have BK496 := n5_
        have HI0 := n6_
        have HK := n7_
        have HB := n8_
        clear n0_ n1_ n2_ n3_ n4_ n5_ n6_ n7_ n8_
        (try clear hb)
        (try clear hb2)
        (try clear hk)
        (try clear hi)
        (try clear ho0)
        (try clear ho1)
        refine hK.out _ _ ⟨(blk_cell BK496.out 0).trans rfl, (blk_cell BK496.out 1).trans rfl⟩ (fun hHeld => ?_)
        clear hK K
        refine norm_ (a' := ?_) ?_ ?_
        rotate_left
        ·show Act.put _ (some 28) _ = _
         simp only [Act.put, zE, zF, zG, i64_w, i32_w]
         rfl
        refine pure_ (i := 6) (N := some 22) (v := ?_) (a' := ?_) #[true, true, true, true, true, true, true, false, false, false, false, false] rfl rfl (any_of HT_.out (by kernel_rfl)) (fun _ _ _ h => h) (Or.inl ⟨by rfl, ?_⟩) ?_ ?_
        rotate_left
        ·intro w'
         go_simp
         with_reducible rfl
        rotate_left
        ·simp only [Act.put, zE, zF, zG, i64_w, i32_w]
         rfl
        refine pure_ (i := 7) (N := some 29) (v := ?_) (a' := ?_) #[true, true, true, true, true, true, true, true, false, false, false, false] rfl rfl (any_of HT_.out (by kernel_rfl)) (fun _ _ _ h => h) (Or.inl ⟨by rfl, ?_⟩) ?_ ?_
        rotate_left
        ·intro w'
         go_simp
         with_reducible rfl
        rotate_left
        ·simp only [Act.put, zE, zF, zG, i64_w, i32_w]
         rfl
        refine pure_ (i := 8) (N := some 30) (v := ?_) (a' := ?_) #[true, true, true, true, true, true, true, true, true, false, false, false] rfl rfl (any_of HT_.out (by kernel_rfl)) (fun _ _ _ h => h) (Or.inl ⟨by rfl, ?_⟩) ?_ ?_
        rotate_left
        ·intro w'
         go_simp
         with_reducible rfl
        rotate_left
        ·simp only [Act.put, zE, zF, zG, i64_w, i32_w]
         rfl
        refine one_ (i := 9) (N := some 8) #[true, true, true, true, true, true, true, true, true, true, false, false] rfl rfl (one_of HT_.out (by kernel_rfl)) (by decide) (fun K hK => ?_)
        refine box_step ?hg (N := 8) ?hd (cs := #[.slice none 0 0, .slice none 0 0]) (t := 52) ?hr ?_; (case hd => rfl);(case hg => rfl);(case hr => first | (go_simp; done) | (go_simp; rfl))
        intro gb510 hg w26 hbox hb
        have n0_ := zM (Kd.R_below (by exact HO_497000.out) hb)
        have n1_ := zM (Kd.S_below (by exact HO_497001.out) hb)
        have n2_ := zM (Kd.R_below (by exact HO505.out) hb)
        have n3_ := zM (Kd.S_below (by exact HO508.out) hb)
        have n4_ := zM (blk_below (g := gb484) (o := .cells #[.slice none 0 0, .slice none 0 0] 52 (0, 0)) (by exact BK484.out) hb)
        have n5_ := zM (blk_below (g := gb496) (o := .cells #[.slice Ao21 x497000_1.length co21, .slice Ao22 x497001_1.length co22] 52 (0, 0)) (by exact BK496.out) hb)
        have n6_ := zM (Z107.below (by repeat (first | (with_reducible first | exact HI0.out | apply Z107.alloc | apply Z107.drewN | apply Z107.drew | apply Z107.set_1 | refine Z107.far ?_ NB0_484.out _ | refine Z107.far ?_ NB0_496.out _) | exact HI0.out)) hb)
        have n7_ := zM (KeepBut.trans (by repeat (first | (with_reducible first | exact HK.out | apply zK | apply keep_drewN | apply keep_drew | apply keep_alloc | refine keep_far ?_ GW484.out _ | refine keep_far ?_ GW496.out _) | exact HK.out)) (KeepBut.of_below hb g none) (.inl rfl))
        have n8_ := zM (below_step (by repeat (first | (with_reducible first | exact HB.out | apply zB | apply zA | apply zC | refine zD ?_ (Z107.ge HI0.out) | refine zD ?_ GE484.out | refine zD ?_ GE496.out) | exact HB.out)) hb)
        have n9_ := zM (hbox)
        have n10_ := zM ((by rw [hg]; exact (keep_size (w := w) (g := g) (row := none) (by repeat (first | (with_reducible first | exact HK.out | apply zK | apply keep_drewN | apply keep_drew | apply keep_alloc | refine keep_far ?_ GW484.out _ | refine keep_far ?_ GW496.out _) | exact HK.out))) : w.heap.size ≤ gb510))
        have n11_ := zM ((Nat.le_trans HW0.out (by rw [hg]; exact (keep_size (w := w) (g := g) (row := none) (by repeat (first | (with_reducible first | exact HK.out | apply zK | apply keep_drewN | apply keep_drew | apply keep_alloc | refine keep_far ?_ GW484.out _ | refine keep_far ?_ GW496.out _) | exact HK.out))) : w.heap.size ≤ gb510) : w0.heap.size ≤ gb510))
        have n12_ := zM ((by rw [hg]; exact Nat.ne_of_lt (blk_lt (g := gb484) (o := .cells #[.slice none 0 0, .slice none 0 0] 52 (0, 0)) (by exact BK484.out)) : gb484 ≠ gb510))
        have n13_ := zM ((by rw [hg]; exact Nat.ne_of_gt (blk_lt (g := gb484) (o := .cells #[.slice none 0 0, .slice none 0 0] 52 (0, 0)) (by exact BK484.out)) : gb510 ≠ gb484))
        have n14_ := zM ((by rw [hg]; exact Nat.ne_of_lt (blk_lt (g := gb496) (o := .cells #[.slice Ao21 x497000_1.length co21, .slice Ao22 x497001_1.length co22] 52 (0, 0)) (by exact BK496.out)) : gb496 ≠ gb510))
        have n15_ := zM ((by rw [hg]; exact Nat.ne_of_gt (blk_lt (g := gb496) (o := .cells #[.slice Ao21 x497000_1.length co21, .slice Ao22 x497001_1.length co22] 52 (0, 0)) (by exact BK496.out)) : gb510 ≠ gb496))
        have n16_ := zM ((by rw [hg]; exact Nat.ne_of_lt (Z107.lt (show Z107 w0 _ g s0_0 t502 from by repeat (first | (with_reducible first | exact HI0.out | apply Z107.alloc | apply Z107.drewN | apply Z107.drew | apply Z107.set_1 | refine Z107.far ?_ NB0_484.out _ | refine Z107.far ?_ NB0_496.out _) | exact HI0.out))) : g ≠ gb510))
        have n17_ := zM ((by rw [hg]; exact Nat.ne_of_gt (Z107.lt (show Z107 w0 _ g s0_0 t502 from by repeat (first | (with_reducible first | exact HI0.out | apply Z107.alloc | apply Z107.drewN | apply Z107.drew | apply Z107.set_1 | refine Z107.far ?_ NB0_484.out _ | refine Z107.far ?_ NB0_496.out _) | exact HI0.out))) : gb510 ≠ g))
        clear HO_497000
        clear HO_497001
        clear HO505
        clear HO508
        clear BK484
        clear BK496
        clear HI0
        clear HK
        clear HB
        have HO_497000 := n0_
        have HO_497001 := n1_
        have HO505 := n2_
        have HO508 := n3_
        have BK484 := n4_
        have BK496 := n5_
        have HI0 := n6_
        have HK := n7_
        have HB := n8_
        have BK510 := n9_
        have GW510 := n10_
        have GE510 := n11_
        have NB484_510 := n12_
        have NB510_484 := n13_
        have NB496_510 := n14_
        have NB510_496 := n15_
        have NB0_510 := n16_
        have NB510_0 := n17_
        clear n0_ n1_ n2_ n3_ n4_ n5_ n6_ n7_ n8_ n9_ n10_ n11_ n12_ n13_ n14_ n15_ n16_ n17_
        clear hb hbox hg
        refine hK.out _ _ ⟨(blk_cell BK496.out 0).trans rfl, (blk_cell BK496.out 1).trans rfl⟩ (fun hHeld => ?_)
        clear hK K
        refine norm_ (a' := ?_) ?_ ?_
        rotate_left
        ·show Act.put _ (some 8) _ = _
         simp only [Act.put, zE, zF, zG, i64_w, i32_w]
         rfl
        exact norm_ (by simp only [putAll, Act.put, zE, zF, zG]) (hCont (v504, v507, gb510) _ ⟨hHeld, (by exact Kd.R_mono HO505.out (fun _ h=>h.2)), (by exact Kd.S_mono HO508.out (fun _ hk => ⟨hk.1.1, ⟨hk.1.2, hk.2⟩⟩)), (by exact Kd.R_mono HO_497000.out (fun _ h=>h.2)), (by exact Kd.S_mono HO_497001.out (fun _ hk => ⟨hk.1.2, ⟨hk.2, hk.1.1⟩⟩)), (by exact BK484.out), (by exact BK496.out), (by exact BK510.out), GW510.out, GE510.out, NB0_510.out, NB510_0.out, NB484_510.out, NB510_484.out, NB496_510.out, NB510_496.out, (by repeat (first | (with_reducible first | exact HI0.out | apply Z107.alloc | apply Z107.drewN | apply Z107.drew | apply Z107.set_1 | refine Z107.far ?_ NB0_484.out _ | refine Z107.far ?_ NB0_496.out _ | refine Z107.far ?_ NB0_510.out _) | exact HI0.out)), (by repeat (first | (with_reducible first | exact HK.out | apply zK | apply keep_drewN | apply keep_drew | apply keep_alloc | refine keep_far ?_ GW484.out _ | refine keep_far ?_ GW496.out _ | refine keep_far ?_ GW510.out _) | exact HK.out)), (by repeat (first | (with_reducible first | exact HB.out | apply zB | apply zA | apply zC | refine zD ?_ (Z107.ge HI0.out) | refine zD ?_ GE484.out | refine zD ?_ GE496.out | refine zD ?_ GE510.out) | exact HB.out))⟩)
       ·skip
        refine box_step ?hg (N := 8) ?hd (cs := #[.slice none 0 0, .slice none 0 0]) (t := 52) ?hr ?_; (case hd => rfl);(case hg => rfl);(case hr => first | (go_simp; done) | (go_simp; rfl))
        intro gb510 hg w25 hbox hb
        have n0_ := zM (Kd.R_below (by exact HO_497000.out) hb)
        have n1_ := zM (Kd.S_below (by exact HO_497001.out) hb)
        have n2_ := zM (blk_below (g := gb484) (o := .cells #[.slice none 0 0, .slice none 0 0] 52 (0, 0)) (by exact BK484.out) hb)
        have n3_ := zM (blk_below (g := gb496) (o := .cells #[.slice Ao21 x497000_1.length co21, .slice Ao22 x497001_1.length co22] 52 (0, 0)) (by exact BK496.out) hb)
        have n4_ := zM (Z107.below (by repeat (first | (with_reducible first | exact HI0.out | apply Z107.alloc | apply Z107.drewN | apply Z107.drew | apply Z107.set_1 | refine Z107.far ?_ NB0_484.out _ | refine Z107.far ?_ NB0_496.out _) | exact HI0.out)) hb)
        have n5_ := zM (KeepBut.trans (by repeat (first | (with_reducible first | exact HK.out | apply zK | apply keep_drewN | apply keep_drew | apply keep_alloc | refine keep_far ?_ GW484.out _ | refine keep_far ?_ GW496.out _) | exact HK.out)) (KeepBut.of_below hb g none) (.inl rfl))
        have n6_ := zM (below_step (by repeat (first | (with_reducible first | exact HB.out | apply zB | apply zA | apply zC | refine zD ?_ (Z107.ge HI0.out) | refine zD ?_ GE484.out | refine zD ?_ GE496.out) | exact HB.out)) hb)
        have n7_ := zM (hbox)
        have n8_ := zM ((by rw [hg]; exact (keep_size (w := w) (g := g) (row := none) (by repeat (first | (with_reducible first | exact HK.out | apply zK | apply keep_drewN | apply keep_drew | apply keep_alloc | refine keep_far ?_ GW484.out _ | refine keep_far ?_ GW496.out _) | exact HK.out))) : w.heap.size ≤ gb510))
        have n9_ := zM ((Nat.le_trans HW0.out (by rw [hg]; exact (keep_size (w := w) (g := g) (row := none) (by repeat (first | (with_reducible first | exact HK.out | apply zK | apply keep_drewN | apply keep_drew | apply keep_alloc | refine keep_far ?_ GW484.out _ | refine keep_far ?_ GW496.out _) | exact HK.out))) : w.heap.size ≤ gb510) : w0.heap.size ≤ gb510))
        have n10_ := zM ((by rw [hg]; exact Nat.ne_of_lt (blk_lt (g := gb484) (o := .cells #[.slice none 0 0, .slice none 0 0] 52 (0, 0)) (by exact BK484.out)) : gb484 ≠ gb510))
        have n11_ := zM ((by rw [hg]; exact Nat.ne_of_gt (blk_lt (g := gb484) (o := .cells #[.slice none 0 0, .slice none 0 0] 52 (0, 0)) (by exact BK484.out)) : gb510 ≠ gb484))
        have n12_ := zM ((by rw [hg]; exact Nat.ne_of_lt (blk_lt (g := gb496) (o := .cells #[.slice Ao21 x497000_1.length co21, .slice Ao22 x497001_1.length co22] 52 (0, 0)) (by exact BK496.out)) : gb496 ≠ gb510))
        have n13_ := zM ((by rw [hg]; exact Nat.ne_of_gt (blk_lt (g := gb496) (o := .cells #[.slice Ao21 x497000_1.length co21, .slice Ao22 x497001_1.length co22] 52 (0, 0)) (by exact BK496.out)) : gb510 ≠ gb496))
        have n14_ := zM ((by rw [hg]; exact Nat.ne_of_lt (Z107.lt (show Z107 w0 _ g s0_0 t502 from by repeat (first | (with_reducible first | exact HI0.out | apply Z107.alloc | apply Z107.drewN | apply Z107.drew | apply Z107.set_1 | refine Z107.far ?_ NB0_484.out _ | refine Z107.far ?_ NB0_496.out _) | exact HI0.out))) : g ≠ gb510))
        have n15_ := zM ((by rw [hg]; exact Nat.ne_of_gt (Z107.lt (show Z107 w0 _ g s0_0 t502 from by repeat (first | (with_reducible first | exact HI0.out | apply Z107.alloc | apply Z107.drewN | apply Z107.drew | apply Z107.set_1 | refine Z107.far ?_ NB0_484.out _ | refine Z107.far ?_ NB0_496.out _) | exact HI0.out))) : gb510 ≠ g))
        clear HO_497000
        clear HO_497001
        clear BK484
        clear BK496
        clear HI0
        clear HK
        clear HB
        have HO_497000 := n0_
        have HO_497001 := n1_
        have BK484 := n2_
        have BK496 := n3_
        have HI0 := n4_
        have HK := n5_
        have HB := n6_
        have BK510 := n7_
        have GW510 := n8_
        have GE510 := n9_
        have NB484_510 := n10_
        have NB510_484 := n11_
        have NB496_510 := n12_
        have NB510_496 := n13_
        have NB0_510 := n14_
        have NB510_0 := n15_
        clear n0_ n1_ n2_ n3_ n4_ n5_ n6_ n7_ n8_ n9_ n10_ n11_ n12_ n13_ n14_ n15_
        clear hb hbox hg
        refine hK.out _ _ ⟨(blk_cell BK496.out 0).trans rfl, (blk_cell BK496.out 1).trans rfl⟩ (fun hHeld => ?_)
        clear hK K
        refine norm_ (a' := ?_) ?_ ?_
        rotate_left
        ·show Act.put _ (some 8) _ = _
         simp only [Act.put, zE, zF, zG, i64_w, i32_w]
         rfl
        refine one_ (i := 5) (N := some 28) #[true, true, true, true, true, true, false, false, false, true, false, false] rfl rfl (one_of HT_.out (by kernel_rfl)) (by decide) (fun K hK => ?_)
        refine goes_ Try.func59 (by kernel_rfl) rfl #[.agg #[.slice Ao21 x497000_1.length co21, .slice Ao22 x497001_1.length co22], .agg #[.int .i64 t499, .int .i64 t500, .int .i64 t501]] (by rfl) rfl rfl (by (try simp only [List.map_toArray, List.map_cons, List.map_nil]); first | done | rfl | (simp only [List.length_drop, List.length_take]; rfl)) ?_
        with_reducible refine (spec_DeskDo_owned.calls k1 _ _ x497000_1 _ _ x497001_1 t499 t500 t501 t503 t506 true _ ?side1 ?side2 ?side3 ?side4 A19.out).mono ?_
        (case side1 => repeat (first | exact (Kd.R_reads' HO_497000.out).2.2 | (with_reducible refine Kd.C_alloc ?_ _) | (with_reducible refine Kd.C_drewN ?_ _) | (with_reducible refine Kd.C_drew ?_)))
        (case side2 => exact (Kd.R_reads' HO_497000.out).2.1)
        (case side3 => repeat (first | exact (Kd.S_reads' HO_497001.out).2.2 | (with_reducible refine Kd.C_alloc ?_ _) | (with_reducible refine Kd.C_drewN ?_ _) | (with_reducible refine Kd.C_drew ?_)))
        (case side4 => exact (Kd.S_reads' HO_497001.out).2.1)
        rintro e w26 ⟨v504, v507, rfl, ho0, ho1, hb⟩
        refine ⟨_, rfl, ?_⟩
        have n0_ := zM (Kd.R_elder' (by exact HO_497000.out) (Kd.R_base ho0) hb)
        have n1_ := zM (Kd.S_mono (Kd.S_told (Kd.S_told (Kd.S_old (by exact HO_497001.out) hb) (Kd.R_base ho0)) (Kd.S_base ho1)) (fun _ h_ => h_.1))
        have n2_ := zM (Kd.R_lower (Kd.R_new' ho0 (Kd.R_lt (by exact HO_497000.out))) (keep_size (w := w) (g := g) (row := none) (by repeat (first | (with_reducible first | exact HK.out | apply zK | apply keep_drewN | apply keep_drew | apply keep_alloc | refine keep_far ?_ GW484.out _ | refine keep_far ?_ GW496.out _ | refine keep_far ?_ GW510.out _) | exact HK.out))))
        have n3_ := zM (Kd.S_lower (Kd.S_new' (Kd.S_new' ho1 (Kd.R_lt (by exact HO_497000.out))) (Kd.S_lt (by exact HO_497001.out))) (keep_size (w := w) (g := g) (row := none) (by repeat (first | (with_reducible first | exact HK.out | apply zK | apply keep_drewN | apply keep_drew | apply keep_alloc | refine keep_far ?_ GW484.out _ | refine keep_far ?_ GW496.out _ | refine keep_far ?_ GW510.out _) | exact HK.out))))
        have n4_ := zM (blk_below (g := gb484) (o := .cells #[.slice none 0 0, .slice none 0 0] 52 (0, 0)) (by exact BK484.out) hb)
        have n5_ := zM (blk_below (g := gb496) (o := .cells #[.slice Ao21 x497000_1.length co21, .slice Ao22 x497001_1.length co22] 52 (0, 0)) (by exact BK496.out) hb)
        have n6_ := zM (Z107.below (by repeat (first | (with_reducible first | exact HI0.out | apply Z107.alloc | apply Z107.drewN | apply Z107.drew | apply Z107.set_1 | refine Z107.far ?_ NB0_484.out _ | refine Z107.far ?_ NB0_496.out _ | refine Z107.far ?_ NB0_510.out _) | exact HI0.out)) hb)
        have n7_ := zM (blk_below (g := gb510) (o := .cells #[.slice none 0 0, .slice none 0 0] 52 (0, 0)) (by exact BK510.out) hb)
        have n8_ := zM (KeepBut.trans (by repeat (first | (with_reducible first | exact HK.out | apply zK | apply keep_drewN | apply keep_drew | apply keep_alloc | refine keep_far ?_ GW484.out _ | refine keep_far ?_ GW496.out _ | refine keep_far ?_ GW510.out _) | exact HK.out)) (KeepBut.of_below hb g none) (.inl rfl))
        have n9_ := zM (below_step (by repeat (first | (with_reducible first | exact HB.out | apply zB | apply zA | apply zC | refine zD ?_ (Z107.ge HI0.out) | refine zD ?_ GE484.out | refine zD ?_ GE496.out | refine zD ?_ GE510.out) | exact HB.out)) hb)
        clear HO_497000
        clear HO_497001
        clear BK484
        clear BK496
        clear HI0
        clear BK510
        clear HK
        clear HB
        have HO_497000 := n0_
        have HO_497001 := n1_
        have HO505 := n2_
        have HO508 := n3_
        have BK484 := n4_
        have BK496 := n5_
        have HI0 := n6_
        have BK510 := n7_
        have HK := n8_
        have HB := n9_
        clear n0_ n1_ n2_ n3_ n4_ n5_ n6_ n7_ n8_ n9_
        (try clear hb)
        (try clear hb2)
        (try clear hk)
        (try clear hi)
        (try clear ho0)
        (try clear ho1)
        refine hK.out _ _ ⟨(blk_cell BK496.out 0).trans rfl, (blk_cell BK496.out 1).trans rfl⟩ (fun hHeld => ?_)
        clear hK K
        refine norm_ (a' := ?_) ?_ ?_
        rotate_left
        ·show Act.put _ (some 28) _ = _
         simp only [Act.put, zE, zF, zG, i64_w, i32_w]
         rfl
        refine pure_ (i := 6) (N := some 22) (v := ?_) (a' := ?_) #[true, true, true, true, true, true, true, false, false, true, false, false] rfl rfl (any_of HT_.out (by kernel_rfl)) (fun _ _ _ h => h) (Or.inl ⟨by rfl, ?_⟩) ?_ ?_
        rotate_left
        ·intro w'
         go_simp
         with_reducible rfl
        rotate_left
        ·simp only [Act.put, zE, zF, zG, i64_w, i32_w]
         rfl
        refine pure_ (i := 7) (N := some 29) (v := ?_) (a' := ?_) #[true, true, true, true, true, true, true, true, false, true, false, false] rfl rfl (any_of HT_.out (by kernel_rfl)) (fun _ _ _ h => h) (Or.inl ⟨by rfl, ?_⟩) ?_ ?_
        rotate_left
        ·intro w'
         go_simp
         with_reducible rfl
        rotate_left
        ·simp only [Act.put, zE, zF, zG, i64_w, i32_w]
         rfl
        refine pure_ (i := 8) (N := some 30) (v := ?_) (a' := ?_) #[true, true, true, true, true, true, true, true, true, true, false, false] rfl rfl (any_of HT_.out (by kernel_rfl)) (fun _ _ _ h => h) (Or.inl ⟨by rfl, ?_⟩) ?_ ?_
        rotate_left
        ·intro w'
         go_simp
         with_reducible rfl
        rotate_left
        ·simp only [Act.put, zE, zF, zG, i64_w, i32_w]
         rfl
        exact norm_ (by simp only [putAll, Act.put, zE, zF, zG]) (hCont (v504, v507, gb510) _ ⟨hHeld, (by exact Kd.R_mono HO505.out (fun _ h=>h.2)), (by exact Kd.S_mono HO508.out (fun _ hk => ⟨hk.1.1, ⟨hk.1.2, hk.2⟩⟩)), (by exact Kd.R_mono HO_497000.out (fun _ h=>h.2)), (by exact Kd.S_mono HO_497001.out (fun _ hk => ⟨hk.1.2, ⟨hk.2, hk.1.1⟩⟩)), (by exact BK484.out), (by exact BK496.out), (by exact BK510.out), GW510.out, GE510.out, NB0_510.out, NB510_0.out, NB484_510.out, NB510_484.out, NB496_510.out, NB510_496.out, (by repeat (first | (with_reducible first | exact HI0.out | apply Z107.alloc | apply Z107.drewN | apply Z107.drew | apply Z107.set_1 | refine Z107.far ?_ NB0_484.out _ | refine Z107.far ?_ NB0_496.out _ | refine Z107.far ?_ NB0_510.out _) | exact HI0.out)), (by repeat (first | (with_reducible first | exact HK.out | apply zK | apply keep_drewN | apply keep_drew | apply keep_alloc | refine keep_far ?_ GW484.out _ | refine keep_far ?_ GW496.out _ | refine keep_far ?_ GW510.out _) | exact HK.out)), (by repeat (first | (with_reducible first | exact HB.out | apply zB | apply zA | apply zC | refine zD ?_ (Z107.ge HI0.out) | refine zD ?_ GE484.out | refine zD ?_ GE496.out | refine zD ?_ GE510.out) | exact HB.out))⟩)
      ·skip
       refine box_step ?hg (N := 8) ?hd (cs := #[.slice none 0 0, .slice none 0 0]) (t := 52) ?hr ?_; (case hd => rfl);(case hg => rfl);(case hr => first | (go_simp; done) | (go_simp; rfl))
       intro gb510 hg w24 hbox hb
       have n0_ := zM (Kd.R_below (by exact HO_497000.out) hb)
       have n1_ := zM (Kd.S_below (by exact HO_497001.out) hb)
       have n2_ := zM (blk_below (g := gb484) (o := .cells #[.slice none 0 0, .slice none 0 0] 52 (0, 0)) (by exact BK484.out) hb)
       have n3_ := zM (blk_below (g := gb496) (o := .cells #[.slice Ao21 x497000_1.length co21, .slice Ao22 x497001_1.length co22] 52 (0, 0)) (by exact BK496.out) hb)
       have n4_ := zM (Z107.below (by repeat (first | (with_reducible first | exact HI0.out | apply Z107.alloc | apply Z107.drewN | apply Z107.drew | apply Z107.set_1 | refine Z107.far ?_ NB0_484.out _ | refine Z107.far ?_ NB0_496.out _) | exact HI0.out)) hb)
       have n5_ := zM (KeepBut.trans (by repeat (first | (with_reducible first | exact HK.out | apply zK | apply keep_drewN | apply keep_drew | apply keep_alloc | refine keep_far ?_ GW484.out _ | refine keep_far ?_ GW496.out _) | exact HK.out)) (KeepBut.of_below hb g none) (.inl rfl))
       have n6_ := zM (below_step (by repeat (first | (with_reducible first | exact HB.out | apply zB | apply zA | apply zC | refine zD ?_ (Z107.ge HI0.out) | refine zD ?_ GE484.out | refine zD ?_ GE496.out) | exact HB.out)) hb)
       have n7_ := zM (hbox)
       have n8_ := zM ((by rw [hg]; exact (keep_size (w := w) (g := g) (row := none) (by repeat (first | (with_reducible first | exact HK.out | apply zK | apply keep_drewN | apply keep_drew | apply keep_alloc | refine keep_far ?_ GW484.out _ | refine keep_far ?_ GW496.out _) | exact HK.out))) : w.heap.size ≤ gb510))
       have n9_ := zM ((Nat.le_trans HW0.out (by rw [hg]; exact (keep_size (w := w) (g := g) (row := none) (by repeat (first | (with_reducible first | exact HK.out | apply zK | apply keep_drewN | apply keep_drew | apply keep_alloc | refine keep_far ?_ GW484.out _ | refine keep_far ?_ GW496.out _) | exact HK.out))) : w.heap.size ≤ gb510) : w0.heap.size ≤ gb510))
       have n10_ := zM ((by rw [hg]; exact Nat.ne_of_lt (blk_lt (g := gb484) (o := .cells #[.slice none 0 0, .slice none 0 0] 52 (0, 0)) (by exact BK484.out)) : gb484 ≠ gb510))
       have n11_ := zM ((by rw [hg]; exact Nat.ne_of_gt (blk_lt (g := gb484) (o := .cells #[.slice none 0 0, .slice none 0 0] 52 (0, 0)) (by exact BK484.out)) : gb510 ≠ gb484))
       have n12_ := zM ((by rw [hg]; exact Nat.ne_of_lt (blk_lt (g := gb496) (o := .cells #[.slice Ao21 x497000_1.length co21, .slice Ao22 x497001_1.length co22] 52 (0, 0)) (by exact BK496.out)) : gb496 ≠ gb510))
       have n13_ := zM ((by rw [hg]; exact Nat.ne_of_gt (blk_lt (g := gb496) (o := .cells #[.slice Ao21 x497000_1.length co21, .slice Ao22 x497001_1.length co22] 52 (0, 0)) (by exact BK496.out)) : gb510 ≠ gb496))
       have n14_ := zM ((by rw [hg]; exact Nat.ne_of_lt (Z107.lt (show Z107 w0 _ g s0_0 x1001_1 from by repeat (first | (with_reducible first | exact HI0.out | apply Z107.alloc | apply Z107.drewN | apply Z107.drew | apply Z107.set_1 | refine Z107.far ?_ NB0_484.out _ | refine Z107.far ?_ NB0_496.out _) | exact HI0.out))) : g ≠ gb510))
       have n15_ := zM ((by rw [hg]; exact Nat.ne_of_gt (Z107.lt (show Z107 w0 _ g s0_0 x1001_1 from by repeat (first | (with_reducible first | exact HI0.out | apply Z107.alloc | apply Z107.drewN | apply Z107.drew | apply Z107.set_1 | refine Z107.far ?_ NB0_484.out _ | refine Z107.far ?_ NB0_496.out _) | exact HI0.out))) : gb510 ≠ g))
       clear HO_497000
       clear HO_497001
       clear BK484
       clear BK496
       clear HI0
       clear HK
       clear HB
       have HO_497000 := n0_
       have HO_497001 := n1_
       have BK484 := n2_
       have BK496 := n3_
       have HI0 := n4_
       have HK := n5_
       have HB := n6_
       have BK510 := n7_
       have GW510 := n8_
       have GE510 := n9_
       have NB484_510 := n10_
       have NB510_484 := n11_
       have NB496_510 := n12_
       have NB510_496 := n13_
       have NB0_510 := n14_
       have NB510_0 := n15_
       clear n0_ n1_ n2_ n3_ n4_ n5_ n6_ n7_ n8_ n9_ n10_ n11_ n12_ n13_ n14_ n15_
       clear hb hbox hg
       refine hK.out _ _ ⟨(blk_cell BK496.out 0).trans rfl, (blk_cell BK496.out 1).trans rfl⟩ (fun hHeld => ?_)
       clear hK K
       refine norm_ (a' := ?_) ?_ ?_
       rotate_left
       ·show Act.put _ (some 8) _ = _
        simp only [Act.put, zE, zF, zG, i64_w, i32_w]
        rfl
       refine one_ (i := 4) (N := some 27) #[true, true, true, true, true, false, false, false, false, true, false, false] rfl rfl (one_of HT_.out (by kernel_rfl)) (by decide) (fun K hK => ?_)
       refine goes_ Try.func145 (by kernel_rfl) rfl #[.pointer (some ⟨g, 0, none⟩), .slice Ao21 x497000_1.length co21] (by rfl) rfl rfl (by (try simp only [List.map_toArray, List.map_cons, List.map_nil]); first | done | rfl | (simp only [List.length_drop, List.length_take]; rfl)) ?_
       with_reducible refine (spec_l20Deed.calls k1 g s0_0 x1001_1 _ _ x497000_1 t499 t500 t501 t502 w0 _ ?side1 ?side2 ?side3 ?side4 ?side5 A18.out).mono ?_
       (case side1 => repeat (first | (with_reducible first | exact HI0.out | apply Z107.alloc | apply Z107.drewN | apply Z107.drew | apply Z107.set_1 | refine Z107.far ?_ NB0_484.out _ | refine Z107.far ?_ NB0_496.out _ | refine Z107.far ?_ NB0_510.out _) | exact HI0.out))
       (case side2 => repeat (first | (with_reducible first | exact HB.out | apply zB | apply zA | apply zC | refine zD ?_ (Z107.ge HI0.out) | refine zD ?_ GE484.out | refine zD ?_ GE496.out | refine zD ?_ GE510.out) | exact HB.out))
       (case side3 => repeat (first | exact (Kd.R_reads' HO_497000.out).2.2 | (with_reducible refine Kd.C_alloc ?_ _) | (with_reducible refine Kd.C_drewN ?_ _) | (with_reducible refine Kd.C_drew ?_)))
       (case side4 => exact (Kd.R_reads' HO_497000.out).2.1)
       (case side5 => exact far_slice (Z107.own_ne HI0.out HO_497000.out (by decide)))
       rintro e w25 ⟨rfl, hi, hb, hk⟩
       refine ⟨_, rfl, ?_⟩
       have n0_ := zM (Kd.R_mono (Kd.R_keep (Z107.apart (show Z107 w0 _ g s0_0 x1001_1 from by repeat (first | (with_reducible first | exact HI0.out | apply Z107.alloc | apply Z107.drewN | apply Z107.drew | apply Z107.set_1 | refine Z107.far ?_ NB0_484.out _ | refine Z107.far ?_ NB0_496.out _ | refine Z107.far ?_ NB0_510.out _) | exact HI0.out)) (by exact HO_497000.out) (by decide)) hk (fun _ h => h.2)) (fun _ h => h.1))
       have n1_ := zM (Kd.S_mono (Kd.S_keep (Z107.apartS (show Z107 w0 _ g s0_0 x1001_1 from by repeat (first | (with_reducible first | exact HI0.out | apply Z107.alloc | apply Z107.drewN | apply Z107.drew | apply Z107.set_1 | refine Z107.far ?_ NB0_484.out _ | refine Z107.far ?_ NB0_496.out _ | refine Z107.far ?_ NB0_510.out _) | exact HI0.out)) (by exact HO_497001.out) (by decide)) hk (fun _ h => h.2)) (fun _ h => h.1))
       have n2_ := zM (KeepBut.blk hk (g' := gb484) (o := .cells #[.slice none 0 0, .slice none 0 0] 52 (0, 0)) (by exact BK484.out) NB484_0.out (by simp))
       have n3_ := zM (KeepBut.blk hk (g' := gb496) (o := .cells #[.slice Ao21 x497000_1.length co21, .slice Ao22 x497001_1.length co22] 52 (0, 0)) (by exact BK496.out) NB496_0.out (by simp))
       have n4_ := zM (KeepBut.blk hk (g' := gb510) (o := .cells #[.slice none 0 0, .slice none 0 0] 52 (0, 0)) (by exact BK510.out) NB510_0.out (by simp))
       have n5_ := zM (KeepBut.trans (by repeat (first | (with_reducible first | exact HK.out | apply zK | apply keep_drewN | apply keep_drew | apply keep_alloc | refine keep_far ?_ GW484.out _ | refine keep_far ?_ GW496.out _ | refine keep_far ?_ GW510.out _) | exact HK.out)) hk (.inl rfl))
       have n6_ := zM (hb)
       have n7_ := zM (hi)
       clear HO_497000
       clear HO_497001
       clear BK484
       clear BK496
       clear BK510
       clear HK
       clear HB
       clear HI0
       have HO_497000 := n0_
       have HO_497001 := n1_
       have BK484 := n2_
       have BK496 := n3_
       have BK510 := n4_
       have HK := n5_
       have HB := n6_
       have HI0 := n7_
       clear n0_ n1_ n2_ n3_ n4_ n5_ n6_ n7_
       (try clear hb)
       (try clear hb2)
       (try clear hk)
       (try clear hi)
       refine hK.out _ _ ⟨(blk_cell BK496.out 0).trans rfl, (blk_cell BK496.out 1).trans rfl⟩ (fun hHeld => ?_)
       clear hK K
       refine norm_ (a' := ?_) ?_ ?_
       rotate_left
       ·show Act.put _ (some 27) _ = _
        simp only [Act.put, zE, zF, zG, i64_w, i32_w]
        rfl
       refine one_ (i := 5) (N := some 28) #[true, true, true, true, true, true, false, false, false, true, false, false] rfl rfl (one_of HT_.out (by kernel_rfl)) (by decide) (fun K hK => ?_)
       refine goes_ Try.func59 (by kernel_rfl) rfl #[.agg #[.slice Ao21 x497000_1.length co21, .slice Ao22 x497001_1.length co22], .agg #[.int .i64 t499, .int .i64 t500, .int .i64 t501]] (by rfl) rfl rfl (by (try simp only [List.map_toArray, List.map_cons, List.map_nil]); first | done | rfl | (simp only [List.length_drop, List.length_take]; rfl)) ?_
       with_reducible refine (spec_DeskDo_owned.calls k1 _ _ x497000_1 _ _ x497001_1 t499 t500 t501 t503 t506 true _ ?side1 ?side2 ?side3 ?side4 A19.out).mono ?_
       (case side1 => repeat (first | exact (Kd.R_reads' HO_497000.out).2.2 | (with_reducible refine Kd.C_alloc ?_ _) | (with_reducible refine Kd.C_drewN ?_ _) | (with_reducible refine Kd.C_drew ?_)))
       (case side2 => exact (Kd.R_reads' HO_497000.out).2.1)
       (case side3 => repeat (first | exact (Kd.S_reads' HO_497001.out).2.2 | (with_reducible refine Kd.C_alloc ?_ _) | (with_reducible refine Kd.C_drewN ?_ _) | (with_reducible refine Kd.C_drew ?_)))
       (case side4 => exact (Kd.S_reads' HO_497001.out).2.1)
       rintro e w26 ⟨v504, v507, rfl, ho0, ho1, hb⟩
       refine ⟨_, rfl, ?_⟩
       have n0_ := zM (Kd.R_elder' (by exact HO_497000.out) (Kd.R_base ho0) hb)
       have n1_ := zM (Kd.S_mono (Kd.S_told (Kd.S_told (Kd.S_old (by exact HO_497001.out) hb) (Kd.R_base ho0)) (Kd.S_base ho1)) (fun _ h_ => h_.1))
       have n2_ := zM (Kd.R_lower (Kd.R_new' ho0 (Kd.R_lt (by exact HO_497000.out))) (keep_size (w := w) (g := g) (row := none) (by repeat (first | (with_reducible first | exact HK.out | apply zK | apply keep_drewN | apply keep_drew | apply keep_alloc | refine keep_far ?_ GW484.out _ | refine keep_far ?_ GW496.out _ | refine keep_far ?_ GW510.out _) | exact HK.out))))
       have n3_ := zM (Kd.S_lower (Kd.S_new' (Kd.S_new' ho1 (Kd.R_lt (by exact HO_497000.out))) (Kd.S_lt (by exact HO_497001.out))) (keep_size (w := w) (g := g) (row := none) (by repeat (first | (with_reducible first | exact HK.out | apply zK | apply keep_drewN | apply keep_drew | apply keep_alloc | refine keep_far ?_ GW484.out _ | refine keep_far ?_ GW496.out _ | refine keep_far ?_ GW510.out _) | exact HK.out))))
       have n4_ := zM (blk_below (g := gb484) (o := .cells #[.slice none 0 0, .slice none 0 0] 52 (0, 0)) (by exact BK484.out) hb)
       have n5_ := zM (blk_below (g := gb496) (o := .cells #[.slice Ao21 x497000_1.length co21, .slice Ao22 x497001_1.length co22] 52 (0, 0)) (by exact BK496.out) hb)
       have n6_ := zM (Z107.below (by repeat (first | (with_reducible first | exact HI0.out | apply Z107.alloc | apply Z107.drewN | apply Z107.drew | apply Z107.set_1 | refine Z107.far ?_ NB0_484.out _ | refine Z107.far ?_ NB0_496.out _ | refine Z107.far ?_ NB0_510.out _) | exact HI0.out)) hb)
       have n7_ := zM (blk_below (g := gb510) (o := .cells #[.slice none 0 0, .slice none 0 0] 52 (0, 0)) (by exact BK510.out) hb)
       have n8_ := zM (KeepBut.trans (by repeat (first | (with_reducible first | exact HK.out | apply zK | apply keep_drewN | apply keep_drew | apply keep_alloc | refine keep_far ?_ GW484.out _ | refine keep_far ?_ GW496.out _ | refine keep_far ?_ GW510.out _) | exact HK.out)) (KeepBut.of_below hb g none) (.inl rfl))
       have n9_ := zM (below_step (by repeat (first | (with_reducible first | exact HB.out | apply zB | apply zA | apply zC | refine zD ?_ (Z107.ge HI0.out) | refine zD ?_ GE484.out | refine zD ?_ GE496.out | refine zD ?_ GE510.out) | exact HB.out)) hb)
       clear HO_497000
       clear HO_497001
       clear BK484
       clear BK496
       clear HI0
       clear BK510
       clear HK
       clear HB
       have HO_497000 := n0_
       have HO_497001 := n1_
       have HO505 := n2_
       have HO508 := n3_
       have BK484 := n4_
       have BK496 := n5_
       have HI0 := n6_
       have BK510 := n7_
       have HK := n8_
       have HB := n9_
       clear n0_ n1_ n2_ n3_ n4_ n5_ n6_ n7_ n8_ n9_
       (try clear hb)
       (try clear hb2)
       (try clear hk)
       (try clear hi)
       (try clear ho0)
       (try clear ho1)
       refine hK.out _ _ ⟨(blk_cell BK496.out 0).trans rfl, (blk_cell BK496.out 1).trans rfl⟩ (fun hHeld => ?_)
       clear hK K
       refine norm_ (a' := ?_) ?_ ?_
       rotate_left
       ·show Act.put _ (some 28) _ = _
        simp only [Act.put, zE, zF, zG, i64_w, i32_w]
        rfl
       refine pure_ (i := 6) (N := some 22) (v := ?_) (a' := ?_) #[true, true, true, true, true, true, true, false, false, true, false, false] rfl rfl (any_of HT_.out (by kernel_rfl)) (fun _ _ _ h => h) (Or.inl ⟨by rfl, ?_⟩) ?_ ?_
       rotate_left
       ·intro w'
        go_simp
        with_reducible rfl
       rotate_left
       ·simp only [Act.put, zE, zF, zG, i64_w, i32_w]
        rfl
       refine pure_ (i := 7) (N := some 29) (v := ?_) (a' := ?_) #[true, true, true, true, true, true, true, true, false, true, false, false] rfl rfl (any_of HT_.out (by kernel_rfl)) (fun _ _ _ h => h) (Or.inl ⟨by rfl, ?_⟩) ?_ ?_
       rotate_left
       ·intro w'
        go_simp
        with_reducible rfl
       rotate_left
       ·simp only [Act.put, zE, zF, zG, i64_w, i32_w]
        rfl
       refine pure_ (i := 8) (N := some 30) (v := ?_) (a' := ?_) #[true, true, true, true, true, true, true, true, true, true, false, false] rfl rfl (any_of HT_.out (by kernel_rfl)) (fun _ _ _ h => h) (Or.inl ⟨by rfl, ?_⟩) ?_ ?_
       rotate_left
       ·intro w'
        go_simp
        with_reducible rfl
       rotate_left
       ·simp only [Act.put, zE, zF, zG, i64_w, i32_w]
        rfl
       exact norm_ (by simp only [putAll, Act.put, zE, zF, zG]) (hCont (v504, v507, gb510) _ ⟨hHeld, (by exact Kd.R_mono HO505.out (fun _ h=>h.2)), (by exact Kd.S_mono HO508.out (fun _ hk => ⟨hk.1.1, ⟨hk.1.2, hk.2⟩⟩)), (by exact Kd.R_mono HO_497000.out (fun _ h=>h.2)), (by exact Kd.S_mono HO_497001.out (fun _ hk => ⟨hk.1.2, ⟨hk.2, hk.1.1⟩⟩)), (by exact BK484.out), (by exact BK496.out), (by exact BK510.out), GW510.out, GE510.out, NB0_510.out, NB510_0.out, NB484_510.out, NB510_484.out, NB496_510.out, NB510_496.out, (by repeat (first | (with_reducible first | exact HI0.out | apply Z107.alloc | apply Z107.drewN | apply Z107.drew | apply Z107.set_1 | refine Z107.far ?_ NB0_484.out _ | refine Z107.far ?_ NB0_496.out _ | refine Z107.far ?_ NB0_510.out _) | exact HI0.out)), (by repeat (first | (with_reducible first | exact HK.out | apply zK | apply keep_drewN | apply keep_drew | apply keep_alloc | refine keep_far ?_ GW484.out _ | refine keep_far ?_ GW496.out _ | refine keep_far ?_ GW510.out _) | exact HK.out)), (by repeat (first | (with_reducible first | exact HB.out | apply zB | apply zA | apply zC | refine zD ?_ (Z107.ge HI0.out) | refine zD ?_ GE484.out | refine zD ?_ GE496.out | refine zD ?_ GE510.out) | exact HB.out))⟩)
     rintro ⟨v504, v507, gb510⟩ w27 ⟨hS_, h0_, h1_, h2_, h3_, h4_, h5_, h6_, h7_, h8_, h9_, h10_, h11_, h12_, h13_, h14_, h15_, h16_, h17_⟩
     have n0_ : Aside0 (Kd.R (Kd.int .i64) 3 w27 w.heap.size (fun k_ => some k_ ≠ (.slice Ao21 x497000_1.length co21 : Value).ownBlock) v504 t503) := ⟨h0_⟩
     have n1_ : Aside0 (Kd.S (Kd.slice 3 (Kd.int .i64)) 23 w27 w.heap.size (fun k_ => some k_ ≠ (v504 : Value).ownBlock ∧ some k_ ≠ (.slice Ao21 x497000_1.length co21 : Value).ownBlock ∧ some k_ ≠ (.slice Ao22 x497001_1.length co22 : Value).ownBlock) v507 t506) := ⟨h1_⟩
     have n2_ : Aside0 (Kd.R (Kd.int .i64) 3 w27 w.heap.size (fun k_ => some k_ ≠ (v504 : Value).ownBlock) (.slice Ao21 x497000_1.length co21) x497000_1) := ⟨h2_⟩
     have n3_ : Aside0 (Kd.S (Kd.slice 3 (Kd.int .i64)) 23 w27 w.heap.size (fun k_ => some k_ ≠ (v504 : Value).ownBlock ∧ some k_ ≠ (v507 : Value).ownBlock ∧ some k_ ≠ (.slice Ao21 x497000_1.length co21 : Value).ownBlock) (.slice Ao22 x497001_1.length co22) x497001_1) := ⟨h3_⟩
     have n4_ : Aside0 (w27.heap[gb484]? = some (.cells #[.slice none 0 0, .slice none 0 0] 52 (0, 0))) := ⟨h4_⟩
     have n5_ : Aside0 (w27.heap[gb496]? = some (.cells #[.slice Ao21 x497000_1.length co21, .slice Ao22 x497001_1.length co22] 52 (0, 0))) := ⟨h5_⟩
     have n6_ : Aside0 (w27.heap[gb510]? = some (.cells #[.slice none 0 0, .slice none 0 0] 52 (0, 0))) := ⟨h6_⟩
     have n7_ : Aside0 (w.heap.size ≤ gb510) := ⟨h7_⟩
     have n8_ : Aside0 (w0.heap.size ≤ gb510) := ⟨h8_⟩
     have n9_ : Aside0 (g ≠ gb510) := ⟨h9_⟩
     have n10_ : Aside0 (gb510 ≠ g) := ⟨h10_⟩
     have n11_ : Aside0 (gb484 ≠ gb510) := ⟨h11_⟩
     have n12_ : Aside0 (gb510 ≠ gb484) := ⟨h12_⟩
     have n13_ : Aside0 (gb496 ≠ gb510) := ⟨h13_⟩
     have n14_ : Aside0 (gb510 ≠ gb496) := ⟨h14_⟩
     have n15_ : Aside0 (Z107 w0 w27 g s0_0 t502) := ⟨h15_⟩
     have n16_ : Aside0 (KeepBut w w27 g none) := ⟨h16_⟩
     have n17_ : Aside0 (Below w0.heap.size w0 w27) := ⟨h17_⟩
     clear HO_497000
     clear HO_497001
     clear BK484
     clear BK496
     clear HI0
     clear HK
     clear HB
     clear h0_ h1_ h2_ h3_ h4_ h5_ h6_ h7_ h8_ h9_ h10_ h11_ h12_ h13_ h14_ h15_ h16_ h17_
     have HO505 := n0_
     have HO508 := n1_
     have HO_497000 := n2_
     have HO_497001 := n3_
     have BK484 := n4_
     have BK496 := n5_
     have BK510 := n6_
     have GW510 := n7_
     have GE510 := n8_
     have NB0_510 := n9_
     have NB510_0 := n10_
     have NB484_510 := n11_
     have NB510_484 := n12_
     have NB496_510 := n13_
     have NB510_496 := n14_
     have HI0 := n15_
     have HK := n16_
     have HB := n17_
     clear n0_ n1_ n2_ n3_ n4_ n5_ n6_ n7_ n8_ n9_ n10_ n11_ n12_ n13_ n14_ n15_ n16_ n17_
     have hHeld : w27.cell? ⟨gb496, 0, none⟩ = some (.slice Ao21 x497000_1.length co21) ∧ w27.cell? ⟨gb496, 1, none⟩ = some (.slice Ao22 x497001_1.length co22) := hS_
     obtain ⟨Ao28, co28, eo28⟩ := Kd.R_slice HO505.out
     (first | subst eo28 | (injection eo28 with f1_ f2_ f3_; have f4_ := f1_.symm; have f5_ := f3_.symm; clear f1_ f2_ f3_; subst f4_; subst f5_))
     obtain ⟨Ao30, co30, eo30⟩ := Kd.S_slice HO508.out
     (first | subst eo30 | (injection eo30 with f1_ f2_ f3_; have f4_ := f1_.symm; have f5_ := f3_.symm; clear f1_ f2_ f3_; subst f4_; subst f5_))
     refine norm_ (a' := ?_) ?_ ?_
     rotate_left
     ·simp only [putAll, Act.put, zE, zF, zG]
      rfl
     refine one_ (i := 10) (N := none) #[true, true, true, true, true, true, true, true, true, true, true, false] rfl rfl (one_of HT_.out (by kernel_rfl)) (by decide) (fun K hK => ?_)
     have hs29 : w27.cell? ⟨gb510, 0, none⟩ = some (.slice none 0 0) := (blk_cell BK510.out 0).trans rfl
     have hfs29 := blk_frozen BK510.out 0
     have hns29_0 := NB484_510.out
     have hns29_1 := NB496_510.out
     have hms29_0 := NB510_484.out
     have hms29_1 := NB510_496.out
     have hs31 : w27.cell? ⟨gb510, 1, none⟩ = some (.slice none 0 0) := (blk_cell BK510.out 1).trans rfl
     have hfs31 := blk_frozen BK510.out 1
     have hns31_0 := NB484_510.out
     have hns31_1 := NB496_510.out
     have hms31_0 := NB510_484.out
     have hms31_1 := NB510_496.out
     refine skip_ (w1 := ?_) (by rfl) rfl ?_ ?_
     rotate_left
     ·go_simp
      rfl
     refine hK.out _ _ ⟨((cell_far (p := ⟨gb510, _, none⟩) NB496_510.out _).trans (((cell_far (p := ⟨gb510, _, none⟩) NB496_510.out _).trans (hHeld.1)))), ((cell_far (p := ⟨gb510, _, none⟩) NB496_510.out _).trans (((cell_far (p := ⟨gb510, _, none⟩) NB496_510.out _).trans (hHeld.2))))⟩ (fun hHeld => ?_)
     clear hK K
     refine pure_ (i := 11) (N := some 9) (v := ?_) (a' := ?_) #[true, true, true, true, true, true, true, true, true, true, true, true] rfl rfl (any_of HT_.out (by kernel_rfl)) (fun _ _ _ h => h) (Or.inl ⟨by rfl, ?_⟩) ?_ ?_
     rotate_left
     ·intro w'
      go_simp
      with_reducible rfl
     rotate_left
     ·simp only [Act.put, zE, zF, zG, i64_w, i32_w]
      rfl
     refine done_ (done_of HT_.out (by kernel_rfl)) ?_
     have hnb32 := NB510_484.out
     have hnc32 := NB484_510.out
     have hnb33 := NB510_496.out
     have hnc33 := NB496_510.out
     have hnb34 := NB510_0.out
     have hnc34 := NB0_510.out
     have hcz35_0 : w27.cell? ⟨gb510, 0, none⟩ = some (.slice none 0 0) := (blk_cell BK510.out 0).trans rfl
     have hcz35_1 : w27.cell? ⟨gb510, 1, none⟩ = some (.slice none 0 0) := (blk_cell BK510.out 1).trans rfl
     have hfz35_0 := blk_frozen BK510.out 0
     have hfz35_1 := blk_frozen BK510.out 1
     have hnb36 := NB496_484.out
     have hnc36 := NB484_496.out
     have hnb37 := NB496_0.out
     have hnc37 := NB0_496.out
     have hcz38_0 : w27.cell? ⟨gb496, 0, none⟩ = some (.slice Ao21 x497000_1.length co21) := (blk_cell BK496.out 0).trans rfl
     have hcz38_1 : w27.cell? ⟨gb496, 1, none⟩ = some (.slice Ao22 x497001_1.length co22) := (blk_cell BK496.out 1).trans rfl
     have hfz38_0 := blk_frozen BK496.out 0
     have hfz38_1 := blk_frozen BK496.out 1
     try go_wp2
     go_roundg k1
     case measure => have := HK1.out; omega
     case rel => exact ⟨(wrap64 (x7_1 - 1)), (t502), (t503), (t506), (.slice Ao28 t503.length co28), (.slice Ao30 t506.length co30), (by first | rfl | (simp; done) | (simp [*]; done)), H', ⟨by have := HK1.out; omega⟩, ⟨by exact Kd.R_mono (Kd.R_far (p := ⟨gb496, 1, none⟩) (Kd.R_far (p := ⟨gb496, 0, none⟩) (Kd.R_far (p := ⟨gb510, 1, none⟩) (Kd.R_far (p := ⟨gb510, 0, none⟩) (Kd.R_types (Kd.R_types HO505.out BK510.out (by decide)) BK496.out (by decide)) (fun _ h=>h.1.2) (.slice Ao28 t503.length co28)) (fun _ h=>h.1.2) (.slice Ao30 t506.length co30)) (fun _ h=>h.2) (.slice Ao28 t503.length co28)) (fun _ h=>h.2) (.slice Ao30 t506.length co30)) (fun _ hk => trivial)⟩, ⟨by exact Kd.S_mono (Kd.S_far (p := ⟨gb496, 1, none⟩) (Kd.S_far (p := ⟨gb496, 0, none⟩) (Kd.S_far (p := ⟨gb510, 1, none⟩) (Kd.S_far (p := ⟨gb510, 0, none⟩) (Kd.S_types (Kd.S_types HO508.out BK510.out (by decide)) BK496.out (by decide)) (fun _ h=>h.1.2) (.slice Ao28 t503.length co28)) (fun _ h=>h.1.2) (.slice Ao30 t506.length co30)) (fun _ h=>h.2) (.slice Ao28 t503.length co28)) (fun _ h=>h.2) (.slice Ao30 t506.length co30)) (fun _ h=>h.1.1.1)⟩, ⟨by refine blk_far ?_ NB484_496.out _; refine blk_far ?_ NB484_496.out _; refine blk_far ?_ NB484_510.out _; refine blk_far ?_ NB484_510.out _; exact BK484.out⟩, ⟨by refine blk_put (cs := #[.slice Ao28 t503.length co28, .slice Ao22 x497001_1.length co22]) ?_ 1 _ rfl; refine blk_put (cs := #[.slice Ao21 x497000_1.length co21, .slice Ao22 x497001_1.length co22]) ?_ 0 _ rfl; refine blk_far ?_ NB496_510.out _; refine blk_far ?_ NB496_510.out _; exact BK496.out⟩, ⟨by repeat (first | (with_reducible first | exact HI0.out | apply Z107.alloc | apply Z107.drewN | apply Z107.drew | apply Z107.set_1 | refine Z107.far ?_ NB0_484.out _ | refine Z107.far ?_ NB0_496.out _ | refine Z107.far ?_ NB0_510.out _) | exact HI0.out)⟩, ⟨by repeat (first | (with_reducible first | exact HK.out | apply zK | apply keep_drewN | apply keep_drew | apply keep_alloc | refine keep_far ?_ GW484.out _ | refine keep_far ?_ GW496.out _ | refine keep_far ?_ GW510.out _) | exact HK.out)⟩, ⟨by repeat (first | (with_reducible first | exact HB.out | apply zB | apply zA | apply zC | refine zD ?_ (Z107.ge HI0.out) | refine zD ?_ GE484.out | refine zD ?_ GE496.out | refine zD ?_ GE510.out) | exact HB.out)⟩⟩
    ·replace c20 := Bool.eq_false_iff.mpr c20
     subst c20
     have H1 : (spec_l20Desk.l0 k1 a1 (wrap64 (x7_1 - 1)) s0_0 t502 x497000_1 x497001_1) = some (r1, r2, r3) := by rw [if_neg (show ¬ (false = true) by decide)] at H; exact H
     clear H
     have H := H1
     clear H1
     have H' := zM H
     clear H
     obtain ⟨Ao39, co39, eo39⟩ := Kd.R_slice HO_497000.out
     subst eo39
     obtain ⟨Ao40, co40, eo40⟩ := Kd.S_slice HO_497001.out
     subst eo40
     try go_wp2
     have n0_ := zM (Kd.R_drew HO_497000.out)
     have n1_ := zM (Kd.S_drew HO_497001.out)
     have n2_ := zM (blk_drew BK484.out)
     have n3_ := zM (blk_drew BK496.out)
     have n4_ := zM (Z107.drew HI0.out)
     have n5_ := zM (keep_drew HK.out)
     have n6_ := zM (zC HB.out)
     clear HO_497000
     clear HO_497001
     clear BK484
     clear BK496
     clear HI0
     clear HK
     clear HB
     have HO_497000 := n0_
     have HO_497001 := n1_
     have BK484 := n2_
     have BK496 := n3_
     have HI0 := n4_
     have HK := n5_
     have HB := n6_
     clear n0_ n1_ n2_ n3_ n4_ n5_ n6_
     refine start_ (n := 12) (S := fun w' => w'.cell? ⟨gb496, 0, none⟩ = some (.slice Ao39 x497000_1.length co39) ∧ w'.cell? ⟨gb496, 1, none⟩ = some (.slice Ao40 x497001_1.length co40)) (ds := []) #[false, false, false, false, false, false, false, false, false, false, false, false] (by kernel_rfl) rfl rfl ⟨(blk_cell BK496.out 0).trans rfl, (blk_cell BK496.out 1).trans rfl⟩ (fun hHeld => ?_); refine with_tabW spec_l20Desk.tab5 spec_l20Desk.bits5 (fun HT_ HW_ => ?_)
     generalize wr.drew = w41 at HO_497000 HO_497001 BK484 BK496 HI0 HK HB hHeld ⊢
     refine pure_ (i := 1) (N := some 24) (v := ?_) (a' := ?_) #[false, true, false, false, false, false, false, false, false, false, false, false] rfl rfl (any_of HT_.out (by kernel_rfl)) (fun _ _ _ h => h) (Or.inl ⟨by rfl, ?_⟩) ?_ ?_
     rotate_left
     ·intro w'
      go_simp
      with_reducible rfl
     rotate_left
     ·simp only [Act.put, zE, zF, zG, i64_w, i32_w]
      rfl
     refine pure_ (i := 2) (N := some 25) (v := ?_) (a' := ?_) #[false, true, true, false, false, false, false, false, false, false, false, false] rfl rfl (any_of HT_.out (by kernel_rfl)) (fun _ _ _ h => h) (Or.inl ⟨by rfl, ?_⟩) ?_ ?_
     rotate_left
     ·intro w'
      go_simp
      with_reducible rfl
     rotate_left
     ·simp only [Act.put, zE, zF, zG, i64_w, i32_w]
      rfl
     refine take_ (i := 0) (N := some 23) (v := ?_) (a' := ?_) #[true, true, true, false, false, false, false, false, false, false, false, false] rfl rfl (take_ofW HT_.out HW_.out (by kernel_rfl)) (fun _ _ _ h => h) (Or.inl ⟨by rfl, ?_⟩) hHeld ?_ ?_
     rotate_left
     ·rintro w' ⟨s0, s1⟩
      go_simp
      with_reducible rfl
     rotate_left
     ·simp only [Act.put, zE, zF, zG, i64_w, i32_w]
      rfl
     refine take_ (i := 3) (N := some 26) (v := ?_) (a' := ?_) #[true, true, true, true, false, false, false, false, false, false, false, false] rfl rfl (take_ofW HT_.out HW_.out (by kernel_rfl)) (fun _ _ _ h => h) (Or.inl ⟨by rfl, ?_⟩) hHeld ?_ ?_
     rotate_left
     ·rintro w' ⟨s0, s1⟩
      go_simp
      with_reducible rfl
     rotate_left
     ·simp only [Act.put, zE, zF, zG, i64_w, i32_w]
      rfl
     refine join_ (σ := Value × Value × Nat) 2 #[true, true, true, true, true, true, true, true, true, true, false, false] (fun s_ => [(27, .agg #[.int .i64 t499, .int .i64 t500, .int .i64 t501]), (28, .tuple #[.agg #[s_.1, s_.2.1], .bool false]), (8, .pointer (some ⟨s_.2.2, 0, none⟩)), (22, .tuple #[.agg #[s_.1, s_.2.1], .bool false]), (29, .agg #[s_.1, s_.2.1]), (30, .bool false)]) (fun s_ w' => (w'.cell? ⟨gb496, 0, none⟩ = some (.slice Ao39 x497000_1.length co39) ∧ w'.cell? ⟨gb496, 1, none⟩ = some (.slice Ao40 x497001_1.length co40)) ∧ (Kd.R (Kd.int .i64) 3 w' w.heap.size (fun k_ => some k_ ≠ (.slice Ao39 x497000_1.length co39 : Value).ownBlock) s_.1 t503) ∧ (Kd.S (Kd.slice 3 (Kd.int .i64)) 23 w' w.heap.size (fun k_ => some k_ ≠ (s_.1 : Value).ownBlock ∧ some k_ ≠ (.slice Ao39 x497000_1.length co39 : Value).ownBlock ∧ some k_ ≠ (.slice Ao40 x497001_1.length co40 : Value).ownBlock) s_.2.1 t506) ∧ (Kd.R (Kd.int .i64) 3 w' w.heap.size (fun k_ => some k_ ≠ (s_.1 : Value).ownBlock) (.slice Ao39 x497000_1.length co39) x497000_1) ∧ (Kd.S (Kd.slice 3 (Kd.int .i64)) 23 w' w.heap.size (fun k_ => some k_ ≠ (s_.1 : Value).ownBlock ∧ some k_ ≠ (s_.2.1 : Value).ownBlock ∧ some k_ ≠ (.slice Ao39 x497000_1.length co39 : Value).ownBlock) (.slice Ao40 x497001_1.length co40) x497001_1) ∧ (w'.heap[gb484]? = some (.cells #[.slice none 0 0, .slice none 0 0] 52 (0, 0))) ∧ (w'.heap[gb496]? = some (.cells #[.slice Ao39 x497000_1.length co39, .slice Ao40 x497001_1.length co40] 52 (0, 0))) ∧ (w'.heap[s_.2.2]? = some (.cells #[.slice none 0 0, .slice none 0 0] 52 (0, 0))) ∧ (w.heap.size ≤ s_.2.2) ∧ (w0.heap.size ≤ s_.2.2) ∧ (g ≠ s_.2.2) ∧ (s_.2.2 ≠ g) ∧ (gb484 ≠ s_.2.2) ∧ (s_.2.2 ≠ gb484) ∧ (gb496 ≠ s_.2.2) ∧ (s_.2.2 ≠ gb496) ∧ (Z107 w0 w' g s0_0 t502) ∧ (KeepBut w w' g none) ∧ (Below w0.heap.size w0 w')) ?_ ?_
     rotate_left
     ·intro hCont
      refine two_ (i := 4) (j := 9) (Ni := some 27) (Nj := some 8) #[true, true, true, true, true, false, false, false, false, false, false, false] #[true, true, true, true, false, false, false, false, false, true, false, false] rfl rfl rfl rfl (two_of HT_.out (by kernel_rfl)) (by decide) (by decide) (fun K hK => ?_) (fun K hK => ?_)
      ·skip
       refine goes_ Try.func145 (by kernel_rfl) rfl #[.pointer (some ⟨g, 0, none⟩), .slice Ao39 x497000_1.length co39] (by rfl) rfl rfl (by (try simp only [List.map_toArray, List.map_cons, List.map_nil]); first | done | rfl | (simp only [List.length_drop, List.length_take]; rfl)) ?_
       with_reducible refine (spec_l20Deed.calls k1 g s0_0 x1001_1 _ _ x497000_1 t499 t500 t501 t502 w0 _ ?side1 ?side2 ?side3 ?side4 ?side5 A18.out).mono ?_
       (case side1 => repeat (first | (with_reducible first | exact HI0.out | apply Z107.alloc | apply Z107.drewN | apply Z107.drew | apply Z107.set_1 | refine Z107.far ?_ NB0_484.out _ | refine Z107.far ?_ NB0_496.out _) | exact HI0.out))
       (case side2 => repeat (first | (with_reducible first | exact HB.out | apply zB | apply zA | apply zC | refine zD ?_ (Z107.ge HI0.out) | refine zD ?_ GE484.out | refine zD ?_ GE496.out) | exact HB.out))
       (case side3 => repeat (first | exact (Kd.R_reads' HO_497000.out).2.2 | (with_reducible refine Kd.C_alloc ?_ _) | (with_reducible refine Kd.C_drewN ?_ _) | (with_reducible refine Kd.C_drew ?_)))
       (case side4 => exact (Kd.R_reads' HO_497000.out).2.1)
       (case side5 => exact far_slice (Z107.own_ne HI0.out HO_497000.out (by decide)))
       rintro e w42 ⟨rfl, hi, hb, hk⟩
       refine ⟨_, rfl, ?_⟩
       have n0_ := zM (Kd.R_mono (Kd.R_keep (Z107.apart (show Z107 w0 _ g s0_0 x1001_1 from by repeat (first | (with_reducible first | exact HI0.out | apply Z107.alloc | apply Z107.drewN | apply Z107.drew | apply Z107.set_1 | refine Z107.far ?_ NB0_484.out _ | refine Z107.far ?_ NB0_496.out _) | exact HI0.out)) (by exact HO_497000.out) (by decide)) hk (fun _ h => h.2)) (fun _ h => h.1))
       have n1_ := zM (Kd.S_mono (Kd.S_keep (Z107.apartS (show Z107 w0 _ g s0_0 x1001_1 from by repeat (first | (with_reducible first | exact HI0.out | apply Z107.alloc | apply Z107.drewN | apply Z107.drew | apply Z107.set_1 | refine Z107.far ?_ NB0_484.out _ | refine Z107.far ?_ NB0_496.out _) | exact HI0.out)) (by exact HO_497001.out) (by decide)) hk (fun _ h => h.2)) (fun _ h => h.1))
       have n2_ := zM (KeepBut.blk hk (g' := gb484) (o := .cells #[.slice none 0 0, .slice none 0 0] 52 (0, 0)) (by exact BK484.out) NB484_0.out (by simp))
       have n3_ := zM (KeepBut.blk hk (g' := gb496) (o := .cells #[.slice Ao39 x497000_1.length co39, .slice Ao40 x497001_1.length co40] 52 (0, 0)) (by exact BK496.out) NB496_0.out (by simp))
       have n4_ := zM (KeepBut.trans (by repeat (first | (with_reducible first | exact HK.out | apply zK | apply keep_drewN | apply keep_drew | apply keep_alloc | refine keep_far ?_ GW484.out _ | refine keep_far ?_ GW496.out _) | exact HK.out)) hk (.inl rfl))
       have n5_ := zM (hb)
       have n6_ := zM (hi)
       clear HO_497000
       clear HO_497001
       clear BK484
       clear BK496
       clear HK
       clear HB
       clear HI0
       have HO_497000 := n0_
       have HO_497001 := n1_
       have BK484 := n2_
       have BK496 := n3_
       have HK := n4_
       have HB := n5_
       have HI0 := n6_
       clear n0_ n1_ n2_ n3_ n4_ n5_ n6_
       (try clear hb)
       (try clear hb2)
       (try clear hk)
       (try clear hi)
       refine hK.out _ _ ⟨(blk_cell BK496.out 0).trans rfl, (blk_cell BK496.out 1).trans rfl⟩ (fun hHeld => ?_)
       clear hK K
       refine norm_ (a' := ?_) ?_ ?_
       rotate_left
       ·show Act.put _ (some 27) _ = _
        simp only [Act.put, zE, zF, zG, i64_w, i32_w]
        rfl
       refine two_ (i := 5) (j := 9) (Ni := some 28) (Nj := some 8) #[true, true, true, true, true, true, false, false, false, false, false, false] #[true, true, true, true, true, false, false, false, false, true, false, false] rfl rfl rfl rfl (two_of HT_.out (by kernel_rfl)) (by decide) (by decide) (fun K hK => ?_) (fun K hK => ?_)
       ·skip
        refine goes_ Try.func59 (by kernel_rfl) rfl #[.agg #[.slice Ao39 x497000_1.length co39, .slice Ao40 x497001_1.length co40], .agg #[.int .i64 t499, .int .i64 t500, .int .i64 t501]] (by rfl) rfl rfl (by (try simp only [List.map_toArray, List.map_cons, List.map_nil]); first | done | rfl | (simp only [List.length_drop, List.length_take]; rfl)) ?_
        with_reducible refine (spec_DeskDo_owned.calls k1 _ _ x497000_1 _ _ x497001_1 t499 t500 t501 t503 t506 false _ ?side1 ?side2 ?side3 ?side4 A19.out).mono ?_
        (case side1 => repeat (first | exact (Kd.R_reads' HO_497000.out).2.2 | (with_reducible refine Kd.C_alloc ?_ _) | (with_reducible refine Kd.C_drewN ?_ _) | (with_reducible refine Kd.C_drew ?_)))
        (case side2 => exact (Kd.R_reads' HO_497000.out).2.1)
        (case side3 => repeat (first | exact (Kd.S_reads' HO_497001.out).2.2 | (with_reducible refine Kd.C_alloc ?_ _) | (with_reducible refine Kd.C_drewN ?_ _) | (with_reducible refine Kd.C_drew ?_)))
        (case side4 => exact (Kd.S_reads' HO_497001.out).2.1)
        rintro e w43 ⟨v504, v507, rfl, ho0, ho1, hb⟩
        refine ⟨_, rfl, ?_⟩
        have n0_ := zM (Kd.R_elder' (by exact HO_497000.out) (Kd.R_base ho0) hb)
        have n1_ := zM (Kd.S_mono (Kd.S_told (Kd.S_told (Kd.S_old (by exact HO_497001.out) hb) (Kd.R_base ho0)) (Kd.S_base ho1)) (fun _ h_ => h_.1))
        have n2_ := zM (Kd.R_lower (Kd.R_new' ho0 (Kd.R_lt (by exact HO_497000.out))) (keep_size (w := w) (g := g) (row := none) (by repeat (first | (with_reducible first | exact HK.out | apply zK | apply keep_drewN | apply keep_drew | apply keep_alloc | refine keep_far ?_ GW484.out _ | refine keep_far ?_ GW496.out _) | exact HK.out))))
        have n3_ := zM (Kd.S_lower (Kd.S_new' (Kd.S_new' ho1 (Kd.R_lt (by exact HO_497000.out))) (Kd.S_lt (by exact HO_497001.out))) (keep_size (w := w) (g := g) (row := none) (by repeat (first | (with_reducible first | exact HK.out | apply zK | apply keep_drewN | apply keep_drew | apply keep_alloc | refine keep_far ?_ GW484.out _ | refine keep_far ?_ GW496.out _) | exact HK.out))))
        have n4_ := zM (blk_below (g := gb484) (o := .cells #[.slice none 0 0, .slice none 0 0] 52 (0, 0)) (by exact BK484.out) hb)
        have n5_ := zM (blk_below (g := gb496) (o := .cells #[.slice Ao39 x497000_1.length co39, .slice Ao40 x497001_1.length co40] 52 (0, 0)) (by exact BK496.out) hb)
        have n6_ := zM (Z107.below (by repeat (first | (with_reducible first | exact HI0.out | apply Z107.alloc | apply Z107.drewN | apply Z107.drew | apply Z107.set_1 | refine Z107.far ?_ NB0_484.out _ | refine Z107.far ?_ NB0_496.out _) | exact HI0.out)) hb)
        have n7_ := zM (KeepBut.trans (by repeat (first | (with_reducible first | exact HK.out | apply zK | apply keep_drewN | apply keep_drew | apply keep_alloc | refine keep_far ?_ GW484.out _ | refine keep_far ?_ GW496.out _) | exact HK.out)) (KeepBut.of_below hb g none) (.inl rfl))
        have n8_ := zM (below_step (by repeat (first | (with_reducible first | exact HB.out | apply zB | apply zA | apply zC | refine zD ?_ (Z107.ge HI0.out) | refine zD ?_ GE484.out | refine zD ?_ GE496.out) | exact HB.out)) hb)
        clear HO_497000
        clear HO_497001
        clear BK484
        clear BK496
        clear HI0
        clear HK
        clear HB
        have HO_497000 := n0_
        have HO_497001 := n1_
        have HO505 := n2_
        have HO508 := n3_
        have BK484 := n4_
        have BK496 := n5_
        have HI0 := n6_
        have HK := n7_
        have HB := n8_
        clear n0_ n1_ n2_ n3_ n4_ n5_ n6_ n7_ n8_
        (try clear hb)
        (try clear hb2)
        (try clear hk)
        (try clear hi)
        (try clear ho0)
        (try clear ho1)
        refine hK.out _ _ ⟨(blk_cell BK496.out 0).trans rfl, (blk_cell BK496.out 1).trans rfl⟩ (fun hHeld => ?_)
        clear hK K
        refine norm_ (a' := ?_) ?_ ?_
        rotate_left
        ·show Act.put _ (some 28) _ = _
         simp only [Act.put, zE, zF, zG, i64_w, i32_w]
         rfl
        refine pure_ (i := 6) (N := some 22) (v := ?_) (a' := ?_) #[true, true, true, true, true, true, true, false, false, false, false, false] rfl rfl (any_of HT_.out (by kernel_rfl)) (fun _ _ _ h => h) (Or.inl ⟨by rfl, ?_⟩) ?_ ?_
        rotate_left
        ·intro w'
         go_simp
         with_reducible rfl
        rotate_left
        ·simp only [Act.put, zE, zF, zG, i64_w, i32_w]
         rfl
        refine pure_ (i := 7) (N := some 29) (v := ?_) (a' := ?_) #[true, true, true, true, true, true, true, true, false, false, false, false] rfl rfl (any_of HT_.out (by kernel_rfl)) (fun _ _ _ h => h) (Or.inl ⟨by rfl, ?_⟩) ?_ ?_
        rotate_left
        ·intro w'
         go_simp
         with_reducible rfl
        rotate_left
        ·simp only [Act.put, zE, zF, zG, i64_w, i32_w]
         rfl
        refine pure_ (i := 8) (N := some 30) (v := ?_) (a' := ?_) #[true, true, true, true, true, true, true, true, true, false, false, false] rfl rfl (any_of HT_.out (by kernel_rfl)) (fun _ _ _ h => h) (Or.inl ⟨by rfl, ?_⟩) ?_ ?_
        rotate_left
        ·intro w'
         go_simp
         with_reducible rfl
        rotate_left
        ·simp only [Act.put, zE, zF, zG, i64_w, i32_w]
         rfl
        refine one_ (i := 9) (N := some 8) #[true, true, true, true, true, true, true, true, true, true, false, false] rfl rfl (one_of HT_.out (by kernel_rfl)) (by decide) (fun K hK => ?_)
        refine box_step ?hg (N := 8) ?hd (cs := #[.slice none 0 0, .slice none 0 0]) (t := 52) ?hr ?_; (case hd => rfl);(case hg => rfl);(case hr => first | (go_simp; done) | (go_simp; rfl))
        intro gb510 hg w44 hbox hb
        have n0_ := zM (Kd.R_below (by exact HO_497000.out) hb)
        have n1_ := zM (Kd.S_below (by exact HO_497001.out) hb)
        have n2_ := zM (Kd.R_below (by exact HO505.out) hb)
        have n3_ := zM (Kd.S_below (by exact HO508.out) hb)
        have n4_ := zM (blk_below (g := gb484) (o := .cells #[.slice none 0 0, .slice none 0 0] 52 (0, 0)) (by exact BK484.out) hb)
        have n5_ := zM (blk_below (g := gb496) (o := .cells #[.slice Ao39 x497000_1.length co39, .slice Ao40 x497001_1.length co40] 52 (0, 0)) (by exact BK496.out) hb)
        have n6_ := zM (Z107.below (by repeat (first | (with_reducible first | exact HI0.out | apply Z107.alloc | apply Z107.drewN | apply Z107.drew | apply Z107.set_1 | refine Z107.far ?_ NB0_484.out _ | refine Z107.far ?_ NB0_496.out _) | exact HI0.out)) hb)
        have n7_ := zM (KeepBut.trans (by repeat (first | (with_reducible first | exact HK.out | apply zK | apply keep_drewN | apply keep_drew | apply keep_alloc | refine keep_far ?_ GW484.out _ | refine keep_far ?_ GW496.out _) | exact HK.out)) (KeepBut.of_below hb g none) (.inl rfl))
        have n8_ := zM (below_step (by repeat (first | (with_reducible first | exact HB.out | apply zB | apply zA | apply zC | refine zD ?_ (Z107.ge HI0.out) | refine zD ?_ GE484.out | refine zD ?_ GE496.out) | exact HB.out)) hb)
        have n9_ := zM (hbox)
        have n10_ := zM ((by rw [hg]; exact (keep_size (w := w) (g := g) (row := none) (by repeat (first | (with_reducible first | exact HK.out | apply zK | apply keep_drewN | apply keep_drew | apply keep_alloc | refine keep_far ?_ GW484.out _ | refine keep_far ?_ GW496.out _) | exact HK.out))) : w.heap.size ≤ gb510))
        have n11_ := zM ((Nat.le_trans HW0.out (by rw [hg]; exact (keep_size (w := w) (g := g) (row := none) (by repeat (first | (with_reducible first | exact HK.out | apply zK | apply keep_drewN | apply keep_drew | apply keep_alloc | refine keep_far ?_ GW484.out _ | refine keep_far ?_ GW496.out _) | exact HK.out))) : w.heap.size ≤ gb510) : w0.heap.size ≤ gb510))
        have n12_ := zM ((by rw [hg]; exact Nat.ne_of_lt (blk_lt (g := gb484) (o := .cells #[.slice none 0 0, .slice none 0 0] 52 (0, 0)) (by exact BK484.out)) : gb484 ≠ gb510))
        have n13_ := zM ((by rw [hg]; exact Nat.ne_of_gt (blk_lt (g := gb484) (o := .cells #[.slice none 0 0, .slice none 0 0] 52 (0, 0)) (by exact BK484.out)) : gb510 ≠ gb484))
        have n14_ := zM ((by rw [hg]; exact Nat.ne_of_lt (blk_lt (g := gb496) (o := .cells #[.slice Ao39 x497000_1.length co39, .slice Ao40 x497001_1.length co40] 52 (0, 0)) (by exact BK496.out)) : gb496 ≠ gb510))
        have n15_ := zM ((by rw [hg]; exact Nat.ne_of_gt (blk_lt (g := gb496) (o := .cells #[.slice Ao39 x497000_1.length co39, .slice Ao40 x497001_1.length co40] 52 (0, 0)) (by exact BK496.out)) : gb510 ≠ gb496))
        have n16_ := zM ((by rw [hg]; exact Nat.ne_of_lt (Z107.lt (show Z107 w0 _ g s0_0 t502 from by repeat (first | (with_reducible first | exact HI0.out | apply Z107.alloc | apply Z107.drewN | apply Z107.drew | apply Z107.set_1 | refine Z107.far ?_ NB0_484.out _ | refine Z107.far ?_ NB0_496.out _) | exact HI0.out))) : g ≠ gb510))
        have n17_ := zM ((by rw [hg]; exact Nat.ne_of_gt (Z107.lt (show Z107 w0 _ g s0_0 t502 from by repeat (first | (with_reducible first | exact HI0.out | apply Z107.alloc | apply Z107.drewN | apply Z107.drew | apply Z107.set_1 | refine Z107.far ?_ NB0_484.out _ | refine Z107.far ?_ NB0_496.out _) | exact HI0.out))) : gb510 ≠ g))
        clear HO_497000
        clear HO_497001
        clear HO505
        clear HO508
        clear BK484
        clear BK496
        clear HI0
        clear HK
        clear HB
        have HO_497000 := n0_
        have HO_497001 := n1_
        have HO505 := n2_
        have HO508 := n3_
        have BK484 := n4_
        have BK496 := n5_
        have HI0 := n6_
        have HK := n7_
        have HB := n8_
        have BK510 := n9_
        have GW510 := n10_
        have GE510 := n11_
        have NB484_510 := n12_
        have NB510_484 := n13_
        have NB496_510 := n14_
        have NB510_496 := n15_
        have NB0_510 := n16_
        have NB510_0 := n17_
        clear n0_ n1_ n2_ n3_ n4_ n5_ n6_ n7_ n8_ n9_ n10_ n11_ n12_ n13_ n14_ n15_ n16_ n17_
        clear hb hbox hg
        refine hK.out _ _ ⟨(blk_cell BK496.out 0).trans rfl, (blk_cell BK496.out 1).trans rfl⟩ (fun hHeld => ?_)
        clear hK K
        refine norm_ (a' := ?_) ?_ ?_
        rotate_left
        ·show Act.put _ (some 8) _ = _
         simp only [Act.put, zE, zF, zG, i64_w, i32_w]
         rfl
        exact norm_ (by simp only [putAll, Act.put, zE, zF, zG]) (hCont (v504, v507, gb510) _ ⟨hHeld, (by exact Kd.R_mono HO505.out (fun _ h=>h.2)), (by exact Kd.S_mono HO508.out (fun _ hk => ⟨hk.1.1, ⟨hk.1.2, hk.2⟩⟩)), (by exact Kd.R_mono HO_497000.out (fun _ h=>h.2)), (by exact Kd.S_mono HO_497001.out (fun _ hk => ⟨hk.1.2, ⟨hk.2, hk.1.1⟩⟩)), (by exact BK484.out), (by exact BK496.out), (by exact BK510.out), GW510.out, GE510.out, NB0_510.out, NB510_0.out, NB484_510.out, NB510_484.out, NB496_510.out, NB510_496.out, (by repeat (first | (with_reducible first | exact HI0.out | apply Z107.alloc | apply Z107.drewN | apply Z107.drew | apply Z107.set_1 | refine Z107.far ?_ NB0_484.out _ | refine Z107.far ?_ NB0_496.out _ | refine Z107.far ?_ NB0_510.out _) | exact HI0.out)), (by repeat (first | (with_reducible first | exact HK.out | apply zK | apply keep_drewN | apply keep_drew | apply keep_alloc | refine keep_far ?_ GW484.out _ | refine keep_far ?_ GW496.out _ | refine keep_far ?_ GW510.out _) | exact HK.out)), (by repeat (first | (with_reducible first | exact HB.out | apply zB | apply zA | apply zC | refine zD ?_ (Z107.ge HI0.out) | refine zD ?_ GE484.out | refine zD ?_ GE496.out | refine zD ?_ GE510.out) | exact HB.out))⟩)
       ·skip
        refine box_step ?hg (N := 8) ?hd (cs := #[.slice none 0 0, .slice none 0 0]) (t := 52) ?hr ?_; (case hd => rfl);(case hg => rfl);(case hr => first | (go_simp; done) | (go_simp; rfl))
        intro gb510 hg w43 hbox hb
        have n0_ := zM (Kd.R_below (by exact HO_497000.out) hb)
        have n1_ := zM (Kd.S_below (by exact HO_497001.out) hb)
        have n2_ := zM (blk_below (g := gb484) (o := .cells #[.slice none 0 0, .slice none 0 0] 52 (0, 0)) (by exact BK484.out) hb)
        have n3_ := zM (blk_below (g := gb496) (o := .cells #[.slice Ao39 x497000_1.length co39, .slice Ao40 x497001_1.length co40] 52 (0, 0)) (by exact BK496.out) hb)
        have n4_ := zM (Z107.below (by repeat (first | (with_reducible first | exact HI0.out | apply Z107.alloc | apply Z107.drewN | apply Z107.drew | apply Z107.set_1 | refine Z107.far ?_ NB0_484.out _ | refine Z107.far ?_ NB0_496.out _) | exact HI0.out)) hb)
        have n5_ := zM (KeepBut.trans (by repeat (first | (with_reducible first | exact HK.out | apply zK | apply keep_drewN | apply keep_drew | apply keep_alloc | refine keep_far ?_ GW484.out _ | refine keep_far ?_ GW496.out _) | exact HK.out)) (KeepBut.of_below hb g none) (.inl rfl))
        have n6_ := zM (below_step (by repeat (first | (with_reducible first | exact HB.out | apply zB | apply zA | apply zC | refine zD ?_ (Z107.ge HI0.out) | refine zD ?_ GE484.out | refine zD ?_ GE496.out) | exact HB.out)) hb)
        have n7_ := zM (hbox)
        have n8_ := zM ((by rw [hg]; exact (keep_size (w := w) (g := g) (row := none) (by repeat (first | (with_reducible first | exact HK.out | apply zK | apply keep_drewN | apply keep_drew | apply keep_alloc | refine keep_far ?_ GW484.out _ | refine keep_far ?_ GW496.out _) | exact HK.out))) : w.heap.size ≤ gb510))
        have n9_ := zM ((Nat.le_trans HW0.out (by rw [hg]; exact (keep_size (w := w) (g := g) (row := none) (by repeat (first | (with_reducible first | exact HK.out | apply zK | apply keep_drewN | apply keep_drew | apply keep_alloc | refine keep_far ?_ GW484.out _ | refine keep_far ?_ GW496.out _) | exact HK.out))) : w.heap.size ≤ gb510) : w0.heap.size ≤ gb510))
        have n10_ := zM ((by rw [hg]; exact Nat.ne_of_lt (blk_lt (g := gb484) (o := .cells #[.slice none 0 0, .slice none 0 0] 52 (0, 0)) (by exact BK484.out)) : gb484 ≠ gb510))
        have n11_ := zM ((by rw [hg]; exact Nat.ne_of_gt (blk_lt (g := gb484) (o := .cells #[.slice none 0 0, .slice none 0 0] 52 (0, 0)) (by exact BK484.out)) : gb510 ≠ gb484))
        have n12_ := zM ((by rw [hg]; exact Nat.ne_of_lt (blk_lt (g := gb496) (o := .cells #[.slice Ao39 x497000_1.length co39, .slice Ao40 x497001_1.length co40] 52 (0, 0)) (by exact BK496.out)) : gb496 ≠ gb510))
        have n13_ := zM ((by rw [hg]; exact Nat.ne_of_gt (blk_lt (g := gb496) (o := .cells #[.slice Ao39 x497000_1.length co39, .slice Ao40 x497001_1.length co40] 52 (0, 0)) (by exact BK496.out)) : gb510 ≠ gb496))
        have n14_ := zM ((by rw [hg]; exact Nat.ne_of_lt (Z107.lt (show Z107 w0 _ g s0_0 t502 from by repeat (first | (with_reducible first | exact HI0.out | apply Z107.alloc | apply Z107.drewN | apply Z107.drew | apply Z107.set_1 | refine Z107.far ?_ NB0_484.out _ | refine Z107.far ?_ NB0_496.out _) | exact HI0.out))) : g ≠ gb510))
        have n15_ := zM ((by rw [hg]; exact Nat.ne_of_gt (Z107.lt (show Z107 w0 _ g s0_0 t502 from by repeat (first | (with_reducible first | exact HI0.out | apply Z107.alloc | apply Z107.drewN | apply Z107.drew | apply Z107.set_1 | refine Z107.far ?_ NB0_484.out _ | refine Z107.far ?_ NB0_496.out _) | exact HI0.out))) : gb510 ≠ g))
        clear HO_497000
        clear HO_497001
        clear BK484
        clear BK496
        clear HI0
        clear HK
        clear HB
        have HO_497000 := n0_
        have HO_497001 := n1_
        have BK484 := n2_
        have BK496 := n3_
        have HI0 := n4_
        have HK := n5_
        have HB := n6_
        have BK510 := n7_
        have GW510 := n8_
        have GE510 := n9_
        have NB484_510 := n10_
        have NB510_484 := n11_
        have NB496_510 := n12_
        have NB510_496 := n13_
        have NB0_510 := n14_
        have NB510_0 := n15_
        clear n0_ n1_ n2_ n3_ n4_ n5_ n6_ n7_ n8_ n9_ n10_ n11_ n12_ n13_ n14_ n15_
        clear hb hbox hg
        refine hK.out _ _ ⟨(blk_cell BK496.out 0).trans rfl, (blk_cell BK496.out 1).trans rfl⟩ (fun hHeld => ?_)
        clear hK K
        refine norm_ (a' := ?_) ?_ ?_
        rotate_left
        ·show Act.put _ (some 8) _ = _
         simp only [Act.put, zE, zF, zG, i64_w, i32_w]
         rfl
        refine one_ (i := 5) (N := some 28) #[true, true, true, true, true, true, false, false, false, true, false, false] rfl rfl (one_of HT_.out (by kernel_rfl)) (by decide) (fun K hK => ?_)
        refine goes_ Try.func59 (by kernel_rfl) rfl #[.agg #[.slice Ao39 x497000_1.length co39, .slice Ao40 x497001_1.length co40], .agg #[.int .i64 t499, .int .i64 t500, .int .i64 t501]] (by rfl) rfl rfl (by (try simp only [List.map_toArray, List.map_cons, List.map_nil]); first | done | rfl | (simp only [List.length_drop, List.length_take]; rfl)) ?_
        with_reducible refine (spec_DeskDo_owned.calls k1 _ _ x497000_1 _ _ x497001_1 t499 t500 t501 t503 t506 false _ ?side1 ?side2 ?side3 ?side4 A19.out).mono ?_
        (case side1 => repeat (first | exact (Kd.R_reads' HO_497000.out).2.2 | (with_reducible refine Kd.C_alloc ?_ _) | (with_reducible refine Kd.C_drewN ?_ _) | (with_reducible refine Kd.C_drew ?_)))
        (case side2 => exact (Kd.R_reads' HO_497000.out).2.1)
        (case side3 => repeat (first | exact (Kd.S_reads' HO_497001.out).2.2 | (with_reducible refine Kd.C_alloc ?_ _) | (with_reducible refine Kd.C_drewN ?_ _) | (with_reducible refine Kd.C_drew ?_)))
        (case side4 => exact (Kd.S_reads' HO_497001.out).2.1)
        rintro e w44 ⟨v504, v507, rfl, ho0, ho1, hb⟩
        refine ⟨_, rfl, ?_⟩
        have n0_ := zM (Kd.R_elder' (by exact HO_497000.out) (Kd.R_base ho0) hb)
        have n1_ := zM (Kd.S_mono (Kd.S_told (Kd.S_told (Kd.S_old (by exact HO_497001.out) hb) (Kd.R_base ho0)) (Kd.S_base ho1)) (fun _ h_ => h_.1))
        have n2_ := zM (Kd.R_lower (Kd.R_new' ho0 (Kd.R_lt (by exact HO_497000.out))) (keep_size (w := w) (g := g) (row := none) (by repeat (first | (with_reducible first | exact HK.out | apply zK | apply keep_drewN | apply keep_drew | apply keep_alloc | refine keep_far ?_ GW484.out _ | refine keep_far ?_ GW496.out _ | refine keep_far ?_ GW510.out _) | exact HK.out))))
        have n3_ := zM (Kd.S_lower (Kd.S_new' (Kd.S_new' ho1 (Kd.R_lt (by exact HO_497000.out))) (Kd.S_lt (by exact HO_497001.out))) (keep_size (w := w) (g := g) (row := none) (by repeat (first | (with_reducible first | exact HK.out | apply zK | apply keep_drewN | apply keep_drew | apply keep_alloc | refine keep_far ?_ GW484.out _ | refine keep_far ?_ GW496.out _ | refine keep_far ?_ GW510.out _) | exact HK.out))))
        have n4_ := zM (blk_below (g := gb484) (o := .cells #[.slice none 0 0, .slice none 0 0] 52 (0, 0)) (by exact BK484.out) hb)
        have n5_ := zM (blk_below (g := gb496) (o := .cells #[.slice Ao39 x497000_1.length co39, .slice Ao40 x497001_1.length co40] 52 (0, 0)) (by exact BK496.out) hb)
        have n6_ := zM (Z107.below (by repeat (first | (with_reducible first | exact HI0.out | apply Z107.alloc | apply Z107.drewN | apply Z107.drew | apply Z107.set_1 | refine Z107.far ?_ NB0_484.out _ | refine Z107.far ?_ NB0_496.out _ | refine Z107.far ?_ NB0_510.out _) | exact HI0.out)) hb)
        have n7_ := zM (blk_below (g := gb510) (o := .cells #[.slice none 0 0, .slice none 0 0] 52 (0, 0)) (by exact BK510.out) hb)
        have n8_ := zM (KeepBut.trans (by repeat (first | (with_reducible first | exact HK.out | apply zK | apply keep_drewN | apply keep_drew | apply keep_alloc | refine keep_far ?_ GW484.out _ | refine keep_far ?_ GW496.out _ | refine keep_far ?_ GW510.out _) | exact HK.out)) (KeepBut.of_below hb g none) (.inl rfl))
        have n9_ := zM (below_step (by repeat (first | (with_reducible first | exact HB.out | apply zB | apply zA | apply zC | refine zD ?_ (Z107.ge HI0.out) | refine zD ?_ GE484.out | refine zD ?_ GE496.out | refine zD ?_ GE510.out) | exact HB.out)) hb)
        clear HO_497000
        clear HO_497001
        clear BK484
        clear BK496
        clear HI0
        clear BK510
        clear HK
        clear HB
        have HO_497000 := n0_
        have HO_497001 := n1_
        have HO505 := n2_
        have HO508 := n3_
        have BK484 := n4_
        have BK496 := n5_
        have HI0 := n6_
        have BK510 := n7_
        have HK := n8_
        have HB := n9_
        clear n0_ n1_ n2_ n3_ n4_ n5_ n6_ n7_ n8_ n9_
        (try clear hb)
        (try clear hb2)
        (try clear hk)
        (try clear hi)
        (try clear ho0)
        (try clear ho1)
        refine hK.out _ _ ⟨(blk_cell BK496.out 0).trans rfl, (blk_cell BK496.out 1).trans rfl⟩ (fun hHeld => ?_)
        clear hK K
        refine norm_ (a' := ?_) ?_ ?_
        rotate_left
        ·show Act.put _ (some 28) _ = _
         simp only [Act.put, zE, zF, zG, i64_w, i32_w]
         rfl
        refine pure_ (i := 6) (N := some 22) (v := ?_) (a' := ?_) #[true, true, true, true, true, true, true, false, false, true, false, false] rfl rfl (any_of HT_.out (by kernel_rfl)) (fun _ _ _ h => h) (Or.inl ⟨by rfl, ?_⟩) ?_ ?_
        rotate_left
        ·intro w'
         go_simp
         with_reducible rfl
        rotate_left
        ·simp only [Act.put, zE, zF, zG, i64_w, i32_w]
         rfl
        refine pure_ (i := 7) (N := some 29) (v := ?_) (a' := ?_) #[true, true, true, true, true, true, true, true, false, true, false, false] rfl rfl (any_of HT_.out (by kernel_rfl)) (fun _ _ _ h => h) (Or.inl ⟨by rfl, ?_⟩) ?_ ?_
        rotate_left
        ·intro w'
         go_simp
         with_reducible rfl
        rotate_left
        ·simp only [Act.put, zE, zF, zG, i64_w, i32_w]
         rfl
        refine pure_ (i := 8) (N := some 30) (v := ?_) (a' := ?_) #[true, true, true, true, true, true, true, true, true, true, false, false] rfl rfl (any_of HT_.out (by kernel_rfl)) (fun _ _ _ h => h) (Or.inl ⟨by rfl, ?_⟩) ?_ ?_
        rotate_left
        ·intro w'
         go_simp
         with_reducible rfl
        rotate_left
        ·simp only [Act.put, zE, zF, zG, i64_w, i32_w]
         rfl
        exact norm_ (by simp only [putAll, Act.put, zE, zF, zG]) (hCont (v504, v507, gb510) _ ⟨hHeld, (by exact Kd.R_mono HO505.out (fun _ h=>h.2)), (by exact Kd.S_mono HO508.out (fun _ hk => ⟨hk.1.1, ⟨hk.1.2, hk.2⟩⟩)), (by exact Kd.R_mono HO_497000.out (fun _ h=>h.2)), (by exact Kd.S_mono HO_497001.out (fun _ hk => ⟨hk.1.2, ⟨hk.2, hk.1.1⟩⟩)), (by exact BK484.out), (by exact BK496.out), (by exact BK510.out), GW510.out, GE510.out, NB0_510.out, NB510_0.out, NB484_510.out, NB510_484.out, NB496_510.out, NB510_496.out, (by repeat (first | (with_reducible first | exact HI0.out | apply Z107.alloc | apply Z107.drewN | apply Z107.drew | apply Z107.set_1 | refine Z107.far ?_ NB0_484.out _ | refine Z107.far ?_ NB0_496.out _ | refine Z107.far ?_ NB0_510.out _) | exact HI0.out)), (by repeat (first | (with_reducible first | exact HK.out | apply zK | apply keep_drewN | apply keep_drew | apply keep_alloc | refine keep_far ?_ GW484.out _ | refine keep_far ?_ GW496.out _ | refine keep_far ?_ GW510.out _) | exact HK.out)), (by repeat (first | (with_reducible first | exact HB.out | apply zB | apply zA | apply zC | refine zD ?_ (Z107.ge HI0.out) | refine zD ?_ GE484.out | refine zD ?_ GE496.out | refine zD ?_ GE510.out) | exact HB.out))⟩)
      ·skip
       refine box_step ?hg (N := 8) ?hd (cs := #[.slice none 0 0, .slice none 0 0]) (t := 52) ?hr ?_; (case hd => rfl);(case hg => rfl);(case hr => first | (go_simp; done) | (go_simp; rfl))
       intro gb510 hg w42 hbox hb
       have n0_ := zM (Kd.R_below (by exact HO_497000.out) hb)
       have n1_ := zM (Kd.S_below (by exact HO_497001.out) hb)
       have n2_ := zM (blk_below (g := gb484) (o := .cells #[.slice none 0 0, .slice none 0 0] 52 (0, 0)) (by exact BK484.out) hb)
       have n3_ := zM (blk_below (g := gb496) (o := .cells #[.slice Ao39 x497000_1.length co39, .slice Ao40 x497001_1.length co40] 52 (0, 0)) (by exact BK496.out) hb)
       have n4_ := zM (Z107.below (by repeat (first | (with_reducible first | exact HI0.out | apply Z107.alloc | apply Z107.drewN | apply Z107.drew | apply Z107.set_1 | refine Z107.far ?_ NB0_484.out _ | refine Z107.far ?_ NB0_496.out _) | exact HI0.out)) hb)
       have n5_ := zM (KeepBut.trans (by repeat (first | (with_reducible first | exact HK.out | apply zK | apply keep_drewN | apply keep_drew | apply keep_alloc | refine keep_far ?_ GW484.out _ | refine keep_far ?_ GW496.out _) | exact HK.out)) (KeepBut.of_below hb g none) (.inl rfl))
       have n6_ := zM (below_step (by repeat (first | (with_reducible first | exact HB.out | apply zB | apply zA | apply zC | refine zD ?_ (Z107.ge HI0.out) | refine zD ?_ GE484.out | refine zD ?_ GE496.out) | exact HB.out)) hb)
       have n7_ := zM (hbox)
       have n8_ := zM ((by rw [hg]; exact (keep_size (w := w) (g := g) (row := none) (by repeat (first | (with_reducible first | exact HK.out | apply zK | apply keep_drewN | apply keep_drew | apply keep_alloc | refine keep_far ?_ GW484.out _ | refine keep_far ?_ GW496.out _) | exact HK.out))) : w.heap.size ≤ gb510))
       have n9_ := zM ((Nat.le_trans HW0.out (by rw [hg]; exact (keep_size (w := w) (g := g) (row := none) (by repeat (first | (with_reducible first | exact HK.out | apply zK | apply keep_drewN | apply keep_drew | apply keep_alloc | refine keep_far ?_ GW484.out _ | refine keep_far ?_ GW496.out _) | exact HK.out))) : w.heap.size ≤ gb510) : w0.heap.size ≤ gb510))
       have n10_ := zM ((by rw [hg]; exact Nat.ne_of_lt (blk_lt (g := gb484) (o := .cells #[.slice none 0 0, .slice none 0 0] 52 (0, 0)) (by exact BK484.out)) : gb484 ≠ gb510))
       have n11_ := zM ((by rw [hg]; exact Nat.ne_of_gt (blk_lt (g := gb484) (o := .cells #[.slice none 0 0, .slice none 0 0] 52 (0, 0)) (by exact BK484.out)) : gb510 ≠ gb484))
       have n12_ := zM ((by rw [hg]; exact Nat.ne_of_lt (blk_lt (g := gb496) (o := .cells #[.slice Ao39 x497000_1.length co39, .slice Ao40 x497001_1.length co40] 52 (0, 0)) (by exact BK496.out)) : gb496 ≠ gb510))
       have n13_ := zM ((by rw [hg]; exact Nat.ne_of_gt (blk_lt (g := gb496) (o := .cells #[.slice Ao39 x497000_1.length co39, .slice Ao40 x497001_1.length co40] 52 (0, 0)) (by exact BK496.out)) : gb510 ≠ gb496))
       have n14_ := zM ((by rw [hg]; exact Nat.ne_of_lt (Z107.lt (show Z107 w0 _ g s0_0 x1001_1 from by repeat (first | (with_reducible first | exact HI0.out | apply Z107.alloc | apply Z107.drewN | apply Z107.drew | apply Z107.set_1 | refine Z107.far ?_ NB0_484.out _ | refine Z107.far ?_ NB0_496.out _) | exact HI0.out))) : g ≠ gb510))
       have n15_ := zM ((by rw [hg]; exact Nat.ne_of_gt (Z107.lt (show Z107 w0 _ g s0_0 x1001_1 from by repeat (first | (with_reducible first | exact HI0.out | apply Z107.alloc | apply Z107.drewN | apply Z107.drew | apply Z107.set_1 | refine Z107.far ?_ NB0_484.out _ | refine Z107.far ?_ NB0_496.out _) | exact HI0.out))) : gb510 ≠ g))
       clear HO_497000
       clear HO_497001
       clear BK484
       clear BK496
       clear HI0
       clear HK
       clear HB
       have HO_497000 := n0_
       have HO_497001 := n1_
       have BK484 := n2_
       have BK496 := n3_
       have HI0 := n4_
       have HK := n5_
       have HB := n6_
       have BK510 := n7_
       have GW510 := n8_
       have GE510 := n9_
       have NB484_510 := n10_
       have NB510_484 := n11_
       have NB496_510 := n12_
       have NB510_496 := n13_
       have NB0_510 := n14_
       have NB510_0 := n15_
       clear n0_ n1_ n2_ n3_ n4_ n5_ n6_ n7_ n8_ n9_ n10_ n11_ n12_ n13_ n14_ n15_
       clear hb hbox hg
       refine hK.out _ _ ⟨(blk_cell BK496.out 0).trans rfl, (blk_cell BK496.out 1).trans rfl⟩ (fun hHeld => ?_)
       clear hK K
       refine norm_ (a' := ?_) ?_ ?_
       rotate_left
       ·show Act.put _ (some 8) _ = _
        simp only [Act.put, zE, zF, zG, i64_w, i32_w]
        rfl
       refine one_ (i := 4) (N := some 27) #[true, true, true, true, true, false, false, false, false, true, false, false] rfl rfl (one_of HT_.out (by kernel_rfl)) (by decide) (fun K hK => ?_)
       refine goes_ Try.func145 (by kernel_rfl) rfl #[.pointer (some ⟨g, 0, none⟩), .slice Ao39 x497000_1.length co39] (by rfl) rfl rfl (by (try simp only [List.map_toArray, List.map_cons, List.map_nil]); first | done | rfl | (simp only [List.length_drop, List.length_take]; rfl)) ?_
       with_reducible refine (spec_l20Deed.calls k1 g s0_0 x1001_1 _ _ x497000_1 t499 t500 t501 t502 w0 _ ?side1 ?side2 ?side3 ?side4 ?side5 A18.out).mono ?_
       (case side1 => repeat (first | (with_reducible first | exact HI0.out | apply Z107.alloc | apply Z107.drewN | apply Z107.drew | apply Z107.set_1 | refine Z107.far ?_ NB0_484.out _ | refine Z107.far ?_ NB0_496.out _ | refine Z107.far ?_ NB0_510.out _) | exact HI0.out))
       (case side2 => repeat (first | (with_reducible first | exact HB.out | apply zB | apply zA | apply zC | refine zD ?_ (Z107.ge HI0.out) | refine zD ?_ GE484.out | refine zD ?_ GE496.out | refine zD ?_ GE510.out) | exact HB.out))
       (case side3 => repeat (first | exact (Kd.R_reads' HO_497000.out).2.2 | (with_reducible refine Kd.C_alloc ?_ _) | (with_reducible refine Kd.C_drewN ?_ _) | (with_reducible refine Kd.C_drew ?_)))
       (case side4 => exact (Kd.R_reads' HO_497000.out).2.1)
       (case side5 => exact far_slice (Z107.own_ne HI0.out HO_497000.out (by decide)))
       rintro e w43 ⟨rfl, hi, hb, hk⟩
       refine ⟨_, rfl, ?_⟩
       have n0_ := zM (Kd.R_mono (Kd.R_keep (Z107.apart (show Z107 w0 _ g s0_0 x1001_1 from by repeat (first | (with_reducible first | exact HI0.out | apply Z107.alloc | apply Z107.drewN | apply Z107.drew | apply Z107.set_1 | refine Z107.far ?_ NB0_484.out _ | refine Z107.far ?_ NB0_496.out _ | refine Z107.far ?_ NB0_510.out _) | exact HI0.out)) (by exact HO_497000.out) (by decide)) hk (fun _ h => h.2)) (fun _ h => h.1))
       have n1_ := zM (Kd.S_mono (Kd.S_keep (Z107.apartS (show Z107 w0 _ g s0_0 x1001_1 from by repeat (first | (with_reducible first | exact HI0.out | apply Z107.alloc | apply Z107.drewN | apply Z107.drew | apply Z107.set_1 | refine Z107.far ?_ NB0_484.out _ | refine Z107.far ?_ NB0_496.out _ | refine Z107.far ?_ NB0_510.out _) | exact HI0.out)) (by exact HO_497001.out) (by decide)) hk (fun _ h => h.2)) (fun _ h => h.1))
       have n2_ := zM (KeepBut.blk hk (g' := gb484) (o := .cells #[.slice none 0 0, .slice none 0 0] 52 (0, 0)) (by exact BK484.out) NB484_0.out (by simp))
       have n3_ := zM (KeepBut.blk hk (g' := gb496) (o := .cells #[.slice Ao39 x497000_1.length co39, .slice Ao40 x497001_1.length co40] 52 (0, 0)) (by exact BK496.out) NB496_0.out (by simp))
       have n4_ := zM (KeepBut.blk hk (g' := gb510) (o := .cells #[.slice none 0 0, .slice none 0 0] 52 (0, 0)) (by exact BK510.out) NB510_0.out (by simp))
       have n5_ := zM (KeepBut.trans (by repeat (first | (with_reducible first | exact HK.out | apply zK | apply keep_drewN | apply keep_drew | apply keep_alloc | refine keep_far ?_ GW484.out _ | refine keep_far ?_ GW496.out _ | refine keep_far ?_ GW510.out _) | exact HK.out)) hk (.inl rfl))
       have n6_ := zM (hb)
       have n7_ := zM (hi)
       clear HO_497000
       clear HO_497001
       clear BK484
       clear BK496
       clear BK510
       clear HK
       clear HB
       clear HI0
       have HO_497000 := n0_
       have HO_497001 := n1_
       have BK484 := n2_
       have BK496 := n3_
       have BK510 := n4_
       have HK := n5_
       have HB := n6_
       have HI0 := n7_
       clear n0_ n1_ n2_ n3_ n4_ n5_ n6_ n7_
       (try clear hb)
       (try clear hb2)
       (try clear hk)
       (try clear hi)
       refine hK.out _ _ ⟨(blk_cell BK496.out 0).trans rfl, (blk_cell BK496.out 1).trans rfl⟩ (fun hHeld => ?_)
       clear hK K
       refine norm_ (a' := ?_) ?_ ?_
       rotate_left
       ·show Act.put _ (some 27) _ = _
        simp only [Act.put, zE, zF, zG, i64_w, i32_w]
        rfl
       refine one_ (i := 5) (N := some 28) #[true, true, true, true, true, true, false, false, false, true, false, false] rfl rfl (one_of HT_.out (by kernel_rfl)) (by decide) (fun K hK => ?_)
       refine goes_ Try.func59 (by kernel_rfl) rfl #[.agg #[.slice Ao39 x497000_1.length co39, .slice Ao40 x497001_1.length co40], .agg #[.int .i64 t499, .int .i64 t500, .int .i64 t501]] (by rfl) rfl rfl (by (try simp only [List.map_toArray, List.map_cons, List.map_nil]); first | done | rfl | (simp only [List.length_drop, List.length_take]; rfl)) ?_
       with_reducible refine (spec_DeskDo_owned.calls k1 _ _ x497000_1 _ _ x497001_1 t499 t500 t501 t503 t506 false _ ?side1 ?side2 ?side3 ?side4 A19.out).mono ?_
       (case side1 => repeat (first | exact (Kd.R_reads' HO_497000.out).2.2 | (with_reducible refine Kd.C_alloc ?_ _) | (with_reducible refine Kd.C_drewN ?_ _) | (with_reducible refine Kd.C_drew ?_)))
       (case side2 => exact (Kd.R_reads' HO_497000.out).2.1)
       (case side3 => repeat (first | exact (Kd.S_reads' HO_497001.out).2.2 | (with_reducible refine Kd.C_alloc ?_ _) | (with_reducible refine Kd.C_drewN ?_ _) | (with_reducible refine Kd.C_drew ?_)))
       (case side4 => exact (Kd.S_reads' HO_497001.out).2.1)
       rintro e w44 ⟨v504, v507, rfl, ho0, ho1, hb⟩
       refine ⟨_, rfl, ?_⟩
       have n0_ := zM (Kd.R_elder' (by exact HO_497000.out) (Kd.R_base ho0) hb)
       have n1_ := zM (Kd.S_mono (Kd.S_told (Kd.S_told (Kd.S_old (by exact HO_497001.out) hb) (Kd.R_base ho0)) (Kd.S_base ho1)) (fun _ h_ => h_.1))
       have n2_ := zM (Kd.R_lower (Kd.R_new' ho0 (Kd.R_lt (by exact HO_497000.out))) (keep_size (w := w) (g := g) (row := none) (by repeat (first | (with_reducible first | exact HK.out | apply zK | apply keep_drewN | apply keep_drew | apply keep_alloc | refine keep_far ?_ GW484.out _ | refine keep_far ?_ GW496.out _ | refine keep_far ?_ GW510.out _) | exact HK.out))))
       have n3_ := zM (Kd.S_lower (Kd.S_new' (Kd.S_new' ho1 (Kd.R_lt (by exact HO_497000.out))) (Kd.S_lt (by exact HO_497001.out))) (keep_size (w := w) (g := g) (row := none) (by repeat (first | (with_reducible first | exact HK.out | apply zK | apply keep_drewN | apply keep_drew | apply keep_alloc | refine keep_far ?_ GW484.out _ | refine keep_far ?_ GW496.out _ | refine keep_far ?_ GW510.out _) | exact HK.out))))
       have n4_ := zM (blk_below (g := gb484) (o := .cells #[.slice none 0 0, .slice none 0 0] 52 (0, 0)) (by exact BK484.out) hb)
       have n5_ := zM (blk_below (g := gb496) (o := .cells #[.slice Ao39 x497000_1.length co39, .slice Ao40 x497001_1.length co40] 52 (0, 0)) (by exact BK496.out) hb)
       have n6_ := zM (Z107.below (by repeat (first | (with_reducible first | exact HI0.out | apply Z107.alloc | apply Z107.drewN | apply Z107.drew | apply Z107.set_1 | refine Z107.far ?_ NB0_484.out _ | refine Z107.far ?_ NB0_496.out _ | refine Z107.far ?_ NB0_510.out _) | exact HI0.out)) hb)
       have n7_ := zM (blk_below (g := gb510) (o := .cells #[.slice none 0 0, .slice none 0 0] 52 (0, 0)) (by exact BK510.out) hb)
       have n8_ := zM (KeepBut.trans (by repeat (first | (with_reducible first | exact HK.out | apply zK | apply keep_drewN | apply keep_drew | apply keep_alloc | refine keep_far ?_ GW484.out _ | refine keep_far ?_ GW496.out _ | refine keep_far ?_ GW510.out _) | exact HK.out)) (KeepBut.of_below hb g none) (.inl rfl))
       have n9_ := zM (below_step (by repeat (first | (with_reducible first | exact HB.out | apply zB | apply zA | apply zC | refine zD ?_ (Z107.ge HI0.out) | refine zD ?_ GE484.out | refine zD ?_ GE496.out | refine zD ?_ GE510.out) | exact HB.out)) hb)
       clear HO_497000
       clear HO_497001
       clear BK484
       clear BK496
       clear HI0
       clear BK510
       clear HK
       clear HB
       have HO_497000 := n0_
       have HO_497001 := n1_
       have HO505 := n2_
       have HO508 := n3_
       have BK484 := n4_
       have BK496 := n5_
       have HI0 := n6_
       have BK510 := n7_
       have HK := n8_
       have HB := n9_
       clear n0_ n1_ n2_ n3_ n4_ n5_ n6_ n7_ n8_ n9_
       (try clear hb)
       (try clear hb2)
       (try clear hk)
       (try clear hi)
       (try clear ho0)
       (try clear ho1)
       refine hK.out _ _ ⟨(blk_cell BK496.out 0).trans rfl, (blk_cell BK496.out 1).trans rfl⟩ (fun hHeld => ?_)
       clear hK K
       refine norm_ (a' := ?_) ?_ ?_
       rotate_left
       ·show Act.put _ (some 28) _ = _
        simp only [Act.put, zE, zF, zG, i64_w, i32_w]
        rfl
       refine pure_ (i := 6) (N := some 22) (v := ?_) (a' := ?_) #[true, true, true, true, true, true, true, false, false, true, false, false] rfl rfl (any_of HT_.out (by kernel_rfl)) (fun _ _ _ h => h) (Or.inl ⟨by rfl, ?_⟩) ?_ ?_
       rotate_left
       ·intro w'
        go_simp
        with_reducible rfl
       rotate_left
       ·simp only [Act.put, zE, zF, zG, i64_w, i32_w]
        rfl
       refine pure_ (i := 7) (N := some 29) (v := ?_) (a' := ?_) #[true, true, true, true, true, true, true, true, false, true, false, false] rfl rfl (any_of HT_.out (by kernel_rfl)) (fun _ _ _ h => h) (Or.inl ⟨by rfl, ?_⟩) ?_ ?_
       rotate_left
       ·intro w'
        go_simp
        with_reducible rfl
       rotate_left
       ·simp only [Act.put, zE, zF, zG, i64_w, i32_w]
        rfl
       refine pure_ (i := 8) (N := some 30) (v := ?_) (a' := ?_) #[true, true, true, true, true, true, true, true, true, true, false, false] rfl rfl (any_of HT_.out (by kernel_rfl)) (fun _ _ _ h => h) (Or.inl ⟨by rfl, ?_⟩) ?_ ?_
       rotate_left
       ·intro w'
        go_simp
        with_reducible rfl
       rotate_left
       ·simp only [Act.put, zE, zF, zG, i64_w, i32_w]
        rfl
       exact norm_ (by simp only [putAll, Act.put, zE, zF, zG]) (hCont (v504, v507, gb510) _ ⟨hHeld, (by exact Kd.R_mono HO505.out (fun _ h=>h.2)), (by exact Kd.S_mono HO508.out (fun _ hk => ⟨hk.1.1, ⟨hk.1.2, hk.2⟩⟩)), (by exact Kd.R_mono HO_497000.out (fun _ h=>h.2)), (by exact Kd.S_mono HO_497001.out (fun _ hk => ⟨hk.1.2, ⟨hk.2, hk.1.1⟩⟩)), (by exact BK484.out), (by exact BK496.out), (by exact BK510.out), GW510.out, GE510.out, NB0_510.out, NB510_0.out, NB484_510.out, NB510_484.out, NB496_510.out, NB510_496.out, (by repeat (first | (with_reducible first | exact HI0.out | apply Z107.alloc | apply Z107.drewN | apply Z107.drew | apply Z107.set_1 | refine Z107.far ?_ NB0_484.out _ | refine Z107.far ?_ NB0_496.out _ | refine Z107.far ?_ NB0_510.out _) | exact HI0.out)), (by repeat (first | (with_reducible first | exact HK.out | apply zK | apply keep_drewN | apply keep_drew | apply keep_alloc | refine keep_far ?_ GW484.out _ | refine keep_far ?_ GW496.out _ | refine keep_far ?_ GW510.out _) | exact HK.out)), (by repeat (first | (with_reducible first | exact HB.out | apply zB | apply zA | apply zC | refine zD ?_ (Z107.ge HI0.out) | refine zD ?_ GE484.out | refine zD ?_ GE496.out | refine zD ?_ GE510.out) | exact HB.out))⟩)
     rintro ⟨v504, v507, gb510⟩ w45 ⟨hS_, h0_, h1_, h2_, h3_, h4_, h5_, h6_, h7_, h8_, h9_, h10_, h11_, h12_, h13_, h14_, h15_, h16_, h17_⟩
     have n0_ : Aside0 (Kd.R (Kd.int .i64) 3 w45 w.heap.size (fun k_ => some k_ ≠ (.slice Ao39 x497000_1.length co39 : Value).ownBlock) v504 t503) := ⟨h0_⟩
     have n1_ : Aside0 (Kd.S (Kd.slice 3 (Kd.int .i64)) 23 w45 w.heap.size (fun k_ => some k_ ≠ (v504 : Value).ownBlock ∧ some k_ ≠ (.slice Ao39 x497000_1.length co39 : Value).ownBlock ∧ some k_ ≠ (.slice Ao40 x497001_1.length co40 : Value).ownBlock) v507 t506) := ⟨h1_⟩
     have n2_ : Aside0 (Kd.R (Kd.int .i64) 3 w45 w.heap.size (fun k_ => some k_ ≠ (v504 : Value).ownBlock) (.slice Ao39 x497000_1.length co39) x497000_1) := ⟨h2_⟩
     have n3_ : Aside0 (Kd.S (Kd.slice 3 (Kd.int .i64)) 23 w45 w.heap.size (fun k_ => some k_ ≠ (v504 : Value).ownBlock ∧ some k_ ≠ (v507 : Value).ownBlock ∧ some k_ ≠ (.slice Ao39 x497000_1.length co39 : Value).ownBlock) (.slice Ao40 x497001_1.length co40) x497001_1) := ⟨h3_⟩
     have n4_ : Aside0 (w45.heap[gb484]? = some (.cells #[.slice none 0 0, .slice none 0 0] 52 (0, 0))) := ⟨h4_⟩
     have n5_ : Aside0 (w45.heap[gb496]? = some (.cells #[.slice Ao39 x497000_1.length co39, .slice Ao40 x497001_1.length co40] 52 (0, 0))) := ⟨h5_⟩
     have n6_ : Aside0 (w45.heap[gb510]? = some (.cells #[.slice none 0 0, .slice none 0 0] 52 (0, 0))) := ⟨h6_⟩
     have n7_ : Aside0 (w.heap.size ≤ gb510) := ⟨h7_⟩
     have n8_ : Aside0 (w0.heap.size ≤ gb510) := ⟨h8_⟩
     have n9_ : Aside0 (g ≠ gb510) := ⟨h9_⟩
     have n10_ : Aside0 (gb510 ≠ g) := ⟨h10_⟩
     have n11_ : Aside0 (gb484 ≠ gb510) := ⟨h11_⟩
     have n12_ : Aside0 (gb510 ≠ gb484) := ⟨h12_⟩
     have n13_ : Aside0 (gb496 ≠ gb510) := ⟨h13_⟩
     have n14_ : Aside0 (gb510 ≠ gb496) := ⟨h14_⟩
     have n15_ : Aside0 (Z107 w0 w45 g s0_0 t502) := ⟨h15_⟩
     have n16_ : Aside0 (KeepBut w w45 g none) := ⟨h16_⟩
     have n17_ : Aside0 (Below w0.heap.size w0 w45) := ⟨h17_⟩
     clear HO_497000
     clear HO_497001
     clear BK484
     clear BK496
     clear HI0
     clear HK
     clear HB
     clear h0_ h1_ h2_ h3_ h4_ h5_ h6_ h7_ h8_ h9_ h10_ h11_ h12_ h13_ h14_ h15_ h16_ h17_
     have HO505 := n0_
     have HO508 := n1_
     have HO_497000 := n2_
     have HO_497001 := n3_
     have BK484 := n4_
     have BK496 := n5_
     have BK510 := n6_
     have GW510 := n7_
     have GE510 := n8_
     have NB0_510 := n9_
     have NB510_0 := n10_
     have NB484_510 := n11_
     have NB510_484 := n12_
     have NB496_510 := n13_
     have NB510_496 := n14_
     have HI0 := n15_
     have HK := n16_
     have HB := n17_
     clear n0_ n1_ n2_ n3_ n4_ n5_ n6_ n7_ n8_ n9_ n10_ n11_ n12_ n13_ n14_ n15_ n16_ n17_
     have hHeld : w45.cell? ⟨gb496, 0, none⟩ = some (.slice Ao39 x497000_1.length co39) ∧ w45.cell? ⟨gb496, 1, none⟩ = some (.slice Ao40 x497001_1.length co40) := hS_
     obtain ⟨Ao46, co46, eo46⟩ := Kd.R_slice HO505.out
     (first | subst eo46 | (injection eo46 with f1_ f2_ f3_; have f4_ := f1_.symm; have f5_ := f3_.symm; clear f1_ f2_ f3_; subst f4_; subst f5_))
     obtain ⟨Ao48, co48, eo48⟩ := Kd.S_slice HO508.out
     (first | subst eo48 | (injection eo48 with f1_ f2_ f3_; have f4_ := f1_.symm; have f5_ := f3_.symm; clear f1_ f2_ f3_; subst f4_; subst f5_))
     refine norm_ (a' := ?_) ?_ ?_
     rotate_left
     ·simp only [putAll, Act.put, zE, zF, zG]
      rfl
     refine one_ (i := 10) (N := none) #[true, true, true, true, true, true, true, true, true, true, true, false] rfl rfl (one_of HT_.out (by kernel_rfl)) (by decide) (fun K hK => ?_)
     have hs47 : w45.cell? ⟨gb510, 0, none⟩ = some (.slice none 0 0) := (blk_cell BK510.out 0).trans rfl
     have hfs47 := blk_frozen BK510.out 0
     have hns47_0 := NB484_510.out
     have hns47_1 := NB496_510.out
     have hms47_0 := NB510_484.out
     have hms47_1 := NB510_496.out
     have hs49 : w45.cell? ⟨gb510, 1, none⟩ = some (.slice none 0 0) := (blk_cell BK510.out 1).trans rfl
     have hfs49 := blk_frozen BK510.out 1
     have hns49_0 := NB484_510.out
     have hns49_1 := NB496_510.out
     have hms49_0 := NB510_484.out
     have hms49_1 := NB510_496.out
     refine skip_ (w1 := ?_) (by rfl) rfl ?_ ?_
     rotate_left
     ·go_simp
      rfl
     refine hK.out _ _ ⟨((cell_far (p := ⟨gb510, _, none⟩) NB496_510.out _).trans (((cell_far (p := ⟨gb510, _, none⟩) NB496_510.out _).trans (hHeld.1)))), ((cell_far (p := ⟨gb510, _, none⟩) NB496_510.out _).trans (((cell_far (p := ⟨gb510, _, none⟩) NB496_510.out _).trans (hHeld.2))))⟩ (fun hHeld => ?_)
     clear hK K
     refine pure_ (i := 11) (N := some 9) (v := ?_) (a' := ?_) #[true, true, true, true, true, true, true, true, true, true, true, true] rfl rfl (any_of HT_.out (by kernel_rfl)) (fun _ _ _ h => h) (Or.inl ⟨by rfl, ?_⟩) ?_ ?_
     rotate_left
     ·intro w'
      go_simp
      with_reducible rfl
     rotate_left
     ·simp only [Act.put, zE, zF, zG, i64_w, i32_w]
      rfl
     refine done_ (done_of HT_.out (by kernel_rfl)) ?_
     try go_wp2
     go_roundg k1
     case measure => have := HK1.out; omega
     case rel => exact ⟨(wrap64 (x7_1 - 1)), (t502), (x497000_1), (x497001_1), (.slice Ao39 x497000_1.length co39), (.slice Ao40 x497001_1.length co40), (by first | rfl | (simp; done) | (simp [*]; done)), H', ⟨by have := HK1.out; omega⟩, ⟨by exact Kd.R_mono (Kd.R_far (p := ⟨gb510, 1, none⟩) (Kd.R_far (p := ⟨gb510, 0, none⟩) (Kd.R_types HO_497000.out BK510.out (by decide)) (fun _ h=>h.2) (.slice Ao46 t503.length co46)) (fun _ h=>h.2) (.slice Ao48 t506.length co48)) (fun _ hk => trivial)⟩, ⟨by exact Kd.S_mono (Kd.S_far (p := ⟨gb510, 1, none⟩) (Kd.S_far (p := ⟨gb510, 0, none⟩) (Kd.S_types HO_497001.out BK510.out (by decide)) (fun _ h=>h.2) (.slice Ao46 t503.length co46)) (fun _ h=>h.2) (.slice Ao48 t506.length co48)) (fun _ h=>h.1.2.2)⟩, ⟨by refine blk_far ?_ NB484_510.out _; refine blk_far ?_ NB484_510.out _; exact BK484.out⟩, ⟨by refine blk_far ?_ NB496_510.out _; refine blk_far ?_ NB496_510.out _; exact BK496.out⟩, ⟨by repeat (first | (with_reducible first | exact HI0.out | apply Z107.alloc | apply Z107.drewN | apply Z107.drew | apply Z107.set_1 | refine Z107.far ?_ NB0_484.out _ | refine Z107.far ?_ NB0_496.out _ | refine Z107.far ?_ NB0_510.out _) | exact HI0.out)⟩, ⟨by repeat (first | (with_reducible first | exact HK.out | apply zK | apply keep_drewN | apply keep_drew | apply keep_alloc | refine keep_far ?_ GW484.out _ | refine keep_far ?_ GW496.out _ | refine keep_far ?_ GW510.out _) | exact HK.out)⟩, ⟨by repeat (first | (with_reducible first | exact HB.out | apply zB | apply zA | apply zC | refine zD ?_ (Z107.ge HI0.out) | refine zD ?_ GE484.out | refine zD ?_ GE496.out | refine zD ?_ GE510.out) | exact HB.out)⟩⟩
   ·rw [if_neg c17] at H
    have c17b0 : decide (0 < x7_1) = false := decide_eq_false c17
    clear c17
    replace H := Option.bind_eq_some_iff.mp H
    obtain ⟨⟨t511, t512⟩, A500, H⟩ := H
    replace H : (if t511 = true then ((spec_l20Rd_pick.f k1 s0_0 t512 3).bind fun bt513 => (if bt513.1 = 0 then (some ((([1] : List Int)), x497001_1, bt513.2)) else (if bt513.1 = 1 then (if x497001_1.length < 5864062014805 then (some (x497000_1, (x497001_1 ++ [(([] : List Int))]), bt513.2)) else (none)) else (some (([] : List Int), ([] : List (List Int)), bt513.2))))) else (some (x497000_1, x497001_1, t512))) = some (r1, r2, r3) := H
    have A50 := zM A500
    clear A500
    by_cases c51 : t511 = true
    ·subst c51
     have H1 : ((spec_l20Rd_pick.f k1 s0_0 t512 3).bind fun bt513 => (if bt513.1 = 0 then (some ((([1] : List Int)), x497001_1, bt513.2)) else (if bt513.1 = 1 then (if x497001_1.length < 5864062014805 then (some (x497000_1, (x497001_1 ++ [(([] : List Int))]), bt513.2)) else (none)) else (some (([] : List Int), ([] : List (List Int)), bt513.2))))) = some (r1, r2, r3) := by rw [if_pos rfl] at H; exact H
     clear H
     have H := H1
     clear H1
     replace H := Option.bind_eq_some_iff.mp H
     obtain ⟨⟨t513, t514⟩, A520, H⟩ := H
     replace H : (if t513 = 0 then (some ((([1] : List Int)), x497001_1, t514)) else (if t513 = 1 then (if x497001_1.length < 5864062014805 then (some (x497000_1, (x497001_1 ++ [(([] : List Int))]), t514)) else (none)) else (some (([] : List Int), ([] : List (List Int)), t514)))) = some (r1, r2, r3) := H
     have A52 := zM A520
     clear A520
     by_cases c53 : t513 = 0
     ·rw [if_pos c53] at H
      have c53b0 : (t513 == 0) = true := beq_iff_eq.mpr c53
      have c53b1 : (t513 != 0) = false := bne_eq_false_iff_eq.mpr c53
      clear c53
      obtain ⟨y515, hy515⟩ : ∃ y_ : List Int, y_ = (([1] : List Int)) := ⟨_, rfl⟩
      replace H : (some (y515, x497001_1, t514)) = some (r1, r2, r3) := by first | (rw [hy515]; with_reducible exact H) | (have H2_ := (Option.bind_some _ _).symm.trans H; rw [hy515]; with_reducible exact H2_) | (have H2_ := (Option.bind_some _ _).symm.trans H; with_reducible exact H2_) | with_reducible exact H | (rw [hy515]; exact H) | exact H
      have Ny515 := zM hy515
      clear hy515
      simp only [Option.some.injEq, Prod.mk.injEq] at H
      obtain ⟨rfl, rfl, rfl⟩ := H
      go_wp2_with (first | ((with_reducible refine gate_callee (f := 100) rfl ?_); refine goesL_ (some 35) rfl rfl Try.func100 (by kernel_rfl) rfl #[.pointer (some ⟨g, 0, none⟩), .int .i64 a1] rfl (by (try simp only [List.map_toArray, List.map_cons, List.map_nil]); first | done | rfl | (simp only [List.length_drop, List.length_take]; rfl)) ?_; (with_reducible refine (spec_l20Rd_odd.calls k1 g s0_0 x1001_1 a1 true t512 w0 _ ?side1 ?side2 A50.out).mono ?_); (case side1 => repeat (first | (with_reducible first | exact HI0.out | apply Z107.alloc | apply Z107.drewN | apply Z107.drew | apply Z107.set_1 | refine Z107.far ?_ NB0_484.out _ | refine Z107.far ?_ NB0_496.out _) | exact HI0.out)); (case side2 => repeat (first | (with_reducible first | exact HB.out | apply zB | apply zA | apply zC | refine zD ?_ (Z107.ge HI0.out) | refine zD ?_ GE484.out | refine zD ?_ GE496.out) | exact HB.out)); rintro e w54 ⟨rfl, hi, hb, hk⟩; refine ⟨_, rfl, ?_⟩;have n0_:=zM (Kd.R_mono (Kd.R_keep (Z107.apart (show Z107 w0 _ g s0_0 x1001_1 from by repeat (first | (with_reducible first | exact HI0.out | apply Z107.alloc | apply Z107.drewN | apply Z107.drew | apply Z107.set_1 | refine Z107.far ?_ NB0_484.out _ | refine Z107.far ?_ NB0_496.out _) | exact HI0.out)) (by exact HO_497000.out) (by decide)) hk (fun _ h => h.2)) (fun _ h => h.1));have n1_:=zM (Kd.S_mono (Kd.S_keep (Z107.apartS (show Z107 w0 _ g s0_0 x1001_1 from by repeat (first | (with_reducible first | exact HI0.out | apply Z107.alloc | apply Z107.drewN | apply Z107.drew | apply Z107.set_1 | refine Z107.far ?_ NB0_484.out _ | refine Z107.far ?_ NB0_496.out _) | exact HI0.out)) (by exact HO_497001.out) (by decide)) hk (fun _ h => h.2)) (fun _ h => h.1));have n2_:=zM (KeepBut.blk hk (g' := gb484) (o := .cells #[.slice none 0 0, .slice none 0 0] 52 (0, 0)) (by exact BK484.out) NB484_0.out (by simp));have n3_:=zM (KeepBut.blk hk (g' := gb496) (o := .cells #[u497000, u497001] 52 (0, 0)) (by exact BK496.out) NB496_0.out (by simp));have n4_:=zM (KeepBut.trans (by repeat (first | (with_reducible first | exact HK.out | apply zK | apply keep_drewN | apply keep_drew | apply keep_alloc | refine keep_far ?_ GW484.out _ | refine keep_far ?_ GW496.out _) | exact HK.out)) hk (.inl rfl));have n5_:=zM (hb);have n6_:=zM (hi);clear HO_497000; clear HO_497001;clear BK484; clear BK496;clear HK; clear HB;clear HI0; have HO_497000 := n0_; have HO_497001 := n1_; have BK484 := n2_; have BK496 := n3_; have HK := n4_; have HB := n5_; have HI0 := n6_; clear n0_ n1_ n2_ n3_ n4_ n5_ n6_; (try clear hb); (try clear hb2); (try clear hk); (try clear hi)) | ((with_reducible refine gate_callee (f := 94) rfl ?_); refine goesL_ (some 37) rfl rfl Try.func94 (by kernel_rfl) rfl #[.pointer (some ⟨g, 0, none⟩), .int .i64 3] rfl (by (try simp only [List.map_toArray, List.map_cons, List.map_nil]); first | done | rfl | (simp only [List.length_drop, List.length_take]; rfl)) ?_; (with_reducible refine (spec_l20Rd_pick.calls k1 g s0_0 t512 3 t513 t514 w0 _ ?side1 ?side2 A52.out).mono ?_); (case side1 => repeat (first | (with_reducible first | exact HI0.out | apply Z107.alloc | apply Z107.drewN | apply Z107.drew | apply Z107.set_1 | refine Z107.far ?_ NB0_484.out _ | refine Z107.far ?_ NB0_496.out _) | exact HI0.out)); (case side2 => repeat (first | (with_reducible first | exact HB.out | apply zB | apply zA | apply zC | refine zD ?_ (Z107.ge HI0.out) | refine zD ?_ GE484.out | refine zD ?_ GE496.out) | exact HB.out)); rintro e w55 ⟨rfl, hi, hb, hk⟩; refine ⟨_, rfl, ?_⟩;have n0_:=zM (Kd.R_mono (Kd.R_keep (Z107.apart (show Z107 w0 _ g s0_0 t512 from by repeat (first | (with_reducible first | exact HI0.out | apply Z107.alloc | apply Z107.drewN | apply Z107.drew | apply Z107.set_1 | refine Z107.far ?_ NB0_484.out _ | refine Z107.far ?_ NB0_496.out _) | exact HI0.out)) (by exact HO_497000.out) (by decide)) hk (fun _ h => h.2)) (fun _ h => h.1));have n1_:=zM (Kd.S_mono (Kd.S_keep (Z107.apartS (show Z107 w0 _ g s0_0 t512 from by repeat (first | (with_reducible first | exact HI0.out | apply Z107.alloc | apply Z107.drewN | apply Z107.drew | apply Z107.set_1 | refine Z107.far ?_ NB0_484.out _ | refine Z107.far ?_ NB0_496.out _) | exact HI0.out)) (by exact HO_497001.out) (by decide)) hk (fun _ h => h.2)) (fun _ h => h.1));have n2_:=zM (KeepBut.blk hk (g' := gb484) (o := .cells #[.slice none 0 0, .slice none 0 0] 52 (0, 0)) (by exact BK484.out) NB484_0.out (by simp));have n3_:=zM (KeepBut.blk hk (g' := gb496) (o := .cells #[u497000, u497001] 52 (0, 0)) (by exact BK496.out) NB496_0.out (by simp));have n4_:=zM (KeepBut.trans (by repeat (first | (with_reducible first | exact HK.out | apply zK | apply keep_drewN | apply keep_drew | apply keep_alloc | refine keep_far ?_ GW484.out _ | refine keep_far ?_ GW496.out _) | exact HK.out)) hk (.inl rfl));have n5_:=zM (hb);have n6_:=zM (hi);clear HO_497000; clear HO_497001;clear BK484; clear BK496;clear HK; clear HB;clear HI0; have HO_497000 := n0_; have HO_497001 := n1_; have BK484 := n2_; have BK496 := n3_; have HK := n4_; have HB := n5_; have HI0 := n6_; clear n0_ n1_ n2_ n3_ n4_ n5_ n6_; (try clear hb); (try clear hb2); (try clear hk); (try clear hi)) | ((with_reducible refine gate_dst (N := 41) rfl ?_); refine Kd.R_lit (Kd.int .i64) _ 3 ?hg (N := 41) ?hd (xs := ([1] : List Int)) (inner := [.int .i64 1]) (ok := fun _ => True) (okp := fun _ => True) ?hr ?hp (fun _ hk => hk) trivial (Below.refl _ _) (Nat.le_refl _) (by simp) ?_; (case hd => rfl);(case hg => rfl);(case hr => first | (go_simp; done) | (go_simp; rfl)); (case hp => exact (Reps.one (show Kd.M (Kd.int .i64) _ _ _ 1 [.int .i64 1] from rfl) (Reps.none _ _))); intro v516 w56 ho57 hb hg_ hnew_; clear hg_ hnew_; (first | rw [← Ny515.out] at ho57 | (simp only [Int.reduceToNat] at ho57; rw [← Ny515.out] at ho57));have n0_:=zM (Kd.R_elder' (by exact HO_497000.out) (Kd.R_base ho57) hb);have n1_:=zM (Kd.S_elder' (by exact HO_497001.out) (Kd.R_base ho57) hb);have n2_:=zM (Kd.R_lower (Kd.R_new' ho57 (Kd.R_lt (by exact HO_497000.out))) (keep_size (w := w) (g := g) (row := none) (by repeat (first | (with_reducible first | exact HK.out | apply zK | apply keep_drewN | apply keep_drew | apply keep_alloc | refine keep_far ?_ GW484.out _ | refine keep_far ?_ GW496.out _) | exact HK.out))));have n3_:=zM (blk_below (g := gb484) (o := .cells #[.slice none 0 0, .slice none 0 0] 52 (0, 0)) (by exact BK484.out) hb);have n4_:=zM (blk_below (g := gb496) (o := .cells #[u497000, u497001] 52 (0, 0)) (by exact BK496.out) hb);have n5_:=zM (Z107.below (by repeat (first | (with_reducible first | exact HI0.out | apply Z107.alloc | apply Z107.drewN | apply Z107.drew | apply Z107.set_1 | refine Z107.far ?_ NB0_484.out _ | refine Z107.far ?_ NB0_496.out _) | exact HI0.out)) hb);have n6_:=zM (KeepBut.trans (by repeat (first | (with_reducible first | exact HK.out | apply zK | apply keep_drewN | apply keep_drew | apply keep_alloc | refine keep_far ?_ GW484.out _ | refine keep_far ?_ GW496.out _) | exact HK.out)) (KeepBut.of_below hb g none) (.inl rfl));have n7_:=zM (below_step (by repeat (first | (with_reducible first | exact HB.out | apply zB | apply zA | apply zC | refine zD ?_ (Z107.ge HI0.out) | refine zD ?_ GE484.out | refine zD ?_ GE496.out) | exact HB.out)) hb);clear HO_497000; clear HO_497001;clear BK484; clear BK496;clear HI0; clear HK;clear HB; have HO_497000 := n0_; have HO_497001 := n1_; have HO517 := n2_; have BK484 := n3_; have BK496 := n4_; have HI0 := n5_; have HK := n6_; have HB := n7_; clear n0_ n1_ n2_ n3_ n4_ n5_ n6_ n7_; clear hb ho57; obtain ⟨Ao58, co58, eo58⟩ := Kd.R_slice HO517.out; subst eo58; have hnb59 := NB496_484.out; have hnc59 := NB484_496.out; have hnb60 := NB496_0.out; have hnc60 := NB0_496.out; have hcz61_0 : w56.cell? ⟨gb496, 0, none⟩ = some (u497000) := (blk_cell BK496.out 0).trans rfl; have hcz61_1 : w56.cell? ⟨gb496, 1, none⟩ = some (u497001) := (blk_cell BK496.out 1).trans rfl; have hfz61_0 := blk_frozen BK496.out 0; have hfz61_1 := blk_frozen BK496.out 1; have hnb62 := NB484_0.out; have hnc62 := NB0_484.out; have hcz63_0 : w56.cell? ⟨gb484, 0, none⟩ = some (.slice none 0 0) := (blk_cell BK484.out 0).trans rfl; have hcz63_1 : w56.cell? ⟨gb484, 1, none⟩ = some (.slice none 0 0) := (blk_cell BK484.out 1).trans rfl; have hfz63_0 := blk_frozen BK484.out 0; have hfz63_1 := blk_frozen BK484.out 1; obtain ⟨Ao64, co64, eo64⟩ := Kd.S_slice HO_497001.out; subst eo64))
      refine bodyPost_ret (results_cell_row rfl _ _ gb484 52 #[.slice Ao58 y515.length co58, .slice Ao64 x497001_1.length co64] (0, 0) _ rfl (by refine blk_put (cs := #[.slice Ao58 y515.length co58, .slice none 0 0]) ?_ 1 _ rfl; refine blk_put (cs := #[.slice none 0 0, .slice none 0 0]) ?_ 0 _ rfl; refine blk_far ?_ NB484_496.out _; exact BK484.out) Try.underlying52 rfl (by kernel_rfl)) rfl ?_
      exact ⟨_, _, by first | rfl | (simp [errW_none, errW_some] <;> rfl) | (simp [*, errW_none, errW_some] <;> rfl), by exact Kd.R_mono (Kd.R_far (p := ⟨gb484, 1, none⟩) (Kd.R_far (p := ⟨gb484, 0, none⟩) (Kd.R_far (p := ⟨gb496, 0, none⟩) (Kd.R_types (Kd.R_types HO517.out BK496.out (by decide)) BK484.out (by decide)) (fun _ h=>h.1.2) (.slice Ao58 y515.length co58)) (fun _ h=>h.2) (.slice Ao58 y515.length co58)) (fun _ h=>h.2) (.slice Ao64 x497001_1.length co64)) (fun _ hk => trivial), by exact Kd.S_mono (Kd.S_far (p := ⟨gb484, 1, none⟩) (Kd.S_far (p := ⟨gb484, 0, none⟩) (Kd.S_far (p := ⟨gb496, 0, none⟩) (Kd.S_types (Kd.S_types HO_497001.out BK496.out (by decide)) BK484.out (by decide)) (fun _ h=>h.1.2) (.slice Ao58 y515.length co58)) (fun _ h=>h.2) (.slice Ao58 y515.length co58)) (fun _ h=>h.2) (.slice Ao64 x497001_1.length co64)) (fun _ h=>h.1.1.2), by repeat (first | (with_reducible first | exact HI0.out | apply Z107.alloc | apply Z107.drewN | apply Z107.drew | apply Z107.set_1 | refine Z107.far ?_ NB0_484.out _ | refine Z107.far ?_ NB0_496.out _) | exact HI0.out), by repeat (first | (with_reducible first | exact HB.out | apply zB | apply zA | apply zC | refine zD ?_ (Z107.ge HI0.out) | refine zD ?_ GE484.out | refine zD ?_ GE496.out) | exact HB.out), by repeat (first | (with_reducible first | exact HK.out | apply zK | apply keep_drewN | apply keep_drew | apply keep_alloc | refine keep_far ?_ GW484.out _ | refine keep_far ?_ GW496.out _) | exact HK.out)⟩
     ·rw [if_neg c53] at H
      have c53b0 : (t513 == 0) = false := beq_eq_false_iff_ne.mpr c53
      have c53b1 : (t513 != 0) = true := bne_iff_ne.mpr c53
      by_cases c65 : t513 = 1
      ·rw [if_pos c65] at H
       have c65b0 : (t513 == 1) = true := beq_iff_eq.mpr c65
       have c65b1 : (t513 != 1) = false := bne_eq_false_iff_eq.mpr c65
       clear c65
       obtain ⟨y518, hy518⟩ : ∃ y_ : List Int, y_ = (([] : List Int)) := ⟨_, rfl⟩
       replace H : (if x497001_1.length < 5864062014805 then (some (x497000_1, (x497001_1 ++ [y518]), t514)) else (none)) = some (r1, r2, r3) := by first | (rw [hy518]; with_reducible exact H) | (have H2_ := (Option.bind_some _ _).symm.trans H; rw [hy518]; with_reducible exact H2_) | (have H2_ := (Option.bind_some _ _).symm.trans H; with_reducible exact H2_) | with_reducible exact H | (rw [hy518]; exact H) | exact H
       have Ny518 := zM hy518
       clear hy518
       by_cases c66 : x497001_1.length < 5864062014805
       ·rw [if_pos c66] at H
        have LMc66 := zM c66
        clear c66
        obtain ⟨y521, hy521⟩ : ∃ y_ : List (List Int), y_ = (x497001_1 ++ [y518]) := ⟨_, rfl⟩
        replace H : (some (x497000_1, y521, t514)) = some (r1, r2, r3) := by first | (rw [hy521]; with_reducible exact H) | (have H2_ := (Option.bind_some _ _).symm.trans H; rw [hy521]; with_reducible exact H2_) | (have H2_ := (Option.bind_some _ _).symm.trans H; with_reducible exact H2_) | with_reducible exact H | (rw [hy521]; exact H) | exact H
        have Ny521 := zM hy521
        clear hy521
        simp only [Option.some.injEq, Prod.mk.injEq] at H
        obtain ⟨rfl, rfl, rfl⟩ := H
        go_wp2_with (first | ((with_reducible refine gate_callee (f := 100) rfl ?_); refine goesL_ (some 35) rfl rfl Try.func100 (by kernel_rfl) rfl #[.pointer (some ⟨g, 0, none⟩), .int .i64 a1] rfl (by (try simp only [List.map_toArray, List.map_cons, List.map_nil]); first | done | rfl | (simp only [List.length_drop, List.length_take]; rfl)) ?_; (with_reducible refine (spec_l20Rd_odd.calls k1 g s0_0 x1001_1 a1 true t512 w0 _ ?side1 ?side2 A50.out).mono ?_); (case side1 => repeat (first | (with_reducible first | exact HI0.out | apply Z107.alloc | apply Z107.drewN | apply Z107.drew | apply Z107.set_1 | refine Z107.far ?_ NB0_484.out _ | refine Z107.far ?_ NB0_496.out _) | exact HI0.out)); (case side2 => repeat (first | (with_reducible first | exact HB.out | apply zB | apply zA | apply zC | refine zD ?_ (Z107.ge HI0.out) | refine zD ?_ GE484.out | refine zD ?_ GE496.out) | exact HB.out)); rintro e w67 ⟨rfl, hi, hb, hk⟩; refine ⟨_, rfl, ?_⟩;have n0_:=zM (Kd.R_mono (Kd.R_keep (Z107.apart (show Z107 w0 _ g s0_0 x1001_1 from by repeat (first | (with_reducible first | exact HI0.out | apply Z107.alloc | apply Z107.drewN | apply Z107.drew | apply Z107.set_1 | refine Z107.far ?_ NB0_484.out _ | refine Z107.far ?_ NB0_496.out _) | exact HI0.out)) (by exact HO_497000.out) (by decide)) hk (fun _ h => h.2)) (fun _ h => h.1));have n1_:=zM (Kd.S_mono (Kd.S_keep (Z107.apartS (show Z107 w0 _ g s0_0 x1001_1 from by repeat (first | (with_reducible first | exact HI0.out | apply Z107.alloc | apply Z107.drewN | apply Z107.drew | apply Z107.set_1 | refine Z107.far ?_ NB0_484.out _ | refine Z107.far ?_ NB0_496.out _) | exact HI0.out)) (by exact HO_497001.out) (by decide)) hk (fun _ h => h.2)) (fun _ h => h.1));have n2_:=zM (KeepBut.blk hk (g' := gb484) (o := .cells #[.slice none 0 0, .slice none 0 0] 52 (0, 0)) (by exact BK484.out) NB484_0.out (by simp));have n3_:=zM (KeepBut.blk hk (g' := gb496) (o := .cells #[u497000, u497001] 52 (0, 0)) (by exact BK496.out) NB496_0.out (by simp));have n4_:=zM (KeepBut.trans (by repeat (first | (with_reducible first | exact HK.out | apply zK | apply keep_drewN | apply keep_drew | apply keep_alloc | refine keep_far ?_ GW484.out _ | refine keep_far ?_ GW496.out _) | exact HK.out)) hk (.inl rfl));have n5_:=zM (hb);have n6_:=zM (hi);clear HO_497000; clear HO_497001;clear BK484; clear BK496;clear HK; clear HB;clear HI0; have HO_497000 := n0_; have HO_497001 := n1_; have BK484 := n2_; have BK496 := n3_; have HK := n4_; have HB := n5_; have HI0 := n6_; clear n0_ n1_ n2_ n3_ n4_ n5_ n6_; (try clear hb); (try clear hb2); (try clear hk); (try clear hi)) | ((with_reducible refine gate_callee (f := 94) rfl ?_); refine goesL_ (some 37) rfl rfl Try.func94 (by kernel_rfl) rfl #[.pointer (some ⟨g, 0, none⟩), .int .i64 3] rfl (by (try simp only [List.map_toArray, List.map_cons, List.map_nil]); first | done | rfl | (simp only [List.length_drop, List.length_take]; rfl)) ?_; (with_reducible refine (spec_l20Rd_pick.calls k1 g s0_0 t512 3 t513 t514 w0 _ ?side1 ?side2 A52.out).mono ?_); (case side1 => repeat (first | (with_reducible first | exact HI0.out | apply Z107.alloc | apply Z107.drewN | apply Z107.drew | apply Z107.set_1 | refine Z107.far ?_ NB0_484.out _ | refine Z107.far ?_ NB0_496.out _) | exact HI0.out)); (case side2 => repeat (first | (with_reducible first | exact HB.out | apply zB | apply zA | apply zC | refine zD ?_ (Z107.ge HI0.out) | refine zD ?_ GE484.out | refine zD ?_ GE496.out) | exact HB.out)); rintro e w68 ⟨rfl, hi, hb, hk⟩; refine ⟨_, rfl, ?_⟩;have n0_:=zM (Kd.R_mono (Kd.R_keep (Z107.apart (show Z107 w0 _ g s0_0 t512 from by repeat (first | (with_reducible first | exact HI0.out | apply Z107.alloc | apply Z107.drewN | apply Z107.drew | apply Z107.set_1 | refine Z107.far ?_ NB0_484.out _ | refine Z107.far ?_ NB0_496.out _) | exact HI0.out)) (by exact HO_497000.out) (by decide)) hk (fun _ h => h.2)) (fun _ h => h.1));have n1_:=zM (Kd.S_mono (Kd.S_keep (Z107.apartS (show Z107 w0 _ g s0_0 t512 from by repeat (first | (with_reducible first | exact HI0.out | apply Z107.alloc | apply Z107.drewN | apply Z107.drew | apply Z107.set_1 | refine Z107.far ?_ NB0_484.out _ | refine Z107.far ?_ NB0_496.out _) | exact HI0.out)) (by exact HO_497001.out) (by decide)) hk (fun _ h => h.2)) (fun _ h => h.1));have n2_:=zM (KeepBut.blk hk (g' := gb484) (o := .cells #[.slice none 0 0, .slice none 0 0] 52 (0, 0)) (by exact BK484.out) NB484_0.out (by simp));have n3_:=zM (KeepBut.blk hk (g' := gb496) (o := .cells #[u497000, u497001] 52 (0, 0)) (by exact BK496.out) NB496_0.out (by simp));have n4_:=zM (KeepBut.trans (by repeat (first | (with_reducible first | exact HK.out | apply zK | apply keep_drewN | apply keep_drew | apply keep_alloc | refine keep_far ?_ GW484.out _ | refine keep_far ?_ GW496.out _) | exact HK.out)) hk (.inl rfl));have n5_:=zM (hb);have n6_:=zM (hi);clear HO_497000; clear HO_497001;clear BK484; clear BK496;clear HK; clear HB;clear HI0; have HO_497000 := n0_; have HO_497001 := n1_; have BK484 := n2_; have BK496 := n3_; have HK := n4_; have HB := n5_; have HI0 := n6_; clear n0_ n1_ n2_ n3_ n4_ n5_ n6_; (try clear hb); (try clear hb2); (try clear hk); (try clear hi); have hnb69 := NB496_484.out; have hnc69 := NB484_496.out; have hnb70 := NB496_0.out; have hnc70 := NB0_496.out; have hcz71_0 : w68.cell? ⟨gb496, 0, none⟩ = some (u497000) := (blk_cell BK496.out 0).trans rfl; have hcz71_1 : w68.cell? ⟨gb496, 1, none⟩ = some (u497001) := (blk_cell BK496.out 1).trans rfl; have hfz71_0 := blk_frozen BK496.out 0; have hfz71_1 := blk_frozen BK496.out 1) | ((with_reducible refine gate_dst (N := 47) rfl ?_); refine Kd.R_lit (Kd.int .i64) _ 3 ?hg (N := 47) ?hd (xs := ([] : List Int)) (inner := []) (ok := fun _ => True) (okp := fun _ => True) ?hr ?hp (fun _ hk => hk) trivial (Below.refl _ _) (Nat.le_refl _) (by simp) ?_; (case hd => rfl);(case hg => rfl);(case hr => first | (go_simp; done) | (go_simp; rfl)); (case hp => exact (Reps.none _ _)); intro v519 w72 ho73 hb hg_ hnew_; clear hg_ hnew_; (first | rw [← Ny518.out] at ho73 | (simp only [Int.reduceToNat] at ho73; rw [← Ny518.out] at ho73));have n0_:=zM (Kd.R_elder' (by exact HO_497000.out) (Kd.R_base ho73) hb);have n1_:=zM (Kd.S_elder' (by exact HO_497001.out) (Kd.R_base ho73) hb);have n2_:=zM (Kd.R_lower (Kd.R_new' ho73 (Kd.R_lt (by exact HO_497000.out))) (keep_size (w := w) (g := g) (row := none) (by repeat (first | (with_reducible first | exact HK.out | apply zK | apply keep_drewN | apply keep_drew | apply keep_alloc | refine keep_far ?_ GW484.out _ | refine keep_far ?_ GW496.out _) | exact HK.out))));have n3_:=zM (blk_below (g := gb484) (o := .cells #[.slice none 0 0, .slice none 0 0] 52 (0, 0)) (by exact BK484.out) hb);have n4_:=zM (blk_below (g := gb496) (o := .cells #[u497000, u497001] 52 (0, 0)) (by exact BK496.out) hb);have n5_:=zM (Z107.below (by repeat (first | (with_reducible first | exact HI0.out | apply Z107.alloc | apply Z107.drewN | apply Z107.drew | apply Z107.set_1 | refine Z107.far ?_ NB0_484.out _ | refine Z107.far ?_ NB0_496.out _) | exact HI0.out)) hb);have n6_:=zM (KeepBut.trans (by repeat (first | (with_reducible first | exact HK.out | apply zK | apply keep_drewN | apply keep_drew | apply keep_alloc | refine keep_far ?_ GW484.out _ | refine keep_far ?_ GW496.out _) | exact HK.out)) (KeepBut.of_below hb g none) (.inl rfl));have n7_:=zM (below_step (by repeat (first | (with_reducible first | exact HB.out | apply zB | apply zA | apply zC | refine zD ?_ (Z107.ge HI0.out) | refine zD ?_ GE484.out | refine zD ?_ GE496.out) | exact HB.out)) hb);clear HO_497000; clear HO_497001;clear BK484; clear BK496;clear HI0; clear HK;clear HB; have HO_497000 := n0_; have HO_497001 := n1_; have HO520 := n2_; have BK484 := n3_; have BK496 := n4_; have HI0 := n5_; have HK := n6_; have HB := n7_; clear n0_ n1_ n2_ n3_ n4_ n5_ n6_ n7_; clear hb ho73; obtain ⟨Ao75, co75, eo75⟩ := Kd.R_slice HO520.out; subst eo75) | ((with_reducible refine gate_builtin (b := .append) (xs := #[.tmp 46, .tmp 48]) rfl ?_); at_builtin; refine Kd.S_append (Kd.slice 3 (Kd.int .i64)) w.heap.size rfl (.tmp 46) (.tmp 48) 37 23 (.slice none 0 0) 24 rfl Try.underlying37 info23 rfl (by decide) (by omega) u497001 x497001_1 y518 [.slice Ao75 y518.length co75] (fun k_ => some k_ ≠ (u497000 : Value).ownBlock) (fun k_ => some k_ = (.slice Ao75 y518.length co75 : Value).ownBlock) rfl rfl ?aP (fun k_ hk_ => ((Kd.R_mono (ok' := fun k_ => ((fun k_ => some k_ ≠ (u497000 : Value).ownBlock)) k_ ∧ some k_ ≠ (u497001 : Value).ownBlock) (Kd.R_apart' (HO520.out) (Kd.S_typed HO_497001.out) (by decide)) (fun k_ hk => ⟨hk.1.2, hk.2⟩))).1 k_ hk_.symm) ?aF ?aO (Below.refl _ _) ?aS ?aL ?_; (case aP => exact Kd.M_row (Kd.R_mono (Kd.R_tight rfl (Kd.R_mono (ok' := fun k_ => ((fun k_ => some k_ ≠ (u497000 : Value).ownBlock)) k_ ∧ some k_ ≠ (u497001 : Value).ownBlock) (Kd.R_apart' (HO520.out) (Kd.S_typed HO_497001.out) (by decide)) (fun k_ hk => ⟨hk.1.2, hk.2⟩))) (fun _ h_ => h_))); (case aF => exact (fun k_ hk => Kd.fresh' (Kd.R_lt (by exact HO_497000.out)) k_ hk)); (case aO => exact (by exact Kd.S_mono HO_497001.out (fun k_ hk => ⟨hk.1, fun e_ => hk.2 e_⟩))); (case aS => exact (keep_size (w := w) (g := g) (row := none) (by repeat (first | (with_reducible first | exact HK.out | apply zK | apply keep_drewN | apply keep_drew | apply keep_alloc | refine keep_far ?_ GW484.out _ | refine keep_far ?_ GW496.out _) | exact HK.out)))); (case aL => have := LMc66.out; omega); intro v522 w74 ho hb hg hat; rw [← Ny521.out] at ho;have n0_:=zM (Kd.R_over' (by exact HO_497000.out) (Kd.S_typed (by exact HO_497001.out)) (by decide) hg);have n1_:=zM (blk_grown (g := gb484) (o := .cells #[.slice none 0 0, .slice none 0 0] 52 (0, 0)) (by exact BK484.out) hg (Kd.S_ne HO_497001.out BK484.out (by decide)));have n2_:=zM (blk_grown (g := gb496) (o := .cells #[u497000, u497001] 52 (0, 0)) (by exact BK496.out) hg (Kd.S_ne HO_497001.out BK496.out (by decide)));have n3_:=zM (Z107.grown (by repeat (first | (with_reducible first | exact HI0.out | apply Z107.alloc | apply Z107.drewN | apply Z107.drew | apply Z107.set_1 | refine Z107.far ?_ NB0_484.out _ | refine Z107.far ?_ NB0_496.out _) | exact HI0.out)) hg (Z107.own_neS HI0.out HO_497001.out (by decide)));have n4_:=zM (below_weaken (by repeat (first | (with_reducible first | exact HB.out | apply zB | apply zA | apply zC | refine zD ?_ (Z107.ge HI0.out) | refine zD ?_ GE484.out | refine zD ?_ GE496.out) | exact HB.out)) HL.out hb);have n5_:=zM (KeepBut.trans (by repeat (first | (with_reducible first | exact HK.out | apply zK | apply keep_drewN | apply keep_drew | apply keep_alloc | refine keep_far ?_ GW484.out _ | refine keep_far ?_ GW496.out _) | exact HK.out)) (KeepBut.of_grown hg g) (Kd.S_base2 HO_497001.out));have n6_:=zM (ho);clear HO_497000; clear BK484;clear BK496; clear HI0;clear HB; clear HK;clear HO_497001; clear HO520; have HO_497000 := n0_; have BK484 := n1_; have BK496 := n2_; have HI0 := n3_; have HB := n4_; have HK := n5_; have HO523 := n6_; clear n0_ n1_ n2_ n3_ n4_ n5_ n6_; clear ho hb hg hat; obtain ⟨Ao76, co76, eo76⟩ := Kd.S_slice HO523.out; subst eo76; have hcz77_0 : w74.cell? ⟨gb496, 0, none⟩ = some (u497000) := (blk_cell BK496.out 0).trans rfl; have hcz77_1 : w74.cell? ⟨gb496, 1, none⟩ = some (u497001) := (blk_cell BK496.out 1).trans rfl; have hfz77_0 := blk_frozen BK496.out 0; have hfz77_1 := blk_frozen BK496.out 1; obtain ⟨Ao78, co78, eo78⟩ := Kd.R_slice HO_497000.out; subst eo78; have hnb79 := NB484_0.out; have hnc79 := NB0_484.out; have hcz80_0 : w74.cell? ⟨gb484, 0, none⟩ = some (.slice none 0 0) := (blk_cell BK484.out 0).trans rfl; have hcz80_1 : w74.cell? ⟨gb484, 1, none⟩ = some (.slice none 0 0) := (blk_cell BK484.out 1).trans rfl; have hfz80_0 := blk_frozen BK484.out 0; have hfz80_1 := blk_frozen BK484.out 1))
        refine bodyPost_ret (results_cell_row rfl _ _ gb484 52 #[.slice Ao78 x497000_1.length co78, .slice Ao76 y521.length co76] (0, 0) _ rfl (by refine blk_put (cs := #[.slice Ao78 x497000_1.length co78, .slice none 0 0]) ?_ 1 _ rfl; refine blk_put (cs := #[.slice none 0 0, .slice none 0 0]) ?_ 0 _ rfl; refine blk_far ?_ NB484_496.out _; exact BK484.out) Try.underlying52 rfl (by kernel_rfl)) rfl ?_
        exact ⟨_, _, by first | rfl | (simp [errW_none, errW_some] <;> rfl) | (simp [*, errW_none, errW_some] <;> rfl), by exact Kd.R_mono (Kd.R_far (p := ⟨gb484, 1, none⟩) (Kd.R_far (p := ⟨gb484, 0, none⟩) (Kd.R_far (p := ⟨gb496, 1, none⟩) (Kd.R_types (Kd.R_types HO_497000.out BK496.out (by decide)) BK484.out (by decide)) (fun _ h=>h.1.2) (.slice Ao76 y521.length co76)) (fun _ h=>h.2) (.slice Ao78 x497000_1.length co78)) (fun _ h=>h.2) (.slice Ao76 y521.length co76)) (fun _ hk => trivial), by exact Kd.S_mono (Kd.S_far (p := ⟨gb484, 1, none⟩) (Kd.S_far (p := ⟨gb484, 0, none⟩) (Kd.S_far (p := ⟨gb496, 1, none⟩) (Kd.S_types (Kd.S_types HO523.out BK496.out (by decide)) BK484.out (by decide)) (fun _ h=>h.1.2) (.slice Ao76 y521.length co76)) (fun _ h=>h.2) (.slice Ao78 x497000_1.length co78)) (fun _ h=>h.2) (.slice Ao76 y521.length co76)) (fun _ h=>h.1.1), by repeat (first | (with_reducible first | exact HI0.out | apply Z107.alloc | apply Z107.drewN | apply Z107.drew | apply Z107.set_1 | refine Z107.far ?_ NB0_484.out _ | refine Z107.far ?_ NB0_496.out _) | exact HI0.out), by repeat (first | (with_reducible first | exact HB.out | apply zB | apply zA | apply zC | refine zD ?_ (Z107.ge HI0.out) | refine zD ?_ GE484.out | refine zD ?_ GE496.out) | exact HB.out), by repeat (first | (with_reducible first | exact HK.out | apply zK | apply keep_drewN | apply keep_drew | apply keep_alloc | refine keep_far ?_ GW484.out _ | refine keep_far ?_ GW496.out _) | exact HK.out)⟩
       ·rw [if_neg c66] at H
        exact absurd H (by simp)
      ·rw [if_neg c65] at H
       have c65b0 : (t513 == 1) = false := beq_eq_false_iff_ne.mpr c65
       have c65b1 : (t513 != 1) = true := bne_iff_ne.mpr c65
       simp only [Option.some.injEq, Prod.mk.injEq] at H
       obtain ⟨rfl, rfl, rfl⟩ := H
       go_wp2_with (first | ((with_reducible refine gate_callee (f := 100) rfl ?_); refine goesL_ (some 35) rfl rfl Try.func100 (by kernel_rfl) rfl #[.pointer (some ⟨g, 0, none⟩), .int .i64 a1] rfl (by (try simp only [List.map_toArray, List.map_cons, List.map_nil]); first | done | rfl | (simp only [List.length_drop, List.length_take]; rfl)) ?_; (with_reducible refine (spec_l20Rd_odd.calls k1 g s0_0 x1001_1 a1 true t512 w0 _ ?side1 ?side2 A50.out).mono ?_); (case side1 => repeat (first | (with_reducible first | exact HI0.out | apply Z107.alloc | apply Z107.drewN | apply Z107.drew | apply Z107.set_1 | refine Z107.far ?_ NB0_484.out _ | refine Z107.far ?_ NB0_496.out _) | exact HI0.out)); (case side2 => repeat (first | (with_reducible first | exact HB.out | apply zB | apply zA | apply zC | refine zD ?_ (Z107.ge HI0.out) | refine zD ?_ GE484.out | refine zD ?_ GE496.out) | exact HB.out)); rintro e w81 ⟨rfl, hi, hb, hk⟩; refine ⟨_, rfl, ?_⟩;have n0_:=zM (Kd.R_mono (Kd.R_keep (Z107.apart (show Z107 w0 _ g s0_0 x1001_1 from by repeat (first | (with_reducible first | exact HI0.out | apply Z107.alloc | apply Z107.drewN | apply Z107.drew | apply Z107.set_1 | refine Z107.far ?_ NB0_484.out _ | refine Z107.far ?_ NB0_496.out _) | exact HI0.out)) (by exact HO_497000.out) (by decide)) hk (fun _ h => h.2)) (fun _ h => h.1));have n1_:=zM (Kd.S_mono (Kd.S_keep (Z107.apartS (show Z107 w0 _ g s0_0 x1001_1 from by repeat (first | (with_reducible first | exact HI0.out | apply Z107.alloc | apply Z107.drewN | apply Z107.drew | apply Z107.set_1 | refine Z107.far ?_ NB0_484.out _ | refine Z107.far ?_ NB0_496.out _) | exact HI0.out)) (by exact HO_497001.out) (by decide)) hk (fun _ h => h.2)) (fun _ h => h.1));have n2_:=zM (KeepBut.blk hk (g' := gb484) (o := .cells #[.slice none 0 0, .slice none 0 0] 52 (0, 0)) (by exact BK484.out) NB484_0.out (by simp));have n3_:=zM (KeepBut.blk hk (g' := gb496) (o := .cells #[u497000, u497001] 52 (0, 0)) (by exact BK496.out) NB496_0.out (by simp));have n4_:=zM (KeepBut.trans (by repeat (first | (with_reducible first | exact HK.out | apply zK | apply keep_drewN | apply keep_drew | apply keep_alloc | refine keep_far ?_ GW484.out _ | refine keep_far ?_ GW496.out _) | exact HK.out)) hk (.inl rfl));have n5_:=zM (hb);have n6_:=zM (hi);clear HO_497000; clear HO_497001;clear BK484; clear BK496;clear HK; clear HB;clear HI0; have HO_497000 := n0_; have HO_497001 := n1_; have BK484 := n2_; have BK496 := n3_; have HK := n4_; have HB := n5_; have HI0 := n6_; clear n0_ n1_ n2_ n3_ n4_ n5_ n6_; (try clear hb); (try clear hb2); (try clear hk); (try clear hi)) | ((with_reducible refine gate_callee (f := 94) rfl ?_); refine goesL_ (some 37) rfl rfl Try.func94 (by kernel_rfl) rfl #[.pointer (some ⟨g, 0, none⟩), .int .i64 3] rfl (by (try simp only [List.map_toArray, List.map_cons, List.map_nil]); first | done | rfl | (simp only [List.length_drop, List.length_take]; rfl)) ?_; (with_reducible refine (spec_l20Rd_pick.calls k1 g s0_0 t512 3 t513 t514 w0 _ ?side1 ?side2 A52.out).mono ?_); (case side1 => repeat (first | (with_reducible first | exact HI0.out | apply Z107.alloc | apply Z107.drewN | apply Z107.drew | apply Z107.set_1 | refine Z107.far ?_ NB0_484.out _ | refine Z107.far ?_ NB0_496.out _) | exact HI0.out)); (case side2 => repeat (first | (with_reducible first | exact HB.out | apply zB | apply zA | apply zC | refine zD ?_ (Z107.ge HI0.out) | refine zD ?_ GE484.out | refine zD ?_ GE496.out) | exact HB.out)); rintro e w82 ⟨rfl, hi, hb, hk⟩; refine ⟨_, rfl, ?_⟩;have n0_:=zM (Kd.R_mono (Kd.R_keep (Z107.apart (show Z107 w0 _ g s0_0 t512 from by repeat (first | (with_reducible first | exact HI0.out | apply Z107.alloc | apply Z107.drewN | apply Z107.drew | apply Z107.set_1 | refine Z107.far ?_ NB0_484.out _ | refine Z107.far ?_ NB0_496.out _) | exact HI0.out)) (by exact HO_497000.out) (by decide)) hk (fun _ h => h.2)) (fun _ h => h.1));have n1_:=zM (Kd.S_mono (Kd.S_keep (Z107.apartS (show Z107 w0 _ g s0_0 t512 from by repeat (first | (with_reducible first | exact HI0.out | apply Z107.alloc | apply Z107.drewN | apply Z107.drew | apply Z107.set_1 | refine Z107.far ?_ NB0_484.out _ | refine Z107.far ?_ NB0_496.out _) | exact HI0.out)) (by exact HO_497001.out) (by decide)) hk (fun _ h => h.2)) (fun _ h => h.1));have n2_:=zM (KeepBut.blk hk (g' := gb484) (o := .cells #[.slice none 0 0, .slice none 0 0] 52 (0, 0)) (by exact BK484.out) NB484_0.out (by simp));have n3_:=zM (KeepBut.blk hk (g' := gb496) (o := .cells #[u497000, u497001] 52 (0, 0)) (by exact BK496.out) NB496_0.out (by simp));have n4_:=zM (KeepBut.trans (by repeat (first | (with_reducible first | exact HK.out | apply zK | apply keep_drewN | apply keep_drew | apply keep_alloc | refine keep_far ?_ GW484.out _ | refine keep_far ?_ GW496.out _) | exact HK.out)) hk (.inl rfl));have n5_:=zM (hb);have n6_:=zM (hi);clear HO_497000; clear HO_497001;clear BK484; clear BK496;clear HK; clear HB;clear HI0; have HO_497000 := n0_; have HO_497001 := n1_; have BK484 := n2_; have BK496 := n3_; have HK := n4_; have HB := n5_; have HI0 := n6_; clear n0_ n1_ n2_ n3_ n4_ n5_ n6_; (try clear hb); (try clear hb2); (try clear hk); (try clear hi); have hnb83 := NB484_496.out; have hnc83 := NB496_484.out; have hnb84 := NB484_0.out; have hnc84 := NB0_484.out; have hcz85_0 : w82.cell? ⟨gb484, 0, none⟩ = some (.slice none 0 0) := (blk_cell BK484.out 0).trans rfl; have hcz85_1 : w82.cell? ⟨gb484, 1, none⟩ = some (.slice none 0 0) := (blk_cell BK484.out 1).trans rfl; have hfz85_0 := blk_frozen BK484.out 0; have hfz85_1 := blk_frozen BK484.out 1))
       refine bodyPost_ret (results_cell_row rfl _ _ gb484 52 #[.slice none 0 0, .slice none 0 0] (0, 0) _ rfl (by refine blk_put (cs := #[.slice none 0 0, .slice none 0 0]) ?_ 1 _ rfl; refine blk_put (cs := #[.slice none 0 0, .slice none 0 0]) ?_ 0 _ rfl; exact BK484.out) Try.underlying52 rfl (by kernel_rfl)) rfl ?_
       exact ⟨_, _, by first | rfl | (simp [errW_none, errW_some] <;> rfl) | (simp [*, errW_none, errW_some] <;> rfl), by first | exact Kd.R_nil _ _ _ _ _ | exact Kd.N_nil _ _ _ _ _ | exact Kd.V_nil _ _ _ _ _ | exact Kd.Q_nil _ _ _ _ _ | exact Kd.S_nil _ _ _ _ _, by first | exact Kd.S_nil _ _ _ _ _ | exact Kd.N_nil _ _ _ _ _ | exact Kd.V_nil _ _ _ _ _ | exact Kd.Q_nil _ _ _ _ _ | exact Kd.R_nil _ _ _ _ _, by repeat (first | (with_reducible first | exact HI0.out | apply Z107.alloc | apply Z107.drewN | apply Z107.drew | apply Z107.set_1 | refine Z107.far ?_ NB0_484.out _ | refine Z107.far ?_ NB0_496.out _) | exact HI0.out), by repeat (first | (with_reducible first | exact HB.out | apply zB | apply zA | apply zC | refine zD ?_ (Z107.ge HI0.out) | refine zD ?_ GE484.out | refine zD ?_ GE496.out) | exact HB.out), by repeat (first | (with_reducible first | exact HK.out | apply zK | apply keep_drewN | apply keep_drew | apply keep_alloc | refine keep_far ?_ GW484.out _ | refine keep_far ?_ GW496.out _) | exact HK.out)⟩
    ·replace c51 := Bool.eq_false_iff.mpr c51
     subst c51
     have H1 : (some (x497000_1, x497001_1, t512)) = some (r1, r2, r3) := by rw [if_neg (show ¬ (false = true) by decide)] at H; exact H
     clear H
     have H := H1
     clear H1
     simp only [Option.some.injEq, Prod.mk.injEq] at H
     obtain ⟨rfl, rfl, rfl⟩ := H
     go_wp2_with (first | ((with_reducible refine gate_callee (f := 100) rfl ?_); refine goesL_ (some 35) rfl rfl Try.func100 (by kernel_rfl) rfl #[.pointer (some ⟨g, 0, none⟩), .int .i64 a1] rfl (by (try simp only [List.map_toArray, List.map_cons, List.map_nil]); first | done | rfl | (simp only [List.length_drop, List.length_take]; rfl)) ?_; (with_reducible refine (spec_l20Rd_odd.calls k1 g s0_0 x1001_1 a1 false t512 w0 _ ?side1 ?side2 A50.out).mono ?_); (case side1 => repeat (first | (with_reducible first | exact HI0.out | apply Z107.alloc | apply Z107.drewN | apply Z107.drew | apply Z107.set_1 | refine Z107.far ?_ NB0_484.out _ | refine Z107.far ?_ NB0_496.out _) | exact HI0.out)); (case side2 => repeat (first | (with_reducible first | exact HB.out | apply zB | apply zA | apply zC | refine zD ?_ (Z107.ge HI0.out) | refine zD ?_ GE484.out | refine zD ?_ GE496.out) | exact HB.out)); rintro e w86 ⟨rfl, hi, hb, hk⟩; refine ⟨_, rfl, ?_⟩;have n0_:=zM (Kd.R_mono (Kd.R_keep (Z107.apart (show Z107 w0 _ g s0_0 x1001_1 from by repeat (first | (with_reducible first | exact HI0.out | apply Z107.alloc | apply Z107.drewN | apply Z107.drew | apply Z107.set_1 | refine Z107.far ?_ NB0_484.out _ | refine Z107.far ?_ NB0_496.out _) | exact HI0.out)) (by exact HO_497000.out) (by decide)) hk (fun _ h => h.2)) (fun _ h => h.1));have n1_:=zM (Kd.S_mono (Kd.S_keep (Z107.apartS (show Z107 w0 _ g s0_0 x1001_1 from by repeat (first | (with_reducible first | exact HI0.out | apply Z107.alloc | apply Z107.drewN | apply Z107.drew | apply Z107.set_1 | refine Z107.far ?_ NB0_484.out _ | refine Z107.far ?_ NB0_496.out _) | exact HI0.out)) (by exact HO_497001.out) (by decide)) hk (fun _ h => h.2)) (fun _ h => h.1));have n2_:=zM (KeepBut.blk hk (g' := gb484) (o := .cells #[.slice none 0 0, .slice none 0 0] 52 (0, 0)) (by exact BK484.out) NB484_0.out (by simp));have n3_:=zM (KeepBut.blk hk (g' := gb496) (o := .cells #[u497000, u497001] 52 (0, 0)) (by exact BK496.out) NB496_0.out (by simp));have n4_:=zM (KeepBut.trans (by repeat (first | (with_reducible first | exact HK.out | apply zK | apply keep_drewN | apply keep_drew | apply keep_alloc | refine keep_far ?_ GW484.out _ | refine keep_far ?_ GW496.out _) | exact HK.out)) hk (.inl rfl));have n5_:=zM (hb);have n6_:=zM (hi);clear HO_497000; clear HO_497001;clear BK484; clear BK496;clear HK; clear HB;clear HI0; have HO_497000 := n0_; have HO_497001 := n1_; have BK484 := n2_; have BK496 := n3_; have HK := n4_; have HB := n5_; have HI0 := n6_; clear n0_ n1_ n2_ n3_ n4_ n5_ n6_; (try clear hb); (try clear hb2); (try clear hk); (try clear hi); have hnb87 := NB496_484.out; have hnc87 := NB484_496.out; have hnb88 := NB496_0.out; have hnc88 := NB0_496.out; have hcz89_0 : w86.cell? ⟨gb496, 0, none⟩ = some (u497000) := (blk_cell BK496.out 0).trans rfl; have hcz89_1 : w86.cell? ⟨gb496, 1, none⟩ = some (u497001) := (blk_cell BK496.out 1).trans rfl; have hfz89_0 := blk_frozen BK496.out 0; have hfz89_1 := blk_frozen BK496.out 1; obtain ⟨Ao90, co90, eo90⟩ := Kd.R_slice HO_497000.out; subst eo90; have hnb91 := NB484_0.out; have hnc91 := NB0_484.out; have hcz92_0 : w86.cell? ⟨gb484, 0, none⟩ = some (.slice none 0 0) := (blk_cell BK484.out 0).trans rfl; have hcz92_1 : w86.cell? ⟨gb484, 1, none⟩ = some (.slice none 0 0) := (blk_cell BK484.out 1).trans rfl; have hfz92_0 := blk_frozen BK484.out 0; have hfz92_1 := blk_frozen BK484.out 1; obtain ⟨Ao93, co93, eo93⟩ := Kd.S_slice HO_497001.out; subst eo93))
     refine bodyPost_ret (results_cell_row rfl _ _ gb484 52 #[.slice Ao90 x497000_1.length co90, .slice Ao93 x497001_1.length co93] (0, 0) _ rfl (by refine blk_put (cs := #[.slice Ao90 x497000_1.length co90, .slice none 0 0]) ?_ 1 _ rfl; refine blk_put (cs := #[.slice none 0 0, .slice none 0 0]) ?_ 0 _ rfl; exact BK484.out) Try.underlying52 rfl (by kernel_rfl)) rfl ?_
     exact ⟨_, _, by first | rfl | (simp [errW_none, errW_some] <;> rfl) | (simp [*, errW_none, errW_some] <;> rfl), by exact Kd.R_mono (Kd.R_far (p := ⟨gb484, 1, none⟩) (Kd.R_far (p := ⟨gb484, 0, none⟩) (Kd.R_types HO_497000.out BK484.out (by decide)) (fun _ h=>h.2) (.slice Ao90 x497000_1.length co90)) (fun _ h=>h.2) (.slice Ao93 x497001_1.length co93)) (fun _ hk => trivial), by exact Kd.S_mono (Kd.S_far (p := ⟨gb484, 1, none⟩) (Kd.S_far (p := ⟨gb484, 0, none⟩) (Kd.S_types HO_497001.out BK484.out (by decide)) (fun _ h=>h.2) (.slice Ao90 x497000_1.length co90)) (fun _ h=>h.2) (.slice Ao93 x497001_1.length co93)) (fun _ h=>h.1), by repeat (first | (with_reducible first | exact HI0.out | apply Z107.alloc | apply Z107.drewN | apply Z107.drew | apply Z107.set_1 | refine Z107.far ?_ NB0_484.out _ | refine Z107.far ?_ NB0_496.out _) | exact HI0.out), by repeat (first | (with_reducible first | exact HB.out | apply zB | apply zA | apply zC | refine zD ?_ (Z107.ge HI0.out) | refine zD ?_ GE484.out | refine zD ?_ GE496.out) | exact HB.out), by repeat (first | (with_reducible first | exact HK.out | apply zK | apply keep_drewN | apply keep_drew | apply keep_alloc | refine keep_far ?_ GW484.out _ | refine keep_far ?_ GW496.out _) | exact HK.out)⟩

end Go.Proofs.Ytidimndhnagfeaa.LI
