/- Printed out of the translation (wip/lp); no conditions beyond those that each theorem names. -/
import Derived.Test.YtidimndhnagfeaaLIx0
import Derived.Test.YtidimndhnagfeaaLIx1
import Derived.Test.YtidimndhnagfeaaLIx3
import Derived.Test.YtidimndhnagfeaaLIx9
import Derived.Test.YtidimndhnagfeaaLIx10
namespace Go.Proofs.Ytidimndhnagfeaa.LI
open Go.RowKit Go.Proofs.YtidimndhnagfeaaV.PrintWords Go.Proofs.YtidimndhnagfeaaV.PrintLast Go.Proofs.YtidimndhnagfeaaV.PrintMore
attribute [local go_sem] max2_int min2_int max_two min_two max_three min_three max_four min_four   -- for this text's walks alone
set_option linter.unusedVariables false
set_option linter.unusedSimpArgs false

attribute [local go_sem high] eqA65
/-! ### spec_DeskDo_owned: function 193 -/
mutual
def spec_DeskDo_owned.j0 : Nat → Bool → List Int → List (List Int) → Int → Int → Int → List Int → List (List Int) → Option (List Int × (List (List Int)) × Bool)
 | 0, _, _, _, _, _, _, _, _ => none
 | k + 1, x25, x452000, x452001, x453000, x453001, x453002, x462000, x462001 => if x25 = true then (if 0 ≤ (wrap64 ((x462001.length : Int) - 1)) then (if (wrap64 ((x462001.length : Int) - 1)) < (x462001.length : Int) then (some (rd_L1 x462001 (wrap64 ((x462001.length : Int) - 1)), x462001.take ((wrap64 ((x462001.length : Int) - 1))).toNat, true)) else (none)) else (none)) else ((spec_l12Made.f k x452000 x453000 x453001 x453002).bind fun t463 => (spec_DeskDo_owned.l0 k t463 ((t463.length : Int) == (x452000.length : Int)) 0 x452000 x452001 x462000 x462001))
def spec_DeskDo_owned.j2 : Nat → List Int → Bool → List Int → List (List Int) → Option (List Int × (List (List Int)) × Bool)
 | 0, _, _, _, _ => none
 | k + 1, x8, x9, x462000, x462001 => if x9 = true then (spec_DeskDo_owned.j3 k x8 true x462000 x462001) else ((spec_TreeOk.f k x8).bind fun t468 => (spec_DeskDo_owned.j3 k x8 (!t468) x462000 x462001))
def spec_DeskDo_owned.j3 : Nat → List Int → Bool → List Int → List (List Int) → Option (List Int × (List (List Int)) × Bool)
 | 0, _, _, _, _ => none
 | k + 1, x8, x76, x462000, x462001 => if x76 = true then (some (x462000, x462001, false)) else (if x462001.length < 5864062014805 then ((some (x462001 ++ [x462000] : List (List Int))).bind fun y469 => (if (y469.length : Int) > 8 then (none) else ((some (([] : List Int) : List Int)).bind fun y478 => (if y478.length + x8.length < 17592186044416 then (some ((y478 ++ x8), y469, true)) else (none))))) else (none))
def spec_DeskDo_owned.l0 : Nat → List Int → Bool → Int → List Int → List (List Int) → List Int → List (List Int) → Option (List Int × (List (List Int)) × Bool)
 | 0, _, _, _, _, _, _, _ => none
 | k + 1, x8, x9, x10, x452000, x452001, x462000, x462001 => if x10 < (x8.length : Int) then (if x9 = true then (if 0 ≤ x10 then (if x10 < (x452000.length : Int) then (spec_DeskDo_owned.l0 k x8 ((rd x8 x10) == (rd x452000 x10)) (wrap64 (x10 + 1)) x452000 x452001 x462000 x462001) else (none)) else (none)) else (spec_DeskDo_owned.j2 k x8 x9 x462000 x462001)) else (spec_DeskDo_owned.j2 k x8 x9 x462000 x462001)
end
def spec_DeskDo_owned.f (k : Nat) (l0_0 : List Int) (l0_1 : List (List Int)) (a1_0 : Int) (a1_1 : Int) (a1_2 : Int) : Option (List Int × (List (List Int)) × Bool) := (spec_DeskOk.f k l0_0 l0_1).bind fun t454 => (if t454 = true then ((spec_l12Copy.f k l0_0 l0_1).bind fun bt455 => (if (a1_0 == 5 && (a1_1 == 0 && (a1_2 == 0))) = true then (spec_DeskDo_owned.j0 k (decide ((l0_1.length : Int) > 0)) l0_0 l0_1 a1_0 a1_1 a1_2 bt455.1 bt455.2) else (spec_DeskDo_owned.j0 k false l0_0 l0_1 a1_0 a1_1 a1_2 bt455.1 bt455.2))) else (some (([] : List Int), ([] : List (List Int)), false)))
theorem spec_DeskDo_owned.mono_l : ∀ k, (∀ y0 y1 y2 y3 y4 y5 y6 y7, LeO (spec_DeskDo_owned.j0 k y0 y1 y2 y3 y4 y5 y6 y7) (spec_DeskDo_owned.j0 (k + 1) y0 y1 y2 y3 y4 y5 y6 y7)) ∧ (∀ y0 y1 y2 y3, LeO (spec_DeskDo_owned.j2 k y0 y1 y2 y3) (spec_DeskDo_owned.j2 (k + 1) y0 y1 y2 y3)) ∧ (∀ y0 y1 y2 y3, LeO (spec_DeskDo_owned.j3 k y0 y1 y2 y3) (spec_DeskDo_owned.j3 (k + 1) y0 y1 y2 y3)) ∧ (∀ y0 y1 y2 y3 y4 y5 y6, LeO (spec_DeskDo_owned.l0 k y0 y1 y2 y3 y4 y5 y6) (spec_DeskDo_owned.l0 (k + 1) y0 y1 y2 y3 y4 y5 y6))
 | 0 => ⟨fun _ _ _ _ _ _ _ _ r h => by simp [spec_DeskDo_owned.j0] at h, fun _ _ _ _ r h => by simp [spec_DeskDo_owned.j2] at h, fun _ _ _ _ r h => by simp [spec_DeskDo_owned.j3] at h, fun _ _ _ _ _ _ _ r h => by simp [spec_DeskDo_owned.l0] at h⟩
 | k + 1 => by
  obtain ⟨ih0, ih1, ih2, ih3⟩ := spec_DeskDo_owned.mono_l k
  refine ⟨?_, ?_, ?_, ?_⟩
  ·intro y0 y1 y2 y3 y4 y5 y6 y7
   unfold spec_DeskDo_owned.j0
   repeat' first
   | (with_reducible exact ih0 _ _ _ _ _ _ _ _)
   | (with_reducible exact ih1 _ _ _ _)
   | (with_reducible exact ih2 _ _ _ _)
   | (with_reducible exact ih3 _ _ _ _ _ _ _)
   | (with_reducible exact spec_DeskOk.mono _ _ _)
   | (with_reducible exact spec_TreeOk.mono _ _)
   | (with_reducible exact spec_l12Copy.mono _ _ _)
   | (with_reducible exact spec_l12Made.mono _ _ _ _ _)
   | (with_reducible exact LeO.refl _)
   | (with_reducible exact LeO.none _)
   | (with_reducible refine LeO.ite ?_ ?_)
   | (with_reducible refine LeO.bind ?_ (fun _ => ?_))
   | refine LeO.ite ?_ ?_
   | refine LeO.bind ?_ (fun _ => ?_)
  ·intro y0 y1 y2 y3
   unfold spec_DeskDo_owned.j2
   repeat' first
   | (with_reducible exact ih0 _ _ _ _ _ _ _ _)
   | (with_reducible exact ih1 _ _ _ _)
   | (with_reducible exact ih2 _ _ _ _)
   | (with_reducible exact ih3 _ _ _ _ _ _ _)
   | (with_reducible exact spec_DeskOk.mono _ _ _)
   | (with_reducible exact spec_TreeOk.mono _ _)
   | (with_reducible exact spec_l12Copy.mono _ _ _)
   | (with_reducible exact spec_l12Made.mono _ _ _ _ _)
   | (with_reducible exact LeO.refl _)
   | (with_reducible exact LeO.none _)
   | (with_reducible refine LeO.ite ?_ ?_)
   | (with_reducible refine LeO.bind ?_ (fun _ => ?_))
   | refine LeO.ite ?_ ?_
   | refine LeO.bind ?_ (fun _ => ?_)
  ·intro y0 y1 y2 y3
   unfold spec_DeskDo_owned.j3
   repeat' first
   | (with_reducible exact ih0 _ _ _ _ _ _ _ _)
   | (with_reducible exact ih1 _ _ _ _)
   | (with_reducible exact ih2 _ _ _ _)
   | (with_reducible exact ih3 _ _ _ _ _ _ _)
   | (with_reducible exact spec_DeskOk.mono _ _ _)
   | (with_reducible exact spec_TreeOk.mono _ _)
   | (with_reducible exact spec_l12Copy.mono _ _ _)
   | (with_reducible exact spec_l12Made.mono _ _ _ _ _)
   | (with_reducible exact LeO.refl _)
   | (with_reducible exact LeO.none _)
   | (with_reducible refine LeO.ite ?_ ?_)
   | (with_reducible refine LeO.bind ?_ (fun _ => ?_))
   | refine LeO.ite ?_ ?_
   | refine LeO.bind ?_ (fun _ => ?_)
  ·intro y0 y1 y2 y3 y4 y5 y6
   unfold spec_DeskDo_owned.l0
   repeat' first
   | (with_reducible exact ih0 _ _ _ _ _ _ _ _)
   | (with_reducible exact ih1 _ _ _ _)
   | (with_reducible exact ih2 _ _ _ _)
   | (with_reducible exact ih3 _ _ _ _ _ _ _)
   | (with_reducible exact spec_DeskOk.mono _ _ _)
   | (with_reducible exact spec_TreeOk.mono _ _)
   | (with_reducible exact spec_l12Copy.mono _ _ _)
   | (with_reducible exact spec_l12Made.mono _ _ _ _ _)
   | (with_reducible exact LeO.refl _)
   | (with_reducible exact LeO.none _)
   | (with_reducible refine LeO.ite ?_ ?_)
   | (with_reducible refine LeO.bind ?_ (fun _ => ?_))
   | refine LeO.ite ?_ ?_
   | refine LeO.bind ?_ (fun _ => ?_)
theorem spec_DeskDo_owned.mono : ∀ a0 a1 a2 a3 a4 k, LeO (spec_DeskDo_owned.f k a0 a1 a2 a3 a4) (spec_DeskDo_owned.f (k + 1) a0 a1 a2 a3 a4) := by
 intro a0 a1 a2 a3 a4 k
 obtain ⟨ih0, ih1, ih2, ih3⟩ := spec_DeskDo_owned.mono_l k
 unfold spec_DeskDo_owned.f
 repeat' first
   | (with_reducible exact ih0 _ _ _ _ _ _ _ _)
   | (with_reducible exact ih1 _ _ _ _)
   | (with_reducible exact ih2 _ _ _ _)
   | (with_reducible exact ih3 _ _ _ _ _ _ _)
   | (with_reducible exact spec_DeskOk.mono _ _ _)
   | (with_reducible exact spec_TreeOk.mono _ _)
   | (with_reducible exact spec_l12Copy.mono _ _ _)
   | (with_reducible exact spec_l12Made.mono _ _ _ _ _)
   | (with_reducible exact LeO.refl _)
   | (with_reducible exact LeO.none _)
   | (with_reducible refine LeO.ite ?_ ?_)
   | (with_reducible refine LeO.bind ?_ (fun _ => ?_))
   | refine LeO.ite ?_ ?_
   | refine LeO.bind ?_ (fun _ => ?_)
set_option maxHeartbeats 8000000 in
set_option maxRecDepth 100000 in
theorem spec_DeskDo_owned.calls (k : Nat) (A0_0 : Option Addr) (c0_0 : Nat) (l0_0 : List Int) (A0_1 : Option Addr) (c0_1 : Nat) (l0_1 : List (List Int)) (a1_0 : Int) (a1_1 : Int) (a1_2 : Int) (r1 : List Int) (r2 : List (List Int)) (r3 : Bool) (w : World) (hr0_0 : Kd.C (Kd.int .i64) w A0_0 l0_0.length l0_0) (hc0_0 : l0_0.length ≤ c0_0) (hr0_1 : Kd.C (Kd.slice 3 (Kd.int .i64)) w A0_1 l0_1.length l0_1) (hc0_1 : l0_1.length ≤ c0_1) (h : spec_DeskDo_owned.f k l0_0 l0_1 a1_0 a1_1 a1_2 = some (r1, r2, r3)) :
  Calls Try.prog 59 #[.agg #[.slice A0_0 l0_0.length c0_0, .slice A0_1 l0_1.length c0_1], .agg #[.int .i64 a1_0, .int .i64 a1_1, .int .i64 a1_2]] w fun e w' => ∃ v0_ v1_ : Value, e = .returned (.tuple #[.agg #[v0_, v1_], .bool r3]) ∧ Kd.R (Kd.int .i64) 3 w' w.heap.size (fun _ => True) v0_ r1 ∧ Kd.S (Kd.slice 3 (Kd.int .i64)) 23 w' w.heap.size (fun k_ => some k_ ≠ (v0_ : Value).ownBlock) v1_ r2 ∧ Below w.heap.size w w' := by
 have hu52 := Try.underlying52
 have hu65 := Try.underlying65
 have HR0_0 := zM hr0_0
 have HC0_0 := zM hc0_0
 clear hr0_0 hc0_0
 have HR0_1 := zM hr0_1
 have HC0_1 := zM hc0_1
 clear hr0_1 hc0_1
 have HB := zM (Below.refl w.heap.size w)
 have H : ((spec_DeskOk.f k l0_0 l0_1).bind fun t454 => (if t454 = true then ((spec_l12Copy.f k l0_0 l0_1).bind fun bt455 => (if (a1_0 == 5 && (a1_1 == 0 && (a1_2 == 0))) = true then (spec_DeskDo_owned.j0 k (decide ((l0_1.length : Int) > 0)) l0_0 l0_1 a1_0 a1_1 a1_2 bt455.1 bt455.2) else (spec_DeskDo_owned.j0 k false l0_0 l0_1 a1_0 a1_1 a1_2 bt455.1 bt455.2))) else (some (([] : List Int), ([] : List (List Int)), false)))) = some (r1, r2, r3) := h
 clear h
 replace H := Option.bind_eq_some_iff.mp H
 obtain ⟨t454, A30, H⟩ := H
 replace H : (if t454 = true then ((spec_l12Copy.f k l0_0 l0_1).bind fun bt455 => (if (a1_0 == 5 && (a1_1 == 0 && (a1_2 == 0))) = true then (spec_DeskDo_owned.j0 k (decide ((l0_1.length : Int) > 0)) l0_0 l0_1 a1_0 a1_1 a1_2 bt455.1 bt455.2) else (spec_DeskDo_owned.j0 k false l0_0 l0_1 a1_0 a1_1 a1_2 bt455.1 bt455.2))) else (some (([] : List Int), ([] : List (List Int)), false))) = some (r1, r2, r3) := H
 have A3 := zM A30
 clear A30
 by_cases c4 : t454 = true
 ·subst c4
  have H1 : ((spec_l12Copy.f k l0_0 l0_1).bind fun bt455 => (if (a1_0 == 5 && (a1_1 == 0 && (a1_2 == 0))) = true then (spec_DeskDo_owned.j0 k (decide ((l0_1.length : Int) > 0)) l0_0 l0_1 a1_0 a1_1 a1_2 bt455.1 bt455.2) else (spec_DeskDo_owned.j0 k false l0_0 l0_1 a1_0 a1_1 a1_2 bt455.1 bt455.2))) = some (r1, r2, r3) := by rw [if_pos rfl] at H; exact H
  clear H
  have H := H1
  clear H1
  replace H := Option.bind_eq_some_iff.mp H
  obtain ⟨⟨t455, t458⟩, A50, H⟩ := H
  replace H : (if (a1_0 == 5 && (a1_1 == 0 && (a1_2 == 0))) = true then (spec_DeskDo_owned.j0 k (decide ((l0_1.length : Int) > 0)) l0_0 l0_1 a1_0 a1_1 a1_2 t455 t458) else (spec_DeskDo_owned.j0 k false l0_0 l0_1 a1_0 a1_1 a1_2 t455 t458)) = some (r1, r2, r3) := H
  have A5 := zM A50
  clear A50
  have HC6 := zM H
  clear H
  go_enter Try.func59, Try.ntmps59
  go_upto_region 4 with (first | ((with_reducible refine gate_dst (N := 2) rfl ?_); (try (refine gate_guard (by rfl) ?_; dsimp only)); refine box_event ?hg (N := 2) ?hd (cs := #[.slice A0_0 l0_0.length c0_0, .slice A0_1 l0_1.length c0_1]) (t := 52) ?hr ?_; (case hd => rfl);(case hg => rfl);(case hr => first | (go_simp; done) | (go_simp; rfl)); intro gb451 hg w7 hbox hb;have n0_:=zM (below_step (by repeat (first | (with_reducible first | exact HB.out | apply zB | apply zA | apply zC) | exact HB.out)) hb);have n1_:=zM (hbox);have n2_:=zM ((by rw [hg]; exact (below_size (by repeat (first | (with_reducible first | exact HB.out | apply zB | apply zA | apply zC) | exact HB.out))) : w.heap.size ≤ gb451));have n3_:=zM ((by rw [hg]; exact (below_size (by repeat (first | (with_reducible first | exact HB.out | apply zB | apply zA | apply zC) | exact HB.out))) : w.heap.size ≤ gb451));clear HB; have HB := n0_; have BK451 := n1_; have GW451 := n2_; have GE451 := n3_; clear n0_ n1_ n2_ n3_; clear hb hbox hg) | ((with_reducible refine gate_dst (N := 3) rfl ?_); (try (refine gate_guard (by rfl) ?_; dsimp only)); refine box_event ?hg (N := 3) ?hd (cs := #[.int .i64 a1_0, .int .i64 a1_1, .int .i64 a1_2]) (t := 65) ?hr ?_; (case hd => rfl);(case hg => rfl);(case hr => first | (go_simp; done) | (go_simp; rfl)); intro gb452 hg w8 hbox hb;have n0_:=zM (blk_below (g := gb451) (o := .cells #[.slice A0_0 l0_0.length c0_0, .slice A0_1 l0_1.length c0_1] 52 (0, 0)) (by exact BK451.out) hb);have n1_:=zM (below_step (by repeat (first | (with_reducible first | exact HB.out | apply zB | apply zA | apply zC | refine zD ?_ GE451.out) | exact HB.out)) hb);have n2_:=zM (hbox);have n3_:=zM ((by rw [hg]; exact (below_size (by repeat (first | (with_reducible first | exact HB.out | apply zB | apply zA | apply zC | refine zD ?_ GE451.out) | exact HB.out))) : w.heap.size ≤ gb452));have n4_:=zM ((by rw [hg]; exact (below_size (by repeat (first | (with_reducible first | exact HB.out | apply zB | apply zA | apply zC | refine zD ?_ GE451.out) | exact HB.out))) : w.heap.size ≤ gb452));have n5_:=zM ((by rw [hg]; exact Nat.ne_of_lt (blk_lt (g := gb451) (o := .cells #[.slice A0_0 l0_0.length c0_0, .slice A0_1 l0_1.length c0_1] 52 (0, 0)) (by exact BK451.out)) : gb451 ≠ gb452));have n6_:=zM ((by rw [hg]; exact Nat.ne_of_gt (blk_lt (g := gb451) (o := .cells #[.slice A0_0 l0_0.length c0_0, .slice A0_1 l0_1.length c0_1] 52 (0, 0)) (by exact BK451.out)) : gb452 ≠ gb451));clear BK451; clear HB; have BK451 := n0_; have HB := n1_; have BK452 := n2_; have GW452 := n3_; have GE452 := n4_; have NB451_452 := n5_; have NB452_451 := n6_; clear n0_ n1_ n2_ n3_ n4_ n5_ n6_; clear hb hbox hg) | ((with_reducible refine gate_dst (N := 4) rfl ?_); (try (refine gate_guard (by rfl) ?_; dsimp only)); refine box_event ?hg (N := 4) ?hd (cs := #[.slice none 0 0, .slice none 0 0]) (t := 52) ?hr ?_; (case hd => rfl);(case hg => rfl);(case hr => first | (go_simp; done) | (go_simp; rfl)); intro gb453 hg w9 hbox hb;have n0_:=zM (blk_below (g := gb451) (o := .cells #[.slice A0_0 l0_0.length c0_0, .slice A0_1 l0_1.length c0_1] 52 (0, 0)) (by exact BK451.out) hb);have n1_:=zM (blk_below (g := gb452) (o := .cells #[.int .i64 a1_0, .int .i64 a1_1, .int .i64 a1_2] 65 (0, 0)) (by exact BK452.out) hb);have n2_:=zM (below_step (by repeat (first | (with_reducible first | exact HB.out | apply zB | apply zA | apply zC | refine zD ?_ GE451.out | refine zD ?_ GE452.out) | exact HB.out)) hb);have n3_:=zM (hbox);have n4_:=zM ((by rw [hg]; exact (below_size (by repeat (first | (with_reducible first | exact HB.out | apply zB | apply zA | apply zC | refine zD ?_ GE451.out | refine zD ?_ GE452.out) | exact HB.out))) : w.heap.size ≤ gb453));have n5_:=zM ((by rw [hg]; exact (below_size (by repeat (first | (with_reducible first | exact HB.out | apply zB | apply zA | apply zC | refine zD ?_ GE451.out | refine zD ?_ GE452.out) | exact HB.out))) : w.heap.size ≤ gb453));have n6_:=zM ((by rw [hg]; exact Nat.ne_of_lt (blk_lt (g := gb451) (o := .cells #[.slice A0_0 l0_0.length c0_0, .slice A0_1 l0_1.length c0_1] 52 (0, 0)) (by exact BK451.out)) : gb451 ≠ gb453));have n7_:=zM ((by rw [hg]; exact Nat.ne_of_gt (blk_lt (g := gb451) (o := .cells #[.slice A0_0 l0_0.length c0_0, .slice A0_1 l0_1.length c0_1] 52 (0, 0)) (by exact BK451.out)) : gb453 ≠ gb451));have n8_:=zM ((by rw [hg]; exact Nat.ne_of_lt (blk_lt (g := gb452) (o := .cells #[.int .i64 a1_0, .int .i64 a1_1, .int .i64 a1_2] 65 (0, 0)) (by exact BK452.out)) : gb452 ≠ gb453));have n9_:=zM ((by rw [hg]; exact Nat.ne_of_gt (blk_lt (g := gb452) (o := .cells #[.int .i64 a1_0, .int .i64 a1_1, .int .i64 a1_2] 65 (0, 0)) (by exact BK452.out)) : gb453 ≠ gb452));clear BK451; clear BK452;clear HB; have BK451 := n0_; have BK452 := n1_; have HB := n2_; have BK453 := n3_; have GW453 := n4_; have GE453 := n5_; have NB451_453 := n6_; have NB453_451 := n7_; have NB452_453 := n8_; have NB453_452 := n9_; clear n0_ n1_ n2_ n3_ n4_ n5_ n6_ n7_ n8_ n9_; clear hb hbox hg; have hnb10 := NB451_452.out; have hnc10 := NB452_451.out; have hnb11 := NB451_453.out; have hnc11 := NB453_451.out; have hcz12_0 : w9.cell? ⟨gb451, 0, none⟩ = some (.slice A0_0 l0_0.length c0_0) := (blk_cell BK451.out 0).trans rfl; have hcz12_1 : w9.cell? ⟨gb451, 1, none⟩ = some (.slice A0_1 l0_1.length c0_1) := (blk_cell BK451.out 1).trans rfl; have hfz12_0 := blk_frozen BK451.out 0; have hfz12_1 := blk_frozen BK451.out 1) | (go_at_call 55; (with_reducible refine (spec_DeskOk.calls k _ _ l0_0 _ _ l0_1 true _ ?side1 ?side2 ?side3 ?side4 A3.out).mono ?_); (case side1 => repeat (first | exact (Kd.C_below HR0_0.out HB.out) | (with_reducible refine Kd.C_alloc ?_ _) | (with_reducible refine Kd.C_drewN ?_ _) | (with_reducible refine Kd.C_drew ?_))); (case side2 => exact HC0_0.out); (case side3 => repeat (first | exact (Kd.C_below HR0_1.out HB.out) | (with_reducible refine Kd.C_alloc ?_ _) | (with_reducible refine Kd.C_drewN ?_ _) | (with_reducible refine Kd.C_drew ?_))); (case side4 => exact HC0_1.out); rintro e w13 ⟨rfl, hb⟩;have n0_:=zM (blk_below (g := gb451) (o := .cells #[.slice A0_0 l0_0.length c0_0, .slice A0_1 l0_1.length c0_1] 52 (0, 0)) (by exact BK451.out) hb);have n1_:=zM (blk_below (g := gb452) (o := .cells #[.int .i64 a1_0, .int .i64 a1_1, .int .i64 a1_2] 65 (0, 0)) (by exact BK452.out) hb);have n2_:=zM (blk_below (g := gb453) (o := .cells #[.slice none 0 0, .slice none 0 0] 52 (0, 0)) (by exact BK453.out) hb);have n3_:=zM (below_step (by repeat (first | (with_reducible first | exact HB.out | apply zB | apply zA | apply zC | refine zD ?_ GE451.out | refine zD ?_ GE452.out | refine zD ?_ GE453.out) | exact HB.out)) hb);clear BK451; clear BK452;clear BK453; clear HB; have BK451 := n0_; have BK452 := n1_; have BK453 := n2_; have HB := n3_; clear n0_ n1_ n2_ n3_; (try clear hb); (try clear hb2); (try clear hk); (try clear hi); have hcz14_0 : w13.cell? ⟨gb451, 0, none⟩ = some (.slice A0_0 l0_0.length c0_0) := (blk_cell BK451.out 0).trans rfl; have hcz14_1 : w13.cell? ⟨gb451, 1, none⟩ = some (.slice A0_1 l0_1.length c0_1) := (blk_cell BK451.out 1).trans rfl; have hfz14_0 := blk_frozen BK451.out 0; have hfz14_1 := blk_frozen BK451.out 1) | (go_at_call 116; (with_reducible refine (spec_l12Copy.calls k _ _ l0_0 _ _ l0_1 t455 t458 _ ?side1 ?side2 ?side3 ?side4 A5.out).mono ?_); (case side1 => repeat (first | exact (Kd.C_below HR0_0.out HB.out) | (with_reducible refine Kd.C_alloc ?_ _) | (with_reducible refine Kd.C_drewN ?_ _) | (with_reducible refine Kd.C_drew ?_))); (case side2 => exact HC0_0.out); (case side3 => repeat (first | exact (Kd.C_below HR0_1.out HB.out) | (with_reducible refine Kd.C_alloc ?_ _) | (with_reducible refine Kd.C_drewN ?_ _) | (with_reducible refine Kd.C_drew ?_))); (case side4 => exact HC0_1.out); rintro e w15 ⟨v456, v459, rfl, ho0, ho1, hb⟩;have n0_:=zM (Kd.R_lower ho0 (below_size (by repeat (first | (with_reducible first | exact HB.out | apply zB | apply zA | apply zC | refine zD ?_ GE451.out | refine zD ?_ GE452.out | refine zD ?_ GE453.out) | exact HB.out))));have n1_:=zM (Kd.S_lower ho1 (below_size (by repeat (first | (with_reducible first | exact HB.out | apply zB | apply zA | apply zC | refine zD ?_ GE451.out | refine zD ?_ GE452.out | refine zD ?_ GE453.out) | exact HB.out))));have n2_:=zM (blk_below (g := gb451) (o := .cells #[.slice A0_0 l0_0.length c0_0, .slice A0_1 l0_1.length c0_1] 52 (0, 0)) (by exact BK451.out) hb);have n3_:=zM (blk_below (g := gb452) (o := .cells #[.int .i64 a1_0, .int .i64 a1_1, .int .i64 a1_2] 65 (0, 0)) (by exact BK452.out) hb);have n4_:=zM (blk_below (g := gb453) (o := .cells #[.slice none 0 0, .slice none 0 0] 52 (0, 0)) (by exact BK453.out) hb);have n5_:=zM (below_step (by repeat (first | (with_reducible first | exact HB.out | apply zB | apply zA | apply zC | refine zD ?_ GE451.out | refine zD ?_ GE452.out | refine zD ?_ GE453.out) | exact HB.out)) hb);clear BK451; clear BK452;clear BK453; clear HB; have HO457 := n0_; have HO460 := n1_; have BK451 := n2_; have BK452 := n3_; have BK453 := n4_; have HB := n5_; clear n0_ n1_ n2_ n3_ n4_ n5_; (try clear hb); (try clear hb2); (try clear hk); (try clear hi); (try clear ho0); (try clear ho1)) | ((with_reducible refine gate_dst (N := 6) rfl ?_); (try (refine gate_guard (by rfl) ?_; dsimp only)); refine box_event ?hg (N := 6) ?hd (cs := #[.slice none 0 0, .slice none 0 0]) (t := 52) ?hr ?_; (case hd => rfl);(case hg => rfl);(case hr => first | (go_simp; done) | (go_simp; rfl)); intro gb461 hg w16 hbox hb;have n0_:=zM (Kd.R_below (by exact HO457.out) hb);have n1_:=zM (Kd.S_below (by exact HO460.out) hb);have n2_:=zM (blk_below (g := gb451) (o := .cells #[.slice A0_0 l0_0.length c0_0, .slice A0_1 l0_1.length c0_1] 52 (0, 0)) (by exact BK451.out) hb);have n3_:=zM (blk_below (g := gb452) (o := .cells #[.int .i64 a1_0, .int .i64 a1_1, .int .i64 a1_2] 65 (0, 0)) (by exact BK452.out) hb);have n4_:=zM (blk_below (g := gb453) (o := .cells #[.slice none 0 0, .slice none 0 0] 52 (0, 0)) (by exact BK453.out) hb);have n5_:=zM (below_step (by repeat (first | (with_reducible first | exact HB.out | apply zB | apply zA | apply zC | refine zD ?_ GE451.out | refine zD ?_ GE452.out | refine zD ?_ GE453.out) | exact HB.out)) hb);have n6_:=zM (hbox);have n7_:=zM ((by rw [hg]; exact (below_size (by repeat (first | (with_reducible first | exact HB.out | apply zB | apply zA | apply zC | refine zD ?_ GE451.out | refine zD ?_ GE452.out | refine zD ?_ GE453.out) | exact HB.out))) : w.heap.size ≤ gb461));have n8_:=zM ((by rw [hg]; exact (below_size (by repeat (first | (with_reducible first | exact HB.out | apply zB | apply zA | apply zC | refine zD ?_ GE451.out | refine zD ?_ GE452.out | refine zD ?_ GE453.out) | exact HB.out))) : w.heap.size ≤ gb461));have n9_:=zM ((by rw [hg]; exact Nat.ne_of_lt (blk_lt (g := gb451) (o := .cells #[.slice A0_0 l0_0.length c0_0, .slice A0_1 l0_1.length c0_1] 52 (0, 0)) (by exact BK451.out)) : gb451 ≠ gb461));have n10_:=zM ((by rw [hg]; exact Nat.ne_of_gt (blk_lt (g := gb451) (o := .cells #[.slice A0_0 l0_0.length c0_0, .slice A0_1 l0_1.length c0_1] 52 (0, 0)) (by exact BK451.out)) : gb461 ≠ gb451));have n11_:=zM ((by rw [hg]; exact Nat.ne_of_lt (blk_lt (g := gb452) (o := .cells #[.int .i64 a1_0, .int .i64 a1_1, .int .i64 a1_2] 65 (0, 0)) (by exact BK452.out)) : gb452 ≠ gb461));have n12_:=zM ((by rw [hg]; exact Nat.ne_of_gt (blk_lt (g := gb452) (o := .cells #[.int .i64 a1_0, .int .i64 a1_1, .int .i64 a1_2] 65 (0, 0)) (by exact BK452.out)) : gb461 ≠ gb452));have n13_:=zM ((by rw [hg]; exact Nat.ne_of_lt (blk_lt (g := gb453) (o := .cells #[.slice none 0 0, .slice none 0 0] 52 (0, 0)) (by exact BK453.out)) : gb453 ≠ gb461));have n14_:=zM ((by rw [hg]; exact Nat.ne_of_gt (blk_lt (g := gb453) (o := .cells #[.slice none 0 0, .slice none 0 0] 52 (0, 0)) (by exact BK453.out)) : gb461 ≠ gb453));clear HO457; clear HO460;clear BK451; clear BK452;clear BK453; clear HB; have HO457 := n0_; have HO460 := n1_; have BK451 := n2_; have BK452 := n3_; have BK453 := n4_; have HB := n5_; have BK461 := n6_; have GW461 := n7_; have GE461 := n8_; have NB451_461 := n9_; have NB461_451 := n10_; have NB452_461 := n11_; have NB461_452 := n12_; have NB453_461 := n13_; have NB461_453 := n14_; clear n0_ n1_ n2_ n3_ n4_ n5_ n6_ n7_ n8_ n9_ n10_ n11_ n12_ n13_ n14_; clear hb hbox hg; obtain ⟨Ao17, co17, eo17⟩ := Kd.R_slice HO457.out; subst eo17; have hnb18 := NB461_451.out; have hnc18 := NB451_461.out; have hnb19 := NB461_452.out; have hnc19 := NB452_461.out; have hnb20 := NB461_453.out; have hnc20 := NB453_461.out; have hcz21_0 : w16.cell? ⟨gb461, 0, none⟩ = some (.slice none 0 0) := (blk_cell BK461.out 0).trans rfl; have hcz21_1 : w16.cell? ⟨gb461, 1, none⟩ = some (.slice none 0 0) := (blk_cell BK461.out 1).trans rfl; have hfz21_0 := blk_frozen BK461.out 0; have hfz21_1 := blk_frozen BK461.out 1; obtain ⟨Ao22, co22, eo22⟩ := Kd.S_slice HO460.out; subst eo22))
  (try simp only [Act.put, zE, zF, zG])
  go_cut [25] (fun v25 wc => ∃ (kq : Nat) (x25_5 : Bool), v25 = .bool x25_5 ∧ Aside0 (spec_DeskDo_owned.j0 kq x25_5 l0_0 l0_1 a1_0 a1_1 a1_2 t455 t458 = some (r1, r2, r3)) ∧ Aside0 (kq ≤ k) ∧ Aside0 (Kd.R (Kd.int .i64) 3 wc w.heap.size (fun _ => True) (.slice Ao17 t455.length co17) t455) ∧ Aside0 (Kd.S (Kd.slice 3 (Kd.int .i64)) 23 wc w.heap.size (fun k_ => some k_ ≠ ((.slice Ao17 t455.length co17) : Value).ownBlock) (.slice Ao22 t458.length co22) t458) ∧ Aside0 (wc.heap[gb451]? = some (.cells #[(.slice A0_0 l0_0.length c0_0), (.slice A0_1 l0_1.length c0_1)] 52 (0, 0))) ∧ Aside0 (wc.heap[gb452]? = some (.cells #[.int .i64 a1_0, .int .i64 a1_1, .int .i64 a1_2] 65 (0, 0))) ∧ Aside0 (wc.heap[gb453]? = some (.cells #[(.slice none 0 0), (.slice none 0 0)] 52 (0, 0))) ∧ Aside0 (wc.heap[gb461]? = some (.cells #[(.slice Ao17 t455.length co17), (.slice Ao22 t458.length co22)] 52 (0, 0))) ∧ Aside0 (Below w.heap.size w wc))
  case first =>
   have H := HC6.out
   clear HC6
   by_cases c23 : (a1_0 == 5 && (a1_1 == 0 && (a1_2 == 0))) = true
   ·rw [if_pos c23] at H
    have c23b0 : (a1_0 == 5 && (a1_1 == 0 && (a1_2 == 0))) = true := c23
    (try (have c23b1 : decide (a1_0 = 5 && (a1_1 == 0 && (a1_2 == 0))) = true := by simpa using c23))
    (try (have c23b2 : (a1_0 == 5 && (a1_1 == 0 && (a1_2 == 0))) = true := by simpa using c23))
    clear c23
    (first | rw [c23b0] | (simp only [i64_w, i32_w]; rw [c23b0]) | skip)
    have H' := zM H
    clear H
    have hnb24 := NB452_451.out
    have hnc24 := NB451_452.out
    have hnb25 := NB452_453.out
    have hnc25 := NB453_452.out
    have hnb26 := NB452_461.out
    have hnc26 := NB461_452.out
    have hcz27_0 : w16.cell? ⟨gb452, 0, none⟩ = some (.int .i64 a1_0) := (blk_cell BK452.out 0).trans rfl
    have hcz27_1 : w16.cell? ⟨gb452, 1, none⟩ = some (.int .i64 a1_1) := (blk_cell BK452.out 1).trans rfl
    have hcz27_2 : w16.cell? ⟨gb452, 2, none⟩ = some (.int .i64 a1_2) := (blk_cell BK452.out 2).trans rfl
    have hfz27_0 := blk_frozen BK452.out 0
    have hfz27_1 := blk_frozen BK452.out 1
    have hfz27_2 := blk_frozen BK452.out 2
    have hnb28 := NB451_453.out
    have hnc28 := NB453_451.out
    have hnb29 := NB451_461.out
    have hnc29 := NB461_451.out
    have hcz30_0 : w16.cell? ⟨gb451, 0, none⟩ = some (.slice A0_0 l0_0.length c0_0) := (blk_cell BK451.out 0).trans rfl
    have hcz30_1 : w16.cell? ⟨gb451, 1, none⟩ = some (.slice A0_1 l0_1.length c0_1) := (blk_cell BK451.out 1).trans rfl
    have hfz30_0 := blk_frozen BK451.out 0
    have hfz30_1 := blk_frozen BK451.out 1
    go_wp2
    repeat (go_quiet (fail); try go_wp2)
    go_meet
    case rel => exact ⟨_, (decide ((l0_1.length : Int) > 0)), (by first | rfl | (simp; done) | (simp [*]; done)), H', ⟨by first | omega | exact Nat.le_refl _⟩, ⟨by exact Kd.R_mono (Kd.R_far (p := ⟨gb461, 1, none⟩) (Kd.R_far (p := ⟨gb461, 0, none⟩) (Kd.R_types HO457.out BK461.out (by decide)) (fun _ h=>h.2) (.slice Ao17 t455.length co17)) (fun _ h=>h.2) (.slice Ao22 t458.length co22)) (fun _ hk => trivial)⟩, ⟨by exact Kd.S_mono (Kd.S_far (p := ⟨gb461, 1, none⟩) (Kd.S_far (p := ⟨gb461, 0, none⟩) (Kd.S_types HO460.out BK461.out (by decide)) (fun _ h=>h.2) (.slice Ao17 t455.length co17)) (fun _ h=>h.2) (.slice Ao22 t458.length co22)) (fun _ h=>h.1)⟩, ⟨by refine blk_far ?_ NB451_461.out _; refine blk_far ?_ NB451_461.out _; exact BK451.out⟩, ⟨by refine blk_far ?_ NB452_461.out _; refine blk_far ?_ NB452_461.out _; exact BK452.out⟩, ⟨by refine blk_far ?_ NB453_461.out _; refine blk_far ?_ NB453_461.out _; exact BK453.out⟩, ⟨by refine blk_put (cs := #[.slice Ao17 t455.length co17, .slice none 0 0]) ?_ 1 _ rfl; refine blk_put (cs := #[.slice none 0 0, .slice none 0 0]) ?_ 0 _ rfl; exact BK461.out⟩, ⟨by repeat (first | (with_reducible first | exact HB.out | apply zB | apply zA | apply zC | refine zD ?_ GE451.out | refine zD ?_ GE452.out | refine zD ?_ GE453.out | refine zD ?_ GE461.out) | exact HB.out)⟩⟩
   ·rw [if_neg c23] at H
    have c23b0 : (a1_0 == 5 && (a1_1 == 0 && (a1_2 == 0))) = false := by simpa using c23
    (try (have c23b1 : decide (a1_0 = 5 && (a1_1 == 0 && (a1_2 == 0))) = false := by simpa using c23))
    (try (have c23b2 : (a1_0 == 5 && (a1_1 == 0 && (a1_2 == 0))) = false := by simpa using c23))
    (try (have c23b3 : ¬ (a1_0 = 5 && (a1_1 == 0 && (a1_2 == 0))) := by simpa using c23))
    clear c23
    (first | rw [c23b0] | (simp only [i64_w, i32_w]; rw [c23b0]) | skip)
    have H' := zM H
    clear H
    have hnb31 := NB452_451.out
    have hnc31 := NB451_452.out
    have hnb32 := NB452_453.out
    have hnc32 := NB453_452.out
    have hnb33 := NB452_461.out
    have hnc33 := NB461_452.out
    have hcz34_0 : w16.cell? ⟨gb452, 0, none⟩ = some (.int .i64 a1_0) := (blk_cell BK452.out 0).trans rfl
    have hcz34_1 : w16.cell? ⟨gb452, 1, none⟩ = some (.int .i64 a1_1) := (blk_cell BK452.out 1).trans rfl
    have hcz34_2 : w16.cell? ⟨gb452, 2, none⟩ = some (.int .i64 a1_2) := (blk_cell BK452.out 2).trans rfl
    have hfz34_0 := blk_frozen BK452.out 0
    have hfz34_1 := blk_frozen BK452.out 1
    have hfz34_2 := blk_frozen BK452.out 2
    go_wp2
    repeat (go_quiet (fail); try go_wp2)
    go_meet
    case rel => exact ⟨_, (false), (by first | rfl | (simp; done) | (simp [*]; done)), H', ⟨by first | omega | exact Nat.le_refl _⟩, ⟨by exact Kd.R_mono (Kd.R_far (p := ⟨gb461, 1, none⟩) (Kd.R_far (p := ⟨gb461, 0, none⟩) (Kd.R_types HO457.out BK461.out (by decide)) (fun _ h=>h.2) (.slice Ao17 t455.length co17)) (fun _ h=>h.2) (.slice Ao22 t458.length co22)) (fun _ hk => trivial)⟩, ⟨by exact Kd.S_mono (Kd.S_far (p := ⟨gb461, 1, none⟩) (Kd.S_far (p := ⟨gb461, 0, none⟩) (Kd.S_types HO460.out BK461.out (by decide)) (fun _ h=>h.2) (.slice Ao17 t455.length co17)) (fun _ h=>h.2) (.slice Ao22 t458.length co22)) (fun _ h=>h.1)⟩, ⟨by refine blk_far ?_ NB451_461.out _; refine blk_far ?_ NB451_461.out _; exact BK451.out⟩, ⟨by refine blk_far ?_ NB452_461.out _; refine blk_far ?_ NB452_461.out _; exact BK452.out⟩, ⟨by refine blk_far ?_ NB453_461.out _; refine blk_far ?_ NB453_461.out _; exact BK453.out⟩, ⟨by refine blk_put (cs := #[.slice Ao17 t455.length co17, .slice none 0 0]) ?_ 1 _ rfl; refine blk_put (cs := #[.slice none 0 0, .slice none 0 0]) ?_ 0 _ rfl; exact BK461.out⟩, ⟨by repeat (first | (with_reducible first | exact HB.out | apply zB | apply zA | apply zC | refine zD ?_ GE451.out | refine zD ?_ GE452.out | refine zD ?_ GE453.out | refine zD ?_ GE461.out) | exact HB.out)⟩⟩
  case rest =>
   clear HC6
   try clear c1
   try clear c2
   try clear p2
   try clear c3
   try clear c4
   try clear c10
   try clear c11
   try clear c18
   try clear c19
   try clear c20
   try clear c23
   try clear c23b0
   try clear c23b1
   try clear c23b2
   try clear c24
   try clear c25
   try clear c26
   try clear c28
   try clear c29
   try clear c31
   try clear c32
   try clear c33
   try clear hcz12_0
   try clear hcz12_1
   try clear hcz14_0
   try clear hcz14_1
   try clear hcz21_0
   try clear hcz21_1
   try clear hcz27_0
   try clear hcz27_1
   try clear hcz27_2
   try clear hcz30_0
   try clear hcz30_1
   try clear hcz34_0
   try clear hcz34_1
   try clear hcz34_2
   try clear hfz12_0
   try clear hfz12_1
   try clear hfz14_0
   try clear hfz14_1
   try clear hfz21_0
   try clear hfz21_1
   try clear hfz27_0
   try clear hfz27_1
   try clear hfz27_2
   try clear hfz30_0
   try clear hfz30_1
   try clear hfz34_0
   try clear hfz34_1
   try clear hfz34_2
   obtain ⟨kq, x25_5, rfl, HA, HJ5, HO_462000, HO_462001, BK451, BK452, BK453, BK461, HB⟩ := hcut
   cases kq with
   | zero => exact absurd HA.out (by simp [spec_DeskDo_owned.j0])
   | succ kj5 =>
    have H := HA.out
    clear HA
    simp only [spec_DeskDo_owned.j0] at H
    by_cases c35 : x25_5 = true
    ·subst c35
     have H1 : (if 0 ≤ (wrap64 ((t458.length : Int) - 1)) then (if (wrap64 ((t458.length : Int) - 1)) < (t458.length : Int) then (some (rd_L1 t458 (wrap64 ((t458.length : Int) - 1)), t458.take ((wrap64 ((t458.length : Int) - 1))).toNat, true)) else (none)) else (none)) = some (r1, r2, r3) := by rw [if_pos rfl] at H; exact H
     clear H
     have H := H1
     clear H1
     obtain ⟨ji36, hji36⟩ : ∃ j_ : Int, (wrap64 ((t458.length : Int) - 1)) = j_ := ⟨_, rfl⟩
     replace H : (if 0 ≤ (ji36) then (if (ji36) < (t458.length : Int) then (some (rd_L1 t458 (ji36), t458.take ((ji36)).toNat, true)) else (none)) else (none)) = some (r1, r2, r3) := by first | (rw [hji36] at H; exact H) | (simp only [hji36] at H ⊢; exact H)
     have hji36w : (IntKind.i64.wrap ((t458.length : Int) - 1)) = ji36 := (i64_w _).trans hji36
     by_cases c37 : 0 ≤ (ji36)
     ·rw [if_pos c37] at H
      have c37b0 : decide (0 ≤ (ji36)) = true := decide_eq_true c37
      clear c37
      by_cases c38 : (ji36) < (t458.length : Int)
      ·rw [if_pos c38] at H
       have c38b0 : decide ((ji36) < (t458.length : Int)) = true := decide_eq_true c38
       clear c38
       simp only [Option.some.injEq, Prod.mk.injEq] at H
       obtain ⟨rfl, rfl, rfl⟩ := H
       have hnb39 := NB461_451.out
       have hnc39 := NB451_461.out
       have hnb40 := NB461_452.out
       have hnc40 := NB452_461.out
       have hnb41 := NB461_453.out
       have hnc41 := NB453_461.out
       have hcz42_0 : wc.cell? ⟨gb461, 0, none⟩ = some (.slice Ao17 t455.length co17) := (blk_cell BK461.out 0).trans rfl
       have hcz42_1 : wc.cell? ⟨gb461, 1, none⟩ = some (.slice Ao22 t458.length co22) := (blk_cell BK461.out 1).trans rfl
       have hfz42_0 := blk_frozen BK461.out 0
       have hfz42_1 := blk_frozen BK461.out 1
       have p462 : 0 ≤ ((ji36) : Int) := of_decide_eq_true (by first | (with_reducible assumption) | assumption)
       have q462 : (ji36) < (t458.length : Int) := of_decide_eq_true (by first | (with_reducible assumption) | assumption)
       obtain ⟨ad462, A462_0, c462_0, e462, hx462_0, hl462_0, hi462_0⟩ := at_L1 (Kd.S_reads' HO_462001.out).2.2 (ji36) p462 q462
       cases e462
       obtain ⟨ce462, hce462, hMe462, hcc462⟩ := Kd.S_get HO_462001.out [] (ji36) p462 (by first | exact q462 | exact of_decide_eq_true (by first | (with_reducible assumption) | assumption) | (have e_ := (Kd.S_reads' HO_462001.out).1; omega))
       obtain ⟨ve462_0, rfl, ge462_0⟩ := hMe462
       have hv462_0 := hcc462 0 _ rfl
       rw [Nat.add_zero, show ((Kd.slice 3 (Kd.int .i64))).sz = 1 from rfl, Nat.mul_one] at hv462_0
       replace hv462_0 := Option.some.inj (hv462_0.symm.trans hx462_0)
       rw [hv462_0] at ge462_0
       have HL462_0 := zM (show Kd.R (Kd.int .i64) 3 _ _ _ _ (rd_L1 t458 (ji36)) from ge462_0)
       clear hv462_0 ge462_0
       clear hcc462 hce462
       have HR462_0 := zM hi462_0
       have HC462_0 := zM hl462_0
       clear hi462_0 hl462_0
       replace p462 := eq_true p462
       replace q462 := eq_true q462
       have hmz := (Kd.S_reads' HO_462001.out).2.2.2.1
       (try simp only [maxLen] at hmz)
       have hz1 : (ji36) + 1 = (t458.length : Int) := by rw [← hji36]; unfold wrap64; have h1 := of_eq_true p462; rw [← hji36] at h1; unfold wrap64 at h1; omega
       have hz2 : (ji36).toNat = t458.length - 1 := by omega
       obtain ⟨hpa, hpb⟩ := Kd.S_pop HO_462001.out (ji36) (of_eq_true p462) hz1 hx462_0
       rw [← hz2] at hpb
       have HPa := zM hpa
       have HPb := zM hpb
       clear hpa hpb
       obtain ⟨i0z, hi0z, _⟩ := info_parts info23
       have hcutz : ∀ W : World, (Instr.slice 37 (.slice (some ad462) t458.length co22) none (some (.int .i64 (ji36))) none).run Try.prog W = .ok (.slice (some ad462) (ji36).toNat co22) W := cut_to (P := Try.prog) 37 23 .i64 Try.underlying37 hi0z (some ad462) t458.length co22 (ji36) (of_eq_true p462) (by omega) (Kd.S_reads' HO_462001.out).2.1
       clear hmz hz1 hz2 hi0z
       have hnb43 := NB453_451.out
       have hnc43 := NB451_453.out
       have hnb44 := NB453_452.out
       have hnc44 := NB452_453.out
       have hcz45_0 : wc.cell? ⟨gb453, 0, none⟩ = some (.slice none 0 0) := (blk_cell BK453.out 0).trans rfl
       have hcz45_1 : wc.cell? ⟨gb453, 1, none⟩ = some (.slice none 0 0) := (blk_cell BK453.out 1).trans rfl
       have hfz45_0 := blk_frozen BK453.out 0
       have hfz45_1 := blk_frozen BK453.out 1
       go_wp2
       repeat (go_quiet (fail); try go_wp2)
       refine bodyPost_ret (results_ct rfl _ _ gb453 52 #[(.slice A462_0 (rd_L1 t458 (ji36)).length c462_0), (.slice (some ad462) (ji36).toNat co22)] (0, 0) _ rfl (by refine blk_put (cs := #[(.slice A462_0 (rd_L1 t458 (ji36)).length c462_0), .slice none 0 0]) ?_ 1 _ rfl; refine blk_put (cs := #[.slice none 0 0, .slice none 0 0]) ?_ 0 _ rfl; refine blk_far ?_ NB453_461.out _; refine blk_far ?_ NB453_461.out _; exact BK453.out) Try.underlying52 rfl (by kernel_rfl)) rfl ?_
       exact ⟨_, _, by first | rfl | (simp [errW_none, errW_some] <;> rfl) | (simp only [← hji36]; first | rfl | (simp [errW_none, errW_some] <;> rfl)) | (simp [*, errW_none, errW_some] <;> rfl), by exact Kd.R_mono (Kd.R_far (p := ⟨gb453, 1, none⟩) (Kd.R_far (p := ⟨gb453, 0, none⟩) (Kd.R_far (p := ⟨gb461, 1, none⟩) (Kd.R_far (p := ⟨gb461, 0, none⟩) (Kd.R_types (Kd.R_types HPa.out BK461.out (by decide)) BK453.out (by decide)) (fun _ h=>h.1.2) (.slice A462_0 (rd_L1 t458 (ji36)).length c462_0)) (fun _ h=>h.1.2) (.slice (some ad462) (ji36).toNat co22)) (fun _ h=>h.2) (.slice A462_0 (rd_L1 t458 (ji36)).length c462_0)) (fun _ h=>h.2) (.slice (some ad462) (ji36).toNat co22)) (fun _ hk => trivial), by exact Kd.S_mono (Kd.S_far (p := ⟨gb453, 1, none⟩) (Kd.S_far (p := ⟨gb453, 0, none⟩) (Kd.S_far (p := ⟨gb461, 1, none⟩) (Kd.S_far (p := ⟨gb461, 0, none⟩) (Kd.S_types (Kd.S_types HPb.out BK461.out (by decide)) BK453.out (by decide)) (fun _ h=>h.1.2) (.slice A462_0 (rd_L1 t458 (ji36)).length c462_0)) (fun _ h=>h.1.2) (.slice (some ad462) (ji36).toNat co22)) (fun _ h=>h.2) (.slice A462_0 (rd_L1 t458 (ji36)).length c462_0)) (fun _ h=>h.2) (.slice (some ad462) (ji36).toNat co22)) (fun _ h=>h.1.1.2), by repeat (first | (with_reducible first | exact HB.out | apply zB | apply zA | apply zC | refine zD ?_ GE451.out | refine zD ?_ GE452.out | refine zD ?_ GE453.out | refine zD ?_ GE461.out) | exact HB.out)⟩
      ·rw [if_neg c38] at H
       exact absurd H (by simp)
     ·rw [if_neg c37] at H
      exact absurd H (by simp)
    ·replace c35 := Bool.eq_false_iff.mpr c35
     subst c35
     have H1 : ((spec_l12Made.f kj5 l0_0 a1_0 a1_1 a1_2).bind fun t463 => (spec_DeskDo_owned.l0 kj5 t463 ((t463.length : Int) == (l0_0.length : Int)) 0 l0_0 l0_1 t455 t458)) = some (r1, r2, r3) := by rw [if_neg (show ¬ (false = true) by decide)] at H; exact H
     clear H
     have H := H1
     clear H1
     replace H := Option.bind_eq_some_iff.mp H
     obtain ⟨t463, A460, H⟩ := H
     replace H : (spec_DeskDo_owned.l0 kj5 t463 ((t463.length : Int) == (l0_0.length : Int)) 0 l0_0 l0_1 t455 t458) = some (r1, r2, r3) := H
     have A46 := zM A460
     clear A460
     have HC47 := zM H
     clear H
     have hnb48 := NB451_452.out
     have hnc48 := NB452_451.out
     have hnb49 := NB451_453.out
     have hnc49 := NB453_451.out
     have hnb50 := NB451_461.out
     have hnc50 := NB461_451.out
     have hcz51_0 : wc.cell? ⟨gb451, 0, none⟩ = some (.slice A0_0 l0_0.length c0_0) := (blk_cell BK451.out 0).trans rfl
     have hcz51_1 : wc.cell? ⟨gb451, 1, none⟩ = some (.slice A0_1 l0_1.length c0_1) := (blk_cell BK451.out 1).trans rfl
     have hfz51_0 := blk_frozen BK451.out 0
     have hfz51_1 := blk_frozen BK451.out 1
     have hnb52 := NB452_453.out
     have hnc52 := NB453_452.out
     have hnb53 := NB452_461.out
     have hnc53 := NB461_452.out
     have hcz54_0 : wc.cell? ⟨gb452, 0, none⟩ = some (.int .i64 a1_0) := (blk_cell BK452.out 0).trans rfl
     have hcz54_1 : wc.cell? ⟨gb452, 1, none⟩ = some (.int .i64 a1_1) := (blk_cell BK452.out 1).trans rfl
     have hcz54_2 : wc.cell? ⟨gb452, 2, none⟩ = some (.int .i64 a1_2) := (blk_cell BK452.out 2).trans rfl
     have hfz54_0 := blk_frozen BK452.out 0
     have hfz54_1 := blk_frozen BK452.out 1
     have hfz54_2 := blk_frozen BK452.out 2
     go_upto_block 0 with (first | (go_at_call 117; (with_reducible refine (spec_l12Made.calls kj5 _ _ l0_0 a1_0 a1_1 a1_2 t463 _ ?side1 ?side2 A46.out).mono ?_); (case side1 => repeat (first | exact (Kd.C_below HR0_0.out HB.out) | (with_reducible refine Kd.C_alloc ?_ _) | (with_reducible refine Kd.C_drewN ?_ _) | (with_reducible refine Kd.C_drew ?_))); (case side2 => exact HC0_0.out); rintro e w55 ⟨v464, rfl, ho0, hb⟩;have n0_:=zM (Kd.R_elder' (by exact HO_462000.out) (Kd.R_base ho0) hb);have n1_:=zM (Kd.S_elder' (by exact HO_462001.out) (Kd.R_base ho0) hb);have n2_:=zM (Kd.R_lower (Kd.R_new' ho0 (Kd.R_lt (by exact HO_462000.out))) (below_size (by repeat (first | (with_reducible first | exact HB.out | apply zB | apply zA | apply zC | refine zD ?_ GE451.out | refine zD ?_ GE452.out | refine zD ?_ GE453.out | refine zD ?_ GE461.out) | exact HB.out))));have n3_:=zM (blk_below (g := gb451) (o := .cells #[.slice A0_0 l0_0.length c0_0, .slice A0_1 l0_1.length c0_1] 52 (0, 0)) (by exact BK451.out) hb);have n4_:=zM (blk_below (g := gb452) (o := .cells #[.int .i64 a1_0, .int .i64 a1_1, .int .i64 a1_2] 65 (0, 0)) (by exact BK452.out) hb);have n5_:=zM (blk_below (g := gb453) (o := .cells #[.slice none 0 0, .slice none 0 0] 52 (0, 0)) (by exact BK453.out) hb);have n6_:=zM (blk_below (g := gb461) (o := .cells #[.slice Ao17 t455.length co17, .slice Ao22 t458.length co22] 52 (0, 0)) (by exact BK461.out) hb);have n7_:=zM (below_step (by repeat (first | (with_reducible first | exact HB.out | apply zB | apply zA | apply zC | refine zD ?_ GE451.out | refine zD ?_ GE452.out | refine zD ?_ GE453.out | refine zD ?_ GE461.out) | exact HB.out)) hb);clear HO_462000; clear HO_462001;clear BK451; clear BK452;clear BK453; clear BK461;clear HB; have HO_462000 := n0_; have HO_462001 := n1_; have HO465 := n2_; have BK451 := n3_; have BK452 := n4_; have BK453 := n5_; have BK461 := n6_; have HB := n7_; clear n0_ n1_ n2_ n3_ n4_ n5_ n6_ n7_; (try clear hb); (try clear hb2); (try clear hk); (try clear hi); (try clear ho0); obtain ⟨Ao56, co56, eo56⟩ := Kd.R_slice HO465.out; subst eo56; have hcz57_0 : w55.cell? ⟨gb451, 0, none⟩ = some (.slice A0_0 l0_0.length c0_0) := (blk_cell BK451.out 0).trans rfl; have hcz57_1 : w55.cell? ⟨gb451, 1, none⟩ = some (.slice A0_1 l0_1.length c0_1) := (blk_cell BK451.out 1).trans rfl; have hfz57_0 := blk_frozen BK451.out 0; have hfz57_1 := blk_frozen BK451.out 1))
     (try simp only [Act.put, zE, zF, zG])
     go_cut [9] (fun v9 wc => ∃ (kq : Nat) (x9_46 : Bool), v9 = .bool x9_46 ∧ Aside0 (spec_DeskDo_owned.j2 kq t463 x9_46 t455 t458 = some (r1, r2, r3)) ∧ Aside0 (kq ≤ kj5) ∧ Aside0 (Kd.R (Kd.int .i64) 3 wc w.heap.size (fun k_ => some k_ ≠ ((.slice Ao17 t455.length co17) : Value).ownBlock) (.slice Ao56 t463.length co56) t463) ∧ Aside0 (Kd.R (Kd.int .i64) 3 wc w.heap.size (fun k_ => some k_ ≠ ((.slice Ao56 t463.length co56) : Value).ownBlock) (.slice Ao17 t455.length co17) t455) ∧ Aside0 (Kd.S (Kd.slice 3 (Kd.int .i64)) 23 wc w.heap.size (fun k_ => some k_ ≠ ((.slice Ao56 t463.length co56) : Value).ownBlock ∧ some k_ ≠ ((.slice Ao17 t455.length co17) : Value).ownBlock) (.slice Ao22 t458.length co22) t458) ∧ Aside0 (wc.heap[gb451]? = some (.cells #[(.slice A0_0 l0_0.length c0_0), (.slice A0_1 l0_1.length c0_1)] 52 (0, 0))) ∧ Aside0 (wc.heap[gb452]? = some (.cells #[.int .i64 a1_0, .int .i64 a1_1, .int .i64 a1_2] 65 (0, 0))) ∧ Aside0 (wc.heap[gb453]? = some (.cells #[(.slice none 0 0), (.slice none 0 0)] 52 (0, 0))) ∧ Aside0 (wc.heap[gb461]? = some (.cells #[(.slice Ao17 t455.length co17), (.slice Ao22 t458.length co22)] 52 (0, 0))) ∧ Aside0 (Below w.heap.size w wc))
     case first =>
      have H := HC47.out
      clear HC47
      have H' := zM H
      clear H
      go_wp2
      repeat (go_quiet (fail); try go_wp2)
      go_loopg [9, 10] kj5 (fun kq v9 v10 w' => ∃ (x9_2 : Bool) (x10_2 : Int), v9 = .bool x9_2 ∧ v10 = .int .i64 x10_2 ∧ Aside0 (spec_DeskDo_owned.l0 kq t463 x9_2 x10_2 l0_0 l0_1 t455 t458 = some (r1, r2, r3)) ∧ Aside0 (kq ≤ kj5) ∧ Aside0 (Kd.R (Kd.int .i64) 3 w' w.heap.size (fun k_ => some k_ ≠ ((.slice Ao17 t455.length co17) : Value).ownBlock) (.slice Ao56 t463.length co56) t463) ∧ Aside0 (Kd.R (Kd.int .i64) 3 w' w.heap.size (fun k_ => some k_ ≠ ((.slice Ao56 t463.length co56) : Value).ownBlock) (.slice Ao17 t455.length co17) t455) ∧ Aside0 (Kd.S (Kd.slice 3 (Kd.int .i64)) 23 w' w.heap.size (fun k_ => some k_ ≠ ((.slice Ao56 t463.length co56) : Value).ownBlock ∧ some k_ ≠ ((.slice Ao17 t455.length co17) : Value).ownBlock) (.slice Ao22 t458.length co22) t458) ∧ Aside0 (w'.heap[gb451]? = some (.cells #[(.slice A0_0 l0_0.length c0_0), (.slice A0_1 l0_1.length c0_1)] 52 (0, 0))) ∧ Aside0 (w'.heap[gb452]? = some (.cells #[.int .i64 a1_0, .int .i64 a1_1, .int .i64 a1_2] 65 (0, 0))) ∧ Aside0 (w'.heap[gb453]? = some (.cells #[(.slice none 0 0), (.slice none 0 0)] 52 (0, 0))) ∧ Aside0 (w'.heap[gb461]? = some (.cells #[(.slice Ao17 t455.length co17), (.slice Ao22 t458.length co22)] 52 (0, 0))) ∧ Aside0 (Below w.heap.size w w'))
      case atStart => exact ⟨(((t463.length : Int) == (l0_0.length : Int))), (0), (by first | rfl | (simp; done) | (simp [*]; done)), (by first | rfl | (simp; done) | (simp [*]; done)), H', ⟨Nat.le_refl _⟩, ⟨by exact Kd.R_mono HO465.out (fun _ h=>h.2)⟩, ⟨by exact Kd.R_mono HO_462000.out (fun _ h=>h.2)⟩, ⟨by exact Kd.S_mono HO_462001.out (fun _ hk => ⟨hk.2, hk.1⟩)⟩, ⟨by exact BK451.out⟩, ⟨by exact BK452.out⟩, ⟨by exact BK453.out⟩, ⟨by exact BK461.out⟩, ⟨by repeat (first | (with_reducible first | exact HB.out | apply zB | apply zA | apply zC | refine zD ?_ GE451.out | refine zD ?_ GE452.out | refine zD ?_ GE453.out | refine zD ?_ GE461.out) | exact HB.out)⟩⟩
      case round =>
       clear H'
       try clear c1
       try clear c2
       try clear p2
       try clear c3
       try clear c4
       try clear p4
       try clear q4
       try clear hx4
       try clear c5
       try clear p6
       try clear c10
       try clear c11
       try clear c18
       try clear c19
       try clear c20
       try clear c23
       try clear c23b0
       try clear c23b1
       try clear c23b2
       try clear c24
       try clear c25
       try clear c26
       try clear c28
       try clear c29
       try clear c31
       try clear c32
       try clear c33
       try clear c35
       try clear c37
       try clear c37b0
       try clear c38
       try clear c38b0
       try clear c39
       try clear c40
       try clear c41
       try clear c43
       try clear c44
       try clear c46
       try clear p46
       try clear q46
       try clear hx46
       try clear c48
       try clear c49
       try clear c50
       try clear c52
       try clear c53
       try clear hcz12_0
       try clear hcz12_1
       try clear hcz14_0
       try clear hcz14_1
       try clear hcz21_0
       try clear hcz21_1
       try clear hcz27_0
       try clear hcz27_1
       try clear hcz27_2
       try clear hcz30_0
       try clear hcz30_1
       try clear hcz34_0
       try clear hcz34_1
       try clear hcz34_2
       try clear hcz42_0
       try clear hcz42_1
       try clear hcz45_0
       try clear hcz45_1
       try clear hcz51_0
       try clear hcz51_1
       try clear hcz54_0
       try clear hcz54_1
       try clear hcz54_2
       try clear hcz57_0
       try clear hcz57_1
       try clear hfz12_0
       try clear hfz12_1
       try clear hfz14_0
       try clear hfz14_1
       try clear hfz21_0
       try clear hfz21_1
       try clear hfz27_0
       try clear hfz27_1
       try clear hfz27_2
       try clear hfz30_0
       try clear hfz30_1
       try clear hfz34_0
       try clear hfz34_1
       try clear hfz34_2
       try clear hfz42_0
       try clear hfz42_1
       try clear hfz45_0
       try clear hfz45_1
       try clear hfz51_0
       try clear hfz51_1
       try clear hfz54_0
       try clear hfz54_1
       try clear hfz54_2
       try clear hfz57_0
       try clear hfz57_1
       try clear hx462_0
       try clear p2
       try clear p462
       try clear q462
       obtain ⟨x9_2, x10_2, rfl, rfl, HA, HK2, HO_8, HO_462000, HO_462001, BK451, BK452, BK453, BK461, HB⟩ := hrel
       cases gk with
       | zero => exact absurd HA.out (by simp [spec_DeskDo_owned.l0])
       | succ k2 =>
        have H := HA.out
        clear HA
        simp only [spec_DeskDo_owned.l0] at H
        by_cases c58 : x10_2 < (t463.length : Int)
        ·rw [if_pos c58] at H
         have c58b0 : decide (x10_2 < (t463.length : Int)) = true := decide_eq_true c58
         clear c58
         (first | rw [c58b0] | (simp only [i64_w, i32_w]; rw [c58b0]) | skip)
         by_cases c59 : x9_2 = true
         ·subst c59
          have H1 : (if 0 ≤ x10_2 then (if x10_2 < (l0_0.length : Int) then (spec_DeskDo_owned.l0 k2 t463 ((rd t463 x10_2) == (rd l0_0 x10_2)) (wrap64 (x10_2 + 1)) l0_0 l0_1 t455 t458) else (none)) else (none)) = some (r1, r2, r3) := by rw [if_pos rfl] at H; exact H
          clear H
          have H := H1
          clear H1
          by_cases c60 : 0 ≤ x10_2
          ·rw [if_pos c60] at H
           have c60b0 : decide (0 ≤ x10_2) = true := decide_eq_true c60
           clear c60
           by_cases c61 : x10_2 < (l0_0.length : Int)
           ·rw [if_pos c61] at H
            have c61b0 : decide (x10_2 < (l0_0.length : Int)) = true := decide_eq_true c61
            clear c61
            have H' := zM H
            clear H
            have p466 : 0 ≤ (x10_2 : Int) := of_decide_eq_true (by first | (with_reducible assumption) | assumption)
            have q466 : x10_2 < (t463.length : Int) := of_decide_eq_true (by first | (with_reducible assumption) | assumption)
            obtain ⟨ad466, e466, hx466_0⟩ := Kd.at_int (Kd.R_reads' HO_8.out).2.2 x10_2 p466 q466
            cases e466
            replace p466 := eq_true p466
            replace q466 := eq_true q466
            have hnb62 := NB451_452.out
            have hnc62 := NB452_451.out
            have hnb63 := NB451_453.out
            have hnc63 := NB453_451.out
            have hnb64 := NB451_461.out
            have hnc64 := NB461_451.out
            have hcz65_0 : wr.cell? ⟨gb451, 0, none⟩ = some (.slice A0_0 l0_0.length c0_0) := (blk_cell BK451.out 0).trans rfl
            have hcz65_1 : wr.cell? ⟨gb451, 1, none⟩ = some (.slice A0_1 l0_1.length c0_1) := (blk_cell BK451.out 1).trans rfl
            have hfz65_0 := blk_frozen BK451.out 0
            have hfz65_1 := blk_frozen BK451.out 1
            have p467 : 0 ≤ (x10_2 : Int) := of_decide_eq_true (by first | (with_reducible assumption) | assumption)
            have q467 : x10_2 < (l0_0.length : Int) := of_decide_eq_true (by first | (with_reducible assumption) | assumption)
            obtain ⟨ad467, e467, hx467_0⟩ := Kd.at_int HR0_0.out x10_2 p467 q467
            cases e467
            replace hx467_0 := (HB.out.cell (World.block_lt_of_cell? w _ hx467_0)).trans hx467_0
            replace p467 := eq_true p467
            replace q467 := eq_true q467
            go_wp2
            repeat (go_quiet (fail); try go_wp2)
            go_roundg k2
            case measure => have := HJ5.out; have := HK2.out; omega
            case rel => exact ⟨(((rd t463 x10_2) == (rd l0_0 x10_2))), (wrap64 (x10_2 + 1)), (by first | rfl | (simp; done) | (simp [*]; done)), (by first | rfl | (simp; done) | (simp [*]; done)), H', ⟨by have := HJ5.out; have := HK2.out; omega⟩, ⟨by exact HO_8.out⟩, ⟨by exact HO_462000.out⟩, ⟨by exact HO_462001.out⟩, ⟨by exact BK451.out⟩, ⟨by exact BK452.out⟩, ⟨by exact BK453.out⟩, ⟨by exact BK461.out⟩, ⟨by repeat (first | (with_reducible first | exact HB.out | apply zB | apply zA | apply zC | refine zD ?_ GE451.out | refine zD ?_ GE452.out | refine zD ?_ GE453.out | refine zD ?_ GE461.out) | exact HB.out)⟩⟩
           ·rw [if_neg c61] at H
            exact absurd H (by simp)
          ·rw [if_neg c60] at H
           exact absurd H (by simp)
         ·replace c59 := Bool.eq_false_iff.mpr c59
          subst c59
          have H1 : (spec_DeskDo_owned.j2 k2 t463 false t455 t458) = some (r1, r2, r3) := by rw [if_neg (show ¬ (false = true) by decide)] at H; exact H
          clear H
          have H := H1
          clear H1
          have H' := zM H
          clear H
          go_wp2
          repeat (go_quiet (fail); try go_wp2)
          go_meet
          case rel => exact ⟨_, (false), (by first | rfl | (simp; done) | (simp [*]; done)), H', ⟨by have := HJ5.out; have := HK2.out; first | omega | exact Nat.le_refl _⟩, ⟨by exact HO_8.out⟩, ⟨by exact HO_462000.out⟩, ⟨by exact HO_462001.out⟩, ⟨by exact BK451.out⟩, ⟨by exact BK452.out⟩, ⟨by exact BK453.out⟩, ⟨by exact BK461.out⟩, ⟨by repeat (first | (with_reducible first | exact HB.out | apply zB | apply zA | apply zC | refine zD ?_ GE451.out | refine zD ?_ GE452.out | refine zD ?_ GE453.out | refine zD ?_ GE461.out) | exact HB.out)⟩⟩
        ·rw [if_neg c58] at H
         have c58b0 : decide (x10_2 < (t463.length : Int)) = false := decide_eq_false c58
         clear c58
         (first | rw [c58b0] | (simp only [i64_w, i32_w]; rw [c58b0]) | skip)
         have H' := zM H
         clear H
         go_wp2
         repeat (go_quiet (fail); try go_wp2)
         go_meet
         case rel => exact ⟨_, (x9_2), (by first | rfl | (simp; done) | (simp [*]; done)), H', ⟨by have := HJ5.out; have := HK2.out; first | omega | exact Nat.le_refl _⟩, ⟨by exact HO_8.out⟩, ⟨by exact HO_462000.out⟩, ⟨by exact HO_462001.out⟩, ⟨by exact BK451.out⟩, ⟨by exact BK452.out⟩, ⟨by exact BK453.out⟩, ⟨by exact BK461.out⟩, ⟨by repeat (first | (with_reducible first | exact HB.out | apply zB | apply zA | apply zC | refine zD ?_ GE451.out | refine zD ?_ GE452.out | refine zD ?_ GE453.out | refine zD ?_ GE461.out) | exact HB.out)⟩⟩
     case rest =>
      clear HC47
      try clear c1
      try clear c2
      try clear p2
      try clear c3
      try clear c4
      try clear p4
      try clear q4
      try clear hx4
      try clear c5
      try clear c6
      try clear p6
      try clear c10
      try clear c11
      try clear c18
      try clear c19
      try clear c20
      try clear c23
      try clear c23b0
      try clear c23b1
      try clear c23b2
      try clear c24
      try clear c25
      try clear c26
      try clear c28
      try clear c29
      try clear c31
      try clear c32
      try clear c33
      try clear c35
      try clear c37
      try clear c37b0
      try clear c38
      try clear c38b0
      try clear c39
      try clear c40
      try clear c41
      try clear c43
      try clear c44
      try clear c46
      try clear p46
      try clear q46
      try clear hx46
      try clear c48
      try clear c49
      try clear c50
      try clear c52
      try clear c53
      try clear c58
      try clear c58b0
      try clear c59
      try clear c60
      try clear c60b0
      try clear c61
      try clear c61b0
      try clear c62
      try clear c63
      try clear c64
      try clear p64
      try clear hcz12_0
      try clear hcz12_1
      try clear hcz14_0
      try clear hcz14_1
      try clear hcz21_0
      try clear hcz21_1
      try clear hcz27_0
      try clear hcz27_1
      try clear hcz27_2
      try clear hcz30_0
      try clear hcz30_1
      try clear hcz34_0
      try clear hcz34_1
      try clear hcz34_2
      try clear hcz42_0
      try clear hcz42_1
      try clear hcz45_0
      try clear hcz45_1
      try clear hcz51_0
      try clear hcz51_1
      try clear hcz54_0
      try clear hcz54_1
      try clear hcz54_2
      try clear hcz57_0
      try clear hcz57_1
      try clear hcz65_0
      try clear hcz65_1
      try clear hfz12_0
      try clear hfz12_1
      try clear hfz14_0
      try clear hfz14_1
      try clear hfz21_0
      try clear hfz21_1
      try clear hfz27_0
      try clear hfz27_1
      try clear hfz27_2
      try clear hfz30_0
      try clear hfz30_1
      try clear hfz34_0
      try clear hfz34_1
      try clear hfz34_2
      try clear hfz42_0
      try clear hfz42_1
      try clear hfz45_0
      try clear hfz45_1
      try clear hfz51_0
      try clear hfz51_1
      try clear hfz54_0
      try clear hfz54_1
      try clear hfz54_2
      try clear hfz57_0
      try clear hfz57_1
      try clear hfz65_0
      try clear hfz65_1
      try clear hx462_0
      try clear hx466_0
      try clear hx467_0
      try clear p2
      try clear p4
      try clear p46
      try clear p462
      try clear p466
      try clear p467
      try clear p6
      try clear q4
      try clear q46
      try clear q462
      try clear q466
      try clear q467
      obtain ⟨kq, x9_46, rfl, HA, HJ46, HO_8, HO_462000, HO_462001, BK451, BK452, BK453, BK461, HB⟩ := hcut
      cases kq with
      | zero => exact absurd HA.out (by simp [spec_DeskDo_owned.j2])
      | succ kj46 =>
       have H := HA.out
       clear HA
       simp only [spec_DeskDo_owned.j2] at H
       have HC66 := zM H
       clear H
       go_upto_region 15 with (fail)
       repeat (go_quiet (fail); go_upto_region 15 with (fail))
       go_cut [76] (fun v76 wc => ∃ (kq : Nat) (x76_65 : Bool), v76 = .bool x76_65 ∧ Aside0 (spec_DeskDo_owned.j3 kq t463 x76_65 t455 t458 = some (r1, r2, r3)) ∧ Aside0 (kq ≤ kj46) ∧ Aside0 (Kd.R (Kd.int .i64) 3 wc w.heap.size (fun k_ => some k_ ≠ ((.slice Ao17 t455.length co17) : Value).ownBlock) (.slice Ao56 t463.length co56) t463) ∧ Aside0 (Kd.R (Kd.int .i64) 3 wc w.heap.size (fun k_ => some k_ ≠ ((.slice Ao56 t463.length co56) : Value).ownBlock) (.slice Ao17 t455.length co17) t455) ∧ Aside0 (Kd.S (Kd.slice 3 (Kd.int .i64)) 23 wc w.heap.size (fun k_ => some k_ ≠ ((.slice Ao56 t463.length co56) : Value).ownBlock ∧ some k_ ≠ ((.slice Ao17 t455.length co17) : Value).ownBlock) (.slice Ao22 t458.length co22) t458) ∧ Aside0 (wc.heap[gb451]? = some (.cells #[(.slice A0_0 l0_0.length c0_0), (.slice A0_1 l0_1.length c0_1)] 52 (0, 0))) ∧ Aside0 (wc.heap[gb452]? = some (.cells #[.int .i64 a1_0, .int .i64 a1_1, .int .i64 a1_2] 65 (0, 0))) ∧ Aside0 (wc.heap[gb453]? = some (.cells #[(.slice none 0 0), (.slice none 0 0)] 52 (0, 0))) ∧ Aside0 (wc.heap[gb461]? = some (.cells #[(.slice Ao17 t455.length co17), (.slice Ao22 t458.length co22)] 52 (0, 0))) ∧ Aside0 (Below w.heap.size w wc))
       case first =>
        have H := HC66.out
        clear HC66
        by_cases c67 : x9_46 = true
        ·subst c67
         have H1 : (spec_DeskDo_owned.j3 kj46 t463 true t455 t458) = some (r1, r2, r3) := by rw [if_pos rfl] at H; exact H
         clear H
         have H := H1
         clear H1
         have H' := zM H
         clear H
         go_wp2
         repeat (go_quiet (fail); try go_wp2)
         go_meet
         case rel => exact ⟨_, (true), (by first | rfl | (simp; done) | (simp [*]; done)), H', ⟨by have := HJ5.out; have := HJ46.out; first | omega | exact Nat.le_refl _⟩, ⟨by exact HO_8.out⟩, ⟨by exact HO_462000.out⟩, ⟨by exact HO_462001.out⟩, ⟨by exact BK451.out⟩, ⟨by exact BK452.out⟩, ⟨by exact BK453.out⟩, ⟨by exact BK461.out⟩, ⟨by repeat (first | (with_reducible first | exact HB.out | apply zB | apply zA | apply zC | refine zD ?_ GE451.out | refine zD ?_ GE452.out | refine zD ?_ GE453.out | refine zD ?_ GE461.out) | exact HB.out)⟩⟩
        ·replace c67 := Bool.eq_false_iff.mpr c67
         subst c67
         have H1 : ((spec_TreeOk.f kj46 t463).bind fun t468 => (spec_DeskDo_owned.j3 kj46 t463 (!t468) t455 t458)) = some (r1, r2, r3) := by rw [if_neg (show ¬ (false = true) by decide)] at H; exact H
         clear H
         have H := H1
         clear H1
         replace H := Option.bind_eq_some_iff.mp H
         obtain ⟨t468, A680, H⟩ := H
         replace H : (spec_DeskDo_owned.j3 kj46 t463 (!t468) t455 t458) = some (r1, r2, r3) := H
         have A68 := zM A680
         clear A680
         have H' := zM H
         clear H
         go_wp2_with (first | (go_at_call 74; (with_reducible refine (spec_TreeOk.calls kj46 _ _ t463 t468 _ ?side1 ?side2 A68.out).mono ?_); (case side1 => repeat (first | exact (Kd.R_reads' HO_8.out).2.2 | (with_reducible refine Kd.C_alloc ?_ _) | (with_reducible refine Kd.C_drewN ?_ _) | (with_reducible refine Kd.C_drew ?_))); (case side2 => exact (Kd.R_reads' HO_8.out).2.1); rintro e w' ⟨rfl, ⟨nd, rfl⟩⟩; (try first | exact ⟨rfl, _, World.drewN_drewN _ _ _⟩ | exact ⟨rfl, _, Eq.trans (World.drewN_drewN _ _ _) (congrArg (World.drewN _) (Nat.add_assoc _ _ _))⟩)))
         go_meet
         case rel => exact ⟨_, (!t468), (by first | rfl | (simp; done) | (simp [*]; done)), H', ⟨by have := HJ5.out; have := HJ46.out; first | omega | exact Nat.le_refl _⟩, ⟨by exact HO_8.out⟩, ⟨by exact HO_462000.out⟩, ⟨by exact HO_462001.out⟩, ⟨by exact BK451.out⟩, ⟨by exact BK452.out⟩, ⟨by exact BK453.out⟩, ⟨by exact BK461.out⟩, ⟨by repeat (first | (with_reducible first | exact HB.out | apply zB | apply zA | apply zC | refine zD ?_ GE451.out | refine zD ?_ GE452.out | refine zD ?_ GE453.out | refine zD ?_ GE461.out) | exact HB.out)⟩⟩
       case rest =>
        clear HC66
        try clear c1
        try clear c2
        try clear p2
        try clear c3
        try clear c4
        try clear p4
        try clear q4
        try clear hx4
        try clear c5
        try clear c6
        try clear p6
        try clear c10
        try clear c11
        try clear c18
        try clear c19
        try clear c20
        try clear c23
        try clear c23b0
        try clear c23b1
        try clear c23b2
        try clear c24
        try clear c25
        try clear c26
        try clear c28
        try clear c29
        try clear c31
        try clear c32
        try clear c33
        try clear c35
        try clear c37
        try clear c37b0
        try clear c38
        try clear c38b0
        try clear c39
        try clear c40
        try clear c41
        try clear c43
        try clear c44
        try clear c46
        try clear p46
        try clear q46
        try clear hx46
        try clear c48
        try clear c49
        try clear c50
        try clear c52
        try clear c53
        try clear c58
        try clear c58b0
        try clear c59
        try clear c60
        try clear c60b0
        try clear c61
        try clear c61b0
        try clear c62
        try clear c63
        try clear c64
        try clear p64
        try clear c67
        try clear hcz12_0
        try clear hcz12_1
        try clear hcz14_0
        try clear hcz14_1
        try clear hcz21_0
        try clear hcz21_1
        try clear hcz27_0
        try clear hcz27_1
        try clear hcz27_2
        try clear hcz30_0
        try clear hcz30_1
        try clear hcz34_0
        try clear hcz34_1
        try clear hcz34_2
        try clear hcz42_0
        try clear hcz42_1
        try clear hcz45_0
        try clear hcz45_1
        try clear hcz51_0
        try clear hcz51_1
        try clear hcz54_0
        try clear hcz54_1
        try clear hcz54_2
        try clear hcz57_0
        try clear hcz57_1
        try clear hcz65_0
        try clear hcz65_1
        try clear hfz12_0
        try clear hfz12_1
        try clear hfz14_0
        try clear hfz14_1
        try clear hfz21_0
        try clear hfz21_1
        try clear hfz27_0
        try clear hfz27_1
        try clear hfz27_2
        try clear hfz30_0
        try clear hfz30_1
        try clear hfz34_0
        try clear hfz34_1
        try clear hfz34_2
        try clear hfz42_0
        try clear hfz42_1
        try clear hfz45_0
        try clear hfz45_1
        try clear hfz51_0
        try clear hfz51_1
        try clear hfz54_0
        try clear hfz54_1
        try clear hfz54_2
        try clear hfz57_0
        try clear hfz57_1
        try clear hfz65_0
        try clear hfz65_1
        try clear hx462_0
        try clear hx466_0
        try clear hx467_0
        try clear p2
        try clear p4
        try clear p46
        try clear p462
        try clear p466
        try clear p467
        try clear p6
        try clear p64
        try clear q4
        try clear q46
        try clear q462
        try clear q466
        try clear q467
        obtain ⟨kq, x76_65, rfl, HA, HJ65, HO_8, HO_462000, HO_462001, BK451, BK452, BK453, BK461, HB⟩ := hcut
        cases kq with
        | zero => exact absurd HA.out (by simp [spec_DeskDo_owned.j3])
        | succ kj65 =>
         have H := HA.out
         clear HA
         simp only [spec_DeskDo_owned.j3] at H
         by_cases c69 : x76_65 = true
         ·subst c69
          have H1 : (some (t455, t458, false)) = some (r1, r2, r3) := by rw [if_pos rfl] at H; exact H
          clear H
          have H := H1
          clear H1
          simp only [Option.some.injEq, Prod.mk.injEq] at H
          obtain ⟨rfl, rfl, rfl⟩ := H
          have hnb70 := NB461_451.out
          have hnc70 := NB451_461.out
          have hnb71 := NB461_452.out
          have hnc71 := NB452_461.out
          have hnb72 := NB461_453.out
          have hnc72 := NB453_461.out
          have hcz73_0 : wc.cell? ⟨gb461, 0, none⟩ = some (.slice Ao17 t455.length co17) := (blk_cell BK461.out 0).trans rfl
          have hcz73_1 : wc.cell? ⟨gb461, 1, none⟩ = some (.slice Ao22 t458.length co22) := (blk_cell BK461.out 1).trans rfl
          have hfz73_0 := blk_frozen BK461.out 0
          have hfz73_1 := blk_frozen BK461.out 1
          have hnb74 := NB453_451.out
          have hnc74 := NB451_453.out
          have hnb75 := NB453_452.out
          have hnc75 := NB452_453.out
          have hcz76_0 : wc.cell? ⟨gb453, 0, none⟩ = some (.slice none 0 0) := (blk_cell BK453.out 0).trans rfl
          have hcz76_1 : wc.cell? ⟨gb453, 1, none⟩ = some (.slice none 0 0) := (blk_cell BK453.out 1).trans rfl
          have hfz76_0 := blk_frozen BK453.out 0
          have hfz76_1 := blk_frozen BK453.out 1
          go_wp2
          repeat (go_quiet (fail); try go_wp2)
          refine bodyPost_ret (results_ct rfl _ _ gb453 52 #[.slice Ao17 t455.length co17, .slice Ao22 t458.length co22] (0, 0) _ rfl (by refine blk_put (cs := #[.slice Ao17 t455.length co17, .slice none 0 0]) ?_ 1 _ rfl; refine blk_put (cs := #[.slice none 0 0, .slice none 0 0]) ?_ 0 _ rfl; exact BK453.out) Try.underlying52 rfl (by kernel_rfl)) rfl ?_
          exact ⟨_, _, by first | rfl | (simp [errW_none, errW_some] <;> rfl) | (simp [*, errW_none, errW_some] <;> rfl), by exact Kd.R_mono (Kd.R_far (p := ⟨gb453, 1, none⟩) (Kd.R_far (p := ⟨gb453, 0, none⟩) (Kd.R_types HO_462000.out BK453.out (by decide)) (fun _ h=>h.2) (.slice Ao17 t455.length co17)) (fun _ h=>h.2) (.slice Ao22 t458.length co22)) (fun _ hk => trivial), by exact Kd.S_mono (Kd.S_far (p := ⟨gb453, 1, none⟩) (Kd.S_far (p := ⟨gb453, 0, none⟩) (Kd.S_types HO_462001.out BK453.out (by decide)) (fun _ h=>h.2) (.slice Ao17 t455.length co17)) (fun _ h=>h.2) (.slice Ao22 t458.length co22)) (fun _ h=>h.1.2), by repeat (first | (with_reducible first | exact HB.out | apply zB | apply zA | apply zC | refine zD ?_ GE451.out | refine zD ?_ GE452.out | refine zD ?_ GE453.out | refine zD ?_ GE461.out) | exact HB.out)⟩
         ·replace c69 := Bool.eq_false_iff.mpr c69
          subst c69
          have H1 : (if t458.length < 5864062014805 then ((some (t458 ++ [t455] : List (List Int))).bind fun y469 => (if (y469.length : Int) > 8 then (none) else ((some (([] : List Int) : List Int)).bind fun y478 => (if y478.length + t463.length < 17592186044416 then (some ((y478 ++ t463), y469, true)) else (none))))) else (none)) = some (r1, r2, r3) := by rw [if_neg (show ¬ (false = true) by decide)] at H; exact H
          clear H
          have H := H1
          clear H1
          by_cases c77 : t458.length < 5864062014805
          ·rw [if_pos c77] at H
           have LMc77 := zM c77
           clear c77
           obtain ⟨y469, hy469⟩ : ∃ y_ : List (List Int), y_ = (t458 ++ [t455]) := ⟨_, rfl⟩
           replace H : (if (y469.length : Int) > 8 then (none) else ((some (([] : List Int) : List Int)).bind fun y478 => (if y478.length + t463.length < 17592186044416 then (some ((y478 ++ t463), y469, true)) else (none)))) = some (r1, r2, r3) := by first | (rw [hy469]; with_reducible exact H) | (have H2_ := (Option.bind_some _ _).symm.trans H; rw [hy469]; with_reducible exact H2_) | (have H2_ := (Option.bind_some _ _).symm.trans H; with_reducible exact H2_) | with_reducible exact H | (rw [hy469]; exact H) | exact H
           have Ny469 := zM hy469
           clear hy469
           by_cases c78 : (y469.length : Int) > 8
           ·rw [if_pos c78] at H
            exact absurd H (by simp)
           ·rw [if_neg c78] at H
            have c78b0 : decide (8 < (y469.length : Int)) = false := decide_eq_false c78
            have c78b1 : decide (8 < y469.length) = false := decide_eq_false (by omega)
            clear c78
            obtain ⟨y478, hy478⟩ : ∃ y_ : List Int, y_ = (([] : List Int)) := ⟨_, rfl⟩
            replace H : (if y478.length + t463.length < 17592186044416 then (some ((y478 ++ t463), y469, true)) else (none)) = some (r1, r2, r3) := by first | (rw [hy478]; with_reducible exact H) | (have H2_ := (Option.bind_some _ _).symm.trans H; rw [hy478]; with_reducible exact H2_) | (have H2_ := (Option.bind_some _ _).symm.trans H; with_reducible exact H2_) | with_reducible exact H | (rw [hy478]; exact H) | exact H
            have Ny478 := zM hy478
            clear hy478
            by_cases c95 : y478.length + t463.length < 17592186044416
            ·rw [if_pos c95] at H
             have LMc95 := zM c95
             clear c95
             obtain ⟨y481, hy481⟩ : ∃ y_ : List Int, y_ = (y478 ++ t463) := ⟨_, rfl⟩
             replace H : (some (y481, y469, true)) = some (r1, r2, r3) := by first | (rw [hy481]; with_reducible exact H) | (have H2_ := (Option.bind_some _ _).symm.trans H; rw [hy481]; with_reducible exact H2_) | (have H2_ := (Option.bind_some _ _).symm.trans H; with_reducible exact H2_) | with_reducible exact H | (rw [hy481]; exact H) | exact H
             have Ny481 := zM hy481
             clear hy481
             simp only [Option.some.injEq, Prod.mk.injEq] at H
             obtain ⟨rfl, rfl, rfl⟩ := H
             have hnb96 := NB461_451.out
             have hnc96 := NB451_461.out
             have hnb97 := NB461_452.out
             have hnc97 := NB452_461.out
             have hnb98 := NB461_453.out
             have hnc98 := NB453_461.out
             have hcz99_0 : wc.cell? ⟨gb461, 0, none⟩ = some (.slice Ao17 t455.length co17) := (blk_cell BK461.out 0).trans rfl
             have hcz99_1 : wc.cell? ⟨gb461, 1, none⟩ = some (.slice Ao22 t458.length co22) := (blk_cell BK461.out 1).trans rfl
             have hfz99_0 := blk_frozen BK461.out 0
             have hfz99_1 := blk_frozen BK461.out 1
             go_wp2_with (first | ((with_reducible refine gate_builtin (b := .append) (xs := #[.tmp 79, .tmp 82]) rfl ?_); (try (refine gate_guard (by rfl) ?_; dsimp only)); at_builtin; refine Kd.S_append (Kd.slice 3 (Kd.int .i64)) (w0 := w) w.heap.size rfl (.tmp 79) (.tmp 82) 37 23 (.slice none 0 0) 24 rfl Try.underlying37 info23 rfl (by decide) (by omega) (.slice Ao22 t458.length co22) t458 t455 [.slice Ao17 t455.length co17] (fun k_ => some k_ ≠ (.slice Ao56 t463.length co56 : Value).ownBlock) (fun k_ => some k_ = (.slice Ao17 t455.length co17 : Value).ownBlock) rfl rfl ?aP (fun k_ hk_ => ((Kd.R_mono (ok' := fun k_ => ((fun k_ => some k_ ≠ (.slice Ao56 t463.length co56 : Value).ownBlock)) k_ ∧ some k_ ≠ (.slice Ao22 t458.length co22 : Value).ownBlock) (Kd.R_apart' (HO_462000.out) (Kd.S_typed HO_462001.out) (by decide)) (fun k_ hk => ⟨hk.1, hk.2⟩))).1 k_ hk_.symm) ?aF ?aO ?aB ?aS ?aL ?_; (case aP => exact Kd.M_row (Kd.R_mono (Kd.R_tight rfl (Kd.R_mono (ok' := fun k_ => ((fun k_ => some k_ ≠ (.slice Ao56 t463.length co56 : Value).ownBlock)) k_ ∧ some k_ ≠ (.slice Ao22 t458.length co22 : Value).ownBlock) (Kd.R_apart' (HO_462000.out) (Kd.S_typed HO_462001.out) (by decide)) (fun k_ hk => ⟨hk.1, hk.2⟩))) (fun _ h_ => h_))); (case aB => exact (by repeat (first | (with_reducible first | exact HB.out | apply zB | apply zA | apply zC | refine zD ?_ GE451.out | refine zD ?_ GE452.out | refine zD ?_ GE453.out | refine zD ?_ GE461.out) | exact HB.out))); (case aF => exact (fun k_ hk => Kd.fresh' (Kd.R_lt (by exact HO_8.out)) k_ hk)); (case aO => exact (by exact Kd.S_mono HO_462001.out (fun k_ hk => ⟨hk.1, fun e_ => hk.2 e_⟩))); (case aS => exact (below_size (by repeat (first | (with_reducible first | exact HB.out | apply zB | apply zA | apply zC | refine zD ?_ GE451.out | refine zD ?_ GE452.out | refine zD ?_ GE453.out | refine zD ?_ GE461.out) | exact HB.out)))); (case aL => have := LMc77.out; omega); intro v470 w100 ho hb hg hat; rw [← Ny469.out] at ho;have n0_:=zM (Kd.R_over' (by exact HO_8.out) (Kd.S_typed (by exact HO_462001.out)) (by decide) hg);have n1_:=zM (blk_grown (g := gb451) (o := .cells #[.slice A0_0 l0_0.length c0_0, .slice A0_1 l0_1.length c0_1] 52 (0, 0)) (by exact BK451.out) hg (Kd.S_ne HO_462001.out BK451.out (by decide)));have n2_:=zM (blk_grown (g := gb452) (o := .cells #[.int .i64 a1_0, .int .i64 a1_1, .int .i64 a1_2] 65 (0, 0)) (by exact BK452.out) hg (Kd.S_ne HO_462001.out BK452.out (by decide)));have n3_:=zM (blk_grown (g := gb453) (o := .cells #[.slice none 0 0, .slice none 0 0] 52 (0, 0)) (by exact BK453.out) hg (Kd.S_ne HO_462001.out BK453.out (by decide)));have n4_:=zM (blk_grown (g := gb461) (o := .cells #[.slice Ao17 t455.length co17, .slice Ao22 t458.length co22] 52 (0, 0)) (by exact BK461.out) hg (Kd.S_ne HO_462001.out BK461.out (by decide)));have n5_:=zM (hb);have n6_:=zM (ho);clear HO_8; clear BK451;clear BK452; clear BK453;clear BK461; clear HB;clear HO_462001; clear HO_462000; have HO_8 := n0_; have BK451 := n1_; have BK452 := n2_; have BK453 := n3_; have BK461 := n4_; have HB := n5_; have HO471 := n6_; clear n0_ n1_ n2_ n3_ n4_ n5_ n6_; clear ho hb hg hat; obtain ⟨Ao101, co101, eo101⟩ := Kd.S_slice HO471.out; subst eo101; have hcz102_0 : w100.cell? ⟨gb461, 0, none⟩ = some (.slice Ao17 t455.length co17) := (blk_cell BK461.out 0).trans rfl; have hcz102_1 : w100.cell? ⟨gb461, 1, none⟩ = some (.slice Ao22 t458.length co22) := (blk_cell BK461.out 1).trans rfl; have hfz102_0 := blk_frozen BK461.out 0; have hfz102_1 := blk_frozen BK461.out 1) | ((with_reducible refine gate_dst (N := 93) rfl ?_); (try (refine gate_guard (by rfl) ?_; dsimp only)); refine Kd.R_lit (Kd.int .i64) _ 3 ?hg (N := 93) ?hd (xs := ([] : List Int)) (inner := []) (ok := fun _ => True) (okp := fun _ => True) ?hr ?hp (fun _ hk => hk) trivial (Below.refl _ _) (Nat.le_refl _) (by simp) ?_; (case hd => rfl);(case hg => rfl);(case hr => first | (go_simp; done) | (go_simp; rfl)); (case hp => exact (Reps.none _ _)); intro v479 w103 ho104 hb hg_ hnew_; clear hg_ hnew_; (first | rw [← Ny478.out] at ho104 | (simp only [Int.reduceToNat] at ho104; rw [← Ny478.out] at ho104));have n0_:=zM (Kd.R_elder' (by exact (Kd.R_mono (Kd.R_far (p := ⟨gb461, 1, none⟩) (Kd.R_types HO_8.out BK461.out (by decide)) (fun _ h=>h.2) (.slice Ao101 y469.length co101)) (fun _ h_ => h_.1))) (Kd.R_base ho104) hb);have n1_:=zM (Kd.S_elder' (by exact (Kd.S_mono (Kd.S_far (p := ⟨gb461, 1, none⟩) (Kd.S_types HO471.out BK461.out (by decide)) (fun _ h=>h.2) (.slice Ao101 y469.length co101)) (fun _ h_ => h_.1))) (Kd.R_base ho104) hb);have n2_:=zM (Kd.R_lower (Kd.R_new' ho104 (Kd.R_lt (by exact (Kd.R_mono (Kd.R_far (p := ⟨gb461, 1, none⟩) (Kd.R_types HO_8.out BK461.out (by decide)) (fun _ h=>h.2) (.slice Ao101 y469.length co101)) (fun _ h_ => h_.1))))) (below_size (by repeat (first | (with_reducible first | exact HB.out | apply zB | apply zA | apply zC | refine zD ?_ GE451.out | refine zD ?_ GE452.out | refine zD ?_ GE453.out | refine zD ?_ GE461.out) | exact HB.out))));have n3_:=zM (blk_below (g := gb451) (o := .cells #[.slice A0_0 l0_0.length c0_0, .slice A0_1 l0_1.length c0_1] 52 (0, 0)) (by refine blk_far ?_ NB451_461.out _; exact BK451.out) hb);have n4_:=zM (blk_below (g := gb452) (o := .cells #[.int .i64 a1_0, .int .i64 a1_1, .int .i64 a1_2] 65 (0, 0)) (by refine blk_far ?_ NB452_461.out _; exact BK452.out) hb);have n5_:=zM (blk_below (g := gb453) (o := .cells #[.slice none 0 0, .slice none 0 0] 52 (0, 0)) (by refine blk_far ?_ NB453_461.out _; exact BK453.out) hb);have n6_:=zM (blk_below (g := gb461) (o := .cells #[.slice Ao17 t455.length co17, .slice Ao101 y469.length co101] 52 (0, 0)) (by refine blk_put (cs := #[.slice Ao17 t455.length co17, .slice Ao22 t458.length co22]) ?_ 1 _ rfl; exact BK461.out) hb);have n7_:=zM (below_step (by repeat (first | (with_reducible first | exact HB.out | apply zB | apply zA | apply zC | refine zD ?_ GE451.out | refine zD ?_ GE452.out | refine zD ?_ GE453.out | refine zD ?_ GE461.out) | exact HB.out)) hb);clear HO_8; clear HO471;clear BK451; clear BK452;clear BK453; clear BK461;clear HB; have HO_8 := n0_; have HO471 := n1_; have HO480 := n2_; have BK451 := n3_; have BK452 := n4_; have BK453 := n5_; have BK461 := n6_; have HB := n7_; clear n0_ n1_ n2_ n3_ n4_ n5_ n6_ n7_; clear hb ho104) | ((with_reducible refine gate_builtin (b := .append) (xs := #[.tmp 93, .tmp 94]) rfl ?_); (try (refine gate_guard (by rfl) ?_; dsimp only)); at_builtin; refine Kd.R_append_rows (Kd.int .i64) (w0 := w) w.heap.size rfl (.tmp 93) (.tmp 94) 23 3 (.int .i64 0) 8 rfl Try.underlying23 info3 rfl (by decide) (by omega) v479 y478 t463 _ _ _ (fun k_ => some k_ ≠ (.slice Ao56 t463.length co56 : Value).ownBlock) (fun _ => False) rfl rfl ?aO ?aR (fun _ _ h => h) (fun _ h => h.elim) ?aF ?aB ?aS ?aL ?_; (case aR => repeat (first | exact (Kd.R_reads' HO_8.out).2.2 | (with_reducible refine Kd.C_alloc ?_ _) | (with_reducible refine Kd.C_drewN ?_ _) | (with_reducible refine Kd.C_drew ?_))); (case aB => exact (by repeat (first | (with_reducible first | exact HB.out | apply zB | apply zA | apply zC | refine zD ?_ GE451.out | refine zD ?_ GE452.out | refine zD ?_ GE453.out | refine zD ?_ GE461.out) | exact HB.out))); (case aF => exact (fun k_ hk => Kd.fresh' (Kd.R_lt (by exact HO_8.out)) k_ hk)); (case aO => exact (by exact Kd.R_mono HO480.out (fun _ h=>h.2))); (case aS => exact (below_size (by repeat (first | (with_reducible first | exact HB.out | apply zB | apply zA | apply zC | refine zD ?_ GE451.out | refine zD ?_ GE452.out | refine zD ?_ GE453.out | refine zD ?_ GE461.out) | exact HB.out)))); (case aL => have := LMc95.out; omega); intro v482 w105 ho hb hg hat; rw [← Ny481.out] at ho;have n0_:=zM (Kd.R_after (ok := (fun _ => True)) (by exact Kd.R_mono HO_8.out (fun _ hk => ⟨trivial, hk.2⟩)) hg hat);have n1_:=zM (blk_grown (g := gb451) (o := .cells #[.slice A0_0 l0_0.length c0_0, .slice A0_1 l0_1.length c0_1] 52 (0, 0)) (by exact BK451.out) hg (Kd.R_ne HO480.out BK451.out (by decide)));have n2_:=zM (blk_grown (g := gb452) (o := .cells #[.int .i64 a1_0, .int .i64 a1_1, .int .i64 a1_2] 65 (0, 0)) (by exact BK452.out) hg (Kd.R_ne HO480.out BK452.out (by decide)));have n3_:=zM (blk_grown (g := gb453) (o := .cells #[.slice none 0 0, .slice none 0 0] 52 (0, 0)) (by exact BK453.out) hg (Kd.R_ne HO480.out BK453.out (by decide)));have n4_:=zM (blk_grown (g := gb461) (o := .cells #[.slice Ao17 t455.length co17, .slice Ao101 y469.length co101] 52 (0, 0)) (by exact BK461.out) hg (Kd.R_ne HO480.out BK461.out (by decide)));have n5_:=zM (Kd.S_after (ok := (fun k_ => some k_ ≠ (.slice Ao56 t463.length co56 : Value).ownBlock)) (by exact HO471.out) hg hat);have n6_:=zM (hb);have n7_:=zM (ho);clear HO_8; clear BK451;clear BK452; clear BK453;clear BK461; clear HO471;clear HB; clear HO480; have HO_8 := n0_; have BK451 := n1_; have BK452 := n2_; have BK453 := n3_; have BK461 := n4_; have HO471 := n5_; have HB := n6_; have HO483 := n7_; clear n0_ n1_ n2_ n3_ n4_ n5_ n6_ n7_; clear ho hb hg hat; obtain ⟨Ao106, co106, eo106⟩ := Kd.R_slice HO483.out; subst eo106; have hcz107_0 : w105.cell? ⟨gb461, 0, none⟩ = some (.slice Ao17 t455.length co17) := (blk_cell BK461.out 0).trans rfl; have hcz107_1 : w105.cell? ⟨gb461, 1, none⟩ = some (.slice Ao101 y469.length co101) := (blk_cell BK461.out 1).trans rfl; have hfz107_0 := blk_frozen BK461.out 0; have hfz107_1 := blk_frozen BK461.out 1; have hnb108 := NB453_451.out; have hnc108 := NB451_453.out; have hnb109 := NB453_452.out; have hnc109 := NB452_453.out; have hcz110_0 : w105.cell? ⟨gb453, 0, none⟩ = some (.slice none 0 0) := (blk_cell BK453.out 0).trans rfl; have hcz110_1 : w105.cell? ⟨gb453, 1, none⟩ = some (.slice none 0 0) := (blk_cell BK453.out 1).trans rfl; have hfz110_0 := blk_frozen BK453.out 0; have hfz110_1 := blk_frozen BK453.out 1))
             refine bodyPost_ret (results_ct rfl _ _ gb453 52 #[.slice Ao106 y481.length co106, .slice Ao101 y469.length co101] (0, 0) _ rfl (by refine blk_put (cs := #[.slice Ao106 y481.length co106, .slice none 0 0]) ?_ 1 _ rfl; refine blk_put (cs := #[.slice none 0 0, .slice none 0 0]) ?_ 0 _ rfl; refine blk_far ?_ NB453_461.out _; exact BK453.out) Try.underlying52 rfl (by kernel_rfl)) rfl ?_
             exact ⟨_, _, by first | rfl | (simp [errW_none, errW_some] <;> rfl) | (simp [*, errW_none, errW_some] <;> rfl), by exact Kd.R_mono (Kd.R_far (p := ⟨gb453, 1, none⟩) (Kd.R_far (p := ⟨gb453, 0, none⟩) (Kd.R_far (p := ⟨gb461, 0, none⟩) (Kd.R_types (Kd.R_types HO483.out BK461.out (by decide)) BK453.out (by decide)) (fun _ h=>h.1.2) (.slice Ao106 y481.length co106)) (fun _ h=>h.2) (.slice Ao106 y481.length co106)) (fun _ h=>h.2) (.slice Ao101 y469.length co101)) (fun _ hk => trivial), by exact Kd.S_mono (Kd.S_far (p := ⟨gb453, 1, none⟩) (Kd.S_far (p := ⟨gb453, 0, none⟩) (Kd.S_far (p := ⟨gb461, 0, none⟩) (Kd.S_types (Kd.S_types HO471.out BK461.out (by decide)) BK453.out (by decide)) (fun _ h=>h.1.2) (.slice Ao106 y481.length co106)) (fun _ h=>h.2) (.slice Ao106 y481.length co106)) (fun _ h=>h.2) (.slice Ao101 y469.length co101)) (fun _ h=>h.1.1.2), by repeat (first | (with_reducible first | exact HB.out | apply zB | apply zA | apply zC | refine zD ?_ GE451.out | refine zD ?_ GE452.out | refine zD ?_ GE453.out | refine zD ?_ GE461.out) | exact HB.out)⟩
            ·rw [if_neg c95] at H
             exact absurd H (by simp)
          ·rw [if_neg c77] at H
           exact absurd H (by simp)
 ·replace c4 := Bool.eq_false_iff.mpr c4
  subst c4
  have H1 : (some (([] : List Int), ([] : List (List Int)), false)) = some (r1, r2, r3) := by rw [if_neg (show ¬ (false = true) by decide)] at H; exact H
  clear H
  have H := H1
  clear H1
  simp only [Option.some.injEq, Prod.mk.injEq] at H
  obtain ⟨rfl, rfl, rfl⟩ := H
  go_enter Try.func59, Try.ntmps59
  go_wp2_with (first | ((with_reducible refine gate_dst (N := 2) rfl ?_); (try (refine gate_guard (by rfl) ?_; dsimp only)); refine box_event ?hg (N := 2) ?hd (cs := #[.slice A0_0 l0_0.length c0_0, .slice A0_1 l0_1.length c0_1]) (t := 52) ?hr ?_; (case hd => rfl);(case hg => rfl);(case hr => first | (go_simp; done) | (go_simp; rfl)); intro gb451 hg w111 hbox hb;have n0_:=zM (below_step (by repeat (first | (with_reducible first | exact HB.out | apply zB | apply zA | apply zC) | exact HB.out)) hb);have n1_:=zM (hbox);have n2_:=zM ((by rw [hg]; exact (below_size (by repeat (first | (with_reducible first | exact HB.out | apply zB | apply zA | apply zC) | exact HB.out))) : w.heap.size ≤ gb451));have n3_:=zM ((by rw [hg]; exact (below_size (by repeat (first | (with_reducible first | exact HB.out | apply zB | apply zA | apply zC) | exact HB.out))) : w.heap.size ≤ gb451));clear HB; have HB := n0_; have BK451 := n1_; have GW451 := n2_; have GE451 := n3_; clear n0_ n1_ n2_ n3_; clear hb hbox hg) | ((with_reducible refine gate_dst (N := 3) rfl ?_); (try (refine gate_guard (by rfl) ?_; dsimp only)); refine box_event ?hg (N := 3) ?hd (cs := #[.int .i64 a1_0, .int .i64 a1_1, .int .i64 a1_2]) (t := 65) ?hr ?_; (case hd => rfl);(case hg => rfl);(case hr => first | (go_simp; done) | (go_simp; rfl)); intro gb452 hg w112 hbox hb;have n0_:=zM (blk_below (g := gb451) (o := .cells #[.slice A0_0 l0_0.length c0_0, .slice A0_1 l0_1.length c0_1] 52 (0, 0)) (by exact BK451.out) hb);have n1_:=zM (below_step (by repeat (first | (with_reducible first | exact HB.out | apply zB | apply zA | apply zC | refine zD ?_ GE451.out) | exact HB.out)) hb);have n2_:=zM (hbox);have n3_:=zM ((by rw [hg]; exact (below_size (by repeat (first | (with_reducible first | exact HB.out | apply zB | apply zA | apply zC | refine zD ?_ GE451.out) | exact HB.out))) : w.heap.size ≤ gb452));have n4_:=zM ((by rw [hg]; exact (below_size (by repeat (first | (with_reducible first | exact HB.out | apply zB | apply zA | apply zC | refine zD ?_ GE451.out) | exact HB.out))) : w.heap.size ≤ gb452));have n5_:=zM ((by rw [hg]; exact Nat.ne_of_lt (blk_lt (g := gb451) (o := .cells #[.slice A0_0 l0_0.length c0_0, .slice A0_1 l0_1.length c0_1] 52 (0, 0)) (by exact BK451.out)) : gb451 ≠ gb452));have n6_:=zM ((by rw [hg]; exact Nat.ne_of_gt (blk_lt (g := gb451) (o := .cells #[.slice A0_0 l0_0.length c0_0, .slice A0_1 l0_1.length c0_1] 52 (0, 0)) (by exact BK451.out)) : gb452 ≠ gb451));clear BK451; clear HB; have BK451 := n0_; have HB := n1_; have BK452 := n2_; have GW452 := n3_; have GE452 := n4_; have NB451_452 := n5_; have NB452_451 := n6_; clear n0_ n1_ n2_ n3_ n4_ n5_ n6_; clear hb hbox hg) | ((with_reducible refine gate_dst (N := 4) rfl ?_); (try (refine gate_guard (by rfl) ?_; dsimp only)); refine box_event ?hg (N := 4) ?hd (cs := #[.slice none 0 0, .slice none 0 0]) (t := 52) ?hr ?_; (case hd => rfl);(case hg => rfl);(case hr => first | (go_simp; done) | (go_simp; rfl)); intro gb453 hg w113 hbox hb;have n0_:=zM (blk_below (g := gb451) (o := .cells #[.slice A0_0 l0_0.length c0_0, .slice A0_1 l0_1.length c0_1] 52 (0, 0)) (by exact BK451.out) hb);have n1_:=zM (blk_below (g := gb452) (o := .cells #[.int .i64 a1_0, .int .i64 a1_1, .int .i64 a1_2] 65 (0, 0)) (by exact BK452.out) hb);have n2_:=zM (below_step (by repeat (first | (with_reducible first | exact HB.out | apply zB | apply zA | apply zC | refine zD ?_ GE451.out | refine zD ?_ GE452.out) | exact HB.out)) hb);have n3_:=zM (hbox);have n4_:=zM ((by rw [hg]; exact (below_size (by repeat (first | (with_reducible first | exact HB.out | apply zB | apply zA | apply zC | refine zD ?_ GE451.out | refine zD ?_ GE452.out) | exact HB.out))) : w.heap.size ≤ gb453));have n5_:=zM ((by rw [hg]; exact (below_size (by repeat (first | (with_reducible first | exact HB.out | apply zB | apply zA | apply zC | refine zD ?_ GE451.out | refine zD ?_ GE452.out) | exact HB.out))) : w.heap.size ≤ gb453));have n6_:=zM ((by rw [hg]; exact Nat.ne_of_lt (blk_lt (g := gb451) (o := .cells #[.slice A0_0 l0_0.length c0_0, .slice A0_1 l0_1.length c0_1] 52 (0, 0)) (by exact BK451.out)) : gb451 ≠ gb453));have n7_:=zM ((by rw [hg]; exact Nat.ne_of_gt (blk_lt (g := gb451) (o := .cells #[.slice A0_0 l0_0.length c0_0, .slice A0_1 l0_1.length c0_1] 52 (0, 0)) (by exact BK451.out)) : gb453 ≠ gb451));have n8_:=zM ((by rw [hg]; exact Nat.ne_of_lt (blk_lt (g := gb452) (o := .cells #[.int .i64 a1_0, .int .i64 a1_1, .int .i64 a1_2] 65 (0, 0)) (by exact BK452.out)) : gb452 ≠ gb453));have n9_:=zM ((by rw [hg]; exact Nat.ne_of_gt (blk_lt (g := gb452) (o := .cells #[.int .i64 a1_0, .int .i64 a1_1, .int .i64 a1_2] 65 (0, 0)) (by exact BK452.out)) : gb453 ≠ gb452));clear BK451; clear BK452;clear HB; have BK451 := n0_; have BK452 := n1_; have HB := n2_; have BK453 := n3_; have GW453 := n4_; have GE453 := n5_; have NB451_453 := n6_; have NB453_451 := n7_; have NB452_453 := n8_; have NB453_452 := n9_; clear n0_ n1_ n2_ n3_ n4_ n5_ n6_ n7_ n8_ n9_; clear hb hbox hg; have hnb114 := NB451_452.out; have hnc114 := NB452_451.out; have hnb115 := NB451_453.out; have hnc115 := NB453_451.out; have hcz116_0 : w113.cell? ⟨gb451, 0, none⟩ = some (.slice A0_0 l0_0.length c0_0) := (blk_cell BK451.out 0).trans rfl; have hcz116_1 : w113.cell? ⟨gb451, 1, none⟩ = some (.slice A0_1 l0_1.length c0_1) := (blk_cell BK451.out 1).trans rfl; have hfz116_0 := blk_frozen BK451.out 0; have hfz116_1 := blk_frozen BK451.out 1) | (go_at_call 55; (with_reducible refine (spec_DeskOk.calls k _ _ l0_0 _ _ l0_1 false _ ?side1 ?side2 ?side3 ?side4 A3.out).mono ?_); (case side1 => repeat (first | exact (Kd.C_below HR0_0.out HB.out) | (with_reducible refine Kd.C_alloc ?_ _) | (with_reducible refine Kd.C_drewN ?_ _) | (with_reducible refine Kd.C_drew ?_))); (case side2 => exact HC0_0.out); (case side3 => repeat (first | exact (Kd.C_below HR0_1.out HB.out) | (with_reducible refine Kd.C_alloc ?_ _) | (with_reducible refine Kd.C_drewN ?_ _) | (with_reducible refine Kd.C_drew ?_))); (case side4 => exact HC0_1.out); rintro e w117 ⟨rfl, hb⟩;have n0_:=zM (blk_below (g := gb451) (o := .cells #[.slice A0_0 l0_0.length c0_0, .slice A0_1 l0_1.length c0_1] 52 (0, 0)) (by exact BK451.out) hb);have n1_:=zM (blk_below (g := gb452) (o := .cells #[.int .i64 a1_0, .int .i64 a1_1, .int .i64 a1_2] 65 (0, 0)) (by exact BK452.out) hb);have n2_:=zM (blk_below (g := gb453) (o := .cells #[.slice none 0 0, .slice none 0 0] 52 (0, 0)) (by exact BK453.out) hb);have n3_:=zM (below_step (by repeat (first | (with_reducible first | exact HB.out | apply zB | apply zA | apply zC | refine zD ?_ GE451.out | refine zD ?_ GE452.out | refine zD ?_ GE453.out) | exact HB.out)) hb);clear BK451; clear BK452;clear BK453; clear HB; have BK451 := n0_; have BK452 := n1_; have BK453 := n2_; have HB := n3_; clear n0_ n1_ n2_ n3_; (try clear hb); (try clear hb2); (try clear hk); (try clear hi); have hnb118 := NB453_452.out; have hnc118 := NB452_453.out; have hcz119_0 : w117.cell? ⟨gb453, 0, none⟩ = some (.slice none 0 0) := (blk_cell BK453.out 0).trans rfl; have hcz119_1 : w117.cell? ⟨gb453, 1, none⟩ = some (.slice none 0 0) := (blk_cell BK453.out 1).trans rfl; have hfz119_0 := blk_frozen BK453.out 0; have hfz119_1 := blk_frozen BK453.out 1))
  refine bodyPost_ret (results_ct rfl _ _ gb453 52 #[.slice none 0 0, .slice none 0 0] (0, 0) _ rfl (by refine blk_put (cs := #[.slice none 0 0, .slice none 0 0]) ?_ 1 _ rfl; refine blk_put (cs := #[.slice none 0 0, .slice none 0 0]) ?_ 0 _ rfl; exact BK453.out) Try.underlying52 rfl (by kernel_rfl)) rfl ?_
  exact ⟨_, _, by first | rfl | (simp [errW_none, errW_some] <;> rfl) | (simp [*, errW_none, errW_some] <;> rfl), by first | exact Kd.R_nil _ _ _ _ _ | exact Kd.N_nil _ _ _ _ _ | exact Kd.V_nil _ _ _ _ _ | exact Kd.Q_nil _ _ _ _ _ | exact Kd.S_nil _ _ _ _ _, by first | exact Kd.S_nil _ _ _ _ _ | exact Kd.N_nil _ _ _ _ _ | exact Kd.V_nil _ _ _ _ _ | exact Kd.Q_nil _ _ _ _ _ | exact Kd.R_nil _ _ _ _ _, by repeat (first | (with_reducible first | exact HB.out | apply zB | apply zA | apply zC | refine zD ?_ GE451.out | refine zD ?_ GE452.out | refine zD ?_ GE453.out) | exact HB.out)⟩

end Go.Proofs.Ytidimndhnagfeaa.LI
