/- Printed by a program of this session (wip/lp/lp.py) out of the translation: functions with the same answers as the Go code, and their contracts; no conditions beyond those that each theorem names. -/
import Derived.Test.YtopfhdhdpnenpaaDoorLFx0
import Derived.Test.YtopfhdhdpnenpaaDoorLFx4
namespace Go.Proofs.YtopfhdhdpnenpaaDoor.LF
open Go.RowKit Go.Proofs.YtopfhdhdpnenpaaDoorV.PrintWords Go.Proofs.YtopfhdhdpnenpaaDoorV.PrintLast Go.Proofs.YtopfhdhdpnenpaaDoorV.PrintMore
attribute [local go_sem] max2_int min2_int max_two min_two max_three min_three max_four min_four   -- for this text's walks alone
set_option linter.unusedVariables false
set_option linter.unusedSimpArgs false

/-! ### spec_l20Deed: function 35 -/
def spec_l20Deed.j0 : Nat → List Int → Int → Int → Int → Int → Option (Int × Int × Int × Int)
 | 0, _, _, _, _, _ => none
 | k + 1, x1000, x1001, x139000, x139001, x139002 => (spec_l20Rd_odd.f k x1000 x1001 40).bind fun bt147 => (if bt147.1 = true then ((some (([(-1), 9, 100] : List Int) : List Int)).bind fun y149 => ((spec_l20Rd_pick.f k x1000 bt147.2 3).bind fun bt152 => (if 0 ≤ bt152.1 then (if bt152.1 < (y149.length : Int) then (some (x139000, x139001, rd y149 bt152.1, bt152.2)) else (none)) else (none)))) else (some (x139000, x139001, x139002, bt147.2)))
def spec_l20Deed.f (k : Nat) (s0_0 : List Int) (s0_1 : Int) (l1 : List Int) : Option (Int × Int × Int × Int) := (some (([0, 0, 1, 1, 2, 3, 4, 5] : List Int) : List Int)).bind fun y130 => ((spec_l20Rd_pick.f k s0_0 s0_1 8).bind fun bt133 => (if 0 ≤ bt133.1 then (if bt133.1 < (y130.length : Int) then ((spec_l20Rd_pick.f k s0_0 bt133.2 60).bind fun bt136 => (if (wrap64 ((rd y130 bt133.1) + (wrap64 ((wrap64 (Int.tdiv bt136.1 59)) * 6)))) = 0 then ((spec_l20Rd_pick.f k s0_0 bt136.2 (mx (l1.length : Int) 1)).bind fun bt139 => ((spec_l20Rd_pick.f k s0_0 bt139.2 (wrap64 ((l1.length : Int) + 1))).bind fun bt141 => (spec_l20Deed.j0 k s0_0 bt141.2 (wrap64 ((rd y130 bt133.1) + (wrap64 ((wrap64 (Int.tdiv bt136.1 59)) * 6)))) (wrap64 (1 + bt139.1)) bt141.1))) else (if (wrap64 ((rd y130 bt133.1) + (wrap64 ((wrap64 (Int.tdiv bt136.1 59)) * 6)))) = 1 then ((spec_l20Rd_pick.f k s0_0 bt136.2 (wrap64 ((l1.length : Int) + 1))).bind fun bt143 => ((spec_l20Rd_pick.f k s0_0 bt143.2 9).bind fun bt145 => (spec_l20Deed.j0 k s0_0 bt145.2 (wrap64 ((rd y130 bt133.1) + (wrap64 ((wrap64 (Int.tdiv bt136.1 59)) * 6)))) (wrap64 (bt143.1 + (wrap64 (Int.tdiv bt145.1 8)))) 0))) else (spec_l20Deed.j0 k s0_0 bt136.2 (wrap64 ((rd y130 bt133.1) + (wrap64 ((wrap64 (Int.tdiv bt136.1 59)) * 6)))) 0 0)))) else (none)) else (none)))
theorem spec_l20Deed.mono_l : ∀ k, (∀ y0 y1 y2 y3 y4, LeO (spec_l20Deed.j0 k y0 y1 y2 y3 y4) (spec_l20Deed.j0 (k + 1) y0 y1 y2 y3 y4))
 | 0 => fun _ _ _ _ _ r h => by simp [spec_l20Deed.j0] at h
 | k + 1 => by
  have ih0 := spec_l20Deed.mono_l k
  ·intro y0 y1 y2 y3 y4
   unfold spec_l20Deed.j0
   repeat' first
   | (with_reducible exact ih0 _ _ _ _ _)
   | (with_reducible exact spec_l20Rd_odd.mono _ _ _ _)
   | (with_reducible exact spec_l20Rd_pick.mono _ _ _ _)
   | (with_reducible exact LeO.refl _)
   | (with_reducible exact LeO.none _)
   | (with_reducible refine LeO.ite ?_ ?_)
   | (with_reducible refine LeO.bind ?_ (fun _ => ?_))
   | refine LeO.ite ?_ ?_
   | refine LeO.bind ?_ (fun _ => ?_)
theorem spec_l20Deed.mono : ∀ a0 a1 a2 k, LeO (spec_l20Deed.f k a0 a1 a2) (spec_l20Deed.f (k + 1) a0 a1 a2) := by
 intro a0 a1 a2 k
 have ih0 := spec_l20Deed.mono_l k
 unfold spec_l20Deed.f
 repeat' first
   | (with_reducible exact ih0 _ _ _ _ _)
   | (with_reducible exact spec_l20Rd_odd.mono _ _ _ _)
   | (with_reducible exact spec_l20Rd_pick.mono _ _ _ _)
   | (with_reducible exact LeO.refl _)
   | (with_reducible exact LeO.none _)
   | (with_reducible refine LeO.ite ?_ ?_)
   | (with_reducible refine LeO.bind ?_ (fun _ => ?_))
   | refine LeO.ite ?_ ?_
   | refine LeO.bind ?_ (fun _ => ?_)
def spec_l20Deed.T1 : Bool × List (List Nat × List Nat) := (true, [([], []), ([], []), ([1], [1]), ([0, 2], [0, 2]), ([3], [3]), ([], []), ([5, 2], [5]), ([6], [6]), ([7], [7]), ([4, 8], [4, 8]), ([9], [9]), ([], []), ([11, 10, 6, 0, 1, 2, 3, 4, 5, 6, 7, 8, 9, 10, 11], [10, 11])])
def spec_l20Deed.B1 : List Nat := [0, 0, 2, 7, 15, 0, 38, 102, 230, 511, 1023, 0, 4095]
theorem spec_l20Deed.tab1 : rtab .any (opsOf Tryd.f35 1) = spec_l20Deed.T1 := by kernel_rfl
theorem spec_l20Deed.bits1 : waitsOk spec_l20Deed.T1.2 spec_l20Deed.B1 = true := by kernel_rfl
set_option maxHeartbeats 8000000 in
set_option maxRecDepth 100000 in
theorem spec_l20Deed.calls (k : Nat) (g : Nat) (s0_0 : List Int) (s0_1 : Int) (A1 : Option Addr) (c1 : Nat) (l1 : List Int) (r1 : Int) (r2 : Int) (r3 : Int) (r4 : Int) (w0 w : World) (hI : Z73 w0 w g s0_0 s0_1) (hB : Below w0.heap.size w0 w) (hr1 : Kd.C (Kd.int .i64) w A1 l1.length l1) (hc1 : l1.length ≤ c1) (hf1 : ∀ ad, A1 = some ad → 0 < l1.length → ad.block ≠ g) (h : spec_l20Deed.f k s0_0 s0_1 l1 = some (r1, r2, r3, r4)) :
  Calls Tryd.prog 35 #[.pointer (some ⟨g, 0, none⟩), .slice A1 l1.length c1] w fun e w' => e = .returned (.agg #[.int .i64 r1, .int .i64 r2, .int .i64 r3]) ∧ Z73 w0 w' g s0_0 r4 ∧ Below w0.heap.size w0 w' ∧ KeepBut w w' g none := by
 have hu25 := Tryd.underlying25
 have HR1 := zM hr1
 have HC1 := zM hc1
 clear hr1 hc1
 have HI0 := zM hI
 have HK := zM (KeepBut.refl w g none)
 have HL := zM hB.size
 clear hI
 have HW0 := zM hB.size
 have HB := zM hB
 clear hB
 have H : ((some (([0, 0, 1, 1, 2, 3, 4, 5] : List Int) : List Int)).bind fun y130 => ((spec_l20Rd_pick.f k s0_0 s0_1 8).bind fun bt133 => (if 0 ≤ bt133.1 then (if bt133.1 < (y130.length : Int) then ((spec_l20Rd_pick.f k s0_0 bt133.2 60).bind fun bt136 => (if (wrap64 ((rd y130 bt133.1) + (wrap64 ((wrap64 (Int.tdiv bt136.1 59)) * 6)))) = 0 then ((spec_l20Rd_pick.f k s0_0 bt136.2 (mx (l1.length : Int) 1)).bind fun bt139 => ((spec_l20Rd_pick.f k s0_0 bt139.2 (wrap64 ((l1.length : Int) + 1))).bind fun bt141 => (spec_l20Deed.j0 k s0_0 bt141.2 (wrap64 ((rd y130 bt133.1) + (wrap64 ((wrap64 (Int.tdiv bt136.1 59)) * 6)))) (wrap64 (1 + bt139.1)) bt141.1))) else (if (wrap64 ((rd y130 bt133.1) + (wrap64 ((wrap64 (Int.tdiv bt136.1 59)) * 6)))) = 1 then ((spec_l20Rd_pick.f k s0_0 bt136.2 (wrap64 ((l1.length : Int) + 1))).bind fun bt143 => ((spec_l20Rd_pick.f k s0_0 bt143.2 9).bind fun bt145 => (spec_l20Deed.j0 k s0_0 bt145.2 (wrap64 ((rd y130 bt133.1) + (wrap64 ((wrap64 (Int.tdiv bt136.1 59)) * 6)))) (wrap64 (bt143.1 + (wrap64 (Int.tdiv bt145.1 8)))) 0))) else (spec_l20Deed.j0 k s0_0 bt136.2 (wrap64 ((rd y130 bt133.1) + (wrap64 ((wrap64 (Int.tdiv bt136.1 59)) * 6)))) 0 0)))) else (none)) else (none)))) = some (r1, r2, r3, r4) := h
 clear h
 obtain ⟨y130, hy130⟩ : ∃ y_ : List Int, y_ = (([0, 0, 1, 1, 2, 3, 4, 5] : List Int)) := ⟨_, rfl⟩
 replace H : ((spec_l20Rd_pick.f k s0_0 s0_1 8).bind fun bt133 => (if 0 ≤ bt133.1 then (if bt133.1 < (y130.length : Int) then ((spec_l20Rd_pick.f k s0_0 bt133.2 60).bind fun bt136 => (if (wrap64 ((rd y130 bt133.1) + (wrap64 ((wrap64 (Int.tdiv bt136.1 59)) * 6)))) = 0 then ((spec_l20Rd_pick.f k s0_0 bt136.2 (mx (l1.length : Int) 1)).bind fun bt139 => ((spec_l20Rd_pick.f k s0_0 bt139.2 (wrap64 ((l1.length : Int) + 1))).bind fun bt141 => (spec_l20Deed.j0 k s0_0 bt141.2 (wrap64 ((rd y130 bt133.1) + (wrap64 ((wrap64 (Int.tdiv bt136.1 59)) * 6)))) (wrap64 (1 + bt139.1)) bt141.1))) else (if (wrap64 ((rd y130 bt133.1) + (wrap64 ((wrap64 (Int.tdiv bt136.1 59)) * 6)))) = 1 then ((spec_l20Rd_pick.f k s0_0 bt136.2 (wrap64 ((l1.length : Int) + 1))).bind fun bt143 => ((spec_l20Rd_pick.f k s0_0 bt143.2 9).bind fun bt145 => (spec_l20Deed.j0 k s0_0 bt145.2 (wrap64 ((rd y130 bt133.1) + (wrap64 ((wrap64 (Int.tdiv bt136.1 59)) * 6)))) (wrap64 (bt143.1 + (wrap64 (Int.tdiv bt145.1 8)))) 0))) else (spec_l20Deed.j0 k s0_0 bt136.2 (wrap64 ((rd y130 bt133.1) + (wrap64 ((wrap64 (Int.tdiv bt136.1 59)) * 6)))) 0 0)))) else (none)) else (none))) = some (r1, r2, r3, r4) := by first | (rw [hy130]; with_reducible exact H) | (have H2_ := (Option.bind_some _ _).symm.trans H; rw [hy130]; with_reducible exact H2_) | (have H2_ := (Option.bind_some _ _).symm.trans H; with_reducible exact H2_) | with_reducible exact H | (rw [hy130]; exact H) | exact H
 have Ny130 := zM hy130
 clear hy130
 replace H := Option.bind_eq_some_iff.mp H
 obtain ⟨⟨t133, t134⟩, A30, H⟩ := H
 replace H : (if 0 ≤ t133 then (if t133 < (y130.length : Int) then ((spec_l20Rd_pick.f k s0_0 t134 60).bind fun bt136 => (if (wrap64 ((rd y130 t133) + (wrap64 ((wrap64 (Int.tdiv bt136.1 59)) * 6)))) = 0 then ((spec_l20Rd_pick.f k s0_0 bt136.2 (mx (l1.length : Int) 1)).bind fun bt139 => ((spec_l20Rd_pick.f k s0_0 bt139.2 (wrap64 ((l1.length : Int) + 1))).bind fun bt141 => (spec_l20Deed.j0 k s0_0 bt141.2 (wrap64 ((rd y130 t133) + (wrap64 ((wrap64 (Int.tdiv bt136.1 59)) * 6)))) (wrap64 (1 + bt139.1)) bt141.1))) else (if (wrap64 ((rd y130 t133) + (wrap64 ((wrap64 (Int.tdiv bt136.1 59)) * 6)))) = 1 then ((spec_l20Rd_pick.f k s0_0 bt136.2 (wrap64 ((l1.length : Int) + 1))).bind fun bt143 => ((spec_l20Rd_pick.f k s0_0 bt143.2 9).bind fun bt145 => (spec_l20Deed.j0 k s0_0 bt145.2 (wrap64 ((rd y130 t133) + (wrap64 ((wrap64 (Int.tdiv bt136.1 59)) * 6)))) (wrap64 (bt143.1 + (wrap64 (Int.tdiv bt145.1 8)))) 0))) else (spec_l20Deed.j0 k s0_0 bt136.2 (wrap64 ((rd y130 t133) + (wrap64 ((wrap64 (Int.tdiv bt136.1 59)) * 6)))) 0 0)))) else (none)) else (none)) = some (r1, r2, r3, r4) := H
 have A3 := zM A30
 clear A30
 by_cases c4 : 0 ≤ t133
 ·rw [if_pos c4] at H
  have c4b0 : decide (0 ≤ t133) = true := decide_eq_true c4
  clear c4
  by_cases c5 : t133 < (y130.length : Int)
  ·rw [if_pos c5] at H
   have c5b0 : decide (t133 < (y130.length : Int)) = true := decide_eq_true c5
   clear c5
   replace H := Option.bind_eq_some_iff.mp H
   obtain ⟨⟨t136, t137⟩, A60, H⟩ := H
   replace H : (if (wrap64 ((rd y130 t133) + (wrap64 ((wrap64 (Int.tdiv t136 59)) * 6)))) = 0 then ((spec_l20Rd_pick.f k s0_0 t137 (mx (l1.length : Int) 1)).bind fun bt139 => ((spec_l20Rd_pick.f k s0_0 bt139.2 (wrap64 ((l1.length : Int) + 1))).bind fun bt141 => (spec_l20Deed.j0 k s0_0 bt141.2 (wrap64 ((rd y130 t133) + (wrap64 ((wrap64 (Int.tdiv t136 59)) * 6)))) (wrap64 (1 + bt139.1)) bt141.1))) else (if (wrap64 ((rd y130 t133) + (wrap64 ((wrap64 (Int.tdiv t136 59)) * 6)))) = 1 then ((spec_l20Rd_pick.f k s0_0 t137 (wrap64 ((l1.length : Int) + 1))).bind fun bt143 => ((spec_l20Rd_pick.f k s0_0 bt143.2 9).bind fun bt145 => (spec_l20Deed.j0 k s0_0 bt145.2 (wrap64 ((rd y130 t133) + (wrap64 ((wrap64 (Int.tdiv t136 59)) * 6)))) (wrap64 (bt143.1 + (wrap64 (Int.tdiv bt145.1 8)))) 0))) else (spec_l20Deed.j0 k s0_0 t137 (wrap64 ((rd y130 t133) + (wrap64 ((wrap64 (Int.tdiv t136 59)) * 6)))) 0 0))) = some (r1, r2, r3, r4) := H
   have A6 := zM A60
   clear A60
   have HC7 := zM H
   clear H
   go_enter Tryd.func35, Tryd.ntmps35
   try go_wp2_with (first | ((with_reducible refine gate_dst (N := 4) rfl ?_); refine box_event ?hg (N := 4) ?hd (cs := #[.int .i64 0, .int .i64 0, .int .i64 0]) (t := 25) ?hr ?_; (case hd => rfl); (case hg => rfl); (case hr => first | (go_simp; done) | (go_simp; rfl)); intro gb129 hg w8 hbox hb; have n0_ := zM (Z73.below (by repeat (first | (with_reducible first | exact HI0.out | apply Z73.alloc | apply Z73.drewN | apply Z73.drew | apply Z73.set_1) | exact HI0.out)) hb); have n1_ := zM (KeepBut.trans (by repeat (first | (with_reducible first | exact HK.out | apply zK | apply keep_drewN | apply keep_drew | apply keep_alloc) | exact HK.out)) (KeepBut.of_below hb g none) (.inl rfl)); have n2_ := zM (below_step (by repeat (first | (with_reducible first | exact HB.out | apply zB | apply zA | apply zC | refine zD ?_ (Z73.ge HI0.out)) | exact HB.out)) hb); have n3_ := zM (hbox); have n4_ := zM ((by rw [hg]; exact (keep_size (w := w) (g := g) (row := none) (by repeat (first | (with_reducible first | exact HK.out | apply zK | apply keep_drewN | apply keep_drew | apply keep_alloc) | exact HK.out))) : w.heap.size ≤ gb129)); have n5_ := zM ((Nat.le_trans HW0.out (by rw [hg]; exact (keep_size (w := w) (g := g) (row := none) (by repeat (first | (with_reducible first | exact HK.out | apply zK | apply keep_drewN | apply keep_drew | apply keep_alloc) | exact HK.out))) : w.heap.size ≤ gb129) : w0.heap.size ≤ gb129)); have n6_ := zM ((by rw [hg]; exact Nat.ne_of_lt (Z73.lt (show Z73 w0 _ g s0_0 s0_1 from by repeat (first | (with_reducible first | exact HI0.out | apply Z73.alloc | apply Z73.drewN | apply Z73.drew | apply Z73.set_1) | exact HI0.out))) : g ≠ gb129)); have n7_ := zM ((by rw [hg]; exact Nat.ne_of_gt (Z73.lt (show Z73 w0 _ g s0_0 s0_1 from by repeat (first | (with_reducible first | exact HI0.out | apply Z73.alloc | apply Z73.drewN | apply Z73.drew | apply Z73.set_1) | exact HI0.out))) : gb129 ≠ g)); clear HI0; clear HK; clear HB; have HI0 := n0_; have HK := n1_; have HB := n2_; have BK129 := n3_; have GW129 := n4_; have GE129 := n5_; have NB0_129 := n6_; have NB129_0 := n7_; clear n0_ n1_ n2_ n3_ n4_ n5_ n6_ n7_; clear hb hbox hg))
   have pi135 : (0 ≤ (t133 : Int)) = True := eq_true (of_decide_eq_true (by first | (with_reducible assumption) | assumption))
   have qi135 : (t133 < (y130.length : Int)) = True := eq_true (of_decide_eq_true (by first | (with_reducible assumption) | assumption))
   have n0_ := zM (blk_drew BK129.out)
   have n1_ := zM (Z73.drew HI0.out)
   have n2_ := zM (keep_drew HK.out)
   have n3_ := zM (zC HB.out)
   clear BK129
   clear HI0
   clear HK
   clear HB
   have BK129 := n0_
   have HI0 := n1_
   have HK := n2_
   have HB := n3_
   clear n0_ n1_ n2_ n3_
   refine start_ (n := 13) (S := fun w' => True) (ds := []) #[false, false, false, false, false, false, false, false, false, false, false, false, false] (by kernel_rfl) rfl rfl trivial (fun hHeld => ?_); refine with_tabW spec_l20Deed.tab1 spec_l20Deed.bits1 (fun HT_ HW_ => ?_)
   generalize w8.drew = w9 at BK129 HI0 HK HB hHeld ⊢
   refine pure_ (i := 1) (N := some 7) (v := ?_) (a' := ?_) #[false, true, false, false, false, false, false, false, false, false, false, false, false] rfl rfl (any_of HT_.out (by kernel_rfl)) (fun _ _ _ h => h) (Or.inl ⟨by rfl, ?_⟩) ?_ ?_
   rotate_left
   ·intro w'
    go_simp
    with_reducible rfl
   rotate_left
   ·simp only [Act.put, zE, zF, zG, i64_w, i32_w]
    rfl
   refine pure_ (i := 5) (N := some 11) (v := ?_) (a' := ?_) #[false, true, false, false, false, true, false, false, false, false, false, false, false] rfl rfl (any_of HT_.out (by kernel_rfl)) (fun _ _ _ h => h) (Or.inl ⟨by rfl, ?_⟩) ?_ ?_
   rotate_left
   ·intro w'
    go_simp
    with_reducible rfl
   rotate_left
   ·simp only [Act.put, zE, zF, zG, i64_w, i32_w]
    rfl
   refine join_ (σ := Value × Addr × Nat) 1 #[true, true, true, true, true, true, true, true, true, true, true, true, false] (fun s_ => [(6, s_.1), (8, .int .i64 t133), (10, .int .i64 (rd y130 t133)), (12, .int .i64 t136), (5, .pointer (some ⟨s_.2.2, 0, none⟩)), (9, .pointer (some (s_.2.1.add (t133).toNat))), (13, .int .i64 (wrap64 (Int.tdiv t136 59))), (14, .int .i64 (wrap64 ((wrap64 (Int.tdiv t136 59)) * 6))), (15, .int .i64 (wrap64 ((rd y130 t133) + (wrap64 ((wrap64 (Int.tdiv t136 59)) * 6))))), (16, .agg #[.int .i64 (wrap64 ((rd y130 t133) + (wrap64 ((wrap64 (Int.tdiv t136 59)) * 6)))), .int .i64 0, .int .i64 0])]) (fun s_ w' => (Kd.R (Kd.int .i64) 3 w' w.heap.size (fun _ => True) s_.1 y130) ∧ (∃ c_, (s_.1 : Value) = .slice (some s_.2.1) y130.length c_) ∧ (w'.heap[gb129]? = some (.cells #[.int .i64 0, .int .i64 0, .int .i64 0] 25 (0, 0))) ∧ (w'.heap[s_.2.2]? = some (.cells #[.int .i64 0, .int .i64 0, .int .i64 0] 25 (0, 0))) ∧ (w.heap.size ≤ s_.2.2) ∧ (w0.heap.size ≤ s_.2.2) ∧ (g ≠ s_.2.2) ∧ (s_.2.2 ≠ g) ∧ (gb129 ≠ s_.2.2) ∧ (s_.2.2 ≠ gb129) ∧ (Z73 w0 w' g s0_0 t137) ∧ (KeepBut w w' g none) ∧ (Below w0.heap.size w0 w')) ?_ ?_
   rotate_left
   ·intro hJ0_2_4_6_11
    refine join_ (σ := Value × Addr) 2 #[true, true, true, true, true, true, true, true, true, true, true, false, false] (fun s_ => [(6, s_.1), (8, .int .i64 t133), (10, .int .i64 (rd y130 t133)), (12, .int .i64 t136), (9, .pointer (some (s_.2.add (t133).toNat))), (13, .int .i64 (wrap64 (Int.tdiv t136 59))), (14, .int .i64 (wrap64 ((wrap64 (Int.tdiv t136 59)) * 6))), (15, .int .i64 (wrap64 ((rd y130 t133) + (wrap64 ((wrap64 (Int.tdiv t136 59)) * 6))))), (16, .agg #[.int .i64 (wrap64 ((rd y130 t133) + (wrap64 ((wrap64 (Int.tdiv t136 59)) * 6)))), .int .i64 0, .int .i64 0])]) (fun s_ w' => (Kd.R (Kd.int .i64) 3 w' w.heap.size (fun _ => True) s_.1 y130) ∧ (∃ c_, (s_.1 : Value) = .slice (some s_.2) y130.length c_) ∧ (w'.heap[gb129]? = some (.cells #[.int .i64 0, .int .i64 0, .int .i64 0] 25 (0, 0))) ∧ (Z73 w0 w' g s0_0 t137) ∧ (KeepBut w w' g none) ∧ (Below w0.heap.size w0 w')) ?_ ?_
    rotate_left
    ·intro hJ0_2_4_6
     refine join_ (σ := Value × Addr × Nat) 6 #[true, true, true, true, true, true, false, false, false, false, false, true, false] (fun s_ => [(6, s_.1), (8, .int .i64 t133), (10, .int .i64 (rd y130 t133)), (5, .pointer (some ⟨s_.2.2, 0, none⟩)), (9, .pointer (some (s_.2.1.add (t133).toNat)))]) (fun s_ w' => (Kd.R (Kd.int .i64) 3 w' w.heap.size (fun _ => True) s_.1 y130) ∧ (∃ c_, (s_.1 : Value) = .slice (some s_.2.1) y130.length c_) ∧ (w'.heap[gb129]? = some (.cells #[.int .i64 0, .int .i64 0, .int .i64 0] 25 (0, 0))) ∧ (w'.heap[s_.2.2]? = some (.cells #[.int .i64 0, .int .i64 0, .int .i64 0] 25 (0, 0))) ∧ (w.heap.size ≤ s_.2.2) ∧ (w0.heap.size ≤ s_.2.2) ∧ (g ≠ s_.2.2) ∧ (s_.2.2 ≠ g) ∧ (gb129 ≠ s_.2.2) ∧ (s_.2.2 ≠ gb129) ∧ (Z73 w0 w' g s0_0 t134) ∧ (KeepBut w w' g none) ∧ (Below w0.heap.size w0 w')) ?_ ?_
     rotate_left
     ·intro hJ0_2_4_11
      refine join_ (σ := Value × Addr × Nat) 4 #[true, true, true, true, false, true, true, true, true, false, false, true, false] (fun s_ => [(6, s_.1), (8, .int .i64 t133), (12, .int .i64 t136), (5, .pointer (some ⟨s_.2.2, 0, none⟩)), (9, .pointer (some (s_.2.1.add (t133).toNat))), (13, .int .i64 (wrap64 (Int.tdiv t136 59))), (14, .int .i64 (wrap64 ((wrap64 (Int.tdiv t136 59)) * 6)))]) (fun s_ w' => (Kd.R (Kd.int .i64) 3 w' w.heap.size (fun _ => True) s_.1 y130) ∧ (∃ c_, (s_.1 : Value) = .slice (some s_.2.1) y130.length c_) ∧ (w'.heap[gb129]? = some (.cells #[.int .i64 0, .int .i64 0, .int .i64 0] 25 (0, 0))) ∧ (w'.heap[s_.2.2]? = some (.cells #[.int .i64 0, .int .i64 0, .int .i64 0] 25 (0, 0))) ∧ (w.heap.size ≤ s_.2.2) ∧ (w0.heap.size ≤ s_.2.2) ∧ (g ≠ s_.2.2) ∧ (s_.2.2 ≠ g) ∧ (gb129 ≠ s_.2.2) ∧ (s_.2.2 ≠ gb129) ∧ (Z73 w0 w' g s0_0 t137) ∧ (KeepBut w w' g none) ∧ (Below w0.heap.size w0 w')) ?_ ?_
      rotate_left
      ·intro hJ0_2_6_11
       refine join_ (σ := Value × Addr) 7 #[true, true, true, true, true, true, false, false, false, false, false, false, false] (fun s_ => [(6, s_.1), (8, .int .i64 t133), (10, .int .i64 (rd y130 t133)), (9, .pointer (some (s_.2.add (t133).toNat)))]) (fun s_ w' => (Kd.R (Kd.int .i64) 3 w' w.heap.size (fun _ => True) s_.1 y130) ∧ (∃ c_, (s_.1 : Value) = .slice (some s_.2) y130.length c_) ∧ (w'.heap[gb129]? = some (.cells #[.int .i64 0, .int .i64 0, .int .i64 0] 25 (0, 0))) ∧ (Z73 w0 w' g s0_0 t134) ∧ (KeepBut w w' g none) ∧ (Below w0.heap.size w0 w')) ?_ ?_
       rotate_left
       ·intro hJ0_2_4
        refine join_ (σ := Value × Addr) 5 #[true, true, true, true, false, true, true, true, true, false, false, false, false] (fun s_ => [(6, s_.1), (8, .int .i64 t133), (12, .int .i64 t136), (9, .pointer (some (s_.2.add (t133).toNat))), (13, .int .i64 (wrap64 (Int.tdiv t136 59))), (14, .int .i64 (wrap64 ((wrap64 (Int.tdiv t136 59)) * 6)))]) (fun s_ w' => (Kd.R (Kd.int .i64) 3 w' w.heap.size (fun _ => True) s_.1 y130) ∧ (∃ c_, (s_.1 : Value) = .slice (some s_.2) y130.length c_) ∧ (w'.heap[gb129]? = some (.cells #[.int .i64 0, .int .i64 0, .int .i64 0] 25 (0, 0))) ∧ (Z73 w0 w' g s0_0 t137) ∧ (KeepBut w w' g none) ∧ (Below w0.heap.size w0 w')) ?_ ?_
        rotate_left
        ·intro hJ0_2_6
         refine join_ (σ := Value × Addr × Nat) 7 #[true, true, true, true, false, true, false, false, false, false, false, true, false] (fun s_ => [(6, s_.1), (8, .int .i64 t133), (5, .pointer (some ⟨s_.2.2, 0, none⟩)), (9, .pointer (some (s_.2.1.add (t133).toNat)))]) (fun s_ w' => (Kd.R (Kd.int .i64) 3 w' w.heap.size (fun _ => True) s_.1 y130) ∧ (∃ c_, (s_.1 : Value) = .slice (some s_.2.1) y130.length c_) ∧ (w'.heap[gb129]? = some (.cells #[.int .i64 0, .int .i64 0, .int .i64 0] 25 (0, 0))) ∧ (w'.heap[s_.2.2]? = some (.cells #[.int .i64 0, .int .i64 0, .int .i64 0] 25 (0, 0))) ∧ (w.heap.size ≤ s_.2.2) ∧ (w0.heap.size ≤ s_.2.2) ∧ (g ≠ s_.2.2) ∧ (s_.2.2 ≠ g) ∧ (gb129 ≠ s_.2.2) ∧ (s_.2.2 ≠ gb129) ∧ (Z73 w0 w' g s0_0 t134) ∧ (KeepBut w w' g none) ∧ (Below w0.heap.size w0 w')) ?_ ?_
         rotate_left
         ·intro hJ0_2_11
          refine join_ (σ := Nat) 6 #[false, true, true, false, false, true, true, true, true, false, false, true, false] (fun s_ => [(8, .int .i64 t133), (12, .int .i64 t136), (5, .pointer (some ⟨s_, 0, none⟩)), (13, .int .i64 (wrap64 (Int.tdiv t136 59))), (14, .int .i64 (wrap64 ((wrap64 (Int.tdiv t136 59)) * 6)))]) (fun s_ w' => (w'.heap[gb129]? = some (.cells #[.int .i64 0, .int .i64 0, .int .i64 0] 25 (0, 0))) ∧ (w'.heap[s_]? = some (.cells #[.int .i64 0, .int .i64 0, .int .i64 0] 25 (0, 0))) ∧ (w.heap.size ≤ s_) ∧ (w0.heap.size ≤ s_) ∧ (g ≠ s_) ∧ (s_ ≠ g) ∧ (gb129 ≠ s_) ∧ (s_ ≠ gb129) ∧ (Z73 w0 w' g s0_0 t137) ∧ (KeepBut w w' g none) ∧ (Below w0.heap.size w0 w')) ?_ ?_
          rotate_left
          ·intro hJ2_6_11
           refine join_ (σ := Value × Addr) 8 #[true, true, true, true, false, true, false, false, false, false, false, false, false] (fun s_ => [(6, s_.1), (8, .int .i64 t133), (9, .pointer (some (s_.2.add (t133).toNat)))]) (fun s_ w' => (Kd.R (Kd.int .i64) 3 w' w.heap.size (fun _ => True) s_.1 y130) ∧ (∃ c_, (s_.1 : Value) = .slice (some s_.2) y130.length c_) ∧ (w'.heap[gb129]? = some (.cells #[.int .i64 0, .int .i64 0, .int .i64 0] 25 (0, 0))) ∧ (Z73 w0 w' g s0_0 t134) ∧ (KeepBut w w' g none) ∧ (Below w0.heap.size w0 w')) ?_ ?_
           rotate_left
           ·intro hJ0_2
            refine join_ (σ := Value × Addr × Nat) 9 #[true, true, false, false, false, true, false, false, false, false, false, true, false] (fun s_ => [(6, s_.1), (5, .pointer (some ⟨s_.2.2, 0, none⟩))]) (fun s_ w' => (Kd.R (Kd.int .i64) 3 w' w.heap.size (fun _ => True) s_.1 y130) ∧ (∃ c_, (s_.1 : Value) = .slice (some s_.2.1) y130.length c_) ∧ (w'.heap[gb129]? = some (.cells #[.int .i64 0, .int .i64 0, .int .i64 0] 25 (0, 0))) ∧ (w'.heap[s_.2.2]? = some (.cells #[.int .i64 0, .int .i64 0, .int .i64 0] 25 (0, 0))) ∧ (w.heap.size ≤ s_.2.2) ∧ (w0.heap.size ≤ s_.2.2) ∧ (g ≠ s_.2.2) ∧ (s_.2.2 ≠ g) ∧ (gb129 ≠ s_.2.2) ∧ (s_.2.2 ≠ gb129) ∧ (Z73 w0 w' g s0_0 s0_1) ∧ (KeepBut w w' g none) ∧ (Below w0.heap.size w0 w')) ?_ ?_
            rotate_left
            ·intro hJ0_11
             refine join_ (σ := Unit) 7 #[false, true, true, false, false, true, true, true, true, false, false, false, false] (fun s_ => [(8, .int .i64 t133), (12, .int .i64 t136), (13, .int .i64 (wrap64 (Int.tdiv t136 59))), (14, .int .i64 (wrap64 ((wrap64 (Int.tdiv t136 59)) * 6)))]) (fun s_ w' => (w'.heap[gb129]? = some (.cells #[.int .i64 0, .int .i64 0, .int .i64 0] 25 (0, 0))) ∧ (Z73 w0 w' g s0_0 t137) ∧ (KeepBut w w' g none) ∧ (Below w0.heap.size w0 w')) ?_ ?_
             rotate_left
             ·intro hJ2_6
              refine join_ (σ := Nat) 9 #[false, true, true, false, false, true, false, false, false, false, false, true, false] (fun s_ => [(8, .int .i64 t133), (5, .pointer (some ⟨s_, 0, none⟩))]) (fun s_ w' => (w'.heap[gb129]? = some (.cells #[.int .i64 0, .int .i64 0, .int .i64 0] 25 (0, 0))) ∧ (w'.heap[s_]? = some (.cells #[.int .i64 0, .int .i64 0, .int .i64 0] 25 (0, 0))) ∧ (w.heap.size ≤ s_) ∧ (w0.heap.size ≤ s_) ∧ (g ≠ s_) ∧ (s_ ≠ g) ∧ (gb129 ≠ s_) ∧ (s_ ≠ gb129) ∧ (Z73 w0 w' g s0_0 t134) ∧ (KeepBut w w' g none) ∧ (Below w0.heap.size w0 w')) ?_ ?_
              rotate_left
              ·intro hJ2_11
               refine join_ (σ := Value × Addr) 10 #[true, true, false, false, false, true, false, false, false, false, false, false, false] (fun s_ => [(6, s_.1)]) (fun s_ w' => (Kd.R (Kd.int .i64) 3 w' w.heap.size (fun _ => True) s_.1 y130) ∧ (∃ c_, (s_.1 : Value) = .slice (some s_.2) y130.length c_) ∧ (w'.heap[gb129]? = some (.cells #[.int .i64 0, .int .i64 0, .int .i64 0] 25 (0, 0))) ∧ (Z73 w0 w' g s0_0 s0_1) ∧ (KeepBut w w' g none) ∧ (Below w0.heap.size w0 w')) ?_ ?_
               rotate_left
               ·intro hJ0
                refine join_ (σ := Unit) 10 #[false, true, true, false, false, true, false, false, false, false, false, false, false] (fun s_ => [(8, .int .i64 t133)]) (fun s_ w' => (w'.heap[gb129]? = some (.cells #[.int .i64 0, .int .i64 0, .int .i64 0] 25 (0, 0))) ∧ (Z73 w0 w' g s0_0 t134) ∧ (KeepBut w w' g none) ∧ (Below w0.heap.size w0 w')) ?_ ?_
                rotate_left
                ·intro hJ2
                 refine join_ (σ := Nat) 10 #[false, true, false, false, false, true, false, false, false, false, false, true, false] (fun s_ => [(5, .pointer (some ⟨s_, 0, none⟩))]) (fun s_ w' => (w'.heap[gb129]? = some (.cells #[.int .i64 0, .int .i64 0, .int .i64 0] 25 (0, 0))) ∧ (w'.heap[s_]? = some (.cells #[.int .i64 0, .int .i64 0, .int .i64 0] 25 (0, 0))) ∧ (w.heap.size ≤ s_) ∧ (w0.heap.size ≤ s_) ∧ (g ≠ s_) ∧ (s_ ≠ g) ∧ (gb129 ≠ s_) ∧ (s_ ≠ gb129) ∧ (Z73 w0 w' g s0_0 s0_1) ∧ (KeepBut w w' g none) ∧ (Below w0.heap.size w0 w')) ?_ ?_
                 rotate_left
                 ·intro hJ11
                  refine three_ (i := 0) (j := 2) (k := 11) (Ni := some 6) (Nj := some 8) (Nk := some 5) #[true, true, false, false, false, true, false, false, false, false, false, false, false] #[false, true, true, false, false, true, false, false, false, false, false, false, false] #[false, true, false, false, false, true, false, false, false, false, false, true, false] rfl rfl rfl rfl rfl rfl (three_of HT_.out (by kernel_rfl)) (by decide) (by decide) (by decide) (fun K hK => ?_) (fun K hK => ?_) (fun K hK => ?_)
                  ·skip
                   refine Kd.R_lit_step (Kd.int .i64) _ 3 ?hg (N := 6) ?hd (xs := ([0, 0, 1, 1, 2, 3, 4, 5] : List Int)) (inner := [.int .i64 0, .int .i64 0, .int .i64 1, .int .i64 1, .int .i64 2, .int .i64 3, .int .i64 4, .int .i64 5]) (ok := fun _ => True) (okp := fun _ => True) ?hr ?hp (fun _ hk => hk) trivial (Below.refl _ _) (Nat.le_refl _) (by simp) ?_; (case hd => rfl); (case hg => rfl); (case hr => first | (go_simp; done) | (go_simp; rfl)); (case hp => exact (Reps.one (show Kd.M (Kd.int .i64) _ _ _ 0 [.int .i64 0] from rfl) (Reps.one (show Kd.M (Kd.int .i64) _ _ _ 0 [.int .i64 0] from rfl) (Reps.one (show Kd.M (Kd.int .i64) _ _ _ 1 [.int .i64 1] from rfl) (Reps.one (show Kd.M (Kd.int .i64) _ _ _ 1 [.int .i64 1] from rfl) (Reps.one (show Kd.M (Kd.int .i64) _ _ _ 2 [.int .i64 2] from rfl) (Reps.one (show Kd.M (Kd.int .i64) _ _ _ 3 [.int .i64 3] from rfl) (Reps.one (show Kd.M (Kd.int .i64) _ _ _ 4 [.int .i64 4] from rfl) (Reps.one (show Kd.M (Kd.int .i64) _ _ _ 5 [.int .i64 5] from rfl) (Reps.none _ _))))))))))
                   intro v131 w10 ho11 hb hg_ hnew_
                   clear hg_ hnew_
                   (first | rw [← Ny130.out] at ho11 | (simp only [Int.reduceToNat] at ho11; rw [← Ny130.out] at ho11))
                   have n0_ := zM (Kd.R_lower ho11 (keep_size (w := w) (g := g) (row := none) (by repeat (first | (with_reducible first | exact HK.out | apply zK | apply keep_drewN | apply keep_drew | apply keep_alloc | refine keep_far ?_ GW129.out _) | exact HK.out))))
                   have n1_ := zM (Z73.below (by repeat (first | (with_reducible first | exact HI0.out | apply Z73.alloc | apply Z73.drewN | apply Z73.drew | apply Z73.set_1 | refine Z73.far ?_ NB0_129.out _) | exact HI0.out)) hb)
                   have n2_ := zM (blk_below (g := gb129) (o := .cells #[.int .i64 0, .int .i64 0, .int .i64 0] 25 (0, 0)) (by exact BK129.out) hb)
                   have n3_ := zM (KeepBut.trans (by repeat (first | (with_reducible first | exact HK.out | apply zK | apply keep_drewN | apply keep_drew | apply keep_alloc | refine keep_far ?_ GW129.out _) | exact HK.out)) (KeepBut.of_below hb g none) (.inl rfl))
                   have n4_ := zM (below_step (by repeat (first | (with_reducible first | exact HB.out | apply zB | apply zA | apply zC | refine zD ?_ (Z73.ge HI0.out) | refine zD ?_ GE129.out) | exact HB.out)) hb)
                   clear HI0
                   clear BK129
                   clear HK
                   clear HB
                   have HO132 := n0_
                   have HI0 := n1_
                   have BK129 := n2_
                   have HK := n3_
                   have HB := n4_
                   clear n0_ n1_ n2_ n3_ n4_
                   clear hb ho11
                   obtain ⟨Ao12, co12, eo12⟩ := Kd.R_slice HO132.out
                   subst eo12
                   obtain ⟨ado12, fo12, _⟩ := Kd.at_int (Kd.R_reads' HO132.out).2.2 0 (by decide) (by rw [Ny130.out]; simp)
                   cases fo12
                   refine hK.out _ _ trivial (fun hHeld => ?_)
                   clear hK K
                   refine norm_ (a' := ?_) ?_ ?_
                   rotate_left
                   ·show Act.put _ (some 6) _ = _
                    simp only [Act.put, zE, zF, zG, i64_w, i32_w]
                    rfl
                   exact norm_ (by first | (simp only [putAll, Act.put, zE, zF, zG]; done) | (simp only [putAll, Act.put, zE, zF, zG]; rfl)) (hJ0 (.slice (some ado12) y130.length co12, ado12) _ ⟨(by exact HO132.out), ⟨_, rfl⟩, (by exact BK129.out), (by repeat (first | (with_reducible first | exact HI0.out | apply Z73.alloc | apply Z73.drewN | apply Z73.drew | apply Z73.set_1 | refine Z73.far ?_ NB0_129.out _) | exact HI0.out)), (by repeat (first | (with_reducible first | exact HK.out | apply zK | apply keep_drewN | apply keep_drew | apply keep_alloc | refine keep_far ?_ GW129.out _) | exact HK.out)), (by repeat (first | (with_reducible first | exact HB.out | apply zB | apply zA | apply zC | refine zD ?_ (Z73.ge HI0.out) | refine zD ?_ GE129.out) | exact HB.out))⟩)
                  ·skip
                   refine goes_ Tryd.func43 (by kernel_rfl) rfl #[.pointer (some ⟨g, 0, none⟩), .int .i64 8] (by rfl) rfl rfl (by (try simp only [List.map_toArray, List.map_cons, List.map_nil]); first | done | rfl | (simp only [List.length_drop, List.length_take]; rfl)) ?_
                   with_reducible refine (spec_l20Rd_pick.calls k g s0_0 s0_1 8 t133 t134 w0 _ ?side1 ?side2 A3.out).mono ?_
                   (case side1 => repeat (first | (with_reducible first | exact HI0.out | apply Z73.alloc | apply Z73.drewN | apply Z73.drew | apply Z73.set_1 | refine Z73.far ?_ NB0_129.out _) | exact HI0.out))
                   (case side2 => repeat (first | (with_reducible first | exact HB.out | apply zB | apply zA | apply zC | refine zD ?_ (Z73.ge HI0.out) | refine zD ?_ GE129.out) | exact HB.out))
                   rintro e w10 ⟨rfl, hi, hb, hk⟩
                   refine ⟨_, rfl, ?_⟩
                   have n0_ := zM (KeepBut.blk hk (g' := gb129) (o := .cells #[.int .i64 0, .int .i64 0, .int .i64 0] 25 (0, 0)) (by exact BK129.out) NB129_0.out (by simp))
                   have n1_ := zM (KeepBut.trans (by repeat (first | (with_reducible first | exact HK.out | apply zK | apply keep_drewN | apply keep_drew | apply keep_alloc | refine keep_far ?_ GW129.out _) | exact HK.out)) hk (.inl rfl))
                   have n2_ := zM (hb)
                   have n3_ := zM (hi)
                   clear BK129
                   clear HK
                   clear HB
                   clear HI0
                   have BK129 := n0_
                   have HK := n1_
                   have HB := n2_
                   have HI0 := n3_
                   clear n0_ n1_ n2_ n3_
                   (try clear hb)
                   (try clear hb2)
                   (try clear hk)
                   (try clear hi)
                   refine hK.out _ _ trivial (fun hHeld => ?_)
                   clear hK K
                   refine norm_ (a' := ?_) ?_ ?_
                   rotate_left
                   ·show Act.put _ (some 8) _ = _
                    simp only [Act.put, zE, zF, zG, i64_w, i32_w]
                    rfl
                   exact norm_ (by first | (simp only [putAll, Act.put, zE, zF, zG]; done) | (simp only [putAll, Act.put, zE, zF, zG]; rfl)) (hJ2 () _ ⟨(by exact BK129.out), (by repeat (first | (with_reducible first | exact HI0.out | apply Z73.alloc | apply Z73.drewN | apply Z73.drew | apply Z73.set_1 | refine Z73.far ?_ NB0_129.out _) | exact HI0.out)), (by repeat (first | (with_reducible first | exact HK.out | apply zK | apply keep_drewN | apply keep_drew | apply keep_alloc | refine keep_far ?_ GW129.out _) | exact HK.out)), (by repeat (first | (with_reducible first | exact HB.out | apply zB | apply zA | apply zC | refine zD ?_ (Z73.ge HI0.out) | refine zD ?_ GE129.out) | exact HB.out))⟩)
                  ·skip
                   refine box_step ?hg (N := 5) ?hd (cs := #[.int .i64 0, .int .i64 0, .int .i64 0]) (t := 25) ?hr ?_; (case hd => rfl); (case hg => rfl); (case hr => first | (go_simp; done) | (go_simp; rfl))
                   intro gb138 hg w10 hbox hb
                   have n0_ := zM (Z73.below (by repeat (first | (with_reducible first | exact HI0.out | apply Z73.alloc | apply Z73.drewN | apply Z73.drew | apply Z73.set_1 | refine Z73.far ?_ NB0_129.out _) | exact HI0.out)) hb)
                   have n1_ := zM (blk_below (g := gb129) (o := .cells #[.int .i64 0, .int .i64 0, .int .i64 0] 25 (0, 0)) (by exact BK129.out) hb)
                   have n2_ := zM (KeepBut.trans (by repeat (first | (with_reducible first | exact HK.out | apply zK | apply keep_drewN | apply keep_drew | apply keep_alloc | refine keep_far ?_ GW129.out _) | exact HK.out)) (KeepBut.of_below hb g none) (.inl rfl))
                   have n3_ := zM (below_step (by repeat (first | (with_reducible first | exact HB.out | apply zB | apply zA | apply zC | refine zD ?_ (Z73.ge HI0.out) | refine zD ?_ GE129.out) | exact HB.out)) hb)
                   have n4_ := zM (hbox)
                   have n5_ := zM ((by rw [hg]; exact (keep_size (w := w) (g := g) (row := none) (by repeat (first | (with_reducible first | exact HK.out | apply zK | apply keep_drewN | apply keep_drew | apply keep_alloc | refine keep_far ?_ GW129.out _) | exact HK.out))) : w.heap.size ≤ gb138))
                   have n6_ := zM ((Nat.le_trans HW0.out (by rw [hg]; exact (keep_size (w := w) (g := g) (row := none) (by repeat (first | (with_reducible first | exact HK.out | apply zK | apply keep_drewN | apply keep_drew | apply keep_alloc | refine keep_far ?_ GW129.out _) | exact HK.out))) : w.heap.size ≤ gb138) : w0.heap.size ≤ gb138))
                   have n7_ := zM ((by rw [hg]; exact Nat.ne_of_lt (blk_lt (g := gb129) (o := .cells #[.int .i64 0, .int .i64 0, .int .i64 0] 25 (0, 0)) (by exact BK129.out)) : gb129 ≠ gb138))
                   have n8_ := zM ((by rw [hg]; exact Nat.ne_of_gt (blk_lt (g := gb129) (o := .cells #[.int .i64 0, .int .i64 0, .int .i64 0] 25 (0, 0)) (by exact BK129.out)) : gb138 ≠ gb129))
                   have n9_ := zM ((by rw [hg]; exact Nat.ne_of_lt (Z73.lt (show Z73 w0 _ g s0_0 s0_1 from by repeat (first | (with_reducible first | exact HI0.out | apply Z73.alloc | apply Z73.drewN | apply Z73.drew | apply Z73.set_1 | refine Z73.far ?_ NB0_129.out _) | exact HI0.out))) : g ≠ gb138))
                   have n10_ := zM ((by rw [hg]; exact Nat.ne_of_gt (Z73.lt (show Z73 w0 _ g s0_0 s0_1 from by repeat (first | (with_reducible first | exact HI0.out | apply Z73.alloc | apply Z73.drewN | apply Z73.drew | apply Z73.set_1 | refine Z73.far ?_ NB0_129.out _) | exact HI0.out))) : gb138 ≠ g))
                   clear HI0
                   clear BK129
                   clear HK
                   clear HB
                   have HI0 := n0_
                   have BK129 := n1_
                   have HK := n2_
                   have HB := n3_
                   have BK138 := n4_
                   have GW138 := n5_
                   have GE138 := n6_
                   have NB129_138 := n7_
                   have NB138_129 := n8_
                   have NB0_138 := n9_
                   have NB138_0 := n10_
                   clear n0_ n1_ n2_ n3_ n4_ n5_ n6_ n7_ n8_ n9_ n10_
                   clear hb hbox hg
                   refine hK.out _ _ trivial (fun hHeld => ?_)
                   clear hK K
                   refine norm_ (a' := ?_) ?_ ?_
                   rotate_left
                   ·show Act.put _ (some 5) _ = _
                    simp only [Act.put, zE, zF, zG, i64_w, i32_w]
                    rfl
                   exact norm_ (by first | (simp only [putAll, Act.put, zE, zF, zG]; done) | (simp only [putAll, Act.put, zE, zF, zG]; rfl)) (hJ11 (gb138) _ ⟨(by exact BK129.out), (by exact BK138.out), GW138.out, GE138.out, NB0_138.out, NB138_0.out, NB129_138.out, NB138_129.out, (by repeat (first | (with_reducible first | exact HI0.out | apply Z73.alloc | apply Z73.drewN | apply Z73.drew | apply Z73.set_1 | refine Z73.far ?_ NB0_129.out _ | refine Z73.far ?_ NB0_138.out _) | exact HI0.out)), (by repeat (first | (with_reducible first | exact HK.out | apply zK | apply keep_drewN | apply keep_drew | apply keep_alloc | refine keep_far ?_ GW129.out _ | refine keep_far ?_ GW138.out _) | exact HK.out)), (by repeat (first | (with_reducible first | exact HB.out | apply zB | apply zA | apply zC | refine zD ?_ (Z73.ge HI0.out) | refine zD ?_ GE129.out | refine zD ?_ GE138.out) | exact HB.out))⟩)
                 ·skip
                  rintro gb138 w11 ⟨h0_, h1_, h2_, h3_, h4_, h5_, h6_, h7_, h8_, h9_, h10_⟩
                  have n0_ : Aside0 (w11.heap[gb129]? = some (.cells #[.int .i64 0, .int .i64 0, .int .i64 0] 25 (0, 0))) := ⟨h0_⟩
                  have n1_ : Aside0 (w11.heap[gb138]? = some (.cells #[.int .i64 0, .int .i64 0, .int .i64 0] 25 (0, 0))) := ⟨h1_⟩
                  have n2_ : Aside0 (w.heap.size ≤ gb138) := ⟨h2_⟩
                  have n3_ : Aside0 (w0.heap.size ≤ gb138) := ⟨h3_⟩
                  have n4_ : Aside0 (g ≠ gb138) := ⟨h4_⟩
                  have n5_ : Aside0 (gb138 ≠ g) := ⟨h5_⟩
                  have n6_ : Aside0 (gb129 ≠ gb138) := ⟨h6_⟩
                  have n7_ : Aside0 (gb138 ≠ gb129) := ⟨h7_⟩
                  have n8_ : Aside0 (Z73 w0 w11 g s0_0 s0_1) := ⟨h8_⟩
                  have n9_ : Aside0 (KeepBut w w11 g none) := ⟨h9_⟩
                  have n10_ : Aside0 (Below w0.heap.size w0 w11) := ⟨h10_⟩
                  clear BK129
                  clear HI0
                  clear HK
                  clear HB
                  clear h0_ h1_ h2_ h3_ h4_ h5_ h6_ h7_ h8_ h9_ h10_
                  have BK129 := n0_
                  have BK138 := n1_
                  have GW138 := n2_
                  have GE138 := n3_
                  have NB0_138 := n4_
                  have NB138_0 := n5_
                  have NB129_138 := n6_
                  have NB138_129 := n7_
                  have HI0 := n8_
                  have HK := n9_
                  have HB := n10_
                  clear n0_ n1_ n2_ n3_ n4_ n5_ n6_ n7_ n8_ n9_ n10_
                  have hHeld := trivial
                  refine norm_ (a' := ?_) ?_ ?_
                  rotate_left
                  ·simp only [putAll, Act.put, zE, zF, zG]
                   rfl
                  refine two_ (i := 0) (j := 2) (Ni := some 6) (Nj := some 8) #[true, true, false, false, false, true, false, false, false, false, false, true, false] #[false, true, true, false, false, true, false, false, false, false, false, true, false] rfl rfl rfl rfl (two_of HT_.out (by kernel_rfl)) (by decide) (by decide) (fun K hK => ?_) (fun K hK => ?_)
                  ·skip
                   refine Kd.R_lit_step (Kd.int .i64) _ 3 ?hg (N := 6) ?hd (xs := ([0, 0, 1, 1, 2, 3, 4, 5] : List Int)) (inner := [.int .i64 0, .int .i64 0, .int .i64 1, .int .i64 1, .int .i64 2, .int .i64 3, .int .i64 4, .int .i64 5]) (ok := fun _ => True) (okp := fun _ => True) ?hr ?hp (fun _ hk => hk) trivial (Below.refl _ _) (Nat.le_refl _) (by simp) ?_; (case hd => rfl); (case hg => rfl); (case hr => first | (go_simp; done) | (go_simp; rfl)); (case hp => exact (Reps.one (show Kd.M (Kd.int .i64) _ _ _ 0 [.int .i64 0] from rfl) (Reps.one (show Kd.M (Kd.int .i64) _ _ _ 0 [.int .i64 0] from rfl) (Reps.one (show Kd.M (Kd.int .i64) _ _ _ 1 [.int .i64 1] from rfl) (Reps.one (show Kd.M (Kd.int .i64) _ _ _ 1 [.int .i64 1] from rfl) (Reps.one (show Kd.M (Kd.int .i64) _ _ _ 2 [.int .i64 2] from rfl) (Reps.one (show Kd.M (Kd.int .i64) _ _ _ 3 [.int .i64 3] from rfl) (Reps.one (show Kd.M (Kd.int .i64) _ _ _ 4 [.int .i64 4] from rfl) (Reps.one (show Kd.M (Kd.int .i64) _ _ _ 5 [.int .i64 5] from rfl) (Reps.none _ _))))))))))
                   intro v131 w12 ho13 hb hg_ hnew_
                   clear hg_ hnew_
                   (first | rw [← Ny130.out] at ho13 | (simp only [Int.reduceToNat] at ho13; rw [← Ny130.out] at ho13))
                   have n0_ := zM (Kd.R_lower ho13 (keep_size (w := w) (g := g) (row := none) (by repeat (first | (with_reducible first | exact HK.out | apply zK | apply keep_drewN | apply keep_drew | apply keep_alloc | refine keep_far ?_ GW129.out _ | refine keep_far ?_ GW138.out _) | exact HK.out))))
                   have n1_ := zM (Z73.below (by repeat (first | (with_reducible first | exact HI0.out | apply Z73.alloc | apply Z73.drewN | apply Z73.drew | apply Z73.set_1 | refine Z73.far ?_ NB0_129.out _ | refine Z73.far ?_ NB0_138.out _) | exact HI0.out)) hb)
                   have n2_ := zM (blk_below (g := gb129) (o := .cells #[.int .i64 0, .int .i64 0, .int .i64 0] 25 (0, 0)) (by exact BK129.out) hb)
                   have n3_ := zM (blk_below (g := gb138) (o := .cells #[.int .i64 0, .int .i64 0, .int .i64 0] 25 (0, 0)) (by exact BK138.out) hb)
                   have n4_ := zM (KeepBut.trans (by repeat (first | (with_reducible first | exact HK.out | apply zK | apply keep_drewN | apply keep_drew | apply keep_alloc | refine keep_far ?_ GW129.out _ | refine keep_far ?_ GW138.out _) | exact HK.out)) (KeepBut.of_below hb g none) (.inl rfl))
                   have n5_ := zM (below_step (by repeat (first | (with_reducible first | exact HB.out | apply zB | apply zA | apply zC | refine zD ?_ (Z73.ge HI0.out) | refine zD ?_ GE129.out | refine zD ?_ GE138.out) | exact HB.out)) hb)
                   clear HI0
                   clear BK129
                   clear BK138
                   clear HK
                   clear HB
                   have HO132 := n0_
                   have HI0 := n1_
                   have BK129 := n2_
                   have BK138 := n3_
                   have HK := n4_
                   have HB := n5_
                   clear n0_ n1_ n2_ n3_ n4_ n5_
                   clear hb ho13
                   obtain ⟨Ao14, co14, eo14⟩ := Kd.R_slice HO132.out
                   subst eo14
                   obtain ⟨ado14, fo14, _⟩ := Kd.at_int (Kd.R_reads' HO132.out).2.2 0 (by decide) (by rw [Ny130.out]; simp)
                   cases fo14
                   refine hK.out _ _ trivial (fun hHeld => ?_)
                   clear hK K
                   refine norm_ (a' := ?_) ?_ ?_
                   rotate_left
                   ·show Act.put _ (some 6) _ = _
                    simp only [Act.put, zE, zF, zG, i64_w, i32_w]
                    rfl
                   exact norm_ (by first | (simp only [putAll, Act.put, zE, zF, zG]; done) | (simp only [putAll, Act.put, zE, zF, zG]; rfl)) (hJ0_11 (.slice (some ado14) y130.length co14, ado14, gb138) _ ⟨(by exact HO132.out), ⟨_, rfl⟩, (by exact BK129.out), (by exact BK138.out), GW138.out, GE138.out, NB0_138.out, NB138_0.out, NB129_138.out, NB138_129.out, (by repeat (first | (with_reducible first | exact HI0.out | apply Z73.alloc | apply Z73.drewN | apply Z73.drew | apply Z73.set_1 | refine Z73.far ?_ NB0_129.out _ | refine Z73.far ?_ NB0_138.out _) | exact HI0.out)), (by repeat (first | (with_reducible first | exact HK.out | apply zK | apply keep_drewN | apply keep_drew | apply keep_alloc | refine keep_far ?_ GW129.out _ | refine keep_far ?_ GW138.out _) | exact HK.out)), (by repeat (first | (with_reducible first | exact HB.out | apply zB | apply zA | apply zC | refine zD ?_ (Z73.ge HI0.out) | refine zD ?_ GE129.out | refine zD ?_ GE138.out) | exact HB.out))⟩)
                  ·skip
                   refine goes_ Tryd.func43 (by kernel_rfl) rfl #[.pointer (some ⟨g, 0, none⟩), .int .i64 8] (by rfl) rfl rfl (by (try simp only [List.map_toArray, List.map_cons, List.map_nil]); first | done | rfl | (simp only [List.length_drop, List.length_take]; rfl)) ?_
                   with_reducible refine (spec_l20Rd_pick.calls k g s0_0 s0_1 8 t133 t134 w0 _ ?side1 ?side2 A3.out).mono ?_
                   (case side1 => repeat (first | (with_reducible first | exact HI0.out | apply Z73.alloc | apply Z73.drewN | apply Z73.drew | apply Z73.set_1 | refine Z73.far ?_ NB0_129.out _ | refine Z73.far ?_ NB0_138.out _) | exact HI0.out))
                   (case side2 => repeat (first | (with_reducible first | exact HB.out | apply zB | apply zA | apply zC | refine zD ?_ (Z73.ge HI0.out) | refine zD ?_ GE129.out | refine zD ?_ GE138.out) | exact HB.out))
                   rintro e w12 ⟨rfl, hi, hb, hk⟩
                   refine ⟨_, rfl, ?_⟩
                   have n0_ := zM (KeepBut.blk hk (g' := gb129) (o := .cells #[.int .i64 0, .int .i64 0, .int .i64 0] 25 (0, 0)) (by exact BK129.out) NB129_0.out (by simp))
                   have n1_ := zM (KeepBut.blk hk (g' := gb138) (o := .cells #[.int .i64 0, .int .i64 0, .int .i64 0] 25 (0, 0)) (by exact BK138.out) NB138_0.out (by simp))
                   have n2_ := zM (KeepBut.trans (by repeat (first | (with_reducible first | exact HK.out | apply zK | apply keep_drewN | apply keep_drew | apply keep_alloc | refine keep_far ?_ GW129.out _ | refine keep_far ?_ GW138.out _) | exact HK.out)) hk (.inl rfl))
                   have n3_ := zM (hb)
                   have n4_ := zM (hi)
                   clear BK129
                   clear BK138
                   clear HK
                   clear HB
                   clear HI0
                   have BK129 := n0_
                   have BK138 := n1_
                   have HK := n2_
                   have HB := n3_
                   have HI0 := n4_
                   clear n0_ n1_ n2_ n3_ n4_
                   (try clear hb)
                   (try clear hb2)
                   (try clear hk)
                   (try clear hi)
                   refine hK.out _ _ trivial (fun hHeld => ?_)
                   clear hK K
                   refine norm_ (a' := ?_) ?_ ?_
                   rotate_left
                   ·show Act.put _ (some 8) _ = _
                    simp only [Act.put, zE, zF, zG, i64_w, i32_w]
                    rfl
                   exact norm_ (by first | (simp only [putAll, Act.put, zE, zF, zG]; done) | (simp only [putAll, Act.put, zE, zF, zG]; rfl)) (hJ2_11 (gb138) _ ⟨(by exact BK129.out), (by exact BK138.out), GW138.out, GE138.out, NB0_138.out, NB138_0.out, NB129_138.out, NB138_129.out, (by repeat (first | (with_reducible first | exact HI0.out | apply Z73.alloc | apply Z73.drewN | apply Z73.drew | apply Z73.set_1 | refine Z73.far ?_ NB0_129.out _ | refine Z73.far ?_ NB0_138.out _) | exact HI0.out)), (by repeat (first | (with_reducible first | exact HK.out | apply zK | apply keep_drewN | apply keep_drew | apply keep_alloc | refine keep_far ?_ GW129.out _ | refine keep_far ?_ GW138.out _) | exact HK.out)), (by repeat (first | (with_reducible first | exact HB.out | apply zB | apply zA | apply zC | refine zD ?_ (Z73.ge HI0.out) | refine zD ?_ GE129.out | refine zD ?_ GE138.out) | exact HB.out))⟩)
                ·skip
                 rintro _ w11 ⟨h0_, h1_, h2_, h3_⟩
                 have n0_ : Aside0 (w11.heap[gb129]? = some (.cells #[.int .i64 0, .int .i64 0, .int .i64 0] 25 (0, 0))) := ⟨h0_⟩
                 have n1_ : Aside0 (Z73 w0 w11 g s0_0 t134) := ⟨h1_⟩
                 have n2_ : Aside0 (KeepBut w w11 g none) := ⟨h2_⟩
                 have n3_ : Aside0 (Below w0.heap.size w0 w11) := ⟨h3_⟩
                 clear BK129
                 clear HI0
                 clear HK
                 clear HB
                 clear h0_ h1_ h2_ h3_
                 have BK129 := n0_
                 have HI0 := n1_
                 have HK := n2_
                 have HB := n3_
                 clear n0_ n1_ n2_ n3_
                 have hHeld := trivial
                 refine norm_ (a' := ?_) ?_ ?_
                 rotate_left
                 ·simp only [putAll, Act.put, zE, zF, zG]
                  rfl
                 refine three_ (i := 0) (j := 6) (k := 11) (Ni := some 6) (Nj := some 12) (Nk := some 5) #[true, true, true, false, false, true, false, false, false, false, false, false, false] #[false, true, true, false, false, true, true, false, false, false, false, false, false] #[false, true, true, false, false, true, false, false, false, false, false, true, false] rfl rfl rfl rfl rfl rfl (three_of HT_.out (by kernel_rfl)) (by decide) (by decide) (by decide) (fun K hK => ?_) (fun K hK => ?_) (fun K hK => ?_)
                 ·skip
                  refine Kd.R_lit_step (Kd.int .i64) _ 3 ?hg (N := 6) ?hd (xs := ([0, 0, 1, 1, 2, 3, 4, 5] : List Int)) (inner := [.int .i64 0, .int .i64 0, .int .i64 1, .int .i64 1, .int .i64 2, .int .i64 3, .int .i64 4, .int .i64 5]) (ok := fun _ => True) (okp := fun _ => True) ?hr ?hp (fun _ hk => hk) trivial (Below.refl _ _) (Nat.le_refl _) (by simp) ?_; (case hd => rfl); (case hg => rfl); (case hr => first | (go_simp; done) | (go_simp; rfl)); (case hp => exact (Reps.one (show Kd.M (Kd.int .i64) _ _ _ 0 [.int .i64 0] from rfl) (Reps.one (show Kd.M (Kd.int .i64) _ _ _ 0 [.int .i64 0] from rfl) (Reps.one (show Kd.M (Kd.int .i64) _ _ _ 1 [.int .i64 1] from rfl) (Reps.one (show Kd.M (Kd.int .i64) _ _ _ 1 [.int .i64 1] from rfl) (Reps.one (show Kd.M (Kd.int .i64) _ _ _ 2 [.int .i64 2] from rfl) (Reps.one (show Kd.M (Kd.int .i64) _ _ _ 3 [.int .i64 3] from rfl) (Reps.one (show Kd.M (Kd.int .i64) _ _ _ 4 [.int .i64 4] from rfl) (Reps.one (show Kd.M (Kd.int .i64) _ _ _ 5 [.int .i64 5] from rfl) (Reps.none _ _))))))))))
                  intro v131 w12 ho13 hb hg_ hnew_
                  clear hg_ hnew_
                  (first | rw [← Ny130.out] at ho13 | (simp only [Int.reduceToNat] at ho13; rw [← Ny130.out] at ho13))
                  have n0_ := zM (Kd.R_lower ho13 (keep_size (w := w) (g := g) (row := none) (by repeat (first | (with_reducible first | exact HK.out | apply zK | apply keep_drewN | apply keep_drew | apply keep_alloc | refine keep_far ?_ GW129.out _) | exact HK.out))))
                  have n1_ := zM (Z73.below (by repeat (first | (with_reducible first | exact HI0.out | apply Z73.alloc | apply Z73.drewN | apply Z73.drew | apply Z73.set_1 | refine Z73.far ?_ NB0_129.out _) | exact HI0.out)) hb)
                  have n2_ := zM (blk_below (g := gb129) (o := .cells #[.int .i64 0, .int .i64 0, .int .i64 0] 25 (0, 0)) (by exact BK129.out) hb)
                  have n3_ := zM (KeepBut.trans (by repeat (first | (with_reducible first | exact HK.out | apply zK | apply keep_drewN | apply keep_drew | apply keep_alloc | refine keep_far ?_ GW129.out _) | exact HK.out)) (KeepBut.of_below hb g none) (.inl rfl))
                  have n4_ := zM (below_step (by repeat (first | (with_reducible first | exact HB.out | apply zB | apply zA | apply zC | refine zD ?_ (Z73.ge HI0.out) | refine zD ?_ GE129.out) | exact HB.out)) hb)
                  clear HI0
                  clear BK129
                  clear HK
                  clear HB
                  have HO132 := n0_
                  have HI0 := n1_
                  have BK129 := n2_
                  have HK := n3_
                  have HB := n4_
                  clear n0_ n1_ n2_ n3_ n4_
                  clear hb ho13
                  obtain ⟨Ao14, co14, eo14⟩ := Kd.R_slice HO132.out
                  subst eo14
                  obtain ⟨ado14, fo14, _⟩ := Kd.at_int (Kd.R_reads' HO132.out).2.2 0 (by decide) (by rw [Ny130.out]; simp)
                  cases fo14
                  refine hK.out _ _ trivial (fun hHeld => ?_)
                  clear hK K
                  refine norm_ (a' := ?_) ?_ ?_
                  rotate_left
                  ·show Act.put _ (some 6) _ = _
                   simp only [Act.put, zE, zF, zG, i64_w, i32_w]
                   rfl
                  refine pure_ (i := 3) (N := some 9) (v := ?_) (a' := ?_) #[true, true, true, true, false, true, false, false, false, false, false, false, false] rfl rfl (any_of HT_.out (by kernel_rfl)) (fun _ _ _ h => h) (Or.inl ⟨by rfl, ?_⟩) ?_ ?_
                  rotate_left
                  ·intro w'
                   go_simp
                   with_reducible rfl
                  rotate_left
                  ·simp only [Act.put, zE, zF, zG, i64_w, i32_w]
                   rfl
                  exact norm_ (by first | (simp only [putAll, Act.put, zE, zF, zG]; done) | (simp only [putAll, Act.put, zE, zF, zG]; rfl)) (hJ0_2 (.slice (some ado14) y130.length co14, ado14) _ ⟨(by exact HO132.out), ⟨_, rfl⟩, (by exact BK129.out), (by repeat (first | (with_reducible first | exact HI0.out | apply Z73.alloc | apply Z73.drewN | apply Z73.drew | apply Z73.set_1 | refine Z73.far ?_ NB0_129.out _) | exact HI0.out)), (by repeat (first | (with_reducible first | exact HK.out | apply zK | apply keep_drewN | apply keep_drew | apply keep_alloc | refine keep_far ?_ GW129.out _) | exact HK.out)), (by repeat (first | (with_reducible first | exact HB.out | apply zB | apply zA | apply zC | refine zD ?_ (Z73.ge HI0.out) | refine zD ?_ GE129.out) | exact HB.out))⟩)
                 ·skip
                  refine goes_ Tryd.func43 (by kernel_rfl) rfl #[.pointer (some ⟨g, 0, none⟩), .int .i64 60] (by rfl) rfl rfl (by (try simp only [List.map_toArray, List.map_cons, List.map_nil]); first | done | rfl | (simp only [List.length_drop, List.length_take]; rfl)) ?_
                  with_reducible refine (spec_l20Rd_pick.calls k g s0_0 t134 60 t136 t137 w0 _ ?side1 ?side2 A6.out).mono ?_
                  (case side1 => repeat (first | (with_reducible first | exact HI0.out | apply Z73.alloc | apply Z73.drewN | apply Z73.drew | apply Z73.set_1 | refine Z73.far ?_ NB0_129.out _) | exact HI0.out))
                  (case side2 => repeat (first | (with_reducible first | exact HB.out | apply zB | apply zA | apply zC | refine zD ?_ (Z73.ge HI0.out) | refine zD ?_ GE129.out) | exact HB.out))
                  rintro e w12 ⟨rfl, hi, hb, hk⟩
                  refine ⟨_, rfl, ?_⟩
                  have n0_ := zM (KeepBut.blk hk (g' := gb129) (o := .cells #[.int .i64 0, .int .i64 0, .int .i64 0] 25 (0, 0)) (by exact BK129.out) NB129_0.out (by simp))
                  have n1_ := zM (KeepBut.trans (by repeat (first | (with_reducible first | exact HK.out | apply zK | apply keep_drewN | apply keep_drew | apply keep_alloc | refine keep_far ?_ GW129.out _) | exact HK.out)) hk (.inl rfl))
                  have n2_ := zM (hb)
                  have n3_ := zM (hi)
                  clear BK129
                  clear HK
                  clear HB
                  clear HI0
                  have BK129 := n0_
                  have HK := n1_
                  have HB := n2_
                  have HI0 := n3_
                  clear n0_ n1_ n2_ n3_
                  (try clear hb)
                  (try clear hb2)
                  (try clear hk)
                  (try clear hi)
                  refine hK.out _ _ trivial (fun hHeld => ?_)
                  clear hK K
                  refine norm_ (a' := ?_) ?_ ?_
                  rotate_left
                  ·show Act.put _ (some 12) _ = _
                   simp only [Act.put, zE, zF, zG, i64_w, i32_w]
                   rfl
                  refine pure_ (i := 7) (N := some 13) (v := ?_) (a' := ?_) #[false, true, true, false, false, true, true, true, false, false, false, false, false] rfl rfl (any_of HT_.out (by kernel_rfl)) (fun _ _ _ h => h) (Or.inl ⟨by rfl, ?_⟩) ?_ ?_
                  rotate_left
                  ·intro w'
                   go_simp
                   with_reducible rfl
                  rotate_left
                  ·simp only [Act.put, zE, zF, zG, i64_w, i32_w]
                   rfl
                  refine pure_ (i := 8) (N := some 14) (v := ?_) (a' := ?_) #[false, true, true, false, false, true, true, true, true, false, false, false, false] rfl rfl (any_of HT_.out (by kernel_rfl)) (fun _ _ _ h => h) (Or.inl ⟨by rfl, ?_⟩) ?_ ?_
                  rotate_left
                  ·intro w'
                   go_simp
                   with_reducible rfl
                  rotate_left
                  ·simp only [Act.put, zE, zF, zG, i64_w, i32_w]
                   rfl
                  exact norm_ (by first | (simp only [putAll, Act.put, zE, zF, zG]; done) | (simp only [putAll, Act.put, zE, zF, zG]; rfl)) (hJ2_6 () _ ⟨(by exact BK129.out), (by repeat (first | (with_reducible first | exact HI0.out | apply Z73.alloc | apply Z73.drewN | apply Z73.drew | apply Z73.set_1 | refine Z73.far ?_ NB0_129.out _) | exact HI0.out)), (by repeat (first | (with_reducible first | exact HK.out | apply zK | apply keep_drewN | apply keep_drew | apply keep_alloc | refine keep_far ?_ GW129.out _) | exact HK.out)), (by repeat (first | (with_reducible first | exact HB.out | apply zB | apply zA | apply zC | refine zD ?_ (Z73.ge HI0.out) | refine zD ?_ GE129.out) | exact HB.out))⟩)
                 ·skip
                  refine box_step ?hg (N := 5) ?hd (cs := #[.int .i64 0, .int .i64 0, .int .i64 0]) (t := 25) ?hr ?_; (case hd => rfl); (case hg => rfl); (case hr => first | (go_simp; done) | (go_simp; rfl))
                  intro gb138 hg w12 hbox hb
                  have n0_ := zM (Z73.below (by repeat (first | (with_reducible first | exact HI0.out | apply Z73.alloc | apply Z73.drewN | apply Z73.drew | apply Z73.set_1 | refine Z73.far ?_ NB0_129.out _) | exact HI0.out)) hb)
                  have n1_ := zM (blk_below (g := gb129) (o := .cells #[.int .i64 0, .int .i64 0, .int .i64 0] 25 (0, 0)) (by exact BK129.out) hb)
                  have n2_ := zM (KeepBut.trans (by repeat (first | (with_reducible first | exact HK.out | apply zK | apply keep_drewN | apply keep_drew | apply keep_alloc | refine keep_far ?_ GW129.out _) | exact HK.out)) (KeepBut.of_below hb g none) (.inl rfl))
                  have n3_ := zM (below_step (by repeat (first | (with_reducible first | exact HB.out | apply zB | apply zA | apply zC | refine zD ?_ (Z73.ge HI0.out) | refine zD ?_ GE129.out) | exact HB.out)) hb)
                  have n4_ := zM (hbox)
                  have n5_ := zM ((by rw [hg]; exact (keep_size (w := w) (g := g) (row := none) (by repeat (first | (with_reducible first | exact HK.out | apply zK | apply keep_drewN | apply keep_drew | apply keep_alloc | refine keep_far ?_ GW129.out _) | exact HK.out))) : w.heap.size ≤ gb138))
                  have n6_ := zM ((Nat.le_trans HW0.out (by rw [hg]; exact (keep_size (w := w) (g := g) (row := none) (by repeat (first | (with_reducible first | exact HK.out | apply zK | apply keep_drewN | apply keep_drew | apply keep_alloc | refine keep_far ?_ GW129.out _) | exact HK.out))) : w.heap.size ≤ gb138) : w0.heap.size ≤ gb138))
                  have n7_ := zM ((by rw [hg]; exact Nat.ne_of_lt (blk_lt (g := gb129) (o := .cells #[.int .i64 0, .int .i64 0, .int .i64 0] 25 (0, 0)) (by exact BK129.out)) : gb129 ≠ gb138))
                  have n8_ := zM ((by rw [hg]; exact Nat.ne_of_gt (blk_lt (g := gb129) (o := .cells #[.int .i64 0, .int .i64 0, .int .i64 0] 25 (0, 0)) (by exact BK129.out)) : gb138 ≠ gb129))
                  have n9_ := zM ((by rw [hg]; exact Nat.ne_of_lt (Z73.lt (show Z73 w0 _ g s0_0 t134 from by repeat (first | (with_reducible first | exact HI0.out | apply Z73.alloc | apply Z73.drewN | apply Z73.drew | apply Z73.set_1 | refine Z73.far ?_ NB0_129.out _) | exact HI0.out))) : g ≠ gb138))
                  have n10_ := zM ((by rw [hg]; exact Nat.ne_of_gt (Z73.lt (show Z73 w0 _ g s0_0 t134 from by repeat (first | (with_reducible first | exact HI0.out | apply Z73.alloc | apply Z73.drewN | apply Z73.drew | apply Z73.set_1 | refine Z73.far ?_ NB0_129.out _) | exact HI0.out))) : gb138 ≠ g))
                  clear HI0
                  clear BK129
                  clear HK
                  clear HB
                  have HI0 := n0_
                  have BK129 := n1_
                  have HK := n2_
                  have HB := n3_
                  have BK138 := n4_
                  have GW138 := n5_
                  have GE138 := n6_
                  have NB129_138 := n7_
                  have NB138_129 := n8_
                  have NB0_138 := n9_
                  have NB138_0 := n10_
                  clear n0_ n1_ n2_ n3_ n4_ n5_ n6_ n7_ n8_ n9_ n10_
                  clear hb hbox hg
                  refine hK.out _ _ trivial (fun hHeld => ?_)
                  clear hK K
                  refine norm_ (a' := ?_) ?_ ?_
                  rotate_left
                  ·show Act.put _ (some 5) _ = _
                   simp only [Act.put, zE, zF, zG, i64_w, i32_w]
                   rfl
                  exact norm_ (by first | (simp only [putAll, Act.put, zE, zF, zG]; done) | (simp only [putAll, Act.put, zE, zF, zG]; rfl)) (hJ2_11 (gb138) _ ⟨(by exact BK129.out), (by exact BK138.out), GW138.out, GE138.out, NB0_138.out, NB138_0.out, NB129_138.out, NB138_129.out, (by repeat (first | (with_reducible first | exact HI0.out | apply Z73.alloc | apply Z73.drewN | apply Z73.drew | apply Z73.set_1 | refine Z73.far ?_ NB0_129.out _ | refine Z73.far ?_ NB0_138.out _) | exact HI0.out)), (by repeat (first | (with_reducible first | exact HK.out | apply zK | apply keep_drewN | apply keep_drew | apply keep_alloc | refine keep_far ?_ GW129.out _ | refine keep_far ?_ GW138.out _) | exact HK.out)), (by repeat (first | (with_reducible first | exact HB.out | apply zB | apply zA | apply zC | refine zD ?_ (Z73.ge HI0.out) | refine zD ?_ GE129.out | refine zD ?_ GE138.out) | exact HB.out))⟩)
               ·skip
                rintro ⟨v131, adz_v131⟩ w13 ⟨h0_, h1_, h2_, h3_, h4_, h5_⟩
                have n0_ : Aside0 (Kd.R (Kd.int .i64) 3 w13 w.heap.size (fun _ => True) v131 y130) := ⟨h0_⟩
                have n1_ : Aside0 (∃ c_, (v131 : Value) = .slice (some adz_v131) y130.length c_) := ⟨h1_⟩
                have n2_ : Aside0 (w13.heap[gb129]? = some (.cells #[.int .i64 0, .int .i64 0, .int .i64 0] 25 (0, 0))) := ⟨h2_⟩
                have n3_ : Aside0 (Z73 w0 w13 g s0_0 s0_1) := ⟨h3_⟩
                have n4_ : Aside0 (KeepBut w w13 g none) := ⟨h4_⟩
                have n5_ : Aside0 (Below w0.heap.size w0 w13) := ⟨h5_⟩
                clear BK129
                clear HI0
                clear HK
                clear HB
                clear h0_ h1_ h2_ h3_ h4_ h5_
                have HO132 := n0_
                have HA_HO132 := n1_
                have BK129 := n2_
                have HI0 := n3_
                have HK := n4_
                have HB := n5_
                clear n0_ n1_ n2_ n3_ n4_ n5_
                have hHeld := trivial
                obtain ⟨co14, eo14⟩ := HA_HO132.out
                clear HA_HO132
                subst eo14
                refine norm_ (a' := ?_) ?_ ?_
                rotate_left
                ·simp only [putAll, Act.put, zE, zF, zG]
                 rfl
                refine two_ (i := 2) (j := 11) (Ni := some 8) (Nj := some 5) #[true, true, true, false, false, true, false, false, false, false, false, false, false] #[true, true, false, false, false, true, false, false, false, false, false, true, false] rfl rfl rfl rfl (two_of HT_.out (by kernel_rfl)) (by decide) (by decide) (fun K hK => ?_) (fun K hK => ?_)
                ·skip
                 refine goes_ Tryd.func43 (by kernel_rfl) rfl #[.pointer (some ⟨g, 0, none⟩), .int .i64 8] (by rfl) rfl rfl (by (try simp only [List.map_toArray, List.map_cons, List.map_nil]); first | done | rfl | (simp only [List.length_drop, List.length_take]; rfl)) ?_
                 with_reducible refine (spec_l20Rd_pick.calls k g s0_0 s0_1 8 t133 t134 w0 _ ?side1 ?side2 A3.out).mono ?_
                 (case side1 => repeat (first | (with_reducible first | exact HI0.out | apply Z73.alloc | apply Z73.drewN | apply Z73.drew | apply Z73.set_1 | refine Z73.far ?_ NB0_129.out _) | exact HI0.out))
                 (case side2 => repeat (first | (with_reducible first | exact HB.out | apply zB | apply zA | apply zC | refine zD ?_ (Z73.ge HI0.out) | refine zD ?_ GE129.out) | exact HB.out))
                 rintro e w15 ⟨rfl, hi, hb, hk⟩
                 refine ⟨_, rfl, ?_⟩
                 have n0_ := zM (KeepBut.blk hk (g' := gb129) (o := .cells #[.int .i64 0, .int .i64 0, .int .i64 0] 25 (0, 0)) (by exact BK129.out) NB129_0.out (by simp))
                 have n1_ := zM (Kd.R_mono (Kd.R_keep (Z73.apart (show Z73 w0 _ g s0_0 s0_1 from by repeat (first | (with_reducible first | exact HI0.out | apply Z73.alloc | apply Z73.drewN | apply Z73.drew | apply Z73.set_1 | refine Z73.far ?_ NB0_129.out _) | exact HI0.out)) (by exact HO132.out) (by decide)) hk (fun _ h => h.2)) (fun _ h => h.1))
                 have n2_ := zM (KeepBut.trans (by repeat (first | (with_reducible first | exact HK.out | apply zK | apply keep_drewN | apply keep_drew | apply keep_alloc | refine keep_far ?_ GW129.out _) | exact HK.out)) hk (.inl rfl))
                 have n3_ := zM (hb)
                 have n4_ := zM (hi)
                 clear BK129
                 clear HO132
                 clear HK
                 clear HB
                 clear HI0
                 have BK129 := n0_
                 have HO132 := n1_
                 have HK := n2_
                 have HB := n3_
                 have HI0 := n4_
                 clear n0_ n1_ n2_ n3_ n4_
                 (try clear hb)
                 (try clear hb2)
                 (try clear hk)
                 (try clear hi)
                 refine hK.out _ _ trivial (fun hHeld => ?_)
                 clear hK K
                 refine norm_ (a' := ?_) ?_ ?_
                 rotate_left
                 ·show Act.put _ (some 8) _ = _
                  simp only [Act.put, zE, zF, zG, i64_w, i32_w]
                  rfl
                 refine pure_ (i := 3) (N := some 9) (v := ?_) (a' := ?_) #[true, true, true, true, false, true, false, false, false, false, false, false, false] rfl rfl (any_of HT_.out (by kernel_rfl)) (fun _ _ _ h => h) (Or.inl ⟨by rfl, ?_⟩) ?_ ?_
                 rotate_left
                 ·intro w'
                  go_simp
                  with_reducible rfl
                 rotate_left
                 ·simp only [Act.put, zE, zF, zG, i64_w, i32_w]
                  rfl
                 exact norm_ (by first | (simp only [putAll, Act.put, zE, zF, zG]; done) | (simp only [putAll, Act.put, zE, zF, zG]; rfl)) (hJ0_2 (.slice (some adz_v131) y130.length co14, adz_v131) _ ⟨(by exact HO132.out), ⟨_, rfl⟩, (by exact BK129.out), (by repeat (first | (with_reducible first | exact HI0.out | apply Z73.alloc | apply Z73.drewN | apply Z73.drew | apply Z73.set_1 | refine Z73.far ?_ NB0_129.out _) | exact HI0.out)), (by repeat (first | (with_reducible first | exact HK.out | apply zK | apply keep_drewN | apply keep_drew | apply keep_alloc | refine keep_far ?_ GW129.out _) | exact HK.out)), (by repeat (first | (with_reducible first | exact HB.out | apply zB | apply zA | apply zC | refine zD ?_ (Z73.ge HI0.out) | refine zD ?_ GE129.out) | exact HB.out))⟩)
                ·skip
                 refine box_step ?hg (N := 5) ?hd (cs := #[.int .i64 0, .int .i64 0, .int .i64 0]) (t := 25) ?hr ?_; (case hd => rfl); (case hg => rfl); (case hr => first | (go_simp; done) | (go_simp; rfl))
                 intro gb138 hg w15 hbox hb
                 have n0_ := zM (Kd.R_below (by exact HO132.out) hb)
                 have n1_ := zM (Z73.below (by repeat (first | (with_reducible first | exact HI0.out | apply Z73.alloc | apply Z73.drewN | apply Z73.drew | apply Z73.set_1 | refine Z73.far ?_ NB0_129.out _) | exact HI0.out)) hb)
                 have n2_ := zM (blk_below (g := gb129) (o := .cells #[.int .i64 0, .int .i64 0, .int .i64 0] 25 (0, 0)) (by exact BK129.out) hb)
                 have n3_ := zM (KeepBut.trans (by repeat (first | (with_reducible first | exact HK.out | apply zK | apply keep_drewN | apply keep_drew | apply keep_alloc | refine keep_far ?_ GW129.out _) | exact HK.out)) (KeepBut.of_below hb g none) (.inl rfl))
                 have n4_ := zM (below_step (by repeat (first | (with_reducible first | exact HB.out | apply zB | apply zA | apply zC | refine zD ?_ (Z73.ge HI0.out) | refine zD ?_ GE129.out) | exact HB.out)) hb)
                 have n5_ := zM (hbox)
                 have n6_ := zM ((by rw [hg]; exact (keep_size (w := w) (g := g) (row := none) (by repeat (first | (with_reducible first | exact HK.out | apply zK | apply keep_drewN | apply keep_drew | apply keep_alloc | refine keep_far ?_ GW129.out _) | exact HK.out))) : w.heap.size ≤ gb138))
                 have n7_ := zM ((Nat.le_trans HW0.out (by rw [hg]; exact (keep_size (w := w) (g := g) (row := none) (by repeat (first | (with_reducible first | exact HK.out | apply zK | apply keep_drewN | apply keep_drew | apply keep_alloc | refine keep_far ?_ GW129.out _) | exact HK.out))) : w.heap.size ≤ gb138) : w0.heap.size ≤ gb138))
                 have n8_ := zM ((by rw [hg]; exact Nat.ne_of_lt (blk_lt (g := gb129) (o := .cells #[.int .i64 0, .int .i64 0, .int .i64 0] 25 (0, 0)) (by exact BK129.out)) : gb129 ≠ gb138))
                 have n9_ := zM ((by rw [hg]; exact Nat.ne_of_gt (blk_lt (g := gb129) (o := .cells #[.int .i64 0, .int .i64 0, .int .i64 0] 25 (0, 0)) (by exact BK129.out)) : gb138 ≠ gb129))
                 have n10_ := zM ((by rw [hg]; exact Nat.ne_of_lt (Z73.lt (show Z73 w0 _ g s0_0 s0_1 from by repeat (first | (with_reducible first | exact HI0.out | apply Z73.alloc | apply Z73.drewN | apply Z73.drew | apply Z73.set_1 | refine Z73.far ?_ NB0_129.out _) | exact HI0.out))) : g ≠ gb138))
                 have n11_ := zM ((by rw [hg]; exact Nat.ne_of_gt (Z73.lt (show Z73 w0 _ g s0_0 s0_1 from by repeat (first | (with_reducible first | exact HI0.out | apply Z73.alloc | apply Z73.drewN | apply Z73.drew | apply Z73.set_1 | refine Z73.far ?_ NB0_129.out _) | exact HI0.out))) : gb138 ≠ g))
                 clear HO132
                 clear HI0
                 clear BK129
                 clear HK
                 clear HB
                 have HO132 := n0_
                 have HI0 := n1_
                 have BK129 := n2_
                 have HK := n3_
                 have HB := n4_
                 have BK138 := n5_
                 have GW138 := n6_
                 have GE138 := n7_
                 have NB129_138 := n8_
                 have NB138_129 := n9_
                 have NB0_138 := n10_
                 have NB138_0 := n11_
                 clear n0_ n1_ n2_ n3_ n4_ n5_ n6_ n7_ n8_ n9_ n10_ n11_
                 clear hb hbox hg
                 refine hK.out _ _ trivial (fun hHeld => ?_)
                 clear hK K
                 refine norm_ (a' := ?_) ?_ ?_
                 rotate_left
                 ·show Act.put _ (some 5) _ = _
                  simp only [Act.put, zE, zF, zG, i64_w, i32_w]
                  rfl
                 exact norm_ (by first | (simp only [putAll, Act.put, zE, zF, zG]; done) | (simp only [putAll, Act.put, zE, zF, zG]; rfl)) (hJ0_11 (.slice (some adz_v131) y130.length co14, adz_v131, gb138) _ ⟨(by exact HO132.out), ⟨_, rfl⟩, (by exact BK129.out), (by exact BK138.out), GW138.out, GE138.out, NB0_138.out, NB138_0.out, NB129_138.out, NB138_129.out, (by repeat (first | (with_reducible first | exact HI0.out | apply Z73.alloc | apply Z73.drewN | apply Z73.drew | apply Z73.set_1 | refine Z73.far ?_ NB0_129.out _ | refine Z73.far ?_ NB0_138.out _) | exact HI0.out)), (by repeat (first | (with_reducible first | exact HK.out | apply zK | apply keep_drewN | apply keep_drew | apply keep_alloc | refine keep_far ?_ GW129.out _ | refine keep_far ?_ GW138.out _) | exact HK.out)), (by repeat (first | (with_reducible first | exact HB.out | apply zB | apply zA | apply zC | refine zD ?_ (Z73.ge HI0.out) | refine zD ?_ GE129.out | refine zD ?_ GE138.out) | exact HB.out))⟩)
              ·skip
               rintro gb138 w12 ⟨h0_, h1_, h2_, h3_, h4_, h5_, h6_, h7_, h8_, h9_, h10_⟩
               have n0_ : Aside0 (w12.heap[gb129]? = some (.cells #[.int .i64 0, .int .i64 0, .int .i64 0] 25 (0, 0))) := ⟨h0_⟩
               have n1_ : Aside0 (w12.heap[gb138]? = some (.cells #[.int .i64 0, .int .i64 0, .int .i64 0] 25 (0, 0))) := ⟨h1_⟩
               have n2_ : Aside0 (w.heap.size ≤ gb138) := ⟨h2_⟩
               have n3_ : Aside0 (w0.heap.size ≤ gb138) := ⟨h3_⟩
               have n4_ : Aside0 (g ≠ gb138) := ⟨h4_⟩
               have n5_ : Aside0 (gb138 ≠ g) := ⟨h5_⟩
               have n6_ : Aside0 (gb129 ≠ gb138) := ⟨h6_⟩
               have n7_ : Aside0 (gb138 ≠ gb129) := ⟨h7_⟩
               have n8_ : Aside0 (Z73 w0 w12 g s0_0 t134) := ⟨h8_⟩
               have n9_ : Aside0 (KeepBut w w12 g none) := ⟨h9_⟩
               have n10_ : Aside0 (Below w0.heap.size w0 w12) := ⟨h10_⟩
               clear BK129
               clear HI0
               clear HK
               clear HB
               clear h0_ h1_ h2_ h3_ h4_ h5_ h6_ h7_ h8_ h9_ h10_
               have BK129 := n0_
               have BK138 := n1_
               have GW138 := n2_
               have GE138 := n3_
               have NB0_138 := n4_
               have NB138_0 := n5_
               have NB129_138 := n6_
               have NB138_129 := n7_
               have HI0 := n8_
               have HK := n9_
               have HB := n10_
               clear n0_ n1_ n2_ n3_ n4_ n5_ n6_ n7_ n8_ n9_ n10_
               have hHeld := trivial
               refine norm_ (a' := ?_) ?_ ?_
               rotate_left
               ·simp only [putAll, Act.put, zE, zF, zG]
                rfl
               refine two_ (i := 0) (j := 6) (Ni := some 6) (Nj := some 12) #[true, true, true, false, false, true, false, false, false, false, false, true, false] #[false, true, true, false, false, true, true, false, false, false, false, true, false] rfl rfl rfl rfl (two_of HT_.out (by kernel_rfl)) (by decide) (by decide) (fun K hK => ?_) (fun K hK => ?_)
               ·skip
                refine Kd.R_lit_step (Kd.int .i64) _ 3 ?hg (N := 6) ?hd (xs := ([0, 0, 1, 1, 2, 3, 4, 5] : List Int)) (inner := [.int .i64 0, .int .i64 0, .int .i64 1, .int .i64 1, .int .i64 2, .int .i64 3, .int .i64 4, .int .i64 5]) (ok := fun _ => True) (okp := fun _ => True) ?hr ?hp (fun _ hk => hk) trivial (Below.refl _ _) (Nat.le_refl _) (by simp) ?_; (case hd => rfl); (case hg => rfl); (case hr => first | (go_simp; done) | (go_simp; rfl)); (case hp => exact (Reps.one (show Kd.M (Kd.int .i64) _ _ _ 0 [.int .i64 0] from rfl) (Reps.one (show Kd.M (Kd.int .i64) _ _ _ 0 [.int .i64 0] from rfl) (Reps.one (show Kd.M (Kd.int .i64) _ _ _ 1 [.int .i64 1] from rfl) (Reps.one (show Kd.M (Kd.int .i64) _ _ _ 1 [.int .i64 1] from rfl) (Reps.one (show Kd.M (Kd.int .i64) _ _ _ 2 [.int .i64 2] from rfl) (Reps.one (show Kd.M (Kd.int .i64) _ _ _ 3 [.int .i64 3] from rfl) (Reps.one (show Kd.M (Kd.int .i64) _ _ _ 4 [.int .i64 4] from rfl) (Reps.one (show Kd.M (Kd.int .i64) _ _ _ 5 [.int .i64 5] from rfl) (Reps.none _ _))))))))))
                intro v131 w13 ho14 hb hg_ hnew_
                clear hg_ hnew_
                (first | rw [← Ny130.out] at ho14 | (simp only [Int.reduceToNat] at ho14; rw [← Ny130.out] at ho14))
                have n0_ := zM (Kd.R_lower ho14 (keep_size (w := w) (g := g) (row := none) (by repeat (first | (with_reducible first | exact HK.out | apply zK | apply keep_drewN | apply keep_drew | apply keep_alloc | refine keep_far ?_ GW129.out _ | refine keep_far ?_ GW138.out _) | exact HK.out))))
                have n1_ := zM (Z73.below (by repeat (first | (with_reducible first | exact HI0.out | apply Z73.alloc | apply Z73.drewN | apply Z73.drew | apply Z73.set_1 | refine Z73.far ?_ NB0_129.out _ | refine Z73.far ?_ NB0_138.out _) | exact HI0.out)) hb)
                have n2_ := zM (blk_below (g := gb129) (o := .cells #[.int .i64 0, .int .i64 0, .int .i64 0] 25 (0, 0)) (by exact BK129.out) hb)
                have n3_ := zM (blk_below (g := gb138) (o := .cells #[.int .i64 0, .int .i64 0, .int .i64 0] 25 (0, 0)) (by exact BK138.out) hb)
                have n4_ := zM (KeepBut.trans (by repeat (first | (with_reducible first | exact HK.out | apply zK | apply keep_drewN | apply keep_drew | apply keep_alloc | refine keep_far ?_ GW129.out _ | refine keep_far ?_ GW138.out _) | exact HK.out)) (KeepBut.of_below hb g none) (.inl rfl))
                have n5_ := zM (below_step (by repeat (first | (with_reducible first | exact HB.out | apply zB | apply zA | apply zC | refine zD ?_ (Z73.ge HI0.out) | refine zD ?_ GE129.out | refine zD ?_ GE138.out) | exact HB.out)) hb)
                clear HI0
                clear BK129
                clear BK138
                clear HK
                clear HB
                have HO132 := n0_
                have HI0 := n1_
                have BK129 := n2_
                have BK138 := n3_
                have HK := n4_
                have HB := n5_
                clear n0_ n1_ n2_ n3_ n4_ n5_
                clear hb ho14
                obtain ⟨Ao15, co15, eo15⟩ := Kd.R_slice HO132.out
                subst eo15
                obtain ⟨ado15, fo15, _⟩ := Kd.at_int (Kd.R_reads' HO132.out).2.2 0 (by decide) (by rw [Ny130.out]; simp)
                cases fo15
                refine hK.out _ _ trivial (fun hHeld => ?_)
                clear hK K
                refine norm_ (a' := ?_) ?_ ?_
                rotate_left
                ·show Act.put _ (some 6) _ = _
                 simp only [Act.put, zE, zF, zG, i64_w, i32_w]
                 rfl
                refine pure_ (i := 3) (N := some 9) (v := ?_) (a' := ?_) #[true, true, true, true, false, true, false, false, false, false, false, true, false] rfl rfl (any_of HT_.out (by kernel_rfl)) (fun _ _ _ h => h) (Or.inl ⟨by rfl, ?_⟩) ?_ ?_
                rotate_left
                ·intro w'
                 go_simp
                 with_reducible rfl
                rotate_left
                ·simp only [Act.put, zE, zF, zG, i64_w, i32_w]
                 rfl
                exact norm_ (by first | (simp only [putAll, Act.put, zE, zF, zG]; done) | (simp only [putAll, Act.put, zE, zF, zG]; rfl)) (hJ0_2_11 (.slice (some ado15) y130.length co15, ado15, gb138) _ ⟨(by exact HO132.out), ⟨_, rfl⟩, (by exact BK129.out), (by exact BK138.out), GW138.out, GE138.out, NB0_138.out, NB138_0.out, NB129_138.out, NB138_129.out, (by repeat (first | (with_reducible first | exact HI0.out | apply Z73.alloc | apply Z73.drewN | apply Z73.drew | apply Z73.set_1 | refine Z73.far ?_ NB0_129.out _ | refine Z73.far ?_ NB0_138.out _) | exact HI0.out)), (by repeat (first | (with_reducible first | exact HK.out | apply zK | apply keep_drewN | apply keep_drew | apply keep_alloc | refine keep_far ?_ GW129.out _ | refine keep_far ?_ GW138.out _) | exact HK.out)), (by repeat (first | (with_reducible first | exact HB.out | apply zB | apply zA | apply zC | refine zD ?_ (Z73.ge HI0.out) | refine zD ?_ GE129.out | refine zD ?_ GE138.out) | exact HB.out))⟩)
               ·skip
                refine goes_ Tryd.func43 (by kernel_rfl) rfl #[.pointer (some ⟨g, 0, none⟩), .int .i64 60] (by rfl) rfl rfl (by (try simp only [List.map_toArray, List.map_cons, List.map_nil]); first | done | rfl | (simp only [List.length_drop, List.length_take]; rfl)) ?_
                with_reducible refine (spec_l20Rd_pick.calls k g s0_0 t134 60 t136 t137 w0 _ ?side1 ?side2 A6.out).mono ?_
                (case side1 => repeat (first | (with_reducible first | exact HI0.out | apply Z73.alloc | apply Z73.drewN | apply Z73.drew | apply Z73.set_1 | refine Z73.far ?_ NB0_129.out _ | refine Z73.far ?_ NB0_138.out _) | exact HI0.out))
                (case side2 => repeat (first | (with_reducible first | exact HB.out | apply zB | apply zA | apply zC | refine zD ?_ (Z73.ge HI0.out) | refine zD ?_ GE129.out | refine zD ?_ GE138.out) | exact HB.out))
                rintro e w13 ⟨rfl, hi, hb, hk⟩
                refine ⟨_, rfl, ?_⟩
                have n0_ := zM (KeepBut.blk hk (g' := gb129) (o := .cells #[.int .i64 0, .int .i64 0, .int .i64 0] 25 (0, 0)) (by exact BK129.out) NB129_0.out (by simp))
                have n1_ := zM (KeepBut.blk hk (g' := gb138) (o := .cells #[.int .i64 0, .int .i64 0, .int .i64 0] 25 (0, 0)) (by exact BK138.out) NB138_0.out (by simp))
                have n2_ := zM (KeepBut.trans (by repeat (first | (with_reducible first | exact HK.out | apply zK | apply keep_drewN | apply keep_drew | apply keep_alloc | refine keep_far ?_ GW129.out _ | refine keep_far ?_ GW138.out _) | exact HK.out)) hk (.inl rfl))
                have n3_ := zM (hb)
                have n4_ := zM (hi)
                clear BK129
                clear BK138
                clear HK
                clear HB
                clear HI0
                have BK129 := n0_
                have BK138 := n1_
                have HK := n2_
                have HB := n3_
                have HI0 := n4_
                clear n0_ n1_ n2_ n3_ n4_
                (try clear hb)
                (try clear hb2)
                (try clear hk)
                (try clear hi)
                refine hK.out _ _ trivial (fun hHeld => ?_)
                clear hK K
                refine norm_ (a' := ?_) ?_ ?_
                rotate_left
                ·show Act.put _ (some 12) _ = _
                 simp only [Act.put, zE, zF, zG, i64_w, i32_w]
                 rfl
                refine pure_ (i := 7) (N := some 13) (v := ?_) (a' := ?_) #[false, true, true, false, false, true, true, true, false, false, false, true, false] rfl rfl (any_of HT_.out (by kernel_rfl)) (fun _ _ _ h => h) (Or.inl ⟨by rfl, ?_⟩) ?_ ?_
                rotate_left
                ·intro w'
                 go_simp
                 with_reducible rfl
                rotate_left
                ·simp only [Act.put, zE, zF, zG, i64_w, i32_w]
                 rfl
                refine pure_ (i := 8) (N := some 14) (v := ?_) (a' := ?_) #[false, true, true, false, false, true, true, true, true, false, false, true, false] rfl rfl (any_of HT_.out (by kernel_rfl)) (fun _ _ _ h => h) (Or.inl ⟨by rfl, ?_⟩) ?_ ?_
                rotate_left
                ·intro w'
                 go_simp
                 with_reducible rfl
                rotate_left
                ·simp only [Act.put, zE, zF, zG, i64_w, i32_w]
                 rfl
                exact norm_ (by first | (simp only [putAll, Act.put, zE, zF, zG]; done) | (simp only [putAll, Act.put, zE, zF, zG]; rfl)) (hJ2_6_11 (gb138) _ ⟨(by exact BK129.out), (by exact BK138.out), GW138.out, GE138.out, NB0_138.out, NB138_0.out, NB129_138.out, NB138_129.out, (by repeat (first | (with_reducible first | exact HI0.out | apply Z73.alloc | apply Z73.drewN | apply Z73.drew | apply Z73.set_1 | refine Z73.far ?_ NB0_129.out _ | refine Z73.far ?_ NB0_138.out _) | exact HI0.out)), (by repeat (first | (with_reducible first | exact HK.out | apply zK | apply keep_drewN | apply keep_drew | apply keep_alloc | refine keep_far ?_ GW129.out _ | refine keep_far ?_ GW138.out _) | exact HK.out)), (by repeat (first | (with_reducible first | exact HB.out | apply zB | apply zA | apply zC | refine zD ?_ (Z73.ge HI0.out) | refine zD ?_ GE129.out | refine zD ?_ GE138.out) | exact HB.out))⟩)
             ·skip
              rintro _ w12 ⟨h0_, h1_, h2_, h3_⟩
              have n0_ : Aside0 (w12.heap[gb129]? = some (.cells #[.int .i64 0, .int .i64 0, .int .i64 0] 25 (0, 0))) := ⟨h0_⟩
              have n1_ : Aside0 (Z73 w0 w12 g s0_0 t137) := ⟨h1_⟩
              have n2_ : Aside0 (KeepBut w w12 g none) := ⟨h2_⟩
              have n3_ : Aside0 (Below w0.heap.size w0 w12) := ⟨h3_⟩
              clear BK129
              clear HI0
              clear HK
              clear HB
              clear h0_ h1_ h2_ h3_
              have BK129 := n0_
              have HI0 := n1_
              have HK := n2_
              have HB := n3_
              clear n0_ n1_ n2_ n3_
              have hHeld := trivial
              refine norm_ (a' := ?_) ?_ ?_
              rotate_left
              ·simp only [putAll, Act.put, zE, zF, zG]
               rfl
              refine two_ (i := 0) (j := 11) (Ni := some 6) (Nj := some 5) #[true, true, true, false, false, true, true, true, true, false, false, false, false] #[false, true, true, false, false, true, true, true, true, false, false, true, false] rfl rfl rfl rfl (two_of HT_.out (by kernel_rfl)) (by decide) (by decide) (fun K hK => ?_) (fun K hK => ?_)
              ·skip
               refine Kd.R_lit_step (Kd.int .i64) _ 3 ?hg (N := 6) ?hd (xs := ([0, 0, 1, 1, 2, 3, 4, 5] : List Int)) (inner := [.int .i64 0, .int .i64 0, .int .i64 1, .int .i64 1, .int .i64 2, .int .i64 3, .int .i64 4, .int .i64 5]) (ok := fun _ => True) (okp := fun _ => True) ?hr ?hp (fun _ hk => hk) trivial (Below.refl _ _) (Nat.le_refl _) (by simp) ?_; (case hd => rfl); (case hg => rfl); (case hr => first | (go_simp; done) | (go_simp; rfl)); (case hp => exact (Reps.one (show Kd.M (Kd.int .i64) _ _ _ 0 [.int .i64 0] from rfl) (Reps.one (show Kd.M (Kd.int .i64) _ _ _ 0 [.int .i64 0] from rfl) (Reps.one (show Kd.M (Kd.int .i64) _ _ _ 1 [.int .i64 1] from rfl) (Reps.one (show Kd.M (Kd.int .i64) _ _ _ 1 [.int .i64 1] from rfl) (Reps.one (show Kd.M (Kd.int .i64) _ _ _ 2 [.int .i64 2] from rfl) (Reps.one (show Kd.M (Kd.int .i64) _ _ _ 3 [.int .i64 3] from rfl) (Reps.one (show Kd.M (Kd.int .i64) _ _ _ 4 [.int .i64 4] from rfl) (Reps.one (show Kd.M (Kd.int .i64) _ _ _ 5 [.int .i64 5] from rfl) (Reps.none _ _))))))))))
               intro v131 w13 ho14 hb hg_ hnew_
               clear hg_ hnew_
               (first | rw [← Ny130.out] at ho14 | (simp only [Int.reduceToNat] at ho14; rw [← Ny130.out] at ho14))
               have n0_ := zM (Kd.R_lower ho14 (keep_size (w := w) (g := g) (row := none) (by repeat (first | (with_reducible first | exact HK.out | apply zK | apply keep_drewN | apply keep_drew | apply keep_alloc | refine keep_far ?_ GW129.out _) | exact HK.out))))
               have n1_ := zM (Z73.below (by repeat (first | (with_reducible first | exact HI0.out | apply Z73.alloc | apply Z73.drewN | apply Z73.drew | apply Z73.set_1 | refine Z73.far ?_ NB0_129.out _) | exact HI0.out)) hb)
               have n2_ := zM (blk_below (g := gb129) (o := .cells #[.int .i64 0, .int .i64 0, .int .i64 0] 25 (0, 0)) (by exact BK129.out) hb)
               have n3_ := zM (KeepBut.trans (by repeat (first | (with_reducible first | exact HK.out | apply zK | apply keep_drewN | apply keep_drew | apply keep_alloc | refine keep_far ?_ GW129.out _) | exact HK.out)) (KeepBut.of_below hb g none) (.inl rfl))
               have n4_ := zM (below_step (by repeat (first | (with_reducible first | exact HB.out | apply zB | apply zA | apply zC | refine zD ?_ (Z73.ge HI0.out) | refine zD ?_ GE129.out) | exact HB.out)) hb)
               clear HI0
               clear BK129
               clear HK
               clear HB
               have HO132 := n0_
               have HI0 := n1_
               have BK129 := n2_
               have HK := n3_
               have HB := n4_
               clear n0_ n1_ n2_ n3_ n4_
               clear hb ho14
               obtain ⟨Ao15, co15, eo15⟩ := Kd.R_slice HO132.out
               subst eo15
               obtain ⟨ado15, fo15, _⟩ := Kd.at_int (Kd.R_reads' HO132.out).2.2 0 (by decide) (by rw [Ny130.out]; simp)
               cases fo15
               refine hK.out _ _ trivial (fun hHeld => ?_)
               clear hK K
               refine norm_ (a' := ?_) ?_ ?_
               rotate_left
               ·show Act.put _ (some 6) _ = _
                simp only [Act.put, zE, zF, zG, i64_w, i32_w]
                rfl
               refine pure_ (i := 3) (N := some 9) (v := ?_) (a' := ?_) #[true, true, true, true, false, true, true, true, true, false, false, false, false] rfl rfl (any_of HT_.out (by kernel_rfl)) (fun _ _ _ h => h) (Or.inl ⟨by rfl, ?_⟩) ?_ ?_
               rotate_left
               ·intro w'
                go_simp
                with_reducible rfl
               rotate_left
               ·simp only [Act.put, zE, zF, zG, i64_w, i32_w]
                rfl
               exact norm_ (by first | (simp only [putAll, Act.put, zE, zF, zG]; done) | (simp only [putAll, Act.put, zE, zF, zG]; rfl)) (hJ0_2_6 (.slice (some ado15) y130.length co15, ado15) _ ⟨(by exact HO132.out), ⟨_, rfl⟩, (by exact BK129.out), (by repeat (first | (with_reducible first | exact HI0.out | apply Z73.alloc | apply Z73.drewN | apply Z73.drew | apply Z73.set_1 | refine Z73.far ?_ NB0_129.out _) | exact HI0.out)), (by repeat (first | (with_reducible first | exact HK.out | apply zK | apply keep_drewN | apply keep_drew | apply keep_alloc | refine keep_far ?_ GW129.out _) | exact HK.out)), (by repeat (first | (with_reducible first | exact HB.out | apply zB | apply zA | apply zC | refine zD ?_ (Z73.ge HI0.out) | refine zD ?_ GE129.out) | exact HB.out))⟩)
              ·skip
               refine box_step ?hg (N := 5) ?hd (cs := #[.int .i64 0, .int .i64 0, .int .i64 0]) (t := 25) ?hr ?_; (case hd => rfl); (case hg => rfl); (case hr => first | (go_simp; done) | (go_simp; rfl))
               intro gb138 hg w13 hbox hb
               have n0_ := zM (Z73.below (by repeat (first | (with_reducible first | exact HI0.out | apply Z73.alloc | apply Z73.drewN | apply Z73.drew | apply Z73.set_1 | refine Z73.far ?_ NB0_129.out _) | exact HI0.out)) hb)
               have n1_ := zM (blk_below (g := gb129) (o := .cells #[.int .i64 0, .int .i64 0, .int .i64 0] 25 (0, 0)) (by exact BK129.out) hb)
               have n2_ := zM (KeepBut.trans (by repeat (first | (with_reducible first | exact HK.out | apply zK | apply keep_drewN | apply keep_drew | apply keep_alloc | refine keep_far ?_ GW129.out _) | exact HK.out)) (KeepBut.of_below hb g none) (.inl rfl))
               have n3_ := zM (below_step (by repeat (first | (with_reducible first | exact HB.out | apply zB | apply zA | apply zC | refine zD ?_ (Z73.ge HI0.out) | refine zD ?_ GE129.out) | exact HB.out)) hb)
               have n4_ := zM (hbox)
               have n5_ := zM ((by rw [hg]; exact (keep_size (w := w) (g := g) (row := none) (by repeat (first | (with_reducible first | exact HK.out | apply zK | apply keep_drewN | apply keep_drew | apply keep_alloc | refine keep_far ?_ GW129.out _) | exact HK.out))) : w.heap.size ≤ gb138))
               have n6_ := zM ((Nat.le_trans HW0.out (by rw [hg]; exact (keep_size (w := w) (g := g) (row := none) (by repeat (first | (with_reducible first | exact HK.out | apply zK | apply keep_drewN | apply keep_drew | apply keep_alloc | refine keep_far ?_ GW129.out _) | exact HK.out))) : w.heap.size ≤ gb138) : w0.heap.size ≤ gb138))
               have n7_ := zM ((by rw [hg]; exact Nat.ne_of_lt (blk_lt (g := gb129) (o := .cells #[.int .i64 0, .int .i64 0, .int .i64 0] 25 (0, 0)) (by exact BK129.out)) : gb129 ≠ gb138))
               have n8_ := zM ((by rw [hg]; exact Nat.ne_of_gt (blk_lt (g := gb129) (o := .cells #[.int .i64 0, .int .i64 0, .int .i64 0] 25 (0, 0)) (by exact BK129.out)) : gb138 ≠ gb129))
               have n9_ := zM ((by rw [hg]; exact Nat.ne_of_lt (Z73.lt (show Z73 w0 _ g s0_0 t137 from by repeat (first | (with_reducible first | exact HI0.out | apply Z73.alloc | apply Z73.drewN | apply Z73.drew | apply Z73.set_1 | refine Z73.far ?_ NB0_129.out _) | exact HI0.out))) : g ≠ gb138))
               have n10_ := zM ((by rw [hg]; exact Nat.ne_of_gt (Z73.lt (show Z73 w0 _ g s0_0 t137 from by repeat (first | (with_reducible first | exact HI0.out | apply Z73.alloc | apply Z73.drewN | apply Z73.drew | apply Z73.set_1 | refine Z73.far ?_ NB0_129.out _) | exact HI0.out))) : gb138 ≠ g))
               clear HI0
               clear BK129
               clear HK
               clear HB
               have HI0 := n0_
               have BK129 := n1_
               have HK := n2_
               have HB := n3_
               have BK138 := n4_
               have GW138 := n5_
               have GE138 := n6_
               have NB129_138 := n7_
               have NB138_129 := n8_
               have NB0_138 := n9_
               have NB138_0 := n10_
               clear n0_ n1_ n2_ n3_ n4_ n5_ n6_ n7_ n8_ n9_ n10_
               clear hb hbox hg
               refine hK.out _ _ trivial (fun hHeld => ?_)
               clear hK K
               refine norm_ (a' := ?_) ?_ ?_
               rotate_left
               ·show Act.put _ (some 5) _ = _
                simp only [Act.put, zE, zF, zG, i64_w, i32_w]
                rfl
               exact norm_ (by first | (simp only [putAll, Act.put, zE, zF, zG]; done) | (simp only [putAll, Act.put, zE, zF, zG]; rfl)) (hJ2_6_11 (gb138) _ ⟨(by exact BK129.out), (by exact BK138.out), GW138.out, GE138.out, NB0_138.out, NB138_0.out, NB129_138.out, NB138_129.out, (by repeat (first | (with_reducible first | exact HI0.out | apply Z73.alloc | apply Z73.drewN | apply Z73.drew | apply Z73.set_1 | refine Z73.far ?_ NB0_129.out _ | refine Z73.far ?_ NB0_138.out _) | exact HI0.out)), (by repeat (first | (with_reducible first | exact HK.out | apply zK | apply keep_drewN | apply keep_drew | apply keep_alloc | refine keep_far ?_ GW129.out _ | refine keep_far ?_ GW138.out _) | exact HK.out)), (by repeat (first | (with_reducible first | exact HB.out | apply zB | apply zA | apply zC | refine zD ?_ (Z73.ge HI0.out) | refine zD ?_ GE129.out | refine zD ?_ GE138.out) | exact HB.out))⟩)
            ·skip
             rintro ⟨v131, adz_v131, gb138⟩ w14 ⟨h0_, h1_, h2_, h3_, h4_, h5_, h6_, h7_, h8_, h9_, h10_, h11_, h12_⟩
             have n0_ : Aside0 (Kd.R (Kd.int .i64) 3 w14 w.heap.size (fun _ => True) v131 y130) := ⟨h0_⟩
             have n1_ : Aside0 (∃ c_, (v131 : Value) = .slice (some adz_v131) y130.length c_) := ⟨h1_⟩
             have n2_ : Aside0 (w14.heap[gb129]? = some (.cells #[.int .i64 0, .int .i64 0, .int .i64 0] 25 (0, 0))) := ⟨h2_⟩
             have n3_ : Aside0 (w14.heap[gb138]? = some (.cells #[.int .i64 0, .int .i64 0, .int .i64 0] 25 (0, 0))) := ⟨h3_⟩
             have n4_ : Aside0 (w.heap.size ≤ gb138) := ⟨h4_⟩
             have n5_ : Aside0 (w0.heap.size ≤ gb138) := ⟨h5_⟩
             have n6_ : Aside0 (g ≠ gb138) := ⟨h6_⟩
             have n7_ : Aside0 (gb138 ≠ g) := ⟨h7_⟩
             have n8_ : Aside0 (gb129 ≠ gb138) := ⟨h8_⟩
             have n9_ : Aside0 (gb138 ≠ gb129) := ⟨h9_⟩
             have n10_ : Aside0 (Z73 w0 w14 g s0_0 s0_1) := ⟨h10_⟩
             have n11_ : Aside0 (KeepBut w w14 g none) := ⟨h11_⟩
             have n12_ : Aside0 (Below w0.heap.size w0 w14) := ⟨h12_⟩
             clear BK129
             clear HI0
             clear HK
             clear HB
             clear h0_ h1_ h2_ h3_ h4_ h5_ h6_ h7_ h8_ h9_ h10_ h11_ h12_
             have HO132 := n0_
             have HA_HO132 := n1_
             have BK129 := n2_
             have BK138 := n3_
             have GW138 := n4_
             have GE138 := n5_
             have NB0_138 := n6_
             have NB138_0 := n7_
             have NB129_138 := n8_
             have NB138_129 := n9_
             have HI0 := n10_
             have HK := n11_
             have HB := n12_
             clear n0_ n1_ n2_ n3_ n4_ n5_ n6_ n7_ n8_ n9_ n10_ n11_ n12_
             have hHeld := trivial
             obtain ⟨co15, eo15⟩ := HA_HO132.out
             clear HA_HO132
             subst eo15
             refine norm_ (a' := ?_) ?_ ?_
             rotate_left
             ·simp only [putAll, Act.put, zE, zF, zG]
              rfl
             refine one_ (i := 2) (N := some 8) #[true, true, true, false, false, true, false, false, false, false, false, true, false] rfl rfl (one_of HT_.out (by kernel_rfl)) (by decide) (fun K hK => ?_)
             refine goes_ Tryd.func43 (by kernel_rfl) rfl #[.pointer (some ⟨g, 0, none⟩), .int .i64 8] (by rfl) rfl rfl (by (try simp only [List.map_toArray, List.map_cons, List.map_nil]); first | done | rfl | (simp only [List.length_drop, List.length_take]; rfl)) ?_
             with_reducible refine (spec_l20Rd_pick.calls k g s0_0 s0_1 8 t133 t134 w0 _ ?side1 ?side2 A3.out).mono ?_
             (case side1 => repeat (first | (with_reducible first | exact HI0.out | apply Z73.alloc | apply Z73.drewN | apply Z73.drew | apply Z73.set_1 | refine Z73.far ?_ NB0_129.out _ | refine Z73.far ?_ NB0_138.out _) | exact HI0.out))
             (case side2 => repeat (first | (with_reducible first | exact HB.out | apply zB | apply zA | apply zC | refine zD ?_ (Z73.ge HI0.out) | refine zD ?_ GE129.out | refine zD ?_ GE138.out) | exact HB.out))
             rintro e w16 ⟨rfl, hi, hb, hk⟩
             refine ⟨_, rfl, ?_⟩
             have n0_ := zM (KeepBut.blk hk (g' := gb129) (o := .cells #[.int .i64 0, .int .i64 0, .int .i64 0] 25 (0, 0)) (by exact BK129.out) NB129_0.out (by simp))
             have n1_ := zM (Kd.R_mono (Kd.R_keep (Z73.apart (show Z73 w0 _ g s0_0 s0_1 from by repeat (first | (with_reducible first | exact HI0.out | apply Z73.alloc | apply Z73.drewN | apply Z73.drew | apply Z73.set_1 | refine Z73.far ?_ NB0_129.out _ | refine Z73.far ?_ NB0_138.out _) | exact HI0.out)) (by exact HO132.out) (by decide)) hk (fun _ h => h.2)) (fun _ h => h.1))
             have n2_ := zM (KeepBut.blk hk (g' := gb138) (o := .cells #[.int .i64 0, .int .i64 0, .int .i64 0] 25 (0, 0)) (by exact BK138.out) NB138_0.out (by simp))
             have n3_ := zM (KeepBut.trans (by repeat (first | (with_reducible first | exact HK.out | apply zK | apply keep_drewN | apply keep_drew | apply keep_alloc | refine keep_far ?_ GW129.out _ | refine keep_far ?_ GW138.out _) | exact HK.out)) hk (.inl rfl))
             have n4_ := zM (hb)
             have n5_ := zM (hi)
             clear BK129
             clear HO132
             clear BK138
             clear HK
             clear HB
             clear HI0
             have BK129 := n0_
             have HO132 := n1_
             have BK138 := n2_
             have HK := n3_
             have HB := n4_
             have HI0 := n5_
             clear n0_ n1_ n2_ n3_ n4_ n5_
             (try clear hb)
             (try clear hb2)
             (try clear hk)
             (try clear hi)
             refine hK.out _ _ trivial (fun hHeld => ?_)
             clear hK K
             refine norm_ (a' := ?_) ?_ ?_
             rotate_left
             ·show Act.put _ (some 8) _ = _
              simp only [Act.put, zE, zF, zG, i64_w, i32_w]
              rfl
             refine pure_ (i := 3) (N := some 9) (v := ?_) (a' := ?_) #[true, true, true, true, false, true, false, false, false, false, false, true, false] rfl rfl (any_of HT_.out (by kernel_rfl)) (fun _ _ _ h => h) (Or.inl ⟨by rfl, ?_⟩) ?_ ?_
             rotate_left
             ·intro w'
              go_simp
              with_reducible rfl
             rotate_left
             ·simp only [Act.put, zE, zF, zG, i64_w, i32_w]
              rfl
             exact norm_ (by first | (simp only [putAll, Act.put, zE, zF, zG]; done) | (simp only [putAll, Act.put, zE, zF, zG]; rfl)) (hJ0_2_11 (.slice (some adz_v131) y130.length co15, adz_v131, gb138) _ ⟨(by exact HO132.out), ⟨_, rfl⟩, (by exact BK129.out), (by exact BK138.out), GW138.out, GE138.out, NB0_138.out, NB138_0.out, NB129_138.out, NB138_129.out, (by repeat (first | (with_reducible first | exact HI0.out | apply Z73.alloc | apply Z73.drewN | apply Z73.drew | apply Z73.set_1 | refine Z73.far ?_ NB0_129.out _ | refine Z73.far ?_ NB0_138.out _) | exact HI0.out)), (by repeat (first | (with_reducible first | exact HK.out | apply zK | apply keep_drewN | apply keep_drew | apply keep_alloc | refine keep_far ?_ GW129.out _ | refine keep_far ?_ GW138.out _) | exact HK.out)), (by repeat (first | (with_reducible first | exact HB.out | apply zB | apply zA | apply zC | refine zD ?_ (Z73.ge HI0.out) | refine zD ?_ GE129.out | refine zD ?_ GE138.out) | exact HB.out))⟩)
           ·skip
            rintro ⟨v131, adz_v131⟩ w14 ⟨h0_, h1_, h2_, h3_, h4_, h5_⟩
            have n0_ : Aside0 (Kd.R (Kd.int .i64) 3 w14 w.heap.size (fun _ => True) v131 y130) := ⟨h0_⟩
            have n1_ : Aside0 (∃ c_, (v131 : Value) = .slice (some adz_v131) y130.length c_) := ⟨h1_⟩
            have n2_ : Aside0 (w14.heap[gb129]? = some (.cells #[.int .i64 0, .int .i64 0, .int .i64 0] 25 (0, 0))) := ⟨h2_⟩
            have n3_ : Aside0 (Z73 w0 w14 g s0_0 t134) := ⟨h3_⟩
            have n4_ : Aside0 (KeepBut w w14 g none) := ⟨h4_⟩
            have n5_ : Aside0 (Below w0.heap.size w0 w14) := ⟨h5_⟩
            clear BK129
            clear HI0
            clear HK
            clear HB
            clear h0_ h1_ h2_ h3_ h4_ h5_
            have HO132 := n0_
            have HA_HO132 := n1_
            have BK129 := n2_
            have HI0 := n3_
            have HK := n4_
            have HB := n5_
            clear n0_ n1_ n2_ n3_ n4_ n5_
            have hHeld := trivial
            obtain ⟨co15, eo15⟩ := HA_HO132.out
            clear HA_HO132
            subst eo15
            refine norm_ (a' := ?_) ?_ ?_
            rotate_left
            ·simp only [putAll, Act.put, zE, zF, zG]
             rfl
            refine three_ (i := 4) (j := 6) (k := 11) (Ni := some 10) (Nj := some 12) (Nk := some 5) #[true, true, true, true, true, true, false, false, false, false, false, false, false] #[true, true, true, true, false, true, true, false, false, false, false, false, false] #[true, true, true, true, false, true, false, false, false, false, false, true, false] rfl rfl rfl rfl rfl rfl (three_of HT_.out (by kernel_rfl)) (by decide) (by decide) (by decide) (fun K hK => ?_) (fun K hK => ?_) (fun K hK => ?_)
            ·skip
             (have p135 : 0 ≤ (t133 : Int) := of_decide_eq_true (by first | (with_reducible assumption) | assumption); have q135 : t133 < (y130.length : Int) := of_decide_eq_true (by first | (with_reducible assumption) | assumption); obtain ⟨ad135, e135, hx135_0⟩ := Kd.at_int (Kd.R_reads' HO132.out).2.2 t133 p135 q135; obtain rfl : adz_v131 = ad135 := (by injection e135))
             refine value_ (w1 := ?_) (v := ?_) (by rfl) rfl ?_ ?_
             rotate_left 2
             ·go_simp
              constructor
              ·rfl
              ·rfl
             clear hx135_0
             refine hK.out _ _ trivial (fun hHeld => ?_)
             clear hK K
             refine norm_ (a' := ?_) ?_ ?_
             rotate_left
             ·show Act.put _ (some 10) _ = _
              simp only [Act.put, zE, zF, zG, i64_w, i32_w]
              rfl
             exact norm_ (by first | (simp only [putAll, Act.put, zE, zF, zG]; done) | (simp only [putAll, Act.put, zE, zF, zG]; rfl)) (hJ0_2_4 (.slice (some adz_v131) y130.length co15, adz_v131) _ ⟨(by exact HO132.out), ⟨_, rfl⟩, (by exact BK129.out), (by repeat (first | (with_reducible first | exact HI0.out | apply Z73.alloc | apply Z73.drewN | apply Z73.drew | apply Z73.set_1 | refine Z73.far ?_ NB0_129.out _) | exact HI0.out)), (by repeat (first | (with_reducible first | exact HK.out | apply zK | apply keep_drewN | apply keep_drew | apply keep_alloc | refine keep_far ?_ GW129.out _) | exact HK.out)), (by repeat (first | (with_reducible first | exact HB.out | apply zB | apply zA | apply zC | refine zD ?_ (Z73.ge HI0.out) | refine zD ?_ GE129.out) | exact HB.out))⟩)
            ·skip
             refine goes_ Tryd.func43 (by kernel_rfl) rfl #[.pointer (some ⟨g, 0, none⟩), .int .i64 60] (by rfl) rfl rfl (by (try simp only [List.map_toArray, List.map_cons, List.map_nil]); first | done | rfl | (simp only [List.length_drop, List.length_take]; rfl)) ?_
             with_reducible refine (spec_l20Rd_pick.calls k g s0_0 t134 60 t136 t137 w0 _ ?side1 ?side2 A6.out).mono ?_
             (case side1 => repeat (first | (with_reducible first | exact HI0.out | apply Z73.alloc | apply Z73.drewN | apply Z73.drew | apply Z73.set_1 | refine Z73.far ?_ NB0_129.out _) | exact HI0.out))
             (case side2 => repeat (first | (with_reducible first | exact HB.out | apply zB | apply zA | apply zC | refine zD ?_ (Z73.ge HI0.out) | refine zD ?_ GE129.out) | exact HB.out))
             rintro e w16 ⟨rfl, hi, hb, hk⟩
             refine ⟨_, rfl, ?_⟩
             have n0_ := zM (KeepBut.blk hk (g' := gb129) (o := .cells #[.int .i64 0, .int .i64 0, .int .i64 0] 25 (0, 0)) (by exact BK129.out) NB129_0.out (by simp))
             have n1_ := zM (Kd.R_mono (Kd.R_keep (Z73.apart (show Z73 w0 _ g s0_0 t134 from by repeat (first | (with_reducible first | exact HI0.out | apply Z73.alloc | apply Z73.drewN | apply Z73.drew | apply Z73.set_1 | refine Z73.far ?_ NB0_129.out _) | exact HI0.out)) (by exact HO132.out) (by decide)) hk (fun _ h => h.2)) (fun _ h => h.1))
             have n2_ := zM (KeepBut.trans (by repeat (first | (with_reducible first | exact HK.out | apply zK | apply keep_drewN | apply keep_drew | apply keep_alloc | refine keep_far ?_ GW129.out _) | exact HK.out)) hk (.inl rfl))
             have n3_ := zM (hb)
             have n4_ := zM (hi)
             clear BK129
             clear HO132
             clear HK
             clear HB
             clear HI0
             have BK129 := n0_
             have HO132 := n1_
             have HK := n2_
             have HB := n3_
             have HI0 := n4_
             clear n0_ n1_ n2_ n3_ n4_
             (try clear hb)
             (try clear hb2)
             (try clear hk)
             (try clear hi)
             refine hK.out _ _ trivial (fun hHeld => ?_)
             clear hK K
             refine norm_ (a' := ?_) ?_ ?_
             rotate_left
             ·show Act.put _ (some 12) _ = _
              simp only [Act.put, zE, zF, zG, i64_w, i32_w]
              rfl
             refine pure_ (i := 7) (N := some 13) (v := ?_) (a' := ?_) #[true, true, true, true, false, true, true, true, false, false, false, false, false] rfl rfl (any_of HT_.out (by kernel_rfl)) (fun _ _ _ h => h) (Or.inl ⟨by rfl, ?_⟩) ?_ ?_
             rotate_left
             ·intro w'
              go_simp
              with_reducible rfl
             rotate_left
             ·simp only [Act.put, zE, zF, zG, i64_w, i32_w]
              rfl
             refine pure_ (i := 8) (N := some 14) (v := ?_) (a' := ?_) #[true, true, true, true, false, true, true, true, true, false, false, false, false] rfl rfl (any_of HT_.out (by kernel_rfl)) (fun _ _ _ h => h) (Or.inl ⟨by rfl, ?_⟩) ?_ ?_
             rotate_left
             ·intro w'
              go_simp
              with_reducible rfl
             rotate_left
             ·simp only [Act.put, zE, zF, zG, i64_w, i32_w]
              rfl
             exact norm_ (by first | (simp only [putAll, Act.put, zE, zF, zG]; done) | (simp only [putAll, Act.put, zE, zF, zG]; rfl)) (hJ0_2_6 (.slice (some adz_v131) y130.length co15, adz_v131) _ ⟨(by exact HO132.out), ⟨_, rfl⟩, (by exact BK129.out), (by repeat (first | (with_reducible first | exact HI0.out | apply Z73.alloc | apply Z73.drewN | apply Z73.drew | apply Z73.set_1 | refine Z73.far ?_ NB0_129.out _) | exact HI0.out)), (by repeat (first | (with_reducible first | exact HK.out | apply zK | apply keep_drewN | apply keep_drew | apply keep_alloc | refine keep_far ?_ GW129.out _) | exact HK.out)), (by repeat (first | (with_reducible first | exact HB.out | apply zB | apply zA | apply zC | refine zD ?_ (Z73.ge HI0.out) | refine zD ?_ GE129.out) | exact HB.out))⟩)
            ·skip
             refine box_step ?hg (N := 5) ?hd (cs := #[.int .i64 0, .int .i64 0, .int .i64 0]) (t := 25) ?hr ?_; (case hd => rfl); (case hg => rfl); (case hr => first | (go_simp; done) | (go_simp; rfl))
             intro gb138 hg w16 hbox hb
             have n0_ := zM (Kd.R_below (by exact HO132.out) hb)
             have n1_ := zM (Z73.below (by repeat (first | (with_reducible first | exact HI0.out | apply Z73.alloc | apply Z73.drewN | apply Z73.drew | apply Z73.set_1 | refine Z73.far ?_ NB0_129.out _) | exact HI0.out)) hb)
             have n2_ := zM (blk_below (g := gb129) (o := .cells #[.int .i64 0, .int .i64 0, .int .i64 0] 25 (0, 0)) (by exact BK129.out) hb)
             have n3_ := zM (KeepBut.trans (by repeat (first | (with_reducible first | exact HK.out | apply zK | apply keep_drewN | apply keep_drew | apply keep_alloc | refine keep_far ?_ GW129.out _) | exact HK.out)) (KeepBut.of_below hb g none) (.inl rfl))
             have n4_ := zM (below_step (by repeat (first | (with_reducible first | exact HB.out | apply zB | apply zA | apply zC | refine zD ?_ (Z73.ge HI0.out) | refine zD ?_ GE129.out) | exact HB.out)) hb)
             have n5_ := zM (hbox)
             have n6_ := zM ((by rw [hg]; exact (keep_size (w := w) (g := g) (row := none) (by repeat (first | (with_reducible first | exact HK.out | apply zK | apply keep_drewN | apply keep_drew | apply keep_alloc | refine keep_far ?_ GW129.out _) | exact HK.out))) : w.heap.size ≤ gb138))
             have n7_ := zM ((Nat.le_trans HW0.out (by rw [hg]; exact (keep_size (w := w) (g := g) (row := none) (by repeat (first | (with_reducible first | exact HK.out | apply zK | apply keep_drewN | apply keep_drew | apply keep_alloc | refine keep_far ?_ GW129.out _) | exact HK.out))) : w.heap.size ≤ gb138) : w0.heap.size ≤ gb138))
             have n8_ := zM ((by rw [hg]; exact Nat.ne_of_lt (blk_lt (g := gb129) (o := .cells #[.int .i64 0, .int .i64 0, .int .i64 0] 25 (0, 0)) (by exact BK129.out)) : gb129 ≠ gb138))
             have n9_ := zM ((by rw [hg]; exact Nat.ne_of_gt (blk_lt (g := gb129) (o := .cells #[.int .i64 0, .int .i64 0, .int .i64 0] 25 (0, 0)) (by exact BK129.out)) : gb138 ≠ gb129))
             have n10_ := zM ((by rw [hg]; exact Nat.ne_of_lt (Z73.lt (show Z73 w0 _ g s0_0 t134 from by repeat (first | (with_reducible first | exact HI0.out | apply Z73.alloc | apply Z73.drewN | apply Z73.drew | apply Z73.set_1 | refine Z73.far ?_ NB0_129.out _) | exact HI0.out))) : g ≠ gb138))
             have n11_ := zM ((by rw [hg]; exact Nat.ne_of_gt (Z73.lt (show Z73 w0 _ g s0_0 t134 from by repeat (first | (with_reducible first | exact HI0.out | apply Z73.alloc | apply Z73.drewN | apply Z73.drew | apply Z73.set_1 | refine Z73.far ?_ NB0_129.out _) | exact HI0.out))) : gb138 ≠ g))
             clear HO132
             clear HI0
             clear BK129
             clear HK
             clear HB
             have HO132 := n0_
             have HI0 := n1_
             have BK129 := n2_
             have HK := n3_
             have HB := n4_
             have BK138 := n5_
             have GW138 := n6_
             have GE138 := n7_
             have NB129_138 := n8_
             have NB138_129 := n9_
             have NB0_138 := n10_
             have NB138_0 := n11_
             clear n0_ n1_ n2_ n3_ n4_ n5_ n6_ n7_ n8_ n9_ n10_ n11_
             clear hb hbox hg
             refine hK.out _ _ trivial (fun hHeld => ?_)
             clear hK K
             refine norm_ (a' := ?_) ?_ ?_
             rotate_left
             ·show Act.put _ (some 5) _ = _
              simp only [Act.put, zE, zF, zG, i64_w, i32_w]
              rfl
             exact norm_ (by first | (simp only [putAll, Act.put, zE, zF, zG]; done) | (simp only [putAll, Act.put, zE, zF, zG]; rfl)) (hJ0_2_11 (.slice (some adz_v131) y130.length co15, adz_v131, gb138) _ ⟨(by exact HO132.out), ⟨_, rfl⟩, (by exact BK129.out), (by exact BK138.out), GW138.out, GE138.out, NB0_138.out, NB138_0.out, NB129_138.out, NB138_129.out, (by repeat (first | (with_reducible first | exact HI0.out | apply Z73.alloc | apply Z73.drewN | apply Z73.drew | apply Z73.set_1 | refine Z73.far ?_ NB0_129.out _ | refine Z73.far ?_ NB0_138.out _) | exact HI0.out)), (by repeat (first | (with_reducible first | exact HK.out | apply zK | apply keep_drewN | apply keep_drew | apply keep_alloc | refine keep_far ?_ GW129.out _ | refine keep_far ?_ GW138.out _) | exact HK.out)), (by repeat (first | (with_reducible first | exact HB.out | apply zB | apply zA | apply zC | refine zD ?_ (Z73.ge HI0.out) | refine zD ?_ GE129.out | refine zD ?_ GE138.out) | exact HB.out))⟩)
          ·skip
           rintro gb138 w13 ⟨h0_, h1_, h2_, h3_, h4_, h5_, h6_, h7_, h8_, h9_, h10_⟩
           have n0_ : Aside0 (w13.heap[gb129]? = some (.cells #[.int .i64 0, .int .i64 0, .int .i64 0] 25 (0, 0))) := ⟨h0_⟩
           have n1_ : Aside0 (w13.heap[gb138]? = some (.cells #[.int .i64 0, .int .i64 0, .int .i64 0] 25 (0, 0))) := ⟨h1_⟩
           have n2_ : Aside0 (w.heap.size ≤ gb138) := ⟨h2_⟩
           have n3_ : Aside0 (w0.heap.size ≤ gb138) := ⟨h3_⟩
           have n4_ : Aside0 (g ≠ gb138) := ⟨h4_⟩
           have n5_ : Aside0 (gb138 ≠ g) := ⟨h5_⟩
           have n6_ : Aside0 (gb129 ≠ gb138) := ⟨h6_⟩
           have n7_ : Aside0 (gb138 ≠ gb129) := ⟨h7_⟩
           have n8_ : Aside0 (Z73 w0 w13 g s0_0 t137) := ⟨h8_⟩
           have n9_ : Aside0 (KeepBut w w13 g none) := ⟨h9_⟩
           have n10_ : Aside0 (Below w0.heap.size w0 w13) := ⟨h10_⟩
           clear BK129
           clear HI0
           clear HK
           clear HB
           clear h0_ h1_ h2_ h3_ h4_ h5_ h6_ h7_ h8_ h9_ h10_
           have BK129 := n0_
           have BK138 := n1_
           have GW138 := n2_
           have GE138 := n3_
           have NB0_138 := n4_
           have NB138_0 := n5_
           have NB129_138 := n6_
           have NB138_129 := n7_
           have HI0 := n8_
           have HK := n9_
           have HB := n10_
           clear n0_ n1_ n2_ n3_ n4_ n5_ n6_ n7_ n8_ n9_ n10_
           have hHeld := trivial
           refine norm_ (a' := ?_) ?_ ?_
           rotate_left
           ·simp only [putAll, Act.put, zE, zF, zG]
            rfl
           refine one_ (i := 0) (N := some 6) #[true, true, true, false, false, true, true, true, true, false, false, true, false] rfl rfl (one_of HT_.out (by kernel_rfl)) (by decide) (fun K hK => ?_)
           refine Kd.R_lit_step (Kd.int .i64) _ 3 ?hg (N := 6) ?hd (xs := ([0, 0, 1, 1, 2, 3, 4, 5] : List Int)) (inner := [.int .i64 0, .int .i64 0, .int .i64 1, .int .i64 1, .int .i64 2, .int .i64 3, .int .i64 4, .int .i64 5]) (ok := fun _ => True) (okp := fun _ => True) ?hr ?hp (fun _ hk => hk) trivial (Below.refl _ _) (Nat.le_refl _) (by simp) ?_; (case hd => rfl); (case hg => rfl); (case hr => first | (go_simp; done) | (go_simp; rfl)); (case hp => exact (Reps.one (show Kd.M (Kd.int .i64) _ _ _ 0 [.int .i64 0] from rfl) (Reps.one (show Kd.M (Kd.int .i64) _ _ _ 0 [.int .i64 0] from rfl) (Reps.one (show Kd.M (Kd.int .i64) _ _ _ 1 [.int .i64 1] from rfl) (Reps.one (show Kd.M (Kd.int .i64) _ _ _ 1 [.int .i64 1] from rfl) (Reps.one (show Kd.M (Kd.int .i64) _ _ _ 2 [.int .i64 2] from rfl) (Reps.one (show Kd.M (Kd.int .i64) _ _ _ 3 [.int .i64 3] from rfl) (Reps.one (show Kd.M (Kd.int .i64) _ _ _ 4 [.int .i64 4] from rfl) (Reps.one (show Kd.M (Kd.int .i64) _ _ _ 5 [.int .i64 5] from rfl) (Reps.none _ _))))))))))
           intro v131 w14 ho15 hb hg_ hnew_
           clear hg_ hnew_
           (first | rw [← Ny130.out] at ho15 | (simp only [Int.reduceToNat] at ho15; rw [← Ny130.out] at ho15))
           have n0_ := zM (Kd.R_lower ho15 (keep_size (w := w) (g := g) (row := none) (by repeat (first | (with_reducible first | exact HK.out | apply zK | apply keep_drewN | apply keep_drew | apply keep_alloc | refine keep_far ?_ GW129.out _ | refine keep_far ?_ GW138.out _) | exact HK.out))))
           have n1_ := zM (Z73.below (by repeat (first | (with_reducible first | exact HI0.out | apply Z73.alloc | apply Z73.drewN | apply Z73.drew | apply Z73.set_1 | refine Z73.far ?_ NB0_129.out _ | refine Z73.far ?_ NB0_138.out _) | exact HI0.out)) hb)
           have n2_ := zM (blk_below (g := gb129) (o := .cells #[.int .i64 0, .int .i64 0, .int .i64 0] 25 (0, 0)) (by exact BK129.out) hb)
           have n3_ := zM (blk_below (g := gb138) (o := .cells #[.int .i64 0, .int .i64 0, .int .i64 0] 25 (0, 0)) (by exact BK138.out) hb)
           have n4_ := zM (KeepBut.trans (by repeat (first | (with_reducible first | exact HK.out | apply zK | apply keep_drewN | apply keep_drew | apply keep_alloc | refine keep_far ?_ GW129.out _ | refine keep_far ?_ GW138.out _) | exact HK.out)) (KeepBut.of_below hb g none) (.inl rfl))
           have n5_ := zM (below_step (by repeat (first | (with_reducible first | exact HB.out | apply zB | apply zA | apply zC | refine zD ?_ (Z73.ge HI0.out) | refine zD ?_ GE129.out | refine zD ?_ GE138.out) | exact HB.out)) hb)
           clear HI0
           clear BK129
           clear BK138
           clear HK
           clear HB
           have HO132 := n0_
           have HI0 := n1_
           have BK129 := n2_
           have BK138 := n3_
           have HK := n4_
           have HB := n5_
           clear n0_ n1_ n2_ n3_ n4_ n5_
           clear hb ho15
           obtain ⟨Ao16, co16, eo16⟩ := Kd.R_slice HO132.out
           subst eo16
           obtain ⟨ado16, fo16, _⟩ := Kd.at_int (Kd.R_reads' HO132.out).2.2 0 (by decide) (by rw [Ny130.out]; simp)
           cases fo16
           refine hK.out _ _ trivial (fun hHeld => ?_)
           clear hK K
           refine norm_ (a' := ?_) ?_ ?_
           rotate_left
           ·show Act.put _ (some 6) _ = _
            simp only [Act.put, zE, zF, zG, i64_w, i32_w]
            rfl
           refine pure_ (i := 3) (N := some 9) (v := ?_) (a' := ?_) #[true, true, true, true, false, true, true, true, true, false, false, true, false] rfl rfl (any_of HT_.out (by kernel_rfl)) (fun _ _ _ h => h) (Or.inl ⟨by rfl, ?_⟩) ?_ ?_
           rotate_left
           ·intro w'
            go_simp
            with_reducible rfl
           rotate_left
           ·simp only [Act.put, zE, zF, zG, i64_w, i32_w]
            rfl
           exact norm_ (by first | (simp only [putAll, Act.put, zE, zF, zG]; done) | (simp only [putAll, Act.put, zE, zF, zG]; rfl)) (hJ0_2_6_11 (.slice (some ado16) y130.length co16, ado16, gb138) _ ⟨(by exact HO132.out), ⟨_, rfl⟩, (by exact BK129.out), (by exact BK138.out), GW138.out, GE138.out, NB0_138.out, NB138_0.out, NB129_138.out, NB138_129.out, (by repeat (first | (with_reducible first | exact HI0.out | apply Z73.alloc | apply Z73.drewN | apply Z73.drew | apply Z73.set_1 | refine Z73.far ?_ NB0_129.out _ | refine Z73.far ?_ NB0_138.out _) | exact HI0.out)), (by repeat (first | (with_reducible first | exact HK.out | apply zK | apply keep_drewN | apply keep_drew | apply keep_alloc | refine keep_far ?_ GW129.out _ | refine keep_far ?_ GW138.out _) | exact HK.out)), (by repeat (first | (with_reducible first | exact HB.out | apply zB | apply zA | apply zC | refine zD ?_ (Z73.ge HI0.out) | refine zD ?_ GE129.out | refine zD ?_ GE138.out) | exact HB.out))⟩)
         ·skip
          rintro ⟨v131, adz_v131, gb138⟩ w15 ⟨h0_, h1_, h2_, h3_, h4_, h5_, h6_, h7_, h8_, h9_, h10_, h11_, h12_⟩
          have n0_ : Aside0 (Kd.R (Kd.int .i64) 3 w15 w.heap.size (fun _ => True) v131 y130) := ⟨h0_⟩
          have n1_ : Aside0 (∃ c_, (v131 : Value) = .slice (some adz_v131) y130.length c_) := ⟨h1_⟩
          have n2_ : Aside0 (w15.heap[gb129]? = some (.cells #[.int .i64 0, .int .i64 0, .int .i64 0] 25 (0, 0))) := ⟨h2_⟩
          have n3_ : Aside0 (w15.heap[gb138]? = some (.cells #[.int .i64 0, .int .i64 0, .int .i64 0] 25 (0, 0))) := ⟨h3_⟩
          have n4_ : Aside0 (w.heap.size ≤ gb138) := ⟨h4_⟩
          have n5_ : Aside0 (w0.heap.size ≤ gb138) := ⟨h5_⟩
          have n6_ : Aside0 (g ≠ gb138) := ⟨h6_⟩
          have n7_ : Aside0 (gb138 ≠ g) := ⟨h7_⟩
          have n8_ : Aside0 (gb129 ≠ gb138) := ⟨h8_⟩
          have n9_ : Aside0 (gb138 ≠ gb129) := ⟨h9_⟩
          have n10_ : Aside0 (Z73 w0 w15 g s0_0 t134) := ⟨h10_⟩
          have n11_ : Aside0 (KeepBut w w15 g none) := ⟨h11_⟩
          have n12_ : Aside0 (Below w0.heap.size w0 w15) := ⟨h12_⟩
          clear BK129
          clear HI0
          clear HK
          clear HB
          clear h0_ h1_ h2_ h3_ h4_ h5_ h6_ h7_ h8_ h9_ h10_ h11_ h12_
          have HO132 := n0_
          have HA_HO132 := n1_
          have BK129 := n2_
          have BK138 := n3_
          have GW138 := n4_
          have GE138 := n5_
          have NB0_138 := n6_
          have NB138_0 := n7_
          have NB129_138 := n8_
          have NB138_129 := n9_
          have HI0 := n10_
          have HK := n11_
          have HB := n12_
          clear n0_ n1_ n2_ n3_ n4_ n5_ n6_ n7_ n8_ n9_ n10_ n11_ n12_
          have hHeld := trivial
          obtain ⟨co16, eo16⟩ := HA_HO132.out
          clear HA_HO132
          subst eo16
          refine norm_ (a' := ?_) ?_ ?_
          rotate_left
          ·simp only [putAll, Act.put, zE, zF, zG]
           rfl
          refine two_ (i := 4) (j := 6) (Ni := some 10) (Nj := some 12) #[true, true, true, true, true, true, false, false, false, false, false, true, false] #[true, true, true, true, false, true, true, false, false, false, false, true, false] rfl rfl rfl rfl (two_of HT_.out (by kernel_rfl)) (by decide) (by decide) (fun K hK => ?_) (fun K hK => ?_)
          ·skip
           (have p135 : 0 ≤ (t133 : Int) := of_decide_eq_true (by first | (with_reducible assumption) | assumption); have q135 : t133 < (y130.length : Int) := of_decide_eq_true (by first | (with_reducible assumption) | assumption); obtain ⟨ad135, e135, hx135_0⟩ := Kd.at_int (Kd.R_reads' HO132.out).2.2 t133 p135 q135; obtain rfl : adz_v131 = ad135 := (by injection e135))
           refine value_ (w1 := ?_) (v := ?_) (by rfl) rfl ?_ ?_
           rotate_left 2
           ·go_simp
            constructor
            ·rfl
            ·rfl
           clear hx135_0
           refine hK.out _ _ trivial (fun hHeld => ?_)
           clear hK K
           refine norm_ (a' := ?_) ?_ ?_
           rotate_left
           ·show Act.put _ (some 10) _ = _
            simp only [Act.put, zE, zF, zG, i64_w, i32_w]
            rfl
           exact norm_ (by first | (simp only [putAll, Act.put, zE, zF, zG]; done) | (simp only [putAll, Act.put, zE, zF, zG]; rfl)) (hJ0_2_4_11 (.slice (some adz_v131) y130.length co16, adz_v131, gb138) _ ⟨(by exact HO132.out), ⟨_, rfl⟩, (by exact BK129.out), (by exact BK138.out), GW138.out, GE138.out, NB0_138.out, NB138_0.out, NB129_138.out, NB138_129.out, (by repeat (first | (with_reducible first | exact HI0.out | apply Z73.alloc | apply Z73.drewN | apply Z73.drew | apply Z73.set_1 | refine Z73.far ?_ NB0_129.out _ | refine Z73.far ?_ NB0_138.out _) | exact HI0.out)), (by repeat (first | (with_reducible first | exact HK.out | apply zK | apply keep_drewN | apply keep_drew | apply keep_alloc | refine keep_far ?_ GW129.out _ | refine keep_far ?_ GW138.out _) | exact HK.out)), (by repeat (first | (with_reducible first | exact HB.out | apply zB | apply zA | apply zC | refine zD ?_ (Z73.ge HI0.out) | refine zD ?_ GE129.out | refine zD ?_ GE138.out) | exact HB.out))⟩)
          ·skip
           refine goes_ Tryd.func43 (by kernel_rfl) rfl #[.pointer (some ⟨g, 0, none⟩), .int .i64 60] (by rfl) rfl rfl (by (try simp only [List.map_toArray, List.map_cons, List.map_nil]); first | done | rfl | (simp only [List.length_drop, List.length_take]; rfl)) ?_
           with_reducible refine (spec_l20Rd_pick.calls k g s0_0 t134 60 t136 t137 w0 _ ?side1 ?side2 A6.out).mono ?_
           (case side1 => repeat (first | (with_reducible first | exact HI0.out | apply Z73.alloc | apply Z73.drewN | apply Z73.drew | apply Z73.set_1 | refine Z73.far ?_ NB0_129.out _ | refine Z73.far ?_ NB0_138.out _) | exact HI0.out))
           (case side2 => repeat (first | (with_reducible first | exact HB.out | apply zB | apply zA | apply zC | refine zD ?_ (Z73.ge HI0.out) | refine zD ?_ GE129.out | refine zD ?_ GE138.out) | exact HB.out))
           rintro e w17 ⟨rfl, hi, hb, hk⟩
           refine ⟨_, rfl, ?_⟩
           have n0_ := zM (KeepBut.blk hk (g' := gb129) (o := .cells #[.int .i64 0, .int .i64 0, .int .i64 0] 25 (0, 0)) (by exact BK129.out) NB129_0.out (by simp))
           have n1_ := zM (Kd.R_mono (Kd.R_keep (Z73.apart (show Z73 w0 _ g s0_0 t134 from by repeat (first | (with_reducible first | exact HI0.out | apply Z73.alloc | apply Z73.drewN | apply Z73.drew | apply Z73.set_1 | refine Z73.far ?_ NB0_129.out _ | refine Z73.far ?_ NB0_138.out _) | exact HI0.out)) (by exact HO132.out) (by decide)) hk (fun _ h => h.2)) (fun _ h => h.1))
           have n2_ := zM (KeepBut.blk hk (g' := gb138) (o := .cells #[.int .i64 0, .int .i64 0, .int .i64 0] 25 (0, 0)) (by exact BK138.out) NB138_0.out (by simp))
           have n3_ := zM (KeepBut.trans (by repeat (first | (with_reducible first | exact HK.out | apply zK | apply keep_drewN | apply keep_drew | apply keep_alloc | refine keep_far ?_ GW129.out _ | refine keep_far ?_ GW138.out _) | exact HK.out)) hk (.inl rfl))
           have n4_ := zM (hb)
           have n5_ := zM (hi)
           clear BK129
           clear HO132
           clear BK138
           clear HK
           clear HB
           clear HI0
           have BK129 := n0_
           have HO132 := n1_
           have BK138 := n2_
           have HK := n3_
           have HB := n4_
           have HI0 := n5_
           clear n0_ n1_ n2_ n3_ n4_ n5_
           (try clear hb)
           (try clear hb2)
           (try clear hk)
           (try clear hi)
           refine hK.out _ _ trivial (fun hHeld => ?_)
           clear hK K
           refine norm_ (a' := ?_) ?_ ?_
           rotate_left
           ·show Act.put _ (some 12) _ = _
            simp only [Act.put, zE, zF, zG, i64_w, i32_w]
            rfl
           refine pure_ (i := 7) (N := some 13) (v := ?_) (a' := ?_) #[true, true, true, true, false, true, true, true, false, false, false, true, false] rfl rfl (any_of HT_.out (by kernel_rfl)) (fun _ _ _ h => h) (Or.inl ⟨by rfl, ?_⟩) ?_ ?_
           rotate_left
           ·intro w'
            go_simp
            with_reducible rfl
           rotate_left
           ·simp only [Act.put, zE, zF, zG, i64_w, i32_w]
            rfl
           refine pure_ (i := 8) (N := some 14) (v := ?_) (a' := ?_) #[true, true, true, true, false, true, true, true, true, false, false, true, false] rfl rfl (any_of HT_.out (by kernel_rfl)) (fun _ _ _ h => h) (Or.inl ⟨by rfl, ?_⟩) ?_ ?_
           rotate_left
           ·intro w'
            go_simp
            with_reducible rfl
           rotate_left
           ·simp only [Act.put, zE, zF, zG, i64_w, i32_w]
            rfl
           exact norm_ (by first | (simp only [putAll, Act.put, zE, zF, zG]; done) | (simp only [putAll, Act.put, zE, zF, zG]; rfl)) (hJ0_2_6_11 (.slice (some adz_v131) y130.length co16, adz_v131, gb138) _ ⟨(by exact HO132.out), ⟨_, rfl⟩, (by exact BK129.out), (by exact BK138.out), GW138.out, GE138.out, NB0_138.out, NB138_0.out, NB129_138.out, NB138_129.out, (by repeat (first | (with_reducible first | exact HI0.out | apply Z73.alloc | apply Z73.drewN | apply Z73.drew | apply Z73.set_1 | refine Z73.far ?_ NB0_129.out _ | refine Z73.far ?_ NB0_138.out _) | exact HI0.out)), (by repeat (first | (with_reducible first | exact HK.out | apply zK | apply keep_drewN | apply keep_drew | apply keep_alloc | refine keep_far ?_ GW129.out _ | refine keep_far ?_ GW138.out _) | exact HK.out)), (by repeat (first | (with_reducible first | exact HB.out | apply zB | apply zA | apply zC | refine zD ?_ (Z73.ge HI0.out) | refine zD ?_ GE129.out | refine zD ?_ GE138.out) | exact HB.out))⟩)
        ·skip
         rintro ⟨v131, adz_v131⟩ w15 ⟨h0_, h1_, h2_, h3_, h4_, h5_⟩
         have n0_ : Aside0 (Kd.R (Kd.int .i64) 3 w15 w.heap.size (fun _ => True) v131 y130) := ⟨h0_⟩
         have n1_ : Aside0 (∃ c_, (v131 : Value) = .slice (some adz_v131) y130.length c_) := ⟨h1_⟩
         have n2_ : Aside0 (w15.heap[gb129]? = some (.cells #[.int .i64 0, .int .i64 0, .int .i64 0] 25 (0, 0))) := ⟨h2_⟩
         have n3_ : Aside0 (Z73 w0 w15 g s0_0 t137) := ⟨h3_⟩
         have n4_ : Aside0 (KeepBut w w15 g none) := ⟨h4_⟩
         have n5_ : Aside0 (Below w0.heap.size w0 w15) := ⟨h5_⟩
         clear BK129
         clear HI0
         clear HK
         clear HB
         clear h0_ h1_ h2_ h3_ h4_ h5_
         have HO132 := n0_
         have HA_HO132 := n1_
         have BK129 := n2_
         have HI0 := n3_
         have HK := n4_
         have HB := n5_
         clear n0_ n1_ n2_ n3_ n4_ n5_
         have hHeld := trivial
         obtain ⟨co16, eo16⟩ := HA_HO132.out
         clear HA_HO132
         subst eo16
         refine norm_ (a' := ?_) ?_ ?_
         rotate_left
         ·simp only [putAll, Act.put, zE, zF, zG]
          rfl
         refine two_ (i := 4) (j := 11) (Ni := some 10) (Nj := some 5) #[true, true, true, true, true, true, true, true, true, false, false, false, false] #[true, true, true, true, false, true, true, true, true, false, false, true, false] rfl rfl rfl rfl (two_of HT_.out (by kernel_rfl)) (by decide) (by decide) (fun K hK => ?_) (fun K hK => ?_)
         ·skip
          (have p135 : 0 ≤ (t133 : Int) := of_decide_eq_true (by first | (with_reducible assumption) | assumption); have q135 : t133 < (y130.length : Int) := of_decide_eq_true (by first | (with_reducible assumption) | assumption); obtain ⟨ad135, e135, hx135_0⟩ := Kd.at_int (Kd.R_reads' HO132.out).2.2 t133 p135 q135; obtain rfl : adz_v131 = ad135 := (by injection e135))
          refine value_ (w1 := ?_) (v := ?_) (by rfl) rfl ?_ ?_
          rotate_left 2
          ·go_simp
           constructor
           ·rfl
           ·rfl
          clear hx135_0
          refine hK.out _ _ trivial (fun hHeld => ?_)
          clear hK K
          refine norm_ (a' := ?_) ?_ ?_
          rotate_left
          ·show Act.put _ (some 10) _ = _
           simp only [Act.put, zE, zF, zG, i64_w, i32_w]
           rfl
          refine pure_ (i := 9) (N := some 15) (v := ?_) (a' := ?_) #[true, true, true, true, true, true, true, true, true, true, false, false, false] rfl rfl (any_of HT_.out (by kernel_rfl)) (fun _ _ _ h => h) (Or.inl ⟨by rfl, ?_⟩) ?_ ?_
          rotate_left
          ·intro w'
           go_simp
           with_reducible rfl
          rotate_left
          ·simp only [Act.put, zE, zF, zG, i64_w, i32_w]
           rfl
          refine pure_ (i := 10) (N := some 16) (v := ?_) (a' := ?_) #[true, true, true, true, true, true, true, true, true, true, true, false, false] rfl rfl (any_of HT_.out (by kernel_rfl)) (fun _ _ _ h => h) (Or.inl ⟨by rfl, ?_⟩) ?_ ?_
          rotate_left
          ·intro w'
           go_simp
           with_reducible rfl
          rotate_left
          ·simp only [Act.put, zE, zF, zG, i64_w, i32_w]
           rfl
          exact norm_ (by first | (simp only [putAll, Act.put, zE, zF, zG]; done) | (simp only [putAll, Act.put, zE, zF, zG]; rfl)) (hJ0_2_4_6 (.slice (some adz_v131) y130.length co16, adz_v131) _ ⟨(by exact HO132.out), ⟨_, rfl⟩, (by exact BK129.out), (by repeat (first | (with_reducible first | exact HI0.out | apply Z73.alloc | apply Z73.drewN | apply Z73.drew | apply Z73.set_1 | refine Z73.far ?_ NB0_129.out _) | exact HI0.out)), (by repeat (first | (with_reducible first | exact HK.out | apply zK | apply keep_drewN | apply keep_drew | apply keep_alloc | refine keep_far ?_ GW129.out _) | exact HK.out)), (by repeat (first | (with_reducible first | exact HB.out | apply zB | apply zA | apply zC | refine zD ?_ (Z73.ge HI0.out) | refine zD ?_ GE129.out) | exact HB.out))⟩)
         ·skip
          refine box_step ?hg (N := 5) ?hd (cs := #[.int .i64 0, .int .i64 0, .int .i64 0]) (t := 25) ?hr ?_; (case hd => rfl); (case hg => rfl); (case hr => first | (go_simp; done) | (go_simp; rfl))
          intro gb138 hg w17 hbox hb
          have n0_ := zM (Kd.R_below (by exact HO132.out) hb)
          have n1_ := zM (Z73.below (by repeat (first | (with_reducible first | exact HI0.out | apply Z73.alloc | apply Z73.drewN | apply Z73.drew | apply Z73.set_1 | refine Z73.far ?_ NB0_129.out _) | exact HI0.out)) hb)
          have n2_ := zM (blk_below (g := gb129) (o := .cells #[.int .i64 0, .int .i64 0, .int .i64 0] 25 (0, 0)) (by exact BK129.out) hb)
          have n3_ := zM (KeepBut.trans (by repeat (first | (with_reducible first | exact HK.out | apply zK | apply keep_drewN | apply keep_drew | apply keep_alloc | refine keep_far ?_ GW129.out _) | exact HK.out)) (KeepBut.of_below hb g none) (.inl rfl))
          have n4_ := zM (below_step (by repeat (first | (with_reducible first | exact HB.out | apply zB | apply zA | apply zC | refine zD ?_ (Z73.ge HI0.out) | refine zD ?_ GE129.out) | exact HB.out)) hb)
          have n5_ := zM (hbox)
          have n6_ := zM ((by rw [hg]; exact (keep_size (w := w) (g := g) (row := none) (by repeat (first | (with_reducible first | exact HK.out | apply zK | apply keep_drewN | apply keep_drew | apply keep_alloc | refine keep_far ?_ GW129.out _) | exact HK.out))) : w.heap.size ≤ gb138))
          have n7_ := zM ((Nat.le_trans HW0.out (by rw [hg]; exact (keep_size (w := w) (g := g) (row := none) (by repeat (first | (with_reducible first | exact HK.out | apply zK | apply keep_drewN | apply keep_drew | apply keep_alloc | refine keep_far ?_ GW129.out _) | exact HK.out))) : w.heap.size ≤ gb138) : w0.heap.size ≤ gb138))
          have n8_ := zM ((by rw [hg]; exact Nat.ne_of_lt (blk_lt (g := gb129) (o := .cells #[.int .i64 0, .int .i64 0, .int .i64 0] 25 (0, 0)) (by exact BK129.out)) : gb129 ≠ gb138))
          have n9_ := zM ((by rw [hg]; exact Nat.ne_of_gt (blk_lt (g := gb129) (o := .cells #[.int .i64 0, .int .i64 0, .int .i64 0] 25 (0, 0)) (by exact BK129.out)) : gb138 ≠ gb129))
          have n10_ := zM ((by rw [hg]; exact Nat.ne_of_lt (Z73.lt (show Z73 w0 _ g s0_0 t137 from by repeat (first | (with_reducible first | exact HI0.out | apply Z73.alloc | apply Z73.drewN | apply Z73.drew | apply Z73.set_1 | refine Z73.far ?_ NB0_129.out _) | exact HI0.out))) : g ≠ gb138))
          have n11_ := zM ((by rw [hg]; exact Nat.ne_of_gt (Z73.lt (show Z73 w0 _ g s0_0 t137 from by repeat (first | (with_reducible first | exact HI0.out | apply Z73.alloc | apply Z73.drewN | apply Z73.drew | apply Z73.set_1 | refine Z73.far ?_ NB0_129.out _) | exact HI0.out))) : gb138 ≠ g))
          clear HO132
          clear HI0
          clear BK129
          clear HK
          clear HB
          have HO132 := n0_
          have HI0 := n1_
          have BK129 := n2_
          have HK := n3_
          have HB := n4_
          have BK138 := n5_
          have GW138 := n6_
          have GE138 := n7_
          have NB129_138 := n8_
          have NB138_129 := n9_
          have NB0_138 := n10_
          have NB138_0 := n11_
          clear n0_ n1_ n2_ n3_ n4_ n5_ n6_ n7_ n8_ n9_ n10_ n11_
          clear hb hbox hg
          refine hK.out _ _ trivial (fun hHeld => ?_)
          clear hK K
          refine norm_ (a' := ?_) ?_ ?_
          rotate_left
          ·show Act.put _ (some 5) _ = _
           simp only [Act.put, zE, zF, zG, i64_w, i32_w]
           rfl
          exact norm_ (by first | (simp only [putAll, Act.put, zE, zF, zG]; done) | (simp only [putAll, Act.put, zE, zF, zG]; rfl)) (hJ0_2_6_11 (.slice (some adz_v131) y130.length co16, adz_v131, gb138) _ ⟨(by exact HO132.out), ⟨_, rfl⟩, (by exact BK129.out), (by exact BK138.out), GW138.out, GE138.out, NB0_138.out, NB138_0.out, NB129_138.out, NB138_129.out, (by repeat (first | (with_reducible first | exact HI0.out | apply Z73.alloc | apply Z73.drewN | apply Z73.drew | apply Z73.set_1 | refine Z73.far ?_ NB0_129.out _ | refine Z73.far ?_ NB0_138.out _) | exact HI0.out)), (by repeat (first | (with_reducible first | exact HK.out | apply zK | apply keep_drewN | apply keep_drew | apply keep_alloc | refine keep_far ?_ GW129.out _ | refine keep_far ?_ GW138.out _) | exact HK.out)), (by repeat (first | (with_reducible first | exact HB.out | apply zB | apply zA | apply zC | refine zD ?_ (Z73.ge HI0.out) | refine zD ?_ GE129.out | refine zD ?_ GE138.out) | exact HB.out))⟩)
       ·skip
        rintro ⟨v131, adz_v131⟩ w14 ⟨h0_, h1_, h2_, h3_, h4_, h5_⟩
        have n0_ : Aside0 (Kd.R (Kd.int .i64) 3 w14 w.heap.size (fun _ => True) v131 y130) := ⟨h0_⟩
        have n1_ : Aside0 (∃ c_, (v131 : Value) = .slice (some adz_v131) y130.length c_) := ⟨h1_⟩
        have n2_ : Aside0 (w14.heap[gb129]? = some (.cells #[.int .i64 0, .int .i64 0, .int .i64 0] 25 (0, 0))) := ⟨h2_⟩
        have n3_ : Aside0 (Z73 w0 w14 g s0_0 t134) := ⟨h3_⟩
        have n4_ : Aside0 (KeepBut w w14 g none) := ⟨h4_⟩
        have n5_ : Aside0 (Below w0.heap.size w0 w14) := ⟨h5_⟩
        clear BK129
        clear HI0
        clear HK
        clear HB
        clear h0_ h1_ h2_ h3_ h4_ h5_
        have HO132 := n0_
        have HA_HO132 := n1_
        have BK129 := n2_
        have HI0 := n3_
        have HK := n4_
        have HB := n5_
        clear n0_ n1_ n2_ n3_ n4_ n5_
        have hHeld := trivial
        obtain ⟨co15, eo15⟩ := HA_HO132.out
        clear HA_HO132
        subst eo15
        refine norm_ (a' := ?_) ?_ ?_
        rotate_left
        ·simp only [putAll, Act.put, zE, zF, zG]
         rfl
        refine two_ (i := 6) (j := 11) (Ni := some 12) (Nj := some 5) #[true, true, true, true, true, true, true, false, false, false, false, false, false] #[true, true, true, true, true, true, false, false, false, false, false, true, false] rfl rfl rfl rfl (two_of HT_.out (by kernel_rfl)) (by decide) (by decide) (fun K hK => ?_) (fun K hK => ?_)
        ·skip
         refine goes_ Tryd.func43 (by kernel_rfl) rfl #[.pointer (some ⟨g, 0, none⟩), .int .i64 60] (by rfl) rfl rfl (by (try simp only [List.map_toArray, List.map_cons, List.map_nil]); first | done | rfl | (simp only [List.length_drop, List.length_take]; rfl)) ?_
         with_reducible refine (spec_l20Rd_pick.calls k g s0_0 t134 60 t136 t137 w0 _ ?side1 ?side2 A6.out).mono ?_
         (case side1 => repeat (first | (with_reducible first | exact HI0.out | apply Z73.alloc | apply Z73.drewN | apply Z73.drew | apply Z73.set_1 | refine Z73.far ?_ NB0_129.out _) | exact HI0.out))
         (case side2 => repeat (first | (with_reducible first | exact HB.out | apply zB | apply zA | apply zC | refine zD ?_ (Z73.ge HI0.out) | refine zD ?_ GE129.out) | exact HB.out))
         rintro e w16 ⟨rfl, hi, hb, hk⟩
         refine ⟨_, rfl, ?_⟩
         have n0_ := zM (KeepBut.blk hk (g' := gb129) (o := .cells #[.int .i64 0, .int .i64 0, .int .i64 0] 25 (0, 0)) (by exact BK129.out) NB129_0.out (by simp))
         have n1_ := zM (Kd.R_mono (Kd.R_keep (Z73.apart (show Z73 w0 _ g s0_0 t134 from by repeat (first | (with_reducible first | exact HI0.out | apply Z73.alloc | apply Z73.drewN | apply Z73.drew | apply Z73.set_1 | refine Z73.far ?_ NB0_129.out _) | exact HI0.out)) (by exact HO132.out) (by decide)) hk (fun _ h => h.2)) (fun _ h => h.1))
         have n2_ := zM (KeepBut.trans (by repeat (first | (with_reducible first | exact HK.out | apply zK | apply keep_drewN | apply keep_drew | apply keep_alloc | refine keep_far ?_ GW129.out _) | exact HK.out)) hk (.inl rfl))
         have n3_ := zM (hb)
         have n4_ := zM (hi)
         clear BK129
         clear HO132
         clear HK
         clear HB
         clear HI0
         have BK129 := n0_
         have HO132 := n1_
         have HK := n2_
         have HB := n3_
         have HI0 := n4_
         clear n0_ n1_ n2_ n3_ n4_
         (try clear hb)
         (try clear hb2)
         (try clear hk)
         (try clear hi)
         refine hK.out _ _ trivial (fun hHeld => ?_)
         clear hK K
         refine norm_ (a' := ?_) ?_ ?_
         rotate_left
         ·show Act.put _ (some 12) _ = _
          simp only [Act.put, zE, zF, zG, i64_w, i32_w]
          rfl
         refine pure_ (i := 7) (N := some 13) (v := ?_) (a' := ?_) #[true, true, true, true, true, true, true, true, false, false, false, false, false] rfl rfl (any_of HT_.out (by kernel_rfl)) (fun _ _ _ h => h) (Or.inl ⟨by rfl, ?_⟩) ?_ ?_
         rotate_left
         ·intro w'
          go_simp
          with_reducible rfl
         rotate_left
         ·simp only [Act.put, zE, zF, zG, i64_w, i32_w]
          rfl
         refine pure_ (i := 8) (N := some 14) (v := ?_) (a' := ?_) #[true, true, true, true, true, true, true, true, true, false, false, false, false] rfl rfl (any_of HT_.out (by kernel_rfl)) (fun _ _ _ h => h) (Or.inl ⟨by rfl, ?_⟩) ?_ ?_
         rotate_left
         ·intro w'
          go_simp
          with_reducible rfl
         rotate_left
         ·simp only [Act.put, zE, zF, zG, i64_w, i32_w]
          rfl
         refine pure_ (i := 9) (N := some 15) (v := ?_) (a' := ?_) #[true, true, true, true, true, true, true, true, true, true, false, false, false] rfl rfl (any_of HT_.out (by kernel_rfl)) (fun _ _ _ h => h) (Or.inl ⟨by rfl, ?_⟩) ?_ ?_
         rotate_left
         ·intro w'
          go_simp
          with_reducible rfl
         rotate_left
         ·simp only [Act.put, zE, zF, zG, i64_w, i32_w]
          rfl
         refine pure_ (i := 10) (N := some 16) (v := ?_) (a' := ?_) #[true, true, true, true, true, true, true, true, true, true, true, false, false] rfl rfl (any_of HT_.out (by kernel_rfl)) (fun _ _ _ h => h) (Or.inl ⟨by rfl, ?_⟩) ?_ ?_
         rotate_left
         ·intro w'
          go_simp
          with_reducible rfl
         rotate_left
         ·simp only [Act.put, zE, zF, zG, i64_w, i32_w]
          rfl
         exact norm_ (by first | (simp only [putAll, Act.put, zE, zF, zG]; done) | (simp only [putAll, Act.put, zE, zF, zG]; rfl)) (hJ0_2_4_6 (.slice (some adz_v131) y130.length co15, adz_v131) _ ⟨(by exact HO132.out), ⟨_, rfl⟩, (by exact BK129.out), (by repeat (first | (with_reducible first | exact HI0.out | apply Z73.alloc | apply Z73.drewN | apply Z73.drew | apply Z73.set_1 | refine Z73.far ?_ NB0_129.out _) | exact HI0.out)), (by repeat (first | (with_reducible first | exact HK.out | apply zK | apply keep_drewN | apply keep_drew | apply keep_alloc | refine keep_far ?_ GW129.out _) | exact HK.out)), (by repeat (first | (with_reducible first | exact HB.out | apply zB | apply zA | apply zC | refine zD ?_ (Z73.ge HI0.out) | refine zD ?_ GE129.out) | exact HB.out))⟩)
        ·skip
         refine box_step ?hg (N := 5) ?hd (cs := #[.int .i64 0, .int .i64 0, .int .i64 0]) (t := 25) ?hr ?_; (case hd => rfl); (case hg => rfl); (case hr => first | (go_simp; done) | (go_simp; rfl))
         intro gb138 hg w16 hbox hb
         have n0_ := zM (Kd.R_below (by exact HO132.out) hb)
         have n1_ := zM (Z73.below (by repeat (first | (with_reducible first | exact HI0.out | apply Z73.alloc | apply Z73.drewN | apply Z73.drew | apply Z73.set_1 | refine Z73.far ?_ NB0_129.out _) | exact HI0.out)) hb)
         have n2_ := zM (blk_below (g := gb129) (o := .cells #[.int .i64 0, .int .i64 0, .int .i64 0] 25 (0, 0)) (by exact BK129.out) hb)
         have n3_ := zM (KeepBut.trans (by repeat (first | (with_reducible first | exact HK.out | apply zK | apply keep_drewN | apply keep_drew | apply keep_alloc | refine keep_far ?_ GW129.out _) | exact HK.out)) (KeepBut.of_below hb g none) (.inl rfl))
         have n4_ := zM (below_step (by repeat (first | (with_reducible first | exact HB.out | apply zB | apply zA | apply zC | refine zD ?_ (Z73.ge HI0.out) | refine zD ?_ GE129.out) | exact HB.out)) hb)
         have n5_ := zM (hbox)
         have n6_ := zM ((by rw [hg]; exact (keep_size (w := w) (g := g) (row := none) (by repeat (first | (with_reducible first | exact HK.out | apply zK | apply keep_drewN | apply keep_drew | apply keep_alloc | refine keep_far ?_ GW129.out _) | exact HK.out))) : w.heap.size ≤ gb138))
         have n7_ := zM ((Nat.le_trans HW0.out (by rw [hg]; exact (keep_size (w := w) (g := g) (row := none) (by repeat (first | (with_reducible first | exact HK.out | apply zK | apply keep_drewN | apply keep_drew | apply keep_alloc | refine keep_far ?_ GW129.out _) | exact HK.out))) : w.heap.size ≤ gb138) : w0.heap.size ≤ gb138))
         have n8_ := zM ((by rw [hg]; exact Nat.ne_of_lt (blk_lt (g := gb129) (o := .cells #[.int .i64 0, .int .i64 0, .int .i64 0] 25 (0, 0)) (by exact BK129.out)) : gb129 ≠ gb138))
         have n9_ := zM ((by rw [hg]; exact Nat.ne_of_gt (blk_lt (g := gb129) (o := .cells #[.int .i64 0, .int .i64 0, .int .i64 0] 25 (0, 0)) (by exact BK129.out)) : gb138 ≠ gb129))
         have n10_ := zM ((by rw [hg]; exact Nat.ne_of_lt (Z73.lt (show Z73 w0 _ g s0_0 t134 from by repeat (first | (with_reducible first | exact HI0.out | apply Z73.alloc | apply Z73.drewN | apply Z73.drew | apply Z73.set_1 | refine Z73.far ?_ NB0_129.out _) | exact HI0.out))) : g ≠ gb138))
         have n11_ := zM ((by rw [hg]; exact Nat.ne_of_gt (Z73.lt (show Z73 w0 _ g s0_0 t134 from by repeat (first | (with_reducible first | exact HI0.out | apply Z73.alloc | apply Z73.drewN | apply Z73.drew | apply Z73.set_1 | refine Z73.far ?_ NB0_129.out _) | exact HI0.out))) : gb138 ≠ g))
         clear HO132
         clear HI0
         clear BK129
         clear HK
         clear HB
         have HO132 := n0_
         have HI0 := n1_
         have BK129 := n2_
         have HK := n3_
         have HB := n4_
         have BK138 := n5_
         have GW138 := n6_
         have GE138 := n7_
         have NB129_138 := n8_
         have NB138_129 := n9_
         have NB0_138 := n10_
         have NB138_0 := n11_
         clear n0_ n1_ n2_ n3_ n4_ n5_ n6_ n7_ n8_ n9_ n10_ n11_
         clear hb hbox hg
         refine hK.out _ _ trivial (fun hHeld => ?_)
         clear hK K
         refine norm_ (a' := ?_) ?_ ?_
         rotate_left
         ·show Act.put _ (some 5) _ = _
          simp only [Act.put, zE, zF, zG, i64_w, i32_w]
          rfl
         exact norm_ (by first | (simp only [putAll, Act.put, zE, zF, zG]; done) | (simp only [putAll, Act.put, zE, zF, zG]; rfl)) (hJ0_2_4_11 (.slice (some adz_v131) y130.length co15, adz_v131, gb138) _ ⟨(by exact HO132.out), ⟨_, rfl⟩, (by exact BK129.out), (by exact BK138.out), GW138.out, GE138.out, NB0_138.out, NB138_0.out, NB129_138.out, NB138_129.out, (by repeat (first | (with_reducible first | exact HI0.out | apply Z73.alloc | apply Z73.drewN | apply Z73.drew | apply Z73.set_1 | refine Z73.far ?_ NB0_129.out _ | refine Z73.far ?_ NB0_138.out _) | exact HI0.out)), (by repeat (first | (with_reducible first | exact HK.out | apply zK | apply keep_drewN | apply keep_drew | apply keep_alloc | refine keep_far ?_ GW129.out _ | refine keep_far ?_ GW138.out _) | exact HK.out)), (by repeat (first | (with_reducible first | exact HB.out | apply zB | apply zA | apply zC | refine zD ?_ (Z73.ge HI0.out) | refine zD ?_ GE129.out | refine zD ?_ GE138.out) | exact HB.out))⟩)
      ·skip
       rintro ⟨v131, adz_v131, gb138⟩ w16 ⟨h0_, h1_, h2_, h3_, h4_, h5_, h6_, h7_, h8_, h9_, h10_, h11_, h12_⟩
       have n0_ : Aside0 (Kd.R (Kd.int .i64) 3 w16 w.heap.size (fun _ => True) v131 y130) := ⟨h0_⟩
       have n1_ : Aside0 (∃ c_, (v131 : Value) = .slice (some adz_v131) y130.length c_) := ⟨h1_⟩
       have n2_ : Aside0 (w16.heap[gb129]? = some (.cells #[.int .i64 0, .int .i64 0, .int .i64 0] 25 (0, 0))) := ⟨h2_⟩
       have n3_ : Aside0 (w16.heap[gb138]? = some (.cells #[.int .i64 0, .int .i64 0, .int .i64 0] 25 (0, 0))) := ⟨h3_⟩
       have n4_ : Aside0 (w.heap.size ≤ gb138) := ⟨h4_⟩
       have n5_ : Aside0 (w0.heap.size ≤ gb138) := ⟨h5_⟩
       have n6_ : Aside0 (g ≠ gb138) := ⟨h6_⟩
       have n7_ : Aside0 (gb138 ≠ g) := ⟨h7_⟩
       have n8_ : Aside0 (gb129 ≠ gb138) := ⟨h8_⟩
       have n9_ : Aside0 (gb138 ≠ gb129) := ⟨h9_⟩
       have n10_ : Aside0 (Z73 w0 w16 g s0_0 t137) := ⟨h10_⟩
       have n11_ : Aside0 (KeepBut w w16 g none) := ⟨h11_⟩
       have n12_ : Aside0 (Below w0.heap.size w0 w16) := ⟨h12_⟩
       clear BK129
       clear HI0
       clear HK
       clear HB
       clear h0_ h1_ h2_ h3_ h4_ h5_ h6_ h7_ h8_ h9_ h10_ h11_ h12_
       have HO132 := n0_
       have HA_HO132 := n1_
       have BK129 := n2_
       have BK138 := n3_
       have GW138 := n4_
       have GE138 := n5_
       have NB0_138 := n6_
       have NB138_0 := n7_
       have NB129_138 := n8_
       have NB138_129 := n9_
       have HI0 := n10_
       have HK := n11_
       have HB := n12_
       clear n0_ n1_ n2_ n3_ n4_ n5_ n6_ n7_ n8_ n9_ n10_ n11_ n12_
       have hHeld := trivial
       obtain ⟨co17, eo17⟩ := HA_HO132.out
       clear HA_HO132
       subst eo17
       refine norm_ (a' := ?_) ?_ ?_
       rotate_left
       ·simp only [putAll, Act.put, zE, zF, zG]
        rfl
       refine one_ (i := 4) (N := some 10) #[true, true, true, true, true, true, true, true, true, false, false, true, false] rfl rfl (one_of HT_.out (by kernel_rfl)) (by decide) (fun K hK => ?_)
       (have p135 : 0 ≤ (t133 : Int) := of_decide_eq_true (by first | (with_reducible assumption) | assumption); have q135 : t133 < (y130.length : Int) := of_decide_eq_true (by first | (with_reducible assumption) | assumption); obtain ⟨ad135, e135, hx135_0⟩ := Kd.at_int (Kd.R_reads' HO132.out).2.2 t133 p135 q135; obtain rfl : adz_v131 = ad135 := (by injection e135))
       refine value_ (w1 := ?_) (v := ?_) (by rfl) rfl ?_ ?_
       rotate_left 2
       ·go_simp
        constructor
        ·rfl
        ·rfl
       clear hx135_0
       refine hK.out _ _ trivial (fun hHeld => ?_)
       clear hK K
       refine norm_ (a' := ?_) ?_ ?_
       rotate_left
       ·show Act.put _ (some 10) _ = _
        simp only [Act.put, zE, zF, zG, i64_w, i32_w]
        rfl
       refine pure_ (i := 9) (N := some 15) (v := ?_) (a' := ?_) #[true, true, true, true, true, true, true, true, true, true, false, true, false] rfl rfl (any_of HT_.out (by kernel_rfl)) (fun _ _ _ h => h) (Or.inl ⟨by rfl, ?_⟩) ?_ ?_
       rotate_left
       ·intro w'
        go_simp
        with_reducible rfl
       rotate_left
       ·simp only [Act.put, zE, zF, zG, i64_w, i32_w]
        rfl
       refine pure_ (i := 10) (N := some 16) (v := ?_) (a' := ?_) #[true, true, true, true, true, true, true, true, true, true, true, true, false] rfl rfl (any_of HT_.out (by kernel_rfl)) (fun _ _ _ h => h) (Or.inl ⟨by rfl, ?_⟩) ?_ ?_
       rotate_left
       ·intro w'
        go_simp
        with_reducible rfl
       rotate_left
       ·simp only [Act.put, zE, zF, zG, i64_w, i32_w]
        rfl
       exact norm_ (by first | (simp only [putAll, Act.put, zE, zF, zG]; done) | (simp only [putAll, Act.put, zE, zF, zG]; rfl)) (hJ0_2_4_6_11 (.slice (some adz_v131) y130.length co17, adz_v131, gb138) _ ⟨(by exact HO132.out), ⟨_, rfl⟩, (by exact BK129.out), (by exact BK138.out), GW138.out, GE138.out, NB0_138.out, NB138_0.out, NB129_138.out, NB138_129.out, (by repeat (first | (with_reducible first | exact HI0.out | apply Z73.alloc | apply Z73.drewN | apply Z73.drew | apply Z73.set_1 | refine Z73.far ?_ NB0_129.out _ | refine Z73.far ?_ NB0_138.out _) | exact HI0.out)), (by repeat (first | (with_reducible first | exact HK.out | apply zK | apply keep_drewN | apply keep_drew | apply keep_alloc | refine keep_far ?_ GW129.out _ | refine keep_far ?_ GW138.out _) | exact HK.out)), (by repeat (first | (with_reducible first | exact HB.out | apply zB | apply zA | apply zC | refine zD ?_ (Z73.ge HI0.out) | refine zD ?_ GE129.out | refine zD ?_ GE138.out) | exact HB.out))⟩)
     ·skip
      rintro ⟨v131, adz_v131, gb138⟩ w15 ⟨h0_, h1_, h2_, h3_, h4_, h5_, h6_, h7_, h8_, h9_, h10_, h11_, h12_⟩
      have n0_ : Aside0 (Kd.R (Kd.int .i64) 3 w15 w.heap.size (fun _ => True) v131 y130) := ⟨h0_⟩
      have n1_ : Aside0 (∃ c_, (v131 : Value) = .slice (some adz_v131) y130.length c_) := ⟨h1_⟩
      have n2_ : Aside0 (w15.heap[gb129]? = some (.cells #[.int .i64 0, .int .i64 0, .int .i64 0] 25 (0, 0))) := ⟨h2_⟩
      have n3_ : Aside0 (w15.heap[gb138]? = some (.cells #[.int .i64 0, .int .i64 0, .int .i64 0] 25 (0, 0))) := ⟨h3_⟩
      have n4_ : Aside0 (w.heap.size ≤ gb138) := ⟨h4_⟩
      have n5_ : Aside0 (w0.heap.size ≤ gb138) := ⟨h5_⟩
      have n6_ : Aside0 (g ≠ gb138) := ⟨h6_⟩
      have n7_ : Aside0 (gb138 ≠ g) := ⟨h7_⟩
      have n8_ : Aside0 (gb129 ≠ gb138) := ⟨h8_⟩
      have n9_ : Aside0 (gb138 ≠ gb129) := ⟨h9_⟩
      have n10_ : Aside0 (Z73 w0 w15 g s0_0 t134) := ⟨h10_⟩
      have n11_ : Aside0 (KeepBut w w15 g none) := ⟨h11_⟩
      have n12_ : Aside0 (Below w0.heap.size w0 w15) := ⟨h12_⟩
      clear BK129
      clear HI0
      clear HK
      clear HB
      clear h0_ h1_ h2_ h3_ h4_ h5_ h6_ h7_ h8_ h9_ h10_ h11_ h12_
      have HO132 := n0_
      have HA_HO132 := n1_
      have BK129 := n2_
      have BK138 := n3_
      have GW138 := n4_
      have GE138 := n5_
      have NB0_138 := n6_
      have NB138_0 := n7_
      have NB129_138 := n8_
      have NB138_129 := n9_
      have HI0 := n10_
      have HK := n11_
      have HB := n12_
      clear n0_ n1_ n2_ n3_ n4_ n5_ n6_ n7_ n8_ n9_ n10_ n11_ n12_
      have hHeld := trivial
      obtain ⟨co16, eo16⟩ := HA_HO132.out
      clear HA_HO132
      subst eo16
      refine norm_ (a' := ?_) ?_ ?_
      rotate_left
      ·simp only [putAll, Act.put, zE, zF, zG]
       rfl
      refine one_ (i := 6) (N := some 12) #[true, true, true, true, true, true, true, false, false, false, false, true, false] rfl rfl (one_of HT_.out (by kernel_rfl)) (by decide) (fun K hK => ?_)
      refine goes_ Tryd.func43 (by kernel_rfl) rfl #[.pointer (some ⟨g, 0, none⟩), .int .i64 60] (by rfl) rfl rfl (by (try simp only [List.map_toArray, List.map_cons, List.map_nil]); first | done | rfl | (simp only [List.length_drop, List.length_take]; rfl)) ?_
      with_reducible refine (spec_l20Rd_pick.calls k g s0_0 t134 60 t136 t137 w0 _ ?side1 ?side2 A6.out).mono ?_
      (case side1 => repeat (first | (with_reducible first | exact HI0.out | apply Z73.alloc | apply Z73.drewN | apply Z73.drew | apply Z73.set_1 | refine Z73.far ?_ NB0_129.out _ | refine Z73.far ?_ NB0_138.out _) | exact HI0.out))
      (case side2 => repeat (first | (with_reducible first | exact HB.out | apply zB | apply zA | apply zC | refine zD ?_ (Z73.ge HI0.out) | refine zD ?_ GE129.out | refine zD ?_ GE138.out) | exact HB.out))
      rintro e w17 ⟨rfl, hi, hb, hk⟩
      refine ⟨_, rfl, ?_⟩
      have n0_ := zM (KeepBut.blk hk (g' := gb129) (o := .cells #[.int .i64 0, .int .i64 0, .int .i64 0] 25 (0, 0)) (by exact BK129.out) NB129_0.out (by simp))
      have n1_ := zM (Kd.R_mono (Kd.R_keep (Z73.apart (show Z73 w0 _ g s0_0 t134 from by repeat (first | (with_reducible first | exact HI0.out | apply Z73.alloc | apply Z73.drewN | apply Z73.drew | apply Z73.set_1 | refine Z73.far ?_ NB0_129.out _ | refine Z73.far ?_ NB0_138.out _) | exact HI0.out)) (by exact HO132.out) (by decide)) hk (fun _ h => h.2)) (fun _ h => h.1))
      have n2_ := zM (KeepBut.blk hk (g' := gb138) (o := .cells #[.int .i64 0, .int .i64 0, .int .i64 0] 25 (0, 0)) (by exact BK138.out) NB138_0.out (by simp))
      have n3_ := zM (KeepBut.trans (by repeat (first | (with_reducible first | exact HK.out | apply zK | apply keep_drewN | apply keep_drew | apply keep_alloc | refine keep_far ?_ GW129.out _ | refine keep_far ?_ GW138.out _) | exact HK.out)) hk (.inl rfl))
      have n4_ := zM (hb)
      have n5_ := zM (hi)
      clear BK129
      clear HO132
      clear BK138
      clear HK
      clear HB
      clear HI0
      have BK129 := n0_
      have HO132 := n1_
      have BK138 := n2_
      have HK := n3_
      have HB := n4_
      have HI0 := n5_
      clear n0_ n1_ n2_ n3_ n4_ n5_
      (try clear hb)
      (try clear hb2)
      (try clear hk)
      (try clear hi)
      refine hK.out _ _ trivial (fun hHeld => ?_)
      clear hK K
      refine norm_ (a' := ?_) ?_ ?_
      rotate_left
      ·show Act.put _ (some 12) _ = _
       simp only [Act.put, zE, zF, zG, i64_w, i32_w]
       rfl
      refine pure_ (i := 7) (N := some 13) (v := ?_) (a' := ?_) #[true, true, true, true, true, true, true, true, false, false, false, true, false] rfl rfl (any_of HT_.out (by kernel_rfl)) (fun _ _ _ h => h) (Or.inl ⟨by rfl, ?_⟩) ?_ ?_
      rotate_left
      ·intro w'
       go_simp
       with_reducible rfl
      rotate_left
      ·simp only [Act.put, zE, zF, zG, i64_w, i32_w]
       rfl
      refine pure_ (i := 8) (N := some 14) (v := ?_) (a' := ?_) #[true, true, true, true, true, true, true, true, true, false, false, true, false] rfl rfl (any_of HT_.out (by kernel_rfl)) (fun _ _ _ h => h) (Or.inl ⟨by rfl, ?_⟩) ?_ ?_
      rotate_left
      ·intro w'
       go_simp
       with_reducible rfl
      rotate_left
      ·simp only [Act.put, zE, zF, zG, i64_w, i32_w]
       rfl
      refine pure_ (i := 9) (N := some 15) (v := ?_) (a' := ?_) #[true, true, true, true, true, true, true, true, true, true, false, true, false] rfl rfl (any_of HT_.out (by kernel_rfl)) (fun _ _ _ h => h) (Or.inl ⟨by rfl, ?_⟩) ?_ ?_
      rotate_left
      ·intro w'
       go_simp
       with_reducible rfl
      rotate_left
      ·simp only [Act.put, zE, zF, zG, i64_w, i32_w]
       rfl
      refine pure_ (i := 10) (N := some 16) (v := ?_) (a' := ?_) #[true, true, true, true, true, true, true, true, true, true, true, true, false] rfl rfl (any_of HT_.out (by kernel_rfl)) (fun _ _ _ h => h) (Or.inl ⟨by rfl, ?_⟩) ?_ ?_
      rotate_left
      ·intro w'
       go_simp
       with_reducible rfl
      rotate_left
      ·simp only [Act.put, zE, zF, zG, i64_w, i32_w]
       rfl
      exact norm_ (by first | (simp only [putAll, Act.put, zE, zF, zG]; done) | (simp only [putAll, Act.put, zE, zF, zG]; rfl)) (hJ0_2_4_6_11 (.slice (some adz_v131) y130.length co16, adz_v131, gb138) _ ⟨(by exact HO132.out), ⟨_, rfl⟩, (by exact BK129.out), (by exact BK138.out), GW138.out, GE138.out, NB0_138.out, NB138_0.out, NB129_138.out, NB138_129.out, (by repeat (first | (with_reducible first | exact HI0.out | apply Z73.alloc | apply Z73.drewN | apply Z73.drew | apply Z73.set_1 | refine Z73.far ?_ NB0_129.out _ | refine Z73.far ?_ NB0_138.out _) | exact HI0.out)), (by repeat (first | (with_reducible first | exact HK.out | apply zK | apply keep_drewN | apply keep_drew | apply keep_alloc | refine keep_far ?_ GW129.out _ | refine keep_far ?_ GW138.out _) | exact HK.out)), (by repeat (first | (with_reducible first | exact HB.out | apply zB | apply zA | apply zC | refine zD ?_ (Z73.ge HI0.out) | refine zD ?_ GE129.out | refine zD ?_ GE138.out) | exact HB.out))⟩)
    ·skip
     rintro ⟨v131, adz_v131⟩ w15 ⟨h0_, h1_, h2_, h3_, h4_, h5_⟩
     have n0_ : Aside0 (Kd.R (Kd.int .i64) 3 w15 w.heap.size (fun _ => True) v131 y130) := ⟨h0_⟩
     have n1_ : Aside0 (∃ c_, (v131 : Value) = .slice (some adz_v131) y130.length c_) := ⟨h1_⟩
     have n2_ : Aside0 (w15.heap[gb129]? = some (.cells #[.int .i64 0, .int .i64 0, .int .i64 0] 25 (0, 0))) := ⟨h2_⟩
     have n3_ : Aside0 (Z73 w0 w15 g s0_0 t137) := ⟨h3_⟩
     have n4_ : Aside0 (KeepBut w w15 g none) := ⟨h4_⟩
     have n5_ : Aside0 (Below w0.heap.size w0 w15) := ⟨h5_⟩
     clear BK129
     clear HI0
     clear HK
     clear HB
     clear h0_ h1_ h2_ h3_ h4_ h5_
     have HO132 := n0_
     have HA_HO132 := n1_
     have BK129 := n2_
     have HI0 := n3_
     have HK := n4_
     have HB := n5_
     clear n0_ n1_ n2_ n3_ n4_ n5_
     have hHeld := trivial
     obtain ⟨co16, eo16⟩ := HA_HO132.out
     clear HA_HO132
     subst eo16
     refine norm_ (a' := ?_) ?_ ?_
     rotate_left
     ·simp only [putAll, Act.put, zE, zF, zG]
      rfl
     refine one_ (i := 11) (N := some 5) #[true, true, true, true, true, true, true, true, true, true, true, true, false] rfl rfl (one_of HT_.out (by kernel_rfl)) (by decide) (fun K hK => ?_)
     refine box_step ?hg (N := 5) ?hd (cs := #[.int .i64 0, .int .i64 0, .int .i64 0]) (t := 25) ?hr ?_; (case hd => rfl); (case hg => rfl); (case hr => first | (go_simp; done) | (go_simp; rfl))
     intro gb138 hg w17 hbox hb
     have n0_ := zM (Kd.R_below (by exact HO132.out) hb)
     have n1_ := zM (Z73.below (by repeat (first | (with_reducible first | exact HI0.out | apply Z73.alloc | apply Z73.drewN | apply Z73.drew | apply Z73.set_1 | refine Z73.far ?_ NB0_129.out _) | exact HI0.out)) hb)
     have n2_ := zM (blk_below (g := gb129) (o := .cells #[.int .i64 0, .int .i64 0, .int .i64 0] 25 (0, 0)) (by exact BK129.out) hb)
     have n3_ := zM (KeepBut.trans (by repeat (first | (with_reducible first | exact HK.out | apply zK | apply keep_drewN | apply keep_drew | apply keep_alloc | refine keep_far ?_ GW129.out _) | exact HK.out)) (KeepBut.of_below hb g none) (.inl rfl))
     have n4_ := zM (below_step (by repeat (first | (with_reducible first | exact HB.out | apply zB | apply zA | apply zC | refine zD ?_ (Z73.ge HI0.out) | refine zD ?_ GE129.out) | exact HB.out)) hb)
     have n5_ := zM (hbox)
     have n6_ := zM ((by rw [hg]; exact (keep_size (w := w) (g := g) (row := none) (by repeat (first | (with_reducible first | exact HK.out | apply zK | apply keep_drewN | apply keep_drew | apply keep_alloc | refine keep_far ?_ GW129.out _) | exact HK.out))) : w.heap.size ≤ gb138))
     have n7_ := zM ((Nat.le_trans HW0.out (by rw [hg]; exact (keep_size (w := w) (g := g) (row := none) (by repeat (first | (with_reducible first | exact HK.out | apply zK | apply keep_drewN | apply keep_drew | apply keep_alloc | refine keep_far ?_ GW129.out _) | exact HK.out))) : w.heap.size ≤ gb138) : w0.heap.size ≤ gb138))
     have n8_ := zM ((by rw [hg]; exact Nat.ne_of_lt (blk_lt (g := gb129) (o := .cells #[.int .i64 0, .int .i64 0, .int .i64 0] 25 (0, 0)) (by exact BK129.out)) : gb129 ≠ gb138))
     have n9_ := zM ((by rw [hg]; exact Nat.ne_of_gt (blk_lt (g := gb129) (o := .cells #[.int .i64 0, .int .i64 0, .int .i64 0] 25 (0, 0)) (by exact BK129.out)) : gb138 ≠ gb129))
     have n10_ := zM ((by rw [hg]; exact Nat.ne_of_lt (Z73.lt (show Z73 w0 _ g s0_0 t137 from by repeat (first | (with_reducible first | exact HI0.out | apply Z73.alloc | apply Z73.drewN | apply Z73.drew | apply Z73.set_1 | refine Z73.far ?_ NB0_129.out _) | exact HI0.out))) : g ≠ gb138))
     have n11_ := zM ((by rw [hg]; exact Nat.ne_of_gt (Z73.lt (show Z73 w0 _ g s0_0 t137 from by repeat (first | (with_reducible first | exact HI0.out | apply Z73.alloc | apply Z73.drewN | apply Z73.drew | apply Z73.set_1 | refine Z73.far ?_ NB0_129.out _) | exact HI0.out))) : gb138 ≠ g))
     clear HO132
     clear HI0
     clear BK129
     clear HK
     clear HB
     have HO132 := n0_
     have HI0 := n1_
     have BK129 := n2_
     have HK := n3_
     have HB := n4_
     have BK138 := n5_
     have GW138 := n6_
     have GE138 := n7_
     have NB129_138 := n8_
     have NB138_129 := n9_
     have NB0_138 := n10_
     have NB138_0 := n11_
     clear n0_ n1_ n2_ n3_ n4_ n5_ n6_ n7_ n8_ n9_ n10_ n11_
     clear hb hbox hg
     refine hK.out _ _ trivial (fun hHeld => ?_)
     clear hK K
     refine norm_ (a' := ?_) ?_ ?_
     rotate_left
     ·show Act.put _ (some 5) _ = _
      simp only [Act.put, zE, zF, zG, i64_w, i32_w]
      rfl
     exact norm_ (by first | (simp only [putAll, Act.put, zE, zF, zG]; done) | (simp only [putAll, Act.put, zE, zF, zG]; rfl)) (hJ0_2_4_6_11 (.slice (some adz_v131) y130.length co16, adz_v131, gb138) _ ⟨(by exact HO132.out), ⟨_, rfl⟩, (by exact BK129.out), (by exact BK138.out), GW138.out, GE138.out, NB0_138.out, NB138_0.out, NB129_138.out, NB138_129.out, (by repeat (first | (with_reducible first | exact HI0.out | apply Z73.alloc | apply Z73.drewN | apply Z73.drew | apply Z73.set_1 | refine Z73.far ?_ NB0_129.out _ | refine Z73.far ?_ NB0_138.out _) | exact HI0.out)), (by repeat (first | (with_reducible first | exact HK.out | apply zK | apply keep_drewN | apply keep_drew | apply keep_alloc | refine keep_far ?_ GW129.out _ | refine keep_far ?_ GW138.out _) | exact HK.out)), (by repeat (first | (with_reducible first | exact HB.out | apply zB | apply zA | apply zC | refine zD ?_ (Z73.ge HI0.out) | refine zD ?_ GE129.out | refine zD ?_ GE138.out) | exact HB.out))⟩)
   rintro ⟨v131, adz_v131, gb138⟩ w16 ⟨h0_, h1_, h2_, h3_, h4_, h5_, h6_, h7_, h8_, h9_, h10_, h11_, h12_⟩
   have n0_ : Aside0 (Kd.R (Kd.int .i64) 3 w16 w.heap.size (fun _ => True) v131 y130) := ⟨h0_⟩
   have n1_ : Aside0 (∃ c_, (v131 : Value) = .slice (some adz_v131) y130.length c_) := ⟨h1_⟩
   have n2_ : Aside0 (w16.heap[gb129]? = some (.cells #[.int .i64 0, .int .i64 0, .int .i64 0] 25 (0, 0))) := ⟨h2_⟩
   have n3_ : Aside0 (w16.heap[gb138]? = some (.cells #[.int .i64 0, .int .i64 0, .int .i64 0] 25 (0, 0))) := ⟨h3_⟩
   have n4_ : Aside0 (w.heap.size ≤ gb138) := ⟨h4_⟩
   have n5_ : Aside0 (w0.heap.size ≤ gb138) := ⟨h5_⟩
   have n6_ : Aside0 (g ≠ gb138) := ⟨h6_⟩
   have n7_ : Aside0 (gb138 ≠ g) := ⟨h7_⟩
   have n8_ : Aside0 (gb129 ≠ gb138) := ⟨h8_⟩
   have n9_ : Aside0 (gb138 ≠ gb129) := ⟨h9_⟩
   have n10_ : Aside0 (Z73 w0 w16 g s0_0 t137) := ⟨h10_⟩
   have n11_ : Aside0 (KeepBut w w16 g none) := ⟨h11_⟩
   have n12_ : Aside0 (Below w0.heap.size w0 w16) := ⟨h12_⟩
   clear BK129
   clear HI0
   clear HK
   clear HB
   clear h0_ h1_ h2_ h3_ h4_ h5_ h6_ h7_ h8_ h9_ h10_ h11_ h12_
   have HO132 := n0_
   have HA_HO132 := n1_
   have BK129 := n2_
   have BK138 := n3_
   have GW138 := n4_
   have GE138 := n5_
   have NB0_138 := n6_
   have NB138_0 := n7_
   have NB129_138 := n8_
   have NB138_129 := n9_
   have HI0 := n10_
   have HK := n11_
   have HB := n12_
   clear n0_ n1_ n2_ n3_ n4_ n5_ n6_ n7_ n8_ n9_ n10_ n11_ n12_
   have hHeld := trivial
   obtain ⟨co17, eo17⟩ := HA_HO132.out
   clear HA_HO132
   subst eo17
   refine norm_ (a' := ?_) ?_ ?_
   rotate_left
   ·simp only [putAll, Act.put, zE, zF, zG]
    rfl
   refine one_ (i := 12) (N := none) #[true, true, true, true, true, true, true, true, true, true, true, true, true] rfl rfl (one_of HT_.out (by kernel_rfl)) (by decide) (fun K hK => ?_)
   have hs18 : w16.cell? ⟨gb138, 0, none⟩ = some (.int .i64 0) := (blk_cell BK138.out 0).trans rfl
   have hfs18 := blk_frozen BK138.out 0
   have hns18_0 := NB129_138.out
   have hms18_0 := NB138_129.out
   have hs19 : w16.cell? ⟨gb138, 1, none⟩ = some (.int .i64 0) := (blk_cell BK138.out 1).trans rfl
   have hfs19 := blk_frozen BK138.out 1
   have hns19_0 := NB129_138.out
   have hms19_0 := NB138_129.out
   have hs20 : w16.cell? ⟨gb138, 2, none⟩ = some (.int .i64 0) := (blk_cell BK138.out 2).trans rfl
   have hfs20 := blk_frozen BK138.out 2
   have hns20_0 := NB129_138.out
   have hms20_0 := NB138_129.out
   refine skip_ (w1 := ?_) (by rfl) rfl ?_ ?_
   rotate_left
   ·go_simp
    rfl
   refine hK.out _ _ trivial (fun hHeld => ?_)
   clear hK K
   refine done_ (done_of HT_.out (by kernel_rfl)) ?_
   have hnb21 := NB138_129.out
   have hnc21 := NB129_138.out
   have hnb22 := NB138_0.out
   have hnc22 := NB0_138.out
   have hcz23_0 : w16.cell? ⟨gb138, 0, none⟩ = some (.int .i64 0) := (blk_cell BK138.out 0).trans rfl
   have hcz23_1 : w16.cell? ⟨gb138, 1, none⟩ = some (.int .i64 0) := (blk_cell BK138.out 1).trans rfl
   have hcz23_2 : w16.cell? ⟨gb138, 2, none⟩ = some (.int .i64 0) := (blk_cell BK138.out 2).trans rfl
   have hfz23_0 := blk_frozen BK138.out 0
   have hfz23_1 := blk_frozen BK138.out 1
   have hfz23_2 := blk_frozen BK138.out 2
   go_upto_block 0 with (fail)
   go_cut [] (fun wc => ∃ (kq : Nat) (x1001_6 : Int) (x139001_6 : Int) (x139002_6 : Int), Aside0 (spec_l20Deed.j0 kq s0_0 x1001_6 (wrap64 ((rd y130 t133) + (wrap64 ((wrap64 (Int.tdiv t136 59)) * 6)))) x139001_6 x139002_6 = some (r1, r2, r3, r4)) ∧ Aside0 (kq ≤ k) ∧ Aside0 (wc.heap[gb129]? = some (.cells #[.int .i64 0, .int .i64 0, .int .i64 0] 25 (0, 0))) ∧ Aside0 (wc.heap[gb138]? = some (.cells #[.int .i64 (wrap64 ((rd y130 t133) + (wrap64 ((wrap64 (Int.tdiv t136 59)) * 6)))), .int .i64 x139001_6, .int .i64 x139002_6] 25 (0, 0))) ∧ Aside0 (Z73 w0 wc g s0_0 x1001_6) ∧ Aside0 (KeepBut w wc g none) ∧ Aside0 (Below w0.heap.size w0 wc))
   case first =>
    have H := HC7.out
    clear HC7
    by_cases c24 : (wrap64 ((rd y130 t133) + (wrap64 ((wrap64 (Int.tdiv t136 59)) * 6)))) = 0
    ·rw [if_pos c24] at H
     have c24b0 : ((wrap64 ((rd y130 t133) + (wrap64 ((wrap64 (Int.tdiv t136 59)) * 6)))) == 0) = true := beq_iff_eq.mpr c24
     have c24b1 : ((wrap64 ((rd y130 t133) + (wrap64 ((wrap64 (Int.tdiv t136 59)) * 6)))) != 0) = false := bne_eq_false_iff_eq.mpr c24
     clear c24
     (first | rw [c24b0] | (simp only [i64_w, i32_w]; rw [c24b0]) | skip)
     obtain ⟨ji25, hji25⟩ : ∃ j_ : Int, (mx (l1.length : Int) 1) = j_ := ⟨_, rfl⟩
     replace H : ((spec_l20Rd_pick.f k s0_0 t137 (ji25)).bind fun bt139 => ((spec_l20Rd_pick.f k s0_0 bt139.2 (wrap64 ((l1.length : Int) + 1))).bind fun bt141 => (spec_l20Deed.j0 k s0_0 bt141.2 (wrap64 ((rd y130 t133) + (wrap64 ((wrap64 (Int.tdiv t136 59)) * 6)))) (wrap64 (1 + bt139.1)) bt141.1))) = some (r1, r2, r3, r4) := by first | (rw [hji25] at H; exact H) | (simp only [hji25] at H ⊢; exact H)
     (try (have hji25l : 1 ≤ ji25 := by (rw [← hji25]; unfold mx; (repeat' split) <;> omega)))
     (try (have hji25m : 0 ≤ ji25 := by omega))
     have hji25_ : (if (l1.length : Int) < 1 then 1 else (l1.length : Int)) = ji25 := hji25
     replace H := Option.bind_eq_some_iff.mp H
     obtain ⟨⟨t139, t140⟩, A260, H⟩ := H
     replace H : ((spec_l20Rd_pick.f k s0_0 t140 (wrap64 ((l1.length : Int) + 1))).bind fun bt141 => (spec_l20Deed.j0 k s0_0 bt141.2 (wrap64 ((rd y130 t133) + (wrap64 ((wrap64 (Int.tdiv t136 59)) * 6)))) (wrap64 (1 + t139)) bt141.1)) = some (r1, r2, r3, r4) := H
     have A26 := zM A260
     clear A260
     replace H := Option.bind_eq_some_iff.mp H
     obtain ⟨⟨t141, t142⟩, A270, H⟩ := H
     replace H : (spec_l20Deed.j0 k s0_0 t142 (wrap64 ((rd y130 t133) + (wrap64 ((wrap64 (Int.tdiv t136 59)) * 6)))) (wrap64 (1 + t139)) t141) = some (r1, r2, r3, r4) := H
     have A27 := zM A270
     clear A270
     have H' := zM H
     clear H
     go_wp2_with (first | ((with_reducible refine gate_callee (f := 43) rfl ?_); refine goesL_ (some 25) rfl rfl Tryd.func43 (by kernel_rfl) rfl #[.pointer (some ⟨g, 0, none⟩), .int .i64 ji25] rfl (by (try simp only [List.map_toArray, List.map_cons, List.map_nil]); first | done | (simp only [hji25]; rfl) | rfl | (simp only [List.length_drop, List.length_take]; rfl)) ?_; (with_reducible refine (spec_l20Rd_pick.calls k g s0_0 t137 ji25 t139 t140 w0 _ ?side1 ?side2 A26.out).mono ?_); (case side1 => repeat (first | (with_reducible first | exact HI0.out | apply Z73.alloc | apply Z73.drewN | apply Z73.drew | apply Z73.set_1 | refine Z73.far ?_ NB0_129.out _ | refine Z73.far ?_ NB0_138.out _) | exact HI0.out)); (case side2 => repeat (first | (with_reducible first | exact HB.out | apply zB | apply zA | apply zC | refine zD ?_ (Z73.ge HI0.out) | refine zD ?_ GE129.out | refine zD ?_ GE138.out) | exact HB.out)); rintro e w28 ⟨rfl, hi, hb, hk⟩; refine ⟨_, rfl, ?_⟩; have n0_ := zM (KeepBut.blk hk (g' := gb129) (o := .cells #[.int .i64 0, .int .i64 0, .int .i64 0] 25 (0, 0)) (by refine blk_far ?_ NB129_138.out _; refine blk_far ?_ NB129_138.out _; refine blk_far ?_ NB129_138.out _; exact BK129.out) NB129_0.out (by simp)); have n1_ := zM (Kd.R_mono (Kd.R_keep (Z73.apart (show Z73 w0 _ g s0_0 t137 from by repeat (first | (with_reducible first | exact HI0.out | apply Z73.alloc | apply Z73.drewN | apply Z73.drew | apply Z73.set_1 | refine Z73.far ?_ NB0_129.out _ | refine Z73.far ?_ NB0_138.out _) | exact HI0.out)) (by exact (Kd.R_mono (Kd.R_far (p := ⟨gb138, 2, none⟩) (Kd.R_far (p := ⟨gb138, 1, none⟩) (Kd.R_far (p := ⟨gb138, 0, none⟩) (Kd.R_types HO132.out BK138.out (by decide)) (fun _ hk => hk.2) (.int .i64 (wrap64 ((rd y130 t133) + (wrap64 ((wrap64 (Int.tdiv t136 59)) * 6)))))) (fun _ hk => hk.2) (.int .i64 0)) (fun _ hk => hk.2) (.int .i64 0)) (fun _ h_ => h_.1))) (by decide)) hk (fun _ h => h.2)) (fun _ h => h.1)); have n2_ := zM (KeepBut.blk hk (g' := gb138) (o := .cells #[.int .i64 (wrap64 ((rd y130 t133) + (wrap64 ((wrap64 (Int.tdiv t136 59)) * 6)))), .int .i64 0, .int .i64 0] 25 (0, 0)) (by refine blk_put (cs := #[.int .i64 (wrap64 ((rd y130 t133) + (wrap64 ((wrap64 (Int.tdiv t136 59)) * 6)))), .int .i64 0, .int .i64 0]) ?_ 2 _ rfl; refine blk_put (cs := #[.int .i64 (wrap64 ((rd y130 t133) + (wrap64 ((wrap64 (Int.tdiv t136 59)) * 6)))), .int .i64 0, .int .i64 0]) ?_ 1 _ rfl; refine blk_put (cs := #[.int .i64 0, .int .i64 0, .int .i64 0]) ?_ 0 _ rfl; exact BK138.out) NB138_0.out (by simp)); have n3_ := zM (KeepBut.trans (by repeat (first | (with_reducible first | exact HK.out | apply zK | apply keep_drewN | apply keep_drew | apply keep_alloc | refine keep_far ?_ GW129.out _ | refine keep_far ?_ GW138.out _) | exact HK.out)) hk (.inl rfl)); have n4_ := zM (hb); have n5_ := zM (hi); clear BK129; clear HO132; clear BK138; clear HK; clear HB; clear HI0; have BK129 := n0_; have HO132 := n1_; have BK138 := n2_; have HK := n3_; have HB := n4_; have HI0 := n5_; clear n0_ n1_ n2_ n3_ n4_ n5_; (try clear hb); (try clear hb2); (try clear hk); (try clear hi); have hnb29 := NB138_129.out; have hnc29 := NB129_138.out; have hnb30 := NB138_0.out; have hnc30 := NB0_138.out; have hcz31_0 : w28.cell? ⟨gb138, 0, none⟩ = some (.int .i64 (wrap64 ((rd y130 t133) + (wrap64 ((wrap64 (Int.tdiv t136 59)) * 6))))) := (blk_cell BK138.out 0).trans rfl; have hcz31_1 : w28.cell? ⟨gb138, 1, none⟩ = some (.int .i64 0) := (blk_cell BK138.out 1).trans rfl; have hcz31_2 : w28.cell? ⟨gb138, 2, none⟩ = some (.int .i64 0) := (blk_cell BK138.out 2).trans rfl; have hfz31_0 := blk_frozen BK138.out 0; have hfz31_1 := blk_frozen BK138.out 1; have hfz31_2 := blk_frozen BK138.out 2) | ((with_reducible refine gate_callee (f := 43) rfl ?_); refine goesL_ (some 32) rfl rfl Tryd.func43 (by kernel_rfl) rfl #[.pointer (some ⟨g, 0, none⟩), .int .i64 (wrap64 ((l1.length : Int) + 1))] rfl (by (try simp only [List.map_toArray, List.map_cons, List.map_nil]); first | done | rfl | (simp only [List.length_drop, List.length_take]; rfl)) ?_; (with_reducible refine (spec_l20Rd_pick.calls k g s0_0 t140 (wrap64 ((l1.length : Int) + 1)) t141 t142 w0 _ ?side1 ?side2 A27.out).mono ?_); (case side1 => repeat (first | (with_reducible first | exact HI0.out | apply Z73.alloc | apply Z73.drewN | apply Z73.drew | apply Z73.set_1 | refine Z73.far ?_ NB0_129.out _ | refine Z73.far ?_ NB0_138.out _) | exact HI0.out)); (case side2 => repeat (first | (with_reducible first | exact HB.out | apply zB | apply zA | apply zC | refine zD ?_ (Z73.ge HI0.out) | refine zD ?_ GE129.out | refine zD ?_ GE138.out) | exact HB.out)); rintro e w32 ⟨rfl, hi, hb, hk⟩; refine ⟨_, rfl, ?_⟩; have n0_ := zM (KeepBut.blk hk (g' := gb129) (o := .cells #[.int .i64 0, .int .i64 0, .int .i64 0] 25 (0, 0)) (by refine blk_far ?_ NB129_138.out _; exact BK129.out) NB129_0.out (by simp)); have n1_ := zM (Kd.R_mono (Kd.R_keep (Z73.apart (show Z73 w0 _ g s0_0 t140 from by repeat (first | (with_reducible first | exact HI0.out | apply Z73.alloc | apply Z73.drewN | apply Z73.drew | apply Z73.set_1 | refine Z73.far ?_ NB0_129.out _ | refine Z73.far ?_ NB0_138.out _) | exact HI0.out)) (by exact (Kd.R_mono (Kd.R_far (p := ⟨gb138, 1, none⟩) (Kd.R_types HO132.out BK138.out (by decide)) (fun _ hk => hk.2) (.int .i64 (wrap64 (1 + t139)))) (fun _ h_ => h_.1))) (by decide)) hk (fun _ h => h.2)) (fun _ h => h.1)); have n2_ := zM (KeepBut.blk hk (g' := gb138) (o := .cells #[.int .i64 (wrap64 ((rd y130 t133) + (wrap64 ((wrap64 (Int.tdiv t136 59)) * 6)))), .int .i64 (wrap64 (1 + t139)), .int .i64 0] 25 (0, 0)) (by refine blk_put (cs := #[.int .i64 (wrap64 ((rd y130 t133) + (wrap64 ((wrap64 (Int.tdiv t136 59)) * 6)))), .int .i64 0, .int .i64 0]) ?_ 1 _ rfl; exact BK138.out) NB138_0.out (by simp)); have n3_ := zM (KeepBut.trans (by repeat (first | (with_reducible first | exact HK.out | apply zK | apply keep_drewN | apply keep_drew | apply keep_alloc | refine keep_far ?_ GW129.out _ | refine keep_far ?_ GW138.out _) | exact HK.out)) hk (.inl rfl)); have n4_ := zM (hb); have n5_ := zM (hi); clear BK129; clear HO132; clear BK138; clear HK; clear HB; clear HI0; have BK129 := n0_; have HO132 := n1_; have BK138 := n2_; have HK := n3_; have HB := n4_; have HI0 := n5_; clear n0_ n1_ n2_ n3_ n4_ n5_; (try clear hb); (try clear hb2); (try clear hk); (try clear hi); have hcz33_0 : w32.cell? ⟨gb138, 0, none⟩ = some (.int .i64 (wrap64 ((rd y130 t133) + (wrap64 ((wrap64 (Int.tdiv t136 59)) * 6))))) := (blk_cell BK138.out 0).trans rfl; have hcz33_1 : w32.cell? ⟨gb138, 1, none⟩ = some (.int .i64 (wrap64 (1 + t139))) := (blk_cell BK138.out 1).trans rfl; have hcz33_2 : w32.cell? ⟨gb138, 2, none⟩ = some (.int .i64 0) := (blk_cell BK138.out 2).trans rfl; have hfz33_0 := blk_frozen BK138.out 0; have hfz33_1 := blk_frozen BK138.out 1; have hfz33_2 := blk_frozen BK138.out 2))
     go_meet
     case rel => exact ⟨_, (t142), (wrap64 (1 + t139)), (t141), H', ⟨by first | omega | exact Nat.le_refl _⟩, ⟨by refine blk_far ?_ NB129_138.out _; exact BK129.out⟩, ⟨by refine blk_put (cs := #[.int .i64 (wrap64 ((rd y130 t133) + (wrap64 ((wrap64 (Int.tdiv t136 59)) * 6)))), .int .i64 (wrap64 (1 + t139)), .int .i64 0]) ?_ 2 _ rfl; exact BK138.out⟩, ⟨by repeat (first | (with_reducible first | exact HI0.out | apply Z73.alloc | apply Z73.drewN | apply Z73.drew | apply Z73.set_1 | refine Z73.far ?_ NB0_129.out _ | refine Z73.far ?_ NB0_138.out _) | exact HI0.out)⟩, ⟨by repeat (first | (with_reducible first | exact HK.out | apply zK | apply keep_drewN | apply keep_drew | apply keep_alloc | refine keep_far ?_ GW129.out _ | refine keep_far ?_ GW138.out _) | exact HK.out)⟩, ⟨by repeat (first | (with_reducible first | exact HB.out | apply zB | apply zA | apply zC | refine zD ?_ (Z73.ge HI0.out) | refine zD ?_ GE129.out | refine zD ?_ GE138.out) | exact HB.out)⟩⟩
    ·rw [if_neg c24] at H
     have c24b0 : ((wrap64 ((rd y130 t133) + (wrap64 ((wrap64 (Int.tdiv t136 59)) * 6)))) == 0) = false := beq_eq_false_iff_ne.mpr c24
     have c24b1 : ((wrap64 ((rd y130 t133) + (wrap64 ((wrap64 (Int.tdiv t136 59)) * 6)))) != 0) = true := bne_iff_ne.mpr c24
     (first | rw [c24b0] | (simp only [i64_w, i32_w]; rw [c24b0]) | skip)
     by_cases c34 : (wrap64 ((rd y130 t133) + (wrap64 ((wrap64 (Int.tdiv t136 59)) * 6)))) = 1
     ·rw [if_pos c34] at H
      have c34b0 : ((wrap64 ((rd y130 t133) + (wrap64 ((wrap64 (Int.tdiv t136 59)) * 6)))) == 1) = true := beq_iff_eq.mpr c34
      have c34b1 : ((wrap64 ((rd y130 t133) + (wrap64 ((wrap64 (Int.tdiv t136 59)) * 6)))) != 1) = false := bne_eq_false_iff_eq.mpr c34
      clear c34
      replace H := Option.bind_eq_some_iff.mp H
      obtain ⟨⟨t143, t144⟩, A350, H⟩ := H
      replace H : ((spec_l20Rd_pick.f k s0_0 t144 9).bind fun bt145 => (spec_l20Deed.j0 k s0_0 bt145.2 (wrap64 ((rd y130 t133) + (wrap64 ((wrap64 (Int.tdiv t136 59)) * 6)))) (wrap64 (t143 + (wrap64 (Int.tdiv bt145.1 8)))) 0)) = some (r1, r2, r3, r4) := H
      have A35 := zM A350
      clear A350
      replace H := Option.bind_eq_some_iff.mp H
      obtain ⟨⟨t145, t146⟩, A360, H⟩ := H
      replace H : (spec_l20Deed.j0 k s0_0 t146 (wrap64 ((rd y130 t133) + (wrap64 ((wrap64 (Int.tdiv t136 59)) * 6)))) (wrap64 (t143 + (wrap64 (Int.tdiv t145 8)))) 0) = some (r1, r2, r3, r4) := H
      have A36 := zM A360
      clear A360
      have H' := zM H
      clear H
      go_wp2_with (first | ((with_reducible refine gate_callee (f := 43) rfl ?_); refine goesL_ (some 40) rfl rfl Tryd.func43 (by kernel_rfl) rfl #[.pointer (some ⟨g, 0, none⟩), .int .i64 (wrap64 ((l1.length : Int) + 1))] rfl (by (try simp only [List.map_toArray, List.map_cons, List.map_nil]); first | done | rfl | (simp only [List.length_drop, List.length_take]; rfl)) ?_; (with_reducible refine (spec_l20Rd_pick.calls k g s0_0 t137 (wrap64 ((l1.length : Int) + 1)) t143 t144 w0 _ ?side1 ?side2 A35.out).mono ?_); (case side1 => repeat (first | (with_reducible first | exact HI0.out | apply Z73.alloc | apply Z73.drewN | apply Z73.drew | apply Z73.set_1 | refine Z73.far ?_ NB0_129.out _ | refine Z73.far ?_ NB0_138.out _) | exact HI0.out)); (case side2 => repeat (first | (with_reducible first | exact HB.out | apply zB | apply zA | apply zC | refine zD ?_ (Z73.ge HI0.out) | refine zD ?_ GE129.out | refine zD ?_ GE138.out) | exact HB.out)); rintro e w37 ⟨rfl, hi, hb, hk⟩; refine ⟨_, rfl, ?_⟩; have n0_ := zM (KeepBut.blk hk (g' := gb129) (o := .cells #[.int .i64 0, .int .i64 0, .int .i64 0] 25 (0, 0)) (by refine blk_far ?_ NB129_138.out _; refine blk_far ?_ NB129_138.out _; refine blk_far ?_ NB129_138.out _; exact BK129.out) NB129_0.out (by simp)); have n1_ := zM (Kd.R_mono (Kd.R_keep (Z73.apart (show Z73 w0 _ g s0_0 t137 from by repeat (first | (with_reducible first | exact HI0.out | apply Z73.alloc | apply Z73.drewN | apply Z73.drew | apply Z73.set_1 | refine Z73.far ?_ NB0_129.out _ | refine Z73.far ?_ NB0_138.out _) | exact HI0.out)) (by exact (Kd.R_mono (Kd.R_far (p := ⟨gb138, 2, none⟩) (Kd.R_far (p := ⟨gb138, 1, none⟩) (Kd.R_far (p := ⟨gb138, 0, none⟩) (Kd.R_types HO132.out BK138.out (by decide)) (fun _ hk => hk.2) (.int .i64 (wrap64 ((rd y130 t133) + (wrap64 ((wrap64 (Int.tdiv t136 59)) * 6)))))) (fun _ hk => hk.2) (.int .i64 0)) (fun _ hk => hk.2) (.int .i64 0)) (fun _ h_ => h_.1))) (by decide)) hk (fun _ h => h.2)) (fun _ h => h.1)); have n2_ := zM (KeepBut.blk hk (g' := gb138) (o := .cells #[.int .i64 (wrap64 ((rd y130 t133) + (wrap64 ((wrap64 (Int.tdiv t136 59)) * 6)))), .int .i64 0, .int .i64 0] 25 (0, 0)) (by refine blk_put (cs := #[.int .i64 (wrap64 ((rd y130 t133) + (wrap64 ((wrap64 (Int.tdiv t136 59)) * 6)))), .int .i64 0, .int .i64 0]) ?_ 2 _ rfl; refine blk_put (cs := #[.int .i64 (wrap64 ((rd y130 t133) + (wrap64 ((wrap64 (Int.tdiv t136 59)) * 6)))), .int .i64 0, .int .i64 0]) ?_ 1 _ rfl; refine blk_put (cs := #[.int .i64 0, .int .i64 0, .int .i64 0]) ?_ 0 _ rfl; exact BK138.out) NB138_0.out (by simp)); have n3_ := zM (KeepBut.trans (by repeat (first | (with_reducible first | exact HK.out | apply zK | apply keep_drewN | apply keep_drew | apply keep_alloc | refine keep_far ?_ GW129.out _ | refine keep_far ?_ GW138.out _) | exact HK.out)) hk (.inl rfl)); have n4_ := zM (hb); have n5_ := zM (hi); clear BK129; clear HO132; clear BK138; clear HK; clear HB; clear HI0; have BK129 := n0_; have HO132 := n1_; have BK138 := n2_; have HK := n3_; have HB := n4_; have HI0 := n5_; clear n0_ n1_ n2_ n3_ n4_ n5_; (try clear hb); (try clear hb2); (try clear hk); (try clear hi)) | ((with_reducible refine gate_callee (f := 43) rfl ?_); refine goesL_ (some 42) rfl rfl Tryd.func43 (by kernel_rfl) rfl #[.pointer (some ⟨g, 0, none⟩), .int .i64 9] rfl (by (try simp only [List.map_toArray, List.map_cons, List.map_nil]); first | done | rfl | (simp only [List.length_drop, List.length_take]; rfl)) ?_; (with_reducible refine (spec_l20Rd_pick.calls k g s0_0 t144 9 t145 t146 w0 _ ?side1 ?side2 A36.out).mono ?_); (case side1 => repeat (first | (with_reducible first | exact HI0.out | apply Z73.alloc | apply Z73.drewN | apply Z73.drew | apply Z73.set_1 | refine Z73.far ?_ NB0_129.out _ | refine Z73.far ?_ NB0_138.out _) | exact HI0.out)); (case side2 => repeat (first | (with_reducible first | exact HB.out | apply zB | apply zA | apply zC | refine zD ?_ (Z73.ge HI0.out) | refine zD ?_ GE129.out | refine zD ?_ GE138.out) | exact HB.out)); rintro e w38 ⟨rfl, hi, hb, hk⟩; refine ⟨_, rfl, ?_⟩; have n0_ := zM (KeepBut.blk hk (g' := gb129) (o := .cells #[.int .i64 0, .int .i64 0, .int .i64 0] 25 (0, 0)) (by exact BK129.out) NB129_0.out (by simp)); have n1_ := zM (Kd.R_mono (Kd.R_keep (Z73.apart (show Z73 w0 _ g s0_0 t144 from by repeat (first | (with_reducible first | exact HI0.out | apply Z73.alloc | apply Z73.drewN | apply Z73.drew | apply Z73.set_1 | refine Z73.far ?_ NB0_129.out _ | refine Z73.far ?_ NB0_138.out _) | exact HI0.out)) (by exact HO132.out) (by decide)) hk (fun _ h => h.2)) (fun _ h => h.1)); have n2_ := zM (KeepBut.blk hk (g' := gb138) (o := .cells #[.int .i64 (wrap64 ((rd y130 t133) + (wrap64 ((wrap64 (Int.tdiv t136 59)) * 6)))), .int .i64 0, .int .i64 0] 25 (0, 0)) (by exact BK138.out) NB138_0.out (by simp)); have n3_ := zM (KeepBut.trans (by repeat (first | (with_reducible first | exact HK.out | apply zK | apply keep_drewN | apply keep_drew | apply keep_alloc | refine keep_far ?_ GW129.out _ | refine keep_far ?_ GW138.out _) | exact HK.out)) hk (.inl rfl)); have n4_ := zM (hb); have n5_ := zM (hi); clear BK129; clear HO132; clear BK138; clear HK; clear HB; clear HI0; have BK129 := n0_; have HO132 := n1_; have BK138 := n2_; have HK := n3_; have HB := n4_; have HI0 := n5_; clear n0_ n1_ n2_ n3_ n4_ n5_; (try clear hb); (try clear hb2); (try clear hk); (try clear hi); have hnb39 := NB138_129.out; have hnc39 := NB129_138.out; have hnb40 := NB138_0.out; have hnc40 := NB0_138.out; have hcz41_0 : w38.cell? ⟨gb138, 0, none⟩ = some (.int .i64 (wrap64 ((rd y130 t133) + (wrap64 ((wrap64 (Int.tdiv t136 59)) * 6))))) := (blk_cell BK138.out 0).trans rfl; have hcz41_1 : w38.cell? ⟨gb138, 1, none⟩ = some (.int .i64 0) := (blk_cell BK138.out 1).trans rfl; have hcz41_2 : w38.cell? ⟨gb138, 2, none⟩ = some (.int .i64 0) := (blk_cell BK138.out 2).trans rfl; have hfz41_0 := blk_frozen BK138.out 0; have hfz41_1 := blk_frozen BK138.out 1; have hfz41_2 := blk_frozen BK138.out 2))
      go_meet
      case rel => exact ⟨_, (t146), (wrap64 (t143 + (wrap64 (Int.tdiv t145 8)))), (0), H', ⟨by first | omega | exact Nat.le_refl _⟩, ⟨by refine blk_far ?_ NB129_138.out _; exact BK129.out⟩, ⟨by refine blk_put (cs := #[.int .i64 (wrap64 ((rd y130 t133) + (wrap64 ((wrap64 (Int.tdiv t136 59)) * 6)))), .int .i64 0, .int .i64 0]) ?_ 1 _ rfl; exact BK138.out⟩, ⟨by repeat (first | (with_reducible first | exact HI0.out | apply Z73.alloc | apply Z73.drewN | apply Z73.drew | apply Z73.set_1 | refine Z73.far ?_ NB0_129.out _ | refine Z73.far ?_ NB0_138.out _) | exact HI0.out)⟩, ⟨by repeat (first | (with_reducible first | exact HK.out | apply zK | apply keep_drewN | apply keep_drew | apply keep_alloc | refine keep_far ?_ GW129.out _ | refine keep_far ?_ GW138.out _) | exact HK.out)⟩, ⟨by repeat (first | (with_reducible first | exact HB.out | apply zB | apply zA | apply zC | refine zD ?_ (Z73.ge HI0.out) | refine zD ?_ GE129.out | refine zD ?_ GE138.out) | exact HB.out)⟩⟩
     ·rw [if_neg c34] at H
      have c34b0 : ((wrap64 ((rd y130 t133) + (wrap64 ((wrap64 (Int.tdiv t136 59)) * 6)))) == 1) = false := beq_eq_false_iff_ne.mpr c34
      have c34b1 : ((wrap64 ((rd y130 t133) + (wrap64 ((wrap64 (Int.tdiv t136 59)) * 6)))) != 1) = true := bne_iff_ne.mpr c34
      have H' := zM H
      clear H
      go_wp2
      go_meet
      case rel => exact ⟨_, (t137), (0), (0), H', ⟨by first | omega | exact Nat.le_refl _⟩, ⟨by refine blk_far ?_ NB129_138.out _; refine blk_far ?_ NB129_138.out _; refine blk_far ?_ NB129_138.out _; exact BK129.out⟩, ⟨by refine blk_put (cs := #[.int .i64 (wrap64 ((rd y130 t133) + (wrap64 ((wrap64 (Int.tdiv t136 59)) * 6)))), .int .i64 0, .int .i64 0]) ?_ 2 _ rfl; refine blk_put (cs := #[.int .i64 (wrap64 ((rd y130 t133) + (wrap64 ((wrap64 (Int.tdiv t136 59)) * 6)))), .int .i64 0, .int .i64 0]) ?_ 1 _ rfl; refine blk_put (cs := #[.int .i64 0, .int .i64 0, .int .i64 0]) ?_ 0 _ rfl; exact BK138.out⟩, ⟨by repeat (first | (with_reducible first | exact HI0.out | apply Z73.alloc | apply Z73.drewN | apply Z73.drew | apply Z73.set_1 | refine Z73.far ?_ NB0_129.out _ | refine Z73.far ?_ NB0_138.out _) | exact HI0.out)⟩, ⟨by repeat (first | (with_reducible first | exact HK.out | apply zK | apply keep_drewN | apply keep_drew | apply keep_alloc | refine keep_far ?_ GW129.out _ | refine keep_far ?_ GW138.out _) | exact HK.out)⟩, ⟨by repeat (first | (with_reducible first | exact HB.out | apply zB | apply zA | apply zC | refine zD ?_ (Z73.ge HI0.out) | refine zD ?_ GE129.out | refine zD ?_ GE138.out) | exact HB.out)⟩⟩
   case rest =>
    clear HC7
    try clear p1
    try clear q1
    try clear hx1
    try clear c2
    try clear p2
    try clear c3
    try clear c4
    try clear p6
    try clear p13
    try clear q13
    try clear hx13
    try clear c21
    try clear c22
    try clear c24
    try clear c24b0
    try clear c24b1
    try clear c29
    try clear c30
    try clear c34
    try clear c34b0
    try clear c34b1
    try clear c39
    try clear c40
    try clear hcz23_0
    try clear hcz23_1
    try clear hcz23_2
    try clear hcz31_0
    try clear hcz31_1
    try clear hcz31_2
    try clear hcz33_0
    try clear hcz33_1
    try clear hcz33_2
    try clear hcz41_0
    try clear hcz41_1
    try clear hcz41_2
    try clear hfz23_0
    try clear hfz23_1
    try clear hfz23_2
    try clear hfz31_0
    try clear hfz31_1
    try clear hfz31_2
    try clear hfz33_0
    try clear hfz33_1
    try clear hfz33_2
    try clear hfz41_0
    try clear hfz41_1
    try clear hfz41_2
    try clear hx135_0
    try clear p135
    try clear q135
    obtain ⟨kq, x1001_6, x139001_6, x139002_6, HA, HJ6, BK129, BK138, HI0, HK, HB⟩ := hcut
    cases kq with
    | zero => exact absurd HA.out (by simp [spec_l20Deed.j0])
    | succ kj6 =>
     have H := HA.out
     clear HA
     simp only [spec_l20Deed.j0] at H
     replace H := Option.bind_eq_some_iff.mp H
     obtain ⟨⟨t147, t148⟩, A420, H⟩ := H
     replace H : (if t147 = true then ((some (([(-1), 9, 100] : List Int) : List Int)).bind fun y149 => ((spec_l20Rd_pick.f kj6 s0_0 t148 3).bind fun bt152 => (if 0 ≤ bt152.1 then (if bt152.1 < (y149.length : Int) then (some ((wrap64 ((rd y130 t133) + (wrap64 ((wrap64 (Int.tdiv t136 59)) * 6)))), x139001_6, rd y149 bt152.1, bt152.2)) else (none)) else (none)))) else (some ((wrap64 ((rd y130 t133) + (wrap64 ((wrap64 (Int.tdiv t136 59)) * 6)))), x139001_6, x139002_6, t148))) = some (r1, r2, r3, r4) := H
     have A42 := zM A420
     clear A420
     by_cases c43 : t147 = true
     ·subst c43
      have H1 : ((some (([(-1), 9, 100] : List Int) : List Int)).bind fun y149 => ((spec_l20Rd_pick.f kj6 s0_0 t148 3).bind fun bt152 => (if 0 ≤ bt152.1 then (if bt152.1 < (y149.length : Int) then (some ((wrap64 ((rd y130 t133) + (wrap64 ((wrap64 (Int.tdiv t136 59)) * 6)))), x139001_6, rd y149 bt152.1, bt152.2)) else (none)) else (none)))) = some (r1, r2, r3, r4) := by rw [if_pos rfl] at H; exact H
      clear H
      have H := H1
      clear H1
      obtain ⟨y149, hy149⟩ : ∃ y_ : List Int, y_ = (([(-1), 9, 100] : List Int)) := ⟨_, rfl⟩
      replace H : ((spec_l20Rd_pick.f kj6 s0_0 t148 3).bind fun bt152 => (if 0 ≤ bt152.1 then (if bt152.1 < (y149.length : Int) then (some ((wrap64 ((rd y130 t133) + (wrap64 ((wrap64 (Int.tdiv t136 59)) * 6)))), x139001_6, rd y149 bt152.1, bt152.2)) else (none)) else (none))) = some (r1, r2, r3, r4) := by first | (rw [hy149]; with_reducible exact H) | (have H2_ := (Option.bind_some _ _).symm.trans H; rw [hy149]; with_reducible exact H2_) | (have H2_ := (Option.bind_some _ _).symm.trans H; with_reducible exact H2_) | with_reducible exact H | (rw [hy149]; exact H) | exact H
      have Ny149 := zM hy149
      clear hy149
      replace H := Option.bind_eq_some_iff.mp H
      obtain ⟨⟨t152, t153⟩, A440, H⟩ := H
      replace H : (if 0 ≤ t152 then (if t152 < (y149.length : Int) then (some ((wrap64 ((rd y130 t133) + (wrap64 ((wrap64 (Int.tdiv t136 59)) * 6)))), x139001_6, rd y149 t152, t153)) else (none)) else (none)) = some (r1, r2, r3, r4) := H
      have A44 := zM A440
      clear A440
      by_cases c45 : 0 ≤ t152
      ·rw [if_pos c45] at H
       have c45b0 : decide (0 ≤ t152) = true := decide_eq_true c45
       clear c45
       by_cases c46 : t152 < (y149.length : Int)
       ·rw [if_pos c46] at H
        have c46b0 : decide (t152 < (y149.length : Int)) = true := decide_eq_true c46
        clear c46
        simp only [Option.some.injEq, Prod.mk.injEq] at H
        obtain ⟨rfl, rfl, rfl, rfl⟩ := H
        go_wp2_with (first | ((with_reducible refine gate_callee (f := 46) rfl ?_); refine goesL_ (some 47) rfl rfl Tryd.func46 (by kernel_rfl) rfl #[.pointer (some ⟨g, 0, none⟩), .int .i64 40] rfl (by (try simp only [List.map_toArray, List.map_cons, List.map_nil]); first | done | rfl | (simp only [List.length_drop, List.length_take]; rfl)) ?_; (with_reducible refine (spec_l20Rd_odd.calls kj6 g s0_0 x1001_6 40 true t148 w0 _ ?side1 ?side2 A42.out).mono ?_); (case side1 => repeat (first | (with_reducible first | exact HI0.out | apply Z73.alloc | apply Z73.drewN | apply Z73.drew | apply Z73.set_1 | refine Z73.far ?_ NB0_129.out _ | refine Z73.far ?_ NB0_138.out _) | exact HI0.out)); (case side2 => repeat (first | (with_reducible first | exact HB.out | apply zB | apply zA | apply zC | refine zD ?_ (Z73.ge HI0.out) | refine zD ?_ GE129.out | refine zD ?_ GE138.out) | exact HB.out)); rintro e w47 ⟨rfl, hi, hb, hk⟩; refine ⟨_, rfl, ?_⟩; have n0_ := zM (KeepBut.blk hk (g' := gb129) (o := .cells #[.int .i64 0, .int .i64 0, .int .i64 0] 25 (0, 0)) (by exact BK129.out) NB129_0.out (by simp)); have n1_ := zM (KeepBut.blk hk (g' := gb138) (o := .cells #[.int .i64 (wrap64 ((rd y130 t133) + (wrap64 ((wrap64 (Int.tdiv t136 59)) * 6)))), .int .i64 x139001_6, .int .i64 x139002_6] 25 (0, 0)) (by exact BK138.out) NB138_0.out (by simp)); have n2_ := zM (KeepBut.trans (by repeat (first | (with_reducible first | exact HK.out | apply zK | apply keep_drewN | apply keep_drew | apply keep_alloc | refine keep_far ?_ GW129.out _ | refine keep_far ?_ GW138.out _) | exact HK.out)) hk (.inl rfl)); have n3_ := zM (hb); have n4_ := zM (hi); clear BK129; clear BK138; clear HK; clear HB; clear HI0; have BK129 := n0_; have BK138 := n1_; have HK := n2_; have HB := n3_; have HI0 := n4_; clear n0_ n1_ n2_ n3_ n4_; (try clear hb); (try clear hb2); (try clear hk); (try clear hi)) | ((with_reducible refine gate_dst (N := 48) rfl ?_); refine Kd.R_lit (Kd.int .i64) _ 3 ?hg (N := 48) ?hd (xs := ([(-1), 9, 100] : List Int)) (inner := [.int .i64 (-1), .int .i64 9, .int .i64 100]) (ok := fun _ => True) (okp := fun _ => True) ?hr ?hp (fun _ hk => hk) trivial (Below.refl _ _) (Nat.le_refl _) (by simp) ?_; (case hd => rfl); (case hg => rfl); (case hr => first | (go_simp; done) | (go_simp; rfl)); (case hp => exact (Reps.one (show Kd.M (Kd.int .i64) _ _ _ (-1) [.int .i64 (-1)] from rfl) (Reps.one (show Kd.M (Kd.int .i64) _ _ _ 9 [.int .i64 9] from rfl) (Reps.one (show Kd.M (Kd.int .i64) _ _ _ 100 [.int .i64 100] from rfl) (Reps.none _ _))))); intro v150 w48 ho49 hb hg_ hnew_; clear hg_ hnew_; (first | rw [← Ny149.out] at ho49 | (simp only [Int.reduceToNat] at ho49; rw [← Ny149.out] at ho49)); have n0_ := zM (Kd.R_lower ho49 (keep_size (w := w) (g := g) (row := none) (by repeat (first | (with_reducible first | exact HK.out | apply zK | apply keep_drewN | apply keep_drew | apply keep_alloc | refine keep_far ?_ GW129.out _ | refine keep_far ?_ GW138.out _) | exact HK.out)))); have n1_ := zM (blk_below (g := gb129) (o := .cells #[.int .i64 0, .int .i64 0, .int .i64 0] 25 (0, 0)) (by exact BK129.out) hb); have n2_ := zM (blk_below (g := gb138) (o := .cells #[.int .i64 (wrap64 ((rd y130 t133) + (wrap64 ((wrap64 (Int.tdiv t136 59)) * 6)))), .int .i64 x139001_6, .int .i64 x139002_6] 25 (0, 0)) (by exact BK138.out) hb); have n3_ := zM (Z73.below (by repeat (first | (with_reducible first | exact HI0.out | apply Z73.alloc | apply Z73.drewN | apply Z73.drew | apply Z73.set_1 | refine Z73.far ?_ NB0_129.out _ | refine Z73.far ?_ NB0_138.out _) | exact HI0.out)) hb); have n4_ := zM (KeepBut.trans (by repeat (first | (with_reducible first | exact HK.out | apply zK | apply keep_drewN | apply keep_drew | apply keep_alloc | refine keep_far ?_ GW129.out _ | refine keep_far ?_ GW138.out _) | exact HK.out)) (KeepBut.of_below hb g none) (.inl rfl)); have n5_ := zM (below_step (by repeat (first | (with_reducible first | exact HB.out | apply zB | apply zA | apply zC | refine zD ?_ (Z73.ge HI0.out) | refine zD ?_ GE129.out | refine zD ?_ GE138.out) | exact HB.out)) hb); clear BK129; clear BK138; clear HI0; clear HK; clear HB; have HO151 := n0_; have BK129 := n1_; have BK138 := n2_; have HI0 := n3_; have HK := n4_; have HB := n5_; clear n0_ n1_ n2_ n3_ n4_ n5_; clear hb ho49) | ((with_reducible refine gate_callee (f := 43) rfl ?_); refine goesL_ (some 50) rfl rfl Tryd.func43 (by kernel_rfl) rfl #[.pointer (some ⟨g, 0, none⟩), .int .i64 3] rfl (by (try simp only [List.map_toArray, List.map_cons, List.map_nil]); first | done | rfl | (simp only [List.length_drop, List.length_take]; rfl)) ?_; (with_reducible refine (spec_l20Rd_pick.calls kj6 g s0_0 t148 3 t152 t153 w0 _ ?side1 ?side2 A44.out).mono ?_); (case side1 => repeat (first | (with_reducible first | exact HI0.out | apply Z73.alloc | apply Z73.drewN | apply Z73.drew | apply Z73.set_1 | refine Z73.far ?_ NB0_129.out _ | refine Z73.far ?_ NB0_138.out _) | exact HI0.out)); (case side2 => repeat (first | (with_reducible first | exact HB.out | apply zB | apply zA | apply zC | refine zD ?_ (Z73.ge HI0.out) | refine zD ?_ GE129.out | refine zD ?_ GE138.out) | exact HB.out)); rintro e w50 ⟨rfl, hi, hb, hk⟩; refine ⟨_, rfl, ?_⟩; have n0_ := zM (KeepBut.blk hk (g' := gb129) (o := .cells #[.int .i64 0, .int .i64 0, .int .i64 0] 25 (0, 0)) (by exact BK129.out) NB129_0.out (by simp)); have n1_ := zM (KeepBut.blk hk (g' := gb138) (o := .cells #[.int .i64 (wrap64 ((rd y130 t133) + (wrap64 ((wrap64 (Int.tdiv t136 59)) * 6)))), .int .i64 x139001_6, .int .i64 x139002_6] 25 (0, 0)) (by exact BK138.out) NB138_0.out (by simp)); have n2_ := zM (Kd.R_mono (Kd.R_keep (Z73.apart (show Z73 w0 _ g s0_0 t148 from by repeat (first | (with_reducible first | exact HI0.out | apply Z73.alloc | apply Z73.drewN | apply Z73.drew | apply Z73.set_1 | refine Z73.far ?_ NB0_129.out _ | refine Z73.far ?_ NB0_138.out _) | exact HI0.out)) (by exact HO151.out) (by decide)) hk (fun _ h => h.2)) (fun _ h => h.1)); have n3_ := zM (KeepBut.trans (by repeat (first | (with_reducible first | exact HK.out | apply zK | apply keep_drewN | apply keep_drew | apply keep_alloc | refine keep_far ?_ GW129.out _ | refine keep_far ?_ GW138.out _) | exact HK.out)) hk (.inl rfl)); have n4_ := zM (hb); have n5_ := zM (hi); clear BK129; clear BK138; clear HO151; clear HK; clear HB; clear HI0; have BK129 := n0_; have BK138 := n1_; have HO151 := n2_; have HK := n3_; have HB := n4_; have HI0 := n5_; clear n0_ n1_ n2_ n3_ n4_ n5_; (try clear hb); (try clear hb2); (try clear hk); (try clear hi); obtain ⟨Ao51, co51, eo51⟩ := Kd.R_slice HO151.out; subst eo51; have p154 : 0 ≤ (t152 : Int) := of_decide_eq_true (by first | (with_reducible assumption) | assumption); have q154 : t152 < (y149.length : Int) := of_decide_eq_true (by first | (with_reducible assumption) | assumption); obtain ⟨ad154, e154, hx154_0⟩ := Kd.at_int (Kd.R_reads' HO151.out).2.2 t152 p154 q154; cases e154; replace p154 := eq_true p154; replace q154 := eq_true q154; have hnb52 := NB138_129.out; have hnc52 := NB129_138.out; have hnb53 := NB138_0.out; have hnc53 := NB0_138.out; have hcz54_0 : w50.cell? ⟨gb138, 0, none⟩ = some (.int .i64 (wrap64 ((rd y130 t133) + (wrap64 ((wrap64 (Int.tdiv t136 59)) * 6))))) := (blk_cell BK138.out 0).trans rfl; have hcz54_1 : w50.cell? ⟨gb138, 1, none⟩ = some (.int .i64 x139001_6) := (blk_cell BK138.out 1).trans rfl; have hcz54_2 : w50.cell? ⟨gb138, 2, none⟩ = some (.int .i64 x139002_6) := (blk_cell BK138.out 2).trans rfl; have hfz54_0 := blk_frozen BK138.out 0; have hfz54_1 := blk_frozen BK138.out 1; have hfz54_2 := blk_frozen BK138.out 2; have hnb55 := NB129_0.out; have hnc55 := NB0_129.out; have hcz56_0 : w50.cell? ⟨gb129, 0, none⟩ = some (.int .i64 0) := (blk_cell BK129.out 0).trans rfl; have hcz56_1 : w50.cell? ⟨gb129, 1, none⟩ = some (.int .i64 0) := (blk_cell BK129.out 1).trans rfl; have hcz56_2 : w50.cell? ⟨gb129, 2, none⟩ = some (.int .i64 0) := (blk_cell BK129.out 2).trans rfl; have hfz56_0 := blk_frozen BK129.out 0; have hfz56_1 := blk_frozen BK129.out 1; have hfz56_2 := blk_frozen BK129.out 2))
        refine bodyPost_ret (results_cell_row rfl _ _ gb129 25 #[.int .i64 (wrap64 ((rd y130 t133) + (wrap64 ((wrap64 (Int.tdiv t136 59)) * 6)))), .int .i64 x139001_6, .int .i64 (rd y149 t152)] (0, 0) _ rfl (by refine blk_put (cs := #[.int .i64 (wrap64 ((rd y130 t133) + (wrap64 ((wrap64 (Int.tdiv t136 59)) * 6)))), .int .i64 x139001_6, .int .i64 0]) ?_ 2 _ rfl; refine blk_put (cs := #[.int .i64 (wrap64 ((rd y130 t133) + (wrap64 ((wrap64 (Int.tdiv t136 59)) * 6)))), .int .i64 0, .int .i64 0]) ?_ 1 _ rfl; refine blk_put (cs := #[.int .i64 0, .int .i64 0, .int .i64 0]) ?_ 0 _ rfl; refine blk_far ?_ NB129_138.out _; exact BK129.out) Tryd.underlying25 rfl (by kernel_rfl)) rfl ?_
        exact ⟨by first | rfl | (simp [errW_none, errW_some] <;> rfl) | (simp [*, errW_none, errW_some] <;> rfl), by repeat (first | (with_reducible first | exact HI0.out | apply Z73.alloc | apply Z73.drewN | apply Z73.drew | apply Z73.set_1 | refine Z73.far ?_ NB0_129.out _ | refine Z73.far ?_ NB0_138.out _) | exact HI0.out), by repeat (first | (with_reducible first | exact HB.out | apply zB | apply zA | apply zC | refine zD ?_ (Z73.ge HI0.out) | refine zD ?_ GE129.out | refine zD ?_ GE138.out) | exact HB.out), by repeat (first | (with_reducible first | exact HK.out | apply zK | apply keep_drewN | apply keep_drew | apply keep_alloc | refine keep_far ?_ GW129.out _ | refine keep_far ?_ GW138.out _) | exact HK.out)⟩
       ·rw [if_neg c46] at H
        exact absurd H (by simp)
      ·rw [if_neg c45] at H
       exact absurd H (by simp)
     ·replace c43 := Bool.eq_false_iff.mpr c43
      subst c43
      have H1 : (some ((wrap64 ((rd y130 t133) + (wrap64 ((wrap64 (Int.tdiv t136 59)) * 6)))), x139001_6, x139002_6, t148)) = some (r1, r2, r3, r4) := by rw [if_neg (show ¬ (false = true) by decide)] at H; exact H
      clear H
      have H := H1
      clear H1
      simp only [Option.some.injEq, Prod.mk.injEq] at H
      obtain ⟨rfl, rfl, rfl, rfl⟩ := H
      go_wp2_with (first | ((with_reducible refine gate_callee (f := 46) rfl ?_); refine goesL_ (some 47) rfl rfl Tryd.func46 (by kernel_rfl) rfl #[.pointer (some ⟨g, 0, none⟩), .int .i64 40] rfl (by (try simp only [List.map_toArray, List.map_cons, List.map_nil]); first | done | rfl | (simp only [List.length_drop, List.length_take]; rfl)) ?_; (with_reducible refine (spec_l20Rd_odd.calls kj6 g s0_0 x1001_6 40 false t148 w0 _ ?side1 ?side2 A42.out).mono ?_); (case side1 => repeat (first | (with_reducible first | exact HI0.out | apply Z73.alloc | apply Z73.drewN | apply Z73.drew | apply Z73.set_1 | refine Z73.far ?_ NB0_129.out _ | refine Z73.far ?_ NB0_138.out _) | exact HI0.out)); (case side2 => repeat (first | (with_reducible first | exact HB.out | apply zB | apply zA | apply zC | refine zD ?_ (Z73.ge HI0.out) | refine zD ?_ GE129.out | refine zD ?_ GE138.out) | exact HB.out)); rintro e w57 ⟨rfl, hi, hb, hk⟩; refine ⟨_, rfl, ?_⟩; have n0_ := zM (KeepBut.blk hk (g' := gb129) (o := .cells #[.int .i64 0, .int .i64 0, .int .i64 0] 25 (0, 0)) (by exact BK129.out) NB129_0.out (by simp)); have n1_ := zM (KeepBut.blk hk (g' := gb138) (o := .cells #[.int .i64 (wrap64 ((rd y130 t133) + (wrap64 ((wrap64 (Int.tdiv t136 59)) * 6)))), .int .i64 x139001_6, .int .i64 x139002_6] 25 (0, 0)) (by exact BK138.out) NB138_0.out (by simp)); have n2_ := zM (KeepBut.trans (by repeat (first | (with_reducible first | exact HK.out | apply zK | apply keep_drewN | apply keep_drew | apply keep_alloc | refine keep_far ?_ GW129.out _ | refine keep_far ?_ GW138.out _) | exact HK.out)) hk (.inl rfl)); have n3_ := zM (hb); have n4_ := zM (hi); clear BK129; clear BK138; clear HK; clear HB; clear HI0; have BK129 := n0_; have BK138 := n1_; have HK := n2_; have HB := n3_; have HI0 := n4_; clear n0_ n1_ n2_ n3_ n4_; (try clear hb); (try clear hb2); (try clear hk); (try clear hi); have hnb58 := NB138_129.out; have hnc58 := NB129_138.out; have hnb59 := NB138_0.out; have hnc59 := NB0_138.out; have hcz60_0 : w57.cell? ⟨gb138, 0, none⟩ = some (.int .i64 (wrap64 ((rd y130 t133) + (wrap64 ((wrap64 (Int.tdiv t136 59)) * 6))))) := (blk_cell BK138.out 0).trans rfl; have hcz60_1 : w57.cell? ⟨gb138, 1, none⟩ = some (.int .i64 x139001_6) := (blk_cell BK138.out 1).trans rfl; have hcz60_2 : w57.cell? ⟨gb138, 2, none⟩ = some (.int .i64 x139002_6) := (blk_cell BK138.out 2).trans rfl; have hfz60_0 := blk_frozen BK138.out 0; have hfz60_1 := blk_frozen BK138.out 1; have hfz60_2 := blk_frozen BK138.out 2; have hnb61 := NB129_0.out; have hnc61 := NB0_129.out; have hcz62_0 : w57.cell? ⟨gb129, 0, none⟩ = some (.int .i64 0) := (blk_cell BK129.out 0).trans rfl; have hcz62_1 : w57.cell? ⟨gb129, 1, none⟩ = some (.int .i64 0) := (blk_cell BK129.out 1).trans rfl; have hcz62_2 : w57.cell? ⟨gb129, 2, none⟩ = some (.int .i64 0) := (blk_cell BK129.out 2).trans rfl; have hfz62_0 := blk_frozen BK129.out 0; have hfz62_1 := blk_frozen BK129.out 1; have hfz62_2 := blk_frozen BK129.out 2))
      refine bodyPost_ret (results_cell_row rfl _ _ gb129 25 #[.int .i64 (wrap64 ((rd y130 t133) + (wrap64 ((wrap64 (Int.tdiv t136 59)) * 6)))), .int .i64 x139001_6, .int .i64 x139002_6] (0, 0) _ rfl (by refine blk_put (cs := #[.int .i64 (wrap64 ((rd y130 t133) + (wrap64 ((wrap64 (Int.tdiv t136 59)) * 6)))), .int .i64 x139001_6, .int .i64 0]) ?_ 2 _ rfl; refine blk_put (cs := #[.int .i64 (wrap64 ((rd y130 t133) + (wrap64 ((wrap64 (Int.tdiv t136 59)) * 6)))), .int .i64 0, .int .i64 0]) ?_ 1 _ rfl; refine blk_put (cs := #[.int .i64 0, .int .i64 0, .int .i64 0]) ?_ 0 _ rfl; exact BK129.out) Tryd.underlying25 rfl (by kernel_rfl)) rfl ?_
      exact ⟨by first | rfl | (simp [errW_none, errW_some] <;> rfl) | (simp [*, errW_none, errW_some] <;> rfl), by repeat (first | (with_reducible first | exact HI0.out | apply Z73.alloc | apply Z73.drewN | apply Z73.drew | apply Z73.set_1 | refine Z73.far ?_ NB0_129.out _ | refine Z73.far ?_ NB0_138.out _) | exact HI0.out), by repeat (first | (with_reducible first | exact HB.out | apply zB | apply zA | apply zC | refine zD ?_ (Z73.ge HI0.out) | refine zD ?_ GE129.out | refine zD ?_ GE138.out) | exact HB.out), by repeat (first | (with_reducible first | exact HK.out | apply zK | apply keep_drewN | apply keep_drew | apply keep_alloc | refine keep_far ?_ GW129.out _ | refine keep_far ?_ GW138.out _) | exact HK.out)⟩
  ·rw [if_neg c5] at H
   exact absurd H (by simp)
 ·rw [if_neg c4] at H
  exact absurd H (by simp)

end Go.Proofs.YtopfhdhdpnenpaaDoor.LF
