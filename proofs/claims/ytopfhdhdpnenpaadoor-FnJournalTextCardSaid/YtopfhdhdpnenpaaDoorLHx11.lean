/- Printed by a program of this session (wip/lp/lp.py) out of the translation: functions with the same answers as the Go code, and their contracts; no conditions beyond those that each theorem names. -/
import Derived.Test.YtopfhdhdpnenpaaDoorLHx0
import Derived.Test.YtopfhdhdpnenpaaDoorLHx5
import Derived.Test.YtopfhdhdpnenpaaDoorLHx6
namespace Go.Proofs.YtopfhdhdpnenpaaDoor.LH
open Go.RowKit Go.Proofs.YtopfhdhdpnenpaaDoorV.PrintWords Go.Proofs.YtopfhdhdpnenpaaDoorV.PrintLast Go.Proofs.YtopfhdhdpnenpaaDoorV.PrintMore
attribute [local go_sem] max2_int min2_int max_two min_two max_three min_three max_four min_four   -- for this text's walks alone
set_option linter.unusedVariables false
set_option linter.unusedSimpArgs false

/-! ### spec_l20Deed: function 35 -/
def spec_l20Deed.j0 : Nat → List Int → Int → Int → Int → Int → Option (Int × Int × Int × Int)
 | 0, _, _, _, _, _ => none
 | k + 1, x1000, x1001, x351000, x351001, x351002 => (spec_l20Rd_odd.f k x1000 x1001 40).bind fun bt359 => (if bt359.1 = true then ((some (([(-1), 9, 100] : List Int) : List Int)).bind fun y361 => ((spec_l20Rd_pick.f k x1000 bt359.2 3).bind fun bt364 => (if 0 ≤ bt364.1 then (if bt364.1 < (y361.length : Int) then (some (x351000, x351001, rd y361 bt364.1, bt364.2)) else (none)) else (none)))) else (some (x351000, x351001, x351002, bt359.2)))
def spec_l20Deed.f (k : Nat) (s0_0 : List Int) (s0_1 : Int) (l1 : List Int) : Option (Int × Int × Int × Int) := (some (([0, 0, 1, 1, 2, 3, 4, 5] : List Int) : List Int)).bind fun y342 => ((spec_l20Rd_pick.f k s0_0 s0_1 8).bind fun bt345 => (if 0 ≤ bt345.1 then (if bt345.1 < (y342.length : Int) then ((spec_l20Rd_pick.f k s0_0 bt345.2 60).bind fun bt348 => (if (wrap64 ((rd y342 bt345.1) + (wrap64 ((wrap64 (Int.tdiv bt348.1 59)) * 6)))) = 0 then ((spec_l20Rd_pick.f k s0_0 bt348.2 (mx (l1.length : Int) 1)).bind fun bt351 => ((spec_l20Rd_pick.f k s0_0 bt351.2 (wrap64 ((l1.length : Int) + 1))).bind fun bt353 => (spec_l20Deed.j0 k s0_0 bt353.2 (wrap64 ((rd y342 bt345.1) + (wrap64 ((wrap64 (Int.tdiv bt348.1 59)) * 6)))) (wrap64 (1 + bt351.1)) bt353.1))) else (if (wrap64 ((rd y342 bt345.1) + (wrap64 ((wrap64 (Int.tdiv bt348.1 59)) * 6)))) = 1 then ((spec_l20Rd_pick.f k s0_0 bt348.2 (wrap64 ((l1.length : Int) + 1))).bind fun bt355 => ((spec_l20Rd_pick.f k s0_0 bt355.2 9).bind fun bt357 => (spec_l20Deed.j0 k s0_0 bt357.2 (wrap64 ((rd y342 bt345.1) + (wrap64 ((wrap64 (Int.tdiv bt348.1 59)) * 6)))) (wrap64 (bt355.1 + (wrap64 (Int.tdiv bt357.1 8)))) 0))) else (spec_l20Deed.j0 k s0_0 bt348.2 (wrap64 ((rd y342 bt345.1) + (wrap64 ((wrap64 (Int.tdiv bt348.1 59)) * 6)))) 0 0)))) else (none)) else (none)))
theorem spec_l20Deed.mono_l : ∀ k, (∀ y0 y1 y2 y3 y4, LeO (spec_l20Deed.j0 k y0 y1 y2 y3 y4) (spec_l20Deed.j0 (k + 1) y0 y1 y2 y3 y4))
 | 0 => fun _ _ _ _ _ r h => by simp [spec_l20Deed.j0] at h
 | k + 1 => by
  have ih0 := spec_l20Deed.mono_l k
  ·intro y0 y1 y2 y3 y4
   unfold spec_l20Deed.j0
   repeat' first
   | (with_reducible exact ih0 _ _ _ _ _)
   | (with_reducible exact spec_l20Rd_odd.mono _ _ _ _)
   | (with_reducible exact spec_l20Rd_pick.mono _ _ _ _)
   | (with_reducible exact LeO.refl _)
   | (with_reducible exact LeO.none _)
   | (with_reducible refine LeO.ite ?_ ?_)
   | (with_reducible refine LeO.bind ?_ (fun _ => ?_))
   | refine LeO.ite ?_ ?_
   | refine LeO.bind ?_ (fun _ => ?_)
theorem spec_l20Deed.mono : ∀ a0 a1 a2 k, LeO (spec_l20Deed.f k a0 a1 a2) (spec_l20Deed.f (k + 1) a0 a1 a2) := by
 intro a0 a1 a2 k
 have ih0 := spec_l20Deed.mono_l k
 unfold spec_l20Deed.f
 repeat' first
   | (with_reducible exact ih0 _ _ _ _ _)
   | (with_reducible exact spec_l20Rd_odd.mono _ _ _ _)
   | (with_reducible exact spec_l20Rd_pick.mono _ _ _ _)
   | (with_reducible exact LeO.refl _)
   | (with_reducible exact LeO.none _)
   | (with_reducible refine LeO.ite ?_ ?_)
   | (with_reducible refine LeO.bind ?_ (fun _ => ?_))
   | refine LeO.ite ?_ ?_
   | refine LeO.bind ?_ (fun _ => ?_)
def spec_l20Deed.T1 : Bool × List (List Nat × List Nat) := (true, [([], []), ([], []), ([1], [1]), ([0, 2], [0, 2]), ([3], [3]), ([], []), ([5, 2], [5]), ([6], [6]), ([7], [7]), ([4, 8], [4, 8]), ([9], [9]), ([], []), ([11, 10, 6, 0, 1, 2, 3, 4, 5, 6, 7, 8, 9, 10, 11], [10, 11])])
def spec_l20Deed.B1 : List Nat := [0, 0, 2, 7, 15, 0, 38, 102, 230, 511, 1023, 0, 4095]
theorem spec_l20Deed.tab1 : rtab .any (opsOf Tryd.f35 1) = spec_l20Deed.T1 := by kernel_rfl
theorem spec_l20Deed.bits1 : waitsOk spec_l20Deed.T1.2 spec_l20Deed.B1 = true := by kernel_rfl
set_option maxHeartbeats 8000000 in
set_option maxRecDepth 100000 in
theorem spec_l20Deed.calls (k : Nat) (g : Nat) (s0_0 : List Int) (s0_1 : Int) (A1 : Option Addr) (c1 : Nat) (l1 : List Int) (r1 : Int) (r2 : Int) (r3 : Int) (r4 : Int) (w0 w : World) (hI : IsS73 w0 w g s0_0 s0_1) (hB : Below w0.heap.size w0 w) (hr1 : Kd.C (Kd.int .i64) w A1 l1.length l1) (hc1 : l1.length ≤ c1) (hf1 : ∀ ad, A1 = some ad → 0 < l1.length → ad.block ≠ g) (h : spec_l20Deed.f k s0_0 s0_1 l1 = some (r1, r2, r3, r4)) :
  Calls Tryd.prog 35 #[.pointer (some ⟨g, 0, none⟩), .slice A1 l1.length c1] w fun e w' => e = .returned (.agg #[.int .i64 r1, .int .i64 r2, .int .i64 r3]) ∧ IsS73 w0 w' g s0_0 r4 ∧ Below w0.heap.size w0 w' ∧ KeepBut w w' g none := by
 have hu25 := Tryd.underlying25
 have HR1:=zM hr1
 have HC1:=zM hc1
 clear hr1 hc1
 have HI0:=zM hI
 have HK:=zM (KeepBut.refl w g none)
 have HL:=zM hB.size
 clear hI
 have HW0:=zM hB.size
 have HB:=zM hB
 clear hB
 have H : ((some (([0, 0, 1, 1, 2, 3, 4, 5] : List Int) : List Int)).bind fun y342 => ((spec_l20Rd_pick.f k s0_0 s0_1 8).bind fun bt345 => (if 0 ≤ bt345.1 then (if bt345.1 < (y342.length : Int) then ((spec_l20Rd_pick.f k s0_0 bt345.2 60).bind fun bt348 => (if (wrap64 ((rd y342 bt345.1) + (wrap64 ((wrap64 (Int.tdiv bt348.1 59)) * 6)))) = 0 then ((spec_l20Rd_pick.f k s0_0 bt348.2 (mx (l1.length : Int) 1)).bind fun bt351 => ((spec_l20Rd_pick.f k s0_0 bt351.2 (wrap64 ((l1.length : Int) + 1))).bind fun bt353 => (spec_l20Deed.j0 k s0_0 bt353.2 (wrap64 ((rd y342 bt345.1) + (wrap64 ((wrap64 (Int.tdiv bt348.1 59)) * 6)))) (wrap64 (1 + bt351.1)) bt353.1))) else (if (wrap64 ((rd y342 bt345.1) + (wrap64 ((wrap64 (Int.tdiv bt348.1 59)) * 6)))) = 1 then ((spec_l20Rd_pick.f k s0_0 bt348.2 (wrap64 ((l1.length : Int) + 1))).bind fun bt355 => ((spec_l20Rd_pick.f k s0_0 bt355.2 9).bind fun bt357 => (spec_l20Deed.j0 k s0_0 bt357.2 (wrap64 ((rd y342 bt345.1) + (wrap64 ((wrap64 (Int.tdiv bt348.1 59)) * 6)))) (wrap64 (bt355.1 + (wrap64 (Int.tdiv bt357.1 8)))) 0))) else (spec_l20Deed.j0 k s0_0 bt348.2 (wrap64 ((rd y342 bt345.1) + (wrap64 ((wrap64 (Int.tdiv bt348.1 59)) * 6)))) 0 0)))) else (none)) else (none)))) = some (r1, r2, r3, r4) := h
 clear h
 obtain ⟨y342, hy342⟩ : ∃ y_ : List Int, y_ = (([0, 0, 1, 1, 2, 3, 4, 5] : List Int)) := ⟨_, rfl⟩
 replace H : ((spec_l20Rd_pick.f k s0_0 s0_1 8).bind fun bt345 => (if 0 ≤ bt345.1 then (if bt345.1 < (y342.length : Int) then ((spec_l20Rd_pick.f k s0_0 bt345.2 60).bind fun bt348 => (if (wrap64 ((rd y342 bt345.1) + (wrap64 ((wrap64 (Int.tdiv bt348.1 59)) * 6)))) = 0 then ((spec_l20Rd_pick.f k s0_0 bt348.2 (mx (l1.length : Int) 1)).bind fun bt351 => ((spec_l20Rd_pick.f k s0_0 bt351.2 (wrap64 ((l1.length : Int) + 1))).bind fun bt353 => (spec_l20Deed.j0 k s0_0 bt353.2 (wrap64 ((rd y342 bt345.1) + (wrap64 ((wrap64 (Int.tdiv bt348.1 59)) * 6)))) (wrap64 (1 + bt351.1)) bt353.1))) else (if (wrap64 ((rd y342 bt345.1) + (wrap64 ((wrap64 (Int.tdiv bt348.1 59)) * 6)))) = 1 then ((spec_l20Rd_pick.f k s0_0 bt348.2 (wrap64 ((l1.length : Int) + 1))).bind fun bt355 => ((spec_l20Rd_pick.f k s0_0 bt355.2 9).bind fun bt357 => (spec_l20Deed.j0 k s0_0 bt357.2 (wrap64 ((rd y342 bt345.1) + (wrap64 ((wrap64 (Int.tdiv bt348.1 59)) * 6)))) (wrap64 (bt355.1 + (wrap64 (Int.tdiv bt357.1 8)))) 0))) else (spec_l20Deed.j0 k s0_0 bt348.2 (wrap64 ((rd y342 bt345.1) + (wrap64 ((wrap64 (Int.tdiv bt348.1 59)) * 6)))) 0 0)))) else (none)) else (none))) = some (r1, r2, r3, r4) := by first | (rw [hy342]; with_reducible exact H) | (have H2_ := (Option.bind_some _ _).symm.trans H; rw [hy342]; with_reducible exact H2_) | (have H2_ := (Option.bind_some _ _).symm.trans H; with_reducible exact H2_) | with_reducible exact H | (rw [hy342]; exact H) | exact H
 have Ny342:=zM hy342
 clear hy342
 obtain ⟨⟨t345, t346⟩, A3, H⟩ := zb H; try dsimp only at H
 by_cases c4 : 0 ≤ t345
 ·rw [if_pos c4] at H
  have c4b0 : decide (0 ≤ t345) = true := decide_eq_true c4
  clear c4
  by_cases c5 : t345 < (y342.length : Int)
  ·rw [if_pos c5] at H
   have c5b0 : decide (t345 < (y342.length : Int)) = true := decide_eq_true c5
   clear c5
   obtain ⟨⟨t348, t349⟩, A6, H⟩ := zb H; try dsimp only at H
   have HC7:=zM H
   clear H
   go_enter Tryd.func35, Tryd.ntmps35
   try go_wp2_with (first | ((with_reducible refine gate_dst (N := 4) rfl ?_); refine box_event q0 (N := 4) q0 (cs := #[.int .i64 0, .int .i64 0, .int .i64 0]) (t := 25) q1 ?_; intro gb341 hg w8 hbox hb; replace HB:=zM (below_step (q9 HB.out HI0.out) hb); have BK341:=zM (hbox); have GW341:=zM ((by rw [hg]; exact (keep_size (w := w) (g := g) (row := none) (q8 HK.out)) : w.heap.size ≤ gb341)); have GE341:=zM ((Nat.le_trans HW0.out (by rw [hg]; exact (keep_size (w := w) (g := g) (row := none) (q8 HK.out)) : w.heap.size ≤ gb341) : w0.heap.size ≤ gb341)); replace HK:=zM (KeepBut.trans (q8 HK.out) (KeepBut.of_below hb g none) (.inl rfl)); have NB0_341:=zM ((by rw [hg]; exact Nat.ne_of_lt (IsS73.lt (show IsS73 w0 _ g s0_0 s0_1 from (q7 HI0.out))) : g ≠ gb341)); have NB341_0:=zM ((by rw [hg]; exact Nat.ne_of_gt (IsS73.lt (show IsS73 w0 _ g s0_0 s0_1 from (q7 HI0.out))) : gb341 ≠ g)); replace HI0:=zM (IsS73.below (q7 HI0.out) hb); clear hb hbox hg))
   have pi347 : (0 ≤ (t345 : Int)) = True := eq_true (of_decide_eq_true (by first | (with_reducible assumption) | assumption))
   have qi347 : (t345 < (y342.length : Int)) = True := eq_true (of_decide_eq_true (by first | (with_reducible assumption) | assumption))
   replace BK341:=zM (blk_drew BK341.out)
   replace HI0:=zM (IsS73.drew HI0.out)
   replace HK:=zM (keep_drew HK.out)
   replace HB:=zM (zC HB.out)
   refine start_ (n := 13) (S := fun w' => True) (ds := []) (zL 13 0) (by kernel_rfl) rfl rfl trivial (fun hHeld => ?_); refine with_tabW spec_l20Deed.tab1 spec_l20Deed.bits1 (fun HT_ HW_ => ?_)
   generalize w8.drew = w9 at BK341 HI0 HK HB hHeld ⊢
   refine zp 1 (some 7) (zL 13 2) HT_ ?_
   refine zp 5 (some 11) (zL 13 34) HT_ ?_
   refine join_ (σ := Value × Addr × Nat) 1 (zL 13 4095) (fun s_ => [(6, s_.1), (8, .int .i64 t345), (10, .int .i64 (rd y342 t345)), (12, .int .i64 t348), (5, .pointer (some ⟨s_.2.2, 0, none⟩)), (9, .pointer (some (s_.2.1.add (t345).toNat))), (13, .int .i64 (wrap64 (Int.tdiv t348 59))), (14, .int .i64 (wrap64 ((wrap64 (Int.tdiv t348 59)) * 6))), (15, .int .i64 (wrap64 ((rd y342 t345) + (wrap64 ((wrap64 (Int.tdiv t348 59)) * 6))))), (16, .agg #[.int .i64 (wrap64 ((rd y342 t345) + (wrap64 ((wrap64 (Int.tdiv t348 59)) * 6)))), .int .i64 0, .int .i64 0])]) (fun s_ w' => (Kd.R (Kd.int .i64) 3 w' w.heap.size (fun _ => True) s_.1 y342) ∧ (∃ c_, (s_.1 : Value) = .slice (some s_.2.1) y342.length c_) ∧ (w'.heap[gb341]? = some (.cells #[.int .i64 0, .int .i64 0, .int .i64 0] 25 (0, 0))) ∧ (w'.heap[s_.2.2]? = some (.cells #[.int .i64 0, .int .i64 0, .int .i64 0] 25 (0, 0))) ∧ (w.heap.size ≤ s_.2.2) ∧ (w0.heap.size ≤ s_.2.2) ∧ (g ≠ s_.2.2) ∧ (s_.2.2 ≠ g) ∧ (gb341 ≠ s_.2.2) ∧ (s_.2.2 ≠ gb341) ∧ (IsS73 w0 w' g s0_0 t349) ∧ (KeepBut w w' g none) ∧ (Below w0.heap.size w0 w')) ?_ ?_
   rotate_left
   ·intro hJ0_2_4_6_11
    refine join_ (σ := Value × Addr) 2 (zL 13 2047) (fun s_ => [(6, s_.1), (8, .int .i64 t345), (10, .int .i64 (rd y342 t345)), (12, .int .i64 t348), (9, .pointer (some (s_.2.add (t345).toNat))), (13, .int .i64 (wrap64 (Int.tdiv t348 59))), (14, .int .i64 (wrap64 ((wrap64 (Int.tdiv t348 59)) * 6))), (15, .int .i64 (wrap64 ((rd y342 t345) + (wrap64 ((wrap64 (Int.tdiv t348 59)) * 6))))), (16, .agg #[.int .i64 (wrap64 ((rd y342 t345) + (wrap64 ((wrap64 (Int.tdiv t348 59)) * 6)))), .int .i64 0, .int .i64 0])]) (fun s_ w' => (Kd.R (Kd.int .i64) 3 w' w.heap.size (fun _ => True) s_.1 y342) ∧ (∃ c_, (s_.1 : Value) = .slice (some s_.2) y342.length c_) ∧ (w'.heap[gb341]? = some (.cells #[.int .i64 0, .int .i64 0, .int .i64 0] 25 (0, 0))) ∧ (IsS73 w0 w' g s0_0 t349) ∧ (KeepBut w w' g none) ∧ (Below w0.heap.size w0 w')) ?_ ?_
    rotate_left
    ·intro hJ0_2_4_6
     refine join_ (σ := Value × Addr × Nat) 6 (zL 13 2111) (fun s_ => [(6, s_.1), (8, .int .i64 t345), (10, .int .i64 (rd y342 t345)), (5, .pointer (some ⟨s_.2.2, 0, none⟩)), (9, .pointer (some (s_.2.1.add (t345).toNat)))]) (fun s_ w' => (Kd.R (Kd.int .i64) 3 w' w.heap.size (fun _ => True) s_.1 y342) ∧ (∃ c_, (s_.1 : Value) = .slice (some s_.2.1) y342.length c_) ∧ (w'.heap[gb341]? = some (.cells #[.int .i64 0, .int .i64 0, .int .i64 0] 25 (0, 0))) ∧ (w'.heap[s_.2.2]? = some (.cells #[.int .i64 0, .int .i64 0, .int .i64 0] 25 (0, 0))) ∧ (w.heap.size ≤ s_.2.2) ∧ (w0.heap.size ≤ s_.2.2) ∧ (g ≠ s_.2.2) ∧ (s_.2.2 ≠ g) ∧ (gb341 ≠ s_.2.2) ∧ (s_.2.2 ≠ gb341) ∧ (IsS73 w0 w' g s0_0 t346) ∧ (KeepBut w w' g none) ∧ (Below w0.heap.size w0 w')) ?_ ?_
     rotate_left
     ·intro hJ0_2_4_11
      refine join_ (σ := Value × Addr × Nat) 4 (zL 13 2543) (fun s_ => [(6, s_.1), (8, .int .i64 t345), (12, .int .i64 t348), (5, .pointer (some ⟨s_.2.2, 0, none⟩)), (9, .pointer (some (s_.2.1.add (t345).toNat))), (13, .int .i64 (wrap64 (Int.tdiv t348 59))), (14, .int .i64 (wrap64 ((wrap64 (Int.tdiv t348 59)) * 6)))]) (fun s_ w' => (Kd.R (Kd.int .i64) 3 w' w.heap.size (fun _ => True) s_.1 y342) ∧ (∃ c_, (s_.1 : Value) = .slice (some s_.2.1) y342.length c_) ∧ (w'.heap[gb341]? = some (.cells #[.int .i64 0, .int .i64 0, .int .i64 0] 25 (0, 0))) ∧ (w'.heap[s_.2.2]? = some (.cells #[.int .i64 0, .int .i64 0, .int .i64 0] 25 (0, 0))) ∧ (w.heap.size ≤ s_.2.2) ∧ (w0.heap.size ≤ s_.2.2) ∧ (g ≠ s_.2.2) ∧ (s_.2.2 ≠ g) ∧ (gb341 ≠ s_.2.2) ∧ (s_.2.2 ≠ gb341) ∧ (IsS73 w0 w' g s0_0 t349) ∧ (KeepBut w w' g none) ∧ (Below w0.heap.size w0 w')) ?_ ?_
      rotate_left
      ·intro hJ0_2_6_11
       refine join_ (σ := Value × Addr) 7 (zL 13 63) (fun s_ => [(6, s_.1), (8, .int .i64 t345), (10, .int .i64 (rd y342 t345)), (9, .pointer (some (s_.2.add (t345).toNat)))]) (fun s_ w' => (Kd.R (Kd.int .i64) 3 w' w.heap.size (fun _ => True) s_.1 y342) ∧ (∃ c_, (s_.1 : Value) = .slice (some s_.2) y342.length c_) ∧ (w'.heap[gb341]? = some (.cells #[.int .i64 0, .int .i64 0, .int .i64 0] 25 (0, 0))) ∧ (IsS73 w0 w' g s0_0 t346) ∧ (KeepBut w w' g none) ∧ (Below w0.heap.size w0 w')) ?_ ?_
       rotate_left
       ·intro hJ0_2_4
        refine join_ (σ := Value × Addr) 5 (zL 13 495) (fun s_ => [(6, s_.1), (8, .int .i64 t345), (12, .int .i64 t348), (9, .pointer (some (s_.2.add (t345).toNat))), (13, .int .i64 (wrap64 (Int.tdiv t348 59))), (14, .int .i64 (wrap64 ((wrap64 (Int.tdiv t348 59)) * 6)))]) (fun s_ w' => (Kd.R (Kd.int .i64) 3 w' w.heap.size (fun _ => True) s_.1 y342) ∧ (∃ c_, (s_.1 : Value) = .slice (some s_.2) y342.length c_) ∧ (w'.heap[gb341]? = some (.cells #[.int .i64 0, .int .i64 0, .int .i64 0] 25 (0, 0))) ∧ (IsS73 w0 w' g s0_0 t349) ∧ (KeepBut w w' g none) ∧ (Below w0.heap.size w0 w')) ?_ ?_
        rotate_left
        ·intro hJ0_2_6
         refine join_ (σ := Value × Addr × Nat) 7 (zL 13 2095) (fun s_ => [(6, s_.1), (8, .int .i64 t345), (5, .pointer (some ⟨s_.2.2, 0, none⟩)), (9, .pointer (some (s_.2.1.add (t345).toNat)))]) (fun s_ w' => (Kd.R (Kd.int .i64) 3 w' w.heap.size (fun _ => True) s_.1 y342) ∧ (∃ c_, (s_.1 : Value) = .slice (some s_.2.1) y342.length c_) ∧ (w'.heap[gb341]? = some (.cells #[.int .i64 0, .int .i64 0, .int .i64 0] 25 (0, 0))) ∧ (w'.heap[s_.2.2]? = some (.cells #[.int .i64 0, .int .i64 0, .int .i64 0] 25 (0, 0))) ∧ (w.heap.size ≤ s_.2.2) ∧ (w0.heap.size ≤ s_.2.2) ∧ (g ≠ s_.2.2) ∧ (s_.2.2 ≠ g) ∧ (gb341 ≠ s_.2.2) ∧ (s_.2.2 ≠ gb341) ∧ (IsS73 w0 w' g s0_0 t346) ∧ (KeepBut w w' g none) ∧ (Below w0.heap.size w0 w')) ?_ ?_
         rotate_left
         ·intro hJ0_2_11
          refine join_ (σ := Nat) 6 (zL 13 2534) (fun s_ => [(8, .int .i64 t345), (12, .int .i64 t348), (5, .pointer (some ⟨s_, 0, none⟩)), (13, .int .i64 (wrap64 (Int.tdiv t348 59))), (14, .int .i64 (wrap64 ((wrap64 (Int.tdiv t348 59)) * 6)))]) (fun s_ w' => (w'.heap[gb341]? = some (.cells #[.int .i64 0, .int .i64 0, .int .i64 0] 25 (0, 0))) ∧ (w'.heap[s_]? = some (.cells #[.int .i64 0, .int .i64 0, .int .i64 0] 25 (0, 0))) ∧ (w.heap.size ≤ s_) ∧ (w0.heap.size ≤ s_) ∧ (g ≠ s_) ∧ (s_ ≠ g) ∧ (gb341 ≠ s_) ∧ (s_ ≠ gb341) ∧ (IsS73 w0 w' g s0_0 t349) ∧ (KeepBut w w' g none) ∧ (Below w0.heap.size w0 w')) ?_ ?_
          rotate_left
          ·intro hJ2_6_11
           refine join_ (σ := Value × Addr) 8 (zL 13 47) (fun s_ => [(6, s_.1), (8, .int .i64 t345), (9, .pointer (some (s_.2.add (t345).toNat)))]) (fun s_ w' => (Kd.R (Kd.int .i64) 3 w' w.heap.size (fun _ => True) s_.1 y342) ∧ (∃ c_, (s_.1 : Value) = .slice (some s_.2) y342.length c_) ∧ (w'.heap[gb341]? = some (.cells #[.int .i64 0, .int .i64 0, .int .i64 0] 25 (0, 0))) ∧ (IsS73 w0 w' g s0_0 t346) ∧ (KeepBut w w' g none) ∧ (Below w0.heap.size w0 w')) ?_ ?_
           rotate_left
           ·intro hJ0_2
            refine join_ (σ := Value × Addr × Nat) 9 (zL 13 2083) (fun s_ => [(6, s_.1), (5, .pointer (some ⟨s_.2.2, 0, none⟩))]) (fun s_ w' => (Kd.R (Kd.int .i64) 3 w' w.heap.size (fun _ => True) s_.1 y342) ∧ (∃ c_, (s_.1 : Value) = .slice (some s_.2.1) y342.length c_) ∧ (w'.heap[gb341]? = some (.cells #[.int .i64 0, .int .i64 0, .int .i64 0] 25 (0, 0))) ∧ (w'.heap[s_.2.2]? = some (.cells #[.int .i64 0, .int .i64 0, .int .i64 0] 25 (0, 0))) ∧ (w.heap.size ≤ s_.2.2) ∧ (w0.heap.size ≤ s_.2.2) ∧ (g ≠ s_.2.2) ∧ (s_.2.2 ≠ g) ∧ (gb341 ≠ s_.2.2) ∧ (s_.2.2 ≠ gb341) ∧ (IsS73 w0 w' g s0_0 s0_1) ∧ (KeepBut w w' g none) ∧ (Below w0.heap.size w0 w')) ?_ ?_
            rotate_left
            ·intro hJ0_11
             refine join_ (σ := Unit) 7 (zL 13 486) (fun s_ => [(8, .int .i64 t345), (12, .int .i64 t348), (13, .int .i64 (wrap64 (Int.tdiv t348 59))), (14, .int .i64 (wrap64 ((wrap64 (Int.tdiv t348 59)) * 6)))]) (fun s_ w' => (w'.heap[gb341]? = some (.cells #[.int .i64 0, .int .i64 0, .int .i64 0] 25 (0, 0))) ∧ (IsS73 w0 w' g s0_0 t349) ∧ (KeepBut w w' g none) ∧ (Below w0.heap.size w0 w')) ?_ ?_
             rotate_left
             ·intro hJ2_6
              refine join_ (σ := Nat) 9 (zL 13 2086) (fun s_ => [(8, .int .i64 t345), (5, .pointer (some ⟨s_, 0, none⟩))]) (fun s_ w' => (w'.heap[gb341]? = some (.cells #[.int .i64 0, .int .i64 0, .int .i64 0] 25 (0, 0))) ∧ (w'.heap[s_]? = some (.cells #[.int .i64 0, .int .i64 0, .int .i64 0] 25 (0, 0))) ∧ (w.heap.size ≤ s_) ∧ (w0.heap.size ≤ s_) ∧ (g ≠ s_) ∧ (s_ ≠ g) ∧ (gb341 ≠ s_) ∧ (s_ ≠ gb341) ∧ (IsS73 w0 w' g s0_0 t346) ∧ (KeepBut w w' g none) ∧ (Below w0.heap.size w0 w')) ?_ ?_
              rotate_left
              ·intro hJ2_11
               refine join_ (σ := Value × Addr) 10 (zL 13 35) (fun s_ => [(6, s_.1)]) (fun s_ w' => (Kd.R (Kd.int .i64) 3 w' w.heap.size (fun _ => True) s_.1 y342) ∧ (∃ c_, (s_.1 : Value) = .slice (some s_.2) y342.length c_) ∧ (w'.heap[gb341]? = some (.cells #[.int .i64 0, .int .i64 0, .int .i64 0] 25 (0, 0))) ∧ (IsS73 w0 w' g s0_0 s0_1) ∧ (KeepBut w w' g none) ∧ (Below w0.heap.size w0 w')) ?_ ?_
               rotate_left
               ·intro hJ0
                refine join_ (σ := Unit) 10 (zL 13 38) (fun s_ => [(8, .int .i64 t345)]) (fun s_ w' => (w'.heap[gb341]? = some (.cells #[.int .i64 0, .int .i64 0, .int .i64 0] 25 (0, 0))) ∧ (IsS73 w0 w' g s0_0 t346) ∧ (KeepBut w w' g none) ∧ (Below w0.heap.size w0 w')) ?_ ?_
                rotate_left
                ·intro hJ2
                 refine join_ (σ := Nat) 10 (zL 13 2082) (fun s_ => [(5, .pointer (some ⟨s_, 0, none⟩))]) (fun s_ w' => (w'.heap[gb341]? = some (.cells #[.int .i64 0, .int .i64 0, .int .i64 0] 25 (0, 0))) ∧ (w'.heap[s_]? = some (.cells #[.int .i64 0, .int .i64 0, .int .i64 0] 25 (0, 0))) ∧ (w.heap.size ≤ s_) ∧ (w0.heap.size ≤ s_) ∧ (g ≠ s_) ∧ (s_ ≠ g) ∧ (gb341 ≠ s_) ∧ (s_ ≠ gb341) ∧ (IsS73 w0 w' g s0_0 s0_1) ∧ (KeepBut w w' g none) ∧ (Below w0.heap.size w0 w')) ?_ ?_
                 rotate_left
                 ·intro hJ11
                  refine three_ (i := 0) (j := 2) (k := 11) (Ni := some 6) (Nj := some 8) (Nk := some 5) (zL 13 35) (zL 13 38) (zL 13 2082) rfl rfl rfl rfl rfl rfl (three_of HT_.out (by kernel_rfl)) (by decide) (by decide) (by decide) (fun K hK => ?_) (fun K hK => ?_) (fun K hK => ?_)
                  ·skip
                   refine Kd.R_lit_step (Kd.int .i64) _ 3 q0 (N := 6) q0 (xs := ([0, 0, 1, 1, 2, 3, 4, 5] : List Int)) (inner := [.int .i64 0, .int .i64 0, .int .i64 1, .int .i64 1, .int .i64 2, .int .i64 3, .int .i64 4, .int .i64 5]) (ok := fun _ => True) (okp := fun _ => True) q1 ?hp (fun _ hk => hk) trivial (Below.refl _ _) (Nat.le_refl _) (by simp) ?_; (case hp => exact (Reps.one (show Kd.M (Kd.int .i64) _ _ _ 0 [.int .i64 0] from rfl) (Reps.one (show Kd.M (Kd.int .i64) _ _ _ 0 [.int .i64 0] from rfl) (Reps.one (show Kd.M (Kd.int .i64) _ _ _ 1 [.int .i64 1] from rfl) (Reps.one (show Kd.M (Kd.int .i64) _ _ _ 1 [.int .i64 1] from rfl) (Reps.one (show Kd.M (Kd.int .i64) _ _ _ 2 [.int .i64 2] from rfl) (Reps.one (show Kd.M (Kd.int .i64) _ _ _ 3 [.int .i64 3] from rfl) (Reps.one (show Kd.M (Kd.int .i64) _ _ _ 4 [.int .i64 4] from rfl) (Reps.one (show Kd.M (Kd.int .i64) _ _ _ 5 [.int .i64 5] from rfl) (Reps.none _ _))))))))))
                   intro v343 w10 ho11 hb hg_ hnew_
                   clear hg_ hnew_
                   (first | rw [← Ny342.out] at ho11 | (simp only [Int.reduceToNat] at ho11; rw [← Ny342.out] at ho11))
                   have HO344:=zM (Kd.R_lower ho11 (keep_size (w := w) (g := g) (row := none) (q11 HK.out GW341.out)))
                   replace BK341:=zM (blk_below (g := gb341) (o := .cells #[.int .i64 0, .int .i64 0, .int .i64 0] 25 (0, 0)) (q5 BK341.out) hb)
                   replace HK:=zM (KeepBut.trans (q11 HK.out GW341.out) (KeepBut.of_below hb g none) (.inl rfl))
                   replace HB:=zM (below_step (q14 HB.out HI0.out GE341.out) hb)
                   replace HI0:=zM (IsS73.below (q10 HI0.out NB0_341.out) hb)
                   clear hb ho11
                   obtain ⟨Ao12, co12, eo12⟩ := Kd.R_slice HO344.out
                   subst eo12
                   obtain ⟨ado12, fo12, _⟩ := Kd.at_int (Kd.R_reads' HO344.out).2.2 0 (by decide) (by rw [Ny342.out]; simp)
                   cases fo12
                   refine hK.out _ _ trivial (fun hHeld => ?_)
                   clear hK K
                   refine norm_ (a' := ?_) ?_ ?_
                   rotate_left
                   ·show Act.put _ (some 6) _ = _
                    simp only [Act.put, zE, zF, zG, i64_w, i32_w]
                    rfl
                   exact norm_ (by first | (simp only [putAll, Act.put, zE, zF, zG]; done) | (simp only [putAll, Act.put, zE, zF, zG]; rfl)) (hJ0 (.slice (some ado12) y342.length co12, ado12) _ ⟨(q3 HO344.out), ⟨_, rfl⟩, (q5 BK341.out), (q10 HI0.out NB0_341.out), (q11 HK.out GW341.out), (q14 HB.out HI0.out GE341.out)⟩)
                  ·skip
                   refine goes_ Tryd.func43 (by kernel_rfl) rfl #[.pointer (some ⟨g, 0, none⟩), .int .i64 8] (by rfl) rfl rfl (by (try simp only [List.map_toArray, List.map_cons, List.map_nil]); first | done | rfl | (simp only [List.length_drop, List.length_take]; rfl)) ?_
                   with_reducible refine (spec_l20Rd_pick.calls k g s0_0 s0_1 8 t345 t346 w0 _ ?side1 ?side2 A3.out).mono ?_
                   (case side1 => exact (q10 HI0.out NB0_341.out))
                   (case side2 => exact (q14 HB.out HI0.out GE341.out))
                   rintro e w10 ⟨rfl, hi, hb, hk⟩
                   refine ⟨_, rfl, ?_⟩
                   replace BK341:=zM (KeepBut.blk hk (g' := gb341) (o := .cells #[.int .i64 0, .int .i64 0, .int .i64 0] 25 (0, 0)) (q5 BK341.out) NB341_0.out (by simp))
                   replace HK:=zM (KeepBut.trans (q11 HK.out GW341.out) hk (.inl rfl))
                   replace HB:=zM (hb)
                   replace HI0:=zM (hi)
                   (try clear hb)
                   (try clear hb2)
                   (try clear hk)
                   (try clear hi)
                   refine hK.out _ _ trivial (fun hHeld => ?_)
                   clear hK K
                   refine norm_ (a' := ?_) ?_ ?_
                   rotate_left
                   ·show Act.put _ (some 8) _ = _
                    simp only [Act.put, zE, zF, zG, i64_w, i32_w]
                    rfl
                   exact norm_ (by first | (simp only [putAll, Act.put, zE, zF, zG]; done) | (simp only [putAll, Act.put, zE, zF, zG]; rfl)) (hJ2 () _ ⟨(q5 BK341.out), (q10 HI0.out NB0_341.out), (q11 HK.out GW341.out), (q14 HB.out HI0.out GE341.out)⟩)
                  ·skip
                   refine box_step q0 (N := 5) q0 (cs := #[.int .i64 0, .int .i64 0, .int .i64 0]) (t := 25) q1 ?_
                   intro gb350 hg w10 hbox hb
                   replace HB:=zM (below_step (q14 HB.out HI0.out GE341.out) hb)
                   have BK350:=zM (hbox)
                   have GW350:=zM ((by rw [hg]; exact (keep_size (w := w) (g := g) (row := none) (q11 HK.out GW341.out)) : w.heap.size ≤ gb350))
                   have GE350:=zM ((Nat.le_trans HW0.out (by rw [hg]; exact (keep_size (w := w) (g := g) (row := none) (q11 HK.out GW341.out)) : w.heap.size ≤ gb350) : w0.heap.size ≤ gb350))
                   replace HK:=zM (KeepBut.trans (q11 HK.out GW341.out) (KeepBut.of_below hb g none) (.inl rfl))
                   have NB341_350:=zM ((by rw [hg]; exact Nat.ne_of_lt (blk_lt (g := gb341) (o := .cells #[.int .i64 0, .int .i64 0, .int .i64 0] 25 (0, 0)) (q5 BK341.out)) : gb341 ≠ gb350))
                   have NB350_341:=zM ((by rw [hg]; exact Nat.ne_of_gt (blk_lt (g := gb341) (o := .cells #[.int .i64 0, .int .i64 0, .int .i64 0] 25 (0, 0)) (q5 BK341.out)) : gb350 ≠ gb341))
                   replace BK341:=zM (blk_below (g := gb341) (o := .cells #[.int .i64 0, .int .i64 0, .int .i64 0] 25 (0, 0)) (q5 BK341.out) hb)
                   have NB0_350:=zM ((by rw [hg]; exact Nat.ne_of_lt (IsS73.lt (show IsS73 w0 _ g s0_0 s0_1 from (q10 HI0.out NB0_341.out))) : g ≠ gb350))
                   have NB350_0:=zM ((by rw [hg]; exact Nat.ne_of_gt (IsS73.lt (show IsS73 w0 _ g s0_0 s0_1 from (q10 HI0.out NB0_341.out))) : gb350 ≠ g))
                   replace HI0:=zM (IsS73.below (q10 HI0.out NB0_341.out) hb)
                   clear hb hbox hg
                   refine hK.out _ _ trivial (fun hHeld => ?_)
                   clear hK K
                   refine norm_ (a' := ?_) ?_ ?_
                   rotate_left
                   ·show Act.put _ (some 5) _ = _
                    simp only [Act.put, zE, zF, zG, i64_w, i32_w]
                    rfl
                   exact norm_ (by first | (simp only [putAll, Act.put, zE, zF, zG]; done) | (simp only [putAll, Act.put, zE, zF, zG]; rfl)) (hJ11 (gb350) _ ⟨(q5 BK341.out), (q5 BK350.out), GW350.out, GE350.out, NB0_350.out, NB350_0.out, NB341_350.out, NB350_341.out, (q15 HI0.out NB0_341.out NB0_350.out), (q16 HK.out GW341.out GW350.out), (q17 HB.out HI0.out GE341.out GE350.out)⟩)
                 ·skip
                  rintro gb350 w11 ⟨h0_, h1_, h2_, h3_, h4_, h5_, h6_, h7_, h8_, h9_, h10_⟩
                  replace BK341 : Aside0 (w11.heap[gb341]? = some (.cells #[.int .i64 0, .int .i64 0, .int .i64 0] 25 (0, 0))) := ⟨h0_⟩
                  have BK350 : Aside0 (w11.heap[gb350]? = some (.cells #[.int .i64 0, .int .i64 0, .int .i64 0] 25 (0, 0))) := ⟨h1_⟩
                  have GW350 : Aside0 (w.heap.size ≤ gb350) := ⟨h2_⟩
                  have GE350 : Aside0 (w0.heap.size ≤ gb350) := ⟨h3_⟩
                  have NB0_350 : Aside0 (g ≠ gb350) := ⟨h4_⟩
                  have NB350_0 : Aside0 (gb350 ≠ g) := ⟨h5_⟩
                  have NB341_350 : Aside0 (gb341 ≠ gb350) := ⟨h6_⟩
                  have NB350_341 : Aside0 (gb350 ≠ gb341) := ⟨h7_⟩
                  replace HI0 : Aside0 (IsS73 w0 w11 g s0_0 s0_1) := ⟨h8_⟩
                  replace HK : Aside0 (KeepBut w w11 g none) := ⟨h9_⟩
                  replace HB : Aside0 (Below w0.heap.size w0 w11) := ⟨h10_⟩
                  clear h0_ h1_ h2_ h3_ h4_ h5_ h6_ h7_ h8_ h9_ h10_
                  have hHeld := trivial
                  refine norm_ (a' := ?_) ?_ ?_
                  rotate_left
                  ·simp only [putAll, Act.put, zE, zF, zG]
                   rfl
                  refine two_ (i := 0) (j := 2) (Ni := some 6) (Nj := some 8) (zL 13 2083) (zL 13 2086) rfl rfl rfl rfl (two_of HT_.out (by kernel_rfl)) (by decide) (by decide) (fun K hK => ?_) (fun K hK => ?_)
                  ·skip
                   refine Kd.R_lit_step (Kd.int .i64) _ 3 q0 (N := 6) q0 (xs := ([0, 0, 1, 1, 2, 3, 4, 5] : List Int)) (inner := [.int .i64 0, .int .i64 0, .int .i64 1, .int .i64 1, .int .i64 2, .int .i64 3, .int .i64 4, .int .i64 5]) (ok := fun _ => True) (okp := fun _ => True) q1 ?hp (fun _ hk => hk) trivial (Below.refl _ _) (Nat.le_refl _) (by simp) ?_; (case hp => exact (Reps.one (show Kd.M (Kd.int .i64) _ _ _ 0 [.int .i64 0] from rfl) (Reps.one (show Kd.M (Kd.int .i64) _ _ _ 0 [.int .i64 0] from rfl) (Reps.one (show Kd.M (Kd.int .i64) _ _ _ 1 [.int .i64 1] from rfl) (Reps.one (show Kd.M (Kd.int .i64) _ _ _ 1 [.int .i64 1] from rfl) (Reps.one (show Kd.M (Kd.int .i64) _ _ _ 2 [.int .i64 2] from rfl) (Reps.one (show Kd.M (Kd.int .i64) _ _ _ 3 [.int .i64 3] from rfl) (Reps.one (show Kd.M (Kd.int .i64) _ _ _ 4 [.int .i64 4] from rfl) (Reps.one (show Kd.M (Kd.int .i64) _ _ _ 5 [.int .i64 5] from rfl) (Reps.none _ _))))))))))
                   intro v343 w12 ho13 hb hg_ hnew_
                   clear hg_ hnew_
                   (first | rw [← Ny342.out] at ho13 | (simp only [Int.reduceToNat] at ho13; rw [← Ny342.out] at ho13))
                   have HO344:=zM (Kd.R_lower ho13 (keep_size (w := w) (g := g) (row := none) (q16 HK.out GW341.out GW350.out)))
                   replace BK341:=zM (blk_below (g := gb341) (o := .cells #[.int .i64 0, .int .i64 0, .int .i64 0] 25 (0, 0)) (q5 BK341.out) hb)
                   replace BK350:=zM (blk_below (g := gb350) (o := .cells #[.int .i64 0, .int .i64 0, .int .i64 0] 25 (0, 0)) (q5 BK350.out) hb)
                   replace HK:=zM (KeepBut.trans (q16 HK.out GW341.out GW350.out) (KeepBut.of_below hb g none) (.inl rfl))
                   replace HB:=zM (below_step (q17 HB.out HI0.out GE341.out GE350.out) hb)
                   replace HI0:=zM (IsS73.below (q15 HI0.out NB0_341.out NB0_350.out) hb)
                   clear hb ho13
                   obtain ⟨Ao14, co14, eo14⟩ := Kd.R_slice HO344.out
                   subst eo14
                   obtain ⟨ado14, fo14, _⟩ := Kd.at_int (Kd.R_reads' HO344.out).2.2 0 (by decide) (by rw [Ny342.out]; simp)
                   cases fo14
                   refine hK.out _ _ trivial (fun hHeld => ?_)
                   clear hK K
                   refine norm_ (a' := ?_) ?_ ?_
                   rotate_left
                   ·show Act.put _ (some 6) _ = _
                    simp only [Act.put, zE, zF, zG, i64_w, i32_w]
                    rfl
                   exact norm_ (by first | (simp only [putAll, Act.put, zE, zF, zG]; done) | (simp only [putAll, Act.put, zE, zF, zG]; rfl)) (hJ0_11 (.slice (some ado14) y342.length co14, ado14, gb350) _ ⟨(q3 HO344.out), ⟨_, rfl⟩, (q5 BK341.out), (q5 BK350.out), GW350.out, GE350.out, NB0_350.out, NB350_0.out, NB341_350.out, NB350_341.out, (q15 HI0.out NB0_341.out NB0_350.out), (q16 HK.out GW341.out GW350.out), (q17 HB.out HI0.out GE341.out GE350.out)⟩)
                  ·skip
                   refine goes_ Tryd.func43 (by kernel_rfl) rfl #[.pointer (some ⟨g, 0, none⟩), .int .i64 8] (by rfl) rfl rfl (by (try simp only [List.map_toArray, List.map_cons, List.map_nil]); first | done | rfl | (simp only [List.length_drop, List.length_take]; rfl)) ?_
                   with_reducible refine (spec_l20Rd_pick.calls k g s0_0 s0_1 8 t345 t346 w0 _ ?side1 ?side2 A3.out).mono ?_
                   (case side1 => exact (q15 HI0.out NB0_341.out NB0_350.out))
                   (case side2 => exact (q17 HB.out HI0.out GE341.out GE350.out))
                   rintro e w12 ⟨rfl, hi, hb, hk⟩
                   refine ⟨_, rfl, ?_⟩
                   replace BK341:=zM (KeepBut.blk hk (g' := gb341) (o := .cells #[.int .i64 0, .int .i64 0, .int .i64 0] 25 (0, 0)) (q5 BK341.out) NB341_0.out (by simp))
                   replace BK350:=zM (KeepBut.blk hk (g' := gb350) (o := .cells #[.int .i64 0, .int .i64 0, .int .i64 0] 25 (0, 0)) (q5 BK350.out) NB350_0.out (by simp))
                   replace HK:=zM (KeepBut.trans (q16 HK.out GW341.out GW350.out) hk (.inl rfl))
                   replace HB:=zM (hb)
                   replace HI0:=zM (hi)
                   (try clear hb)
                   (try clear hb2)
                   (try clear hk)
                   (try clear hi)
                   refine hK.out _ _ trivial (fun hHeld => ?_)
                   clear hK K
                   refine norm_ (a' := ?_) ?_ ?_
                   rotate_left
                   ·show Act.put _ (some 8) _ = _
                    simp only [Act.put, zE, zF, zG, i64_w, i32_w]
                    rfl
                   exact norm_ (by first | (simp only [putAll, Act.put, zE, zF, zG]; done) | (simp only [putAll, Act.put, zE, zF, zG]; rfl)) (hJ2_11 (gb350) _ ⟨(q5 BK341.out), (q5 BK350.out), GW350.out, GE350.out, NB0_350.out, NB350_0.out, NB341_350.out, NB350_341.out, (q15 HI0.out NB0_341.out NB0_350.out), (q16 HK.out GW341.out GW350.out), (q17 HB.out HI0.out GE341.out GE350.out)⟩)
                ·skip
                 rintro _ w11 ⟨h0_, h1_, h2_, h3_⟩
                 replace BK341 : Aside0 (w11.heap[gb341]? = some (.cells #[.int .i64 0, .int .i64 0, .int .i64 0] 25 (0, 0))) := ⟨h0_⟩
                 replace HI0 : Aside0 (IsS73 w0 w11 g s0_0 t346) := ⟨h1_⟩
                 replace HK : Aside0 (KeepBut w w11 g none) := ⟨h2_⟩
                 replace HB : Aside0 (Below w0.heap.size w0 w11) := ⟨h3_⟩
                 clear h0_ h1_ h2_ h3_
                 have hHeld := trivial
                 refine norm_ (a' := ?_) ?_ ?_
                 rotate_left
                 ·simp only [putAll, Act.put, zE, zF, zG]
                  rfl
                 refine three_ (i := 0) (j := 6) (k := 11) (Ni := some 6) (Nj := some 12) (Nk := some 5) (zL 13 39) (zL 13 102) (zL 13 2086) rfl rfl rfl rfl rfl rfl (three_of HT_.out (by kernel_rfl)) (by decide) (by decide) (by decide) (fun K hK => ?_) (fun K hK => ?_) (fun K hK => ?_)
                 ·skip
                  refine Kd.R_lit_step (Kd.int .i64) _ 3 q0 (N := 6) q0 (xs := ([0, 0, 1, 1, 2, 3, 4, 5] : List Int)) (inner := [.int .i64 0, .int .i64 0, .int .i64 1, .int .i64 1, .int .i64 2, .int .i64 3, .int .i64 4, .int .i64 5]) (ok := fun _ => True) (okp := fun _ => True) q1 ?hp (fun _ hk => hk) trivial (Below.refl _ _) (Nat.le_refl _) (by simp) ?_; (case hp => exact (Reps.one (show Kd.M (Kd.int .i64) _ _ _ 0 [.int .i64 0] from rfl) (Reps.one (show Kd.M (Kd.int .i64) _ _ _ 0 [.int .i64 0] from rfl) (Reps.one (show Kd.M (Kd.int .i64) _ _ _ 1 [.int .i64 1] from rfl) (Reps.one (show Kd.M (Kd.int .i64) _ _ _ 1 [.int .i64 1] from rfl) (Reps.one (show Kd.M (Kd.int .i64) _ _ _ 2 [.int .i64 2] from rfl) (Reps.one (show Kd.M (Kd.int .i64) _ _ _ 3 [.int .i64 3] from rfl) (Reps.one (show Kd.M (Kd.int .i64) _ _ _ 4 [.int .i64 4] from rfl) (Reps.one (show Kd.M (Kd.int .i64) _ _ _ 5 [.int .i64 5] from rfl) (Reps.none _ _))))))))))
                  intro v343 w12 ho13 hb hg_ hnew_
                  clear hg_ hnew_
                  (first | rw [← Ny342.out] at ho13 | (simp only [Int.reduceToNat] at ho13; rw [← Ny342.out] at ho13))
                  have HO344:=zM (Kd.R_lower ho13 (keep_size (w := w) (g := g) (row := none) (q11 HK.out GW341.out)))
                  replace BK341:=zM (blk_below (g := gb341) (o := .cells #[.int .i64 0, .int .i64 0, .int .i64 0] 25 (0, 0)) (q5 BK341.out) hb)
                  replace HK:=zM (KeepBut.trans (q11 HK.out GW341.out) (KeepBut.of_below hb g none) (.inl rfl))
                  replace HB:=zM (below_step (q14 HB.out HI0.out GE341.out) hb)
                  replace HI0:=zM (IsS73.below (q10 HI0.out NB0_341.out) hb)
                  clear hb ho13
                  obtain ⟨Ao14, co14, eo14⟩ := Kd.R_slice HO344.out
                  subst eo14
                  obtain ⟨ado14, fo14, _⟩ := Kd.at_int (Kd.R_reads' HO344.out).2.2 0 (by decide) (by rw [Ny342.out]; simp)
                  cases fo14
                  refine hK.out _ _ trivial (fun hHeld => ?_)
                  clear hK K
                  refine norm_ (a' := ?_) ?_ ?_
                  rotate_left
                  ·show Act.put _ (some 6) _ = _
                   simp only [Act.put, zE, zF, zG, i64_w, i32_w]
                   rfl
                  refine zp 3 (some 9) (zL 13 47) HT_ ?_
                  exact norm_ (by first | (simp only [putAll, Act.put, zE, zF, zG]; done) | (simp only [putAll, Act.put, zE, zF, zG]; rfl)) (hJ0_2 (.slice (some ado14) y342.length co14, ado14) _ ⟨(q3 HO344.out), ⟨_, rfl⟩, (q5 BK341.out), (q10 HI0.out NB0_341.out), (q11 HK.out GW341.out), (q14 HB.out HI0.out GE341.out)⟩)
                 ·skip
                  refine goes_ Tryd.func43 (by kernel_rfl) rfl #[.pointer (some ⟨g, 0, none⟩), .int .i64 60] (by rfl) rfl rfl (by (try simp only [List.map_toArray, List.map_cons, List.map_nil]); first | done | rfl | (simp only [List.length_drop, List.length_take]; rfl)) ?_
                  with_reducible refine (spec_l20Rd_pick.calls k g s0_0 t346 60 t348 t349 w0 _ ?side1 ?side2 A6.out).mono ?_
                  (case side1 => exact (q10 HI0.out NB0_341.out))
                  (case side2 => exact (q14 HB.out HI0.out GE341.out))
                  rintro e w12 ⟨rfl, hi, hb, hk⟩
                  refine ⟨_, rfl, ?_⟩
                  replace BK341:=zM (KeepBut.blk hk (g' := gb341) (o := .cells #[.int .i64 0, .int .i64 0, .int .i64 0] 25 (0, 0)) (q5 BK341.out) NB341_0.out (by simp))
                  replace HK:=zM (KeepBut.trans (q11 HK.out GW341.out) hk (.inl rfl))
                  replace HB:=zM (hb)
                  replace HI0:=zM (hi)
                  (try clear hb)
                  (try clear hb2)
                  (try clear hk)
                  (try clear hi)
                  refine hK.out _ _ trivial (fun hHeld => ?_)
                  clear hK K
                  refine norm_ (a' := ?_) ?_ ?_
                  rotate_left
                  ·show Act.put _ (some 12) _ = _
                   simp only [Act.put, zE, zF, zG, i64_w, i32_w]
                   rfl
                  refine zp 7 (some 13) (zL 13 230) HT_ ?_
                  refine zp 8 (some 14) (zL 13 486) HT_ ?_
                  exact norm_ (by first | (simp only [putAll, Act.put, zE, zF, zG]; done) | (simp only [putAll, Act.put, zE, zF, zG]; rfl)) (hJ2_6 () _ ⟨(q5 BK341.out), (q10 HI0.out NB0_341.out), (q11 HK.out GW341.out), (q14 HB.out HI0.out GE341.out)⟩)
                 ·skip
                  refine box_step q0 (N := 5) q0 (cs := #[.int .i64 0, .int .i64 0, .int .i64 0]) (t := 25) q1 ?_
                  intro gb350 hg w12 hbox hb
                  replace HB:=zM (below_step (q14 HB.out HI0.out GE341.out) hb)
                  have BK350:=zM (hbox)
                  have GW350:=zM ((by rw [hg]; exact (keep_size (w := w) (g := g) (row := none) (q11 HK.out GW341.out)) : w.heap.size ≤ gb350))
                  have GE350:=zM ((Nat.le_trans HW0.out (by rw [hg]; exact (keep_size (w := w) (g := g) (row := none) (q11 HK.out GW341.out)) : w.heap.size ≤ gb350) : w0.heap.size ≤ gb350))
                  replace HK:=zM (KeepBut.trans (q11 HK.out GW341.out) (KeepBut.of_below hb g none) (.inl rfl))
                  have NB341_350:=zM ((by rw [hg]; exact Nat.ne_of_lt (blk_lt (g := gb341) (o := .cells #[.int .i64 0, .int .i64 0, .int .i64 0] 25 (0, 0)) (q5 BK341.out)) : gb341 ≠ gb350))
                  have NB350_341:=zM ((by rw [hg]; exact Nat.ne_of_gt (blk_lt (g := gb341) (o := .cells #[.int .i64 0, .int .i64 0, .int .i64 0] 25 (0, 0)) (q5 BK341.out)) : gb350 ≠ gb341))
                  replace BK341:=zM (blk_below (g := gb341) (o := .cells #[.int .i64 0, .int .i64 0, .int .i64 0] 25 (0, 0)) (q5 BK341.out) hb)
                  have NB0_350:=zM ((by rw [hg]; exact Nat.ne_of_lt (IsS73.lt (show IsS73 w0 _ g s0_0 t346 from (q10 HI0.out NB0_341.out))) : g ≠ gb350))
                  have NB350_0:=zM ((by rw [hg]; exact Nat.ne_of_gt (IsS73.lt (show IsS73 w0 _ g s0_0 t346 from (q10 HI0.out NB0_341.out))) : gb350 ≠ g))
                  replace HI0:=zM (IsS73.below (q10 HI0.out NB0_341.out) hb)
                  clear hb hbox hg
                  refine hK.out _ _ trivial (fun hHeld => ?_)
                  clear hK K
                  refine norm_ (a' := ?_) ?_ ?_
                  rotate_left
                  ·show Act.put _ (some 5) _ = _
                   simp only [Act.put, zE, zF, zG, i64_w, i32_w]
                   rfl
                  exact norm_ (by first | (simp only [putAll, Act.put, zE, zF, zG]; done) | (simp only [putAll, Act.put, zE, zF, zG]; rfl)) (hJ2_11 (gb350) _ ⟨(q5 BK341.out), (q5 BK350.out), GW350.out, GE350.out, NB0_350.out, NB350_0.out, NB341_350.out, NB350_341.out, (q15 HI0.out NB0_341.out NB0_350.out), (q16 HK.out GW341.out GW350.out), (q17 HB.out HI0.out GE341.out GE350.out)⟩)
               ·skip
                rintro ⟨v343, adz_v343⟩ w13 ⟨h0_, h1_, h2_, h3_, h4_, h5_⟩
                have HO344 : Aside0 (Kd.R (Kd.int .i64) 3 w13 w.heap.size (fun _ => True) v343 y342) := ⟨h0_⟩
                have HA_HO344 : Aside0 (∃ c_, (v343 : Value) = .slice (some adz_v343) y342.length c_) := ⟨h1_⟩
                replace BK341 : Aside0 (w13.heap[gb341]? = some (.cells #[.int .i64 0, .int .i64 0, .int .i64 0] 25 (0, 0))) := ⟨h2_⟩
                replace HI0 : Aside0 (IsS73 w0 w13 g s0_0 s0_1) := ⟨h3_⟩
                replace HK : Aside0 (KeepBut w w13 g none) := ⟨h4_⟩
                replace HB : Aside0 (Below w0.heap.size w0 w13) := ⟨h5_⟩
                clear h0_ h1_ h2_ h3_ h4_ h5_
                have hHeld := trivial
                obtain ⟨co14, eo14⟩ := HA_HO344.out
                clear HA_HO344
                subst eo14
                refine norm_ (a' := ?_) ?_ ?_
                rotate_left
                ·simp only [putAll, Act.put, zE, zF, zG]
                 rfl
                refine two_ (i := 2) (j := 11) (Ni := some 8) (Nj := some 5) (zL 13 39) (zL 13 2083) rfl rfl rfl rfl (two_of HT_.out (by kernel_rfl)) (by decide) (by decide) (fun K hK => ?_) (fun K hK => ?_)
                ·skip
                 refine goes_ Tryd.func43 (by kernel_rfl) rfl #[.pointer (some ⟨g, 0, none⟩), .int .i64 8] (by rfl) rfl rfl (by (try simp only [List.map_toArray, List.map_cons, List.map_nil]); first | done | rfl | (simp only [List.length_drop, List.length_take]; rfl)) ?_
                 with_reducible refine (spec_l20Rd_pick.calls k g s0_0 s0_1 8 t345 t346 w0 _ ?side1 ?side2 A3.out).mono ?_
                 (case side1 => exact (q10 HI0.out NB0_341.out))
                 (case side2 => exact (q14 HB.out HI0.out GE341.out))
                 rintro e w15 ⟨rfl, hi, hb, hk⟩
                 refine ⟨_, rfl, ?_⟩
                 replace BK341:=zM (KeepBut.blk hk (g' := gb341) (o := .cells #[.int .i64 0, .int .i64 0, .int .i64 0] 25 (0, 0)) (q5 BK341.out) NB341_0.out (by simp))
                 replace HO344:=zM (Kd.R_mono (Kd.R_keep (IsS73.apart (show IsS73 w0 _ g s0_0 s0_1 from (q10 HI0.out NB0_341.out)) (q3 HO344.out) (by decide)) hk (fun _ h => h.2)) (fun _ h => h.1))
                 replace HK:=zM (KeepBut.trans (q11 HK.out GW341.out) hk (.inl rfl))
                 replace HB:=zM (hb)
                 replace HI0:=zM (hi)
                 (try clear hb)
                 (try clear hb2)
                 (try clear hk)
                 (try clear hi)
                 refine hK.out _ _ trivial (fun hHeld => ?_)
                 clear hK K
                 refine norm_ (a' := ?_) ?_ ?_
                 rotate_left
                 ·show Act.put _ (some 8) _ = _
                  simp only [Act.put, zE, zF, zG, i64_w, i32_w]
                  rfl
                 refine zp 3 (some 9) (zL 13 47) HT_ ?_
                 exact norm_ (by first | (simp only [putAll, Act.put, zE, zF, zG]; done) | (simp only [putAll, Act.put, zE, zF, zG]; rfl)) (hJ0_2 (.slice (some adz_v343) y342.length co14, adz_v343) _ ⟨(q3 HO344.out), ⟨_, rfl⟩, (q5 BK341.out), (q10 HI0.out NB0_341.out), (q11 HK.out GW341.out), (q14 HB.out HI0.out GE341.out)⟩)
                ·skip
                 refine box_step q0 (N := 5) q0 (cs := #[.int .i64 0, .int .i64 0, .int .i64 0]) (t := 25) q1 ?_
                 intro gb350 hg w15 hbox hb
                 replace HO344:=zM (Kd.R_below (q3 HO344.out) hb)
                 replace HB:=zM (below_step (q14 HB.out HI0.out GE341.out) hb)
                 have BK350:=zM (hbox)
                 have GW350:=zM ((by rw [hg]; exact (keep_size (w := w) (g := g) (row := none) (q11 HK.out GW341.out)) : w.heap.size ≤ gb350))
                 have GE350:=zM ((Nat.le_trans HW0.out (by rw [hg]; exact (keep_size (w := w) (g := g) (row := none) (q11 HK.out GW341.out)) : w.heap.size ≤ gb350) : w0.heap.size ≤ gb350))
                 replace HK:=zM (KeepBut.trans (q11 HK.out GW341.out) (KeepBut.of_below hb g none) (.inl rfl))
                 have NB341_350:=zM ((by rw [hg]; exact Nat.ne_of_lt (blk_lt (g := gb341) (o := .cells #[.int .i64 0, .int .i64 0, .int .i64 0] 25 (0, 0)) (q5 BK341.out)) : gb341 ≠ gb350))
                 have NB350_341:=zM ((by rw [hg]; exact Nat.ne_of_gt (blk_lt (g := gb341) (o := .cells #[.int .i64 0, .int .i64 0, .int .i64 0] 25 (0, 0)) (q5 BK341.out)) : gb350 ≠ gb341))
                 replace BK341:=zM (blk_below (g := gb341) (o := .cells #[.int .i64 0, .int .i64 0, .int .i64 0] 25 (0, 0)) (q5 BK341.out) hb)
                 have NB0_350:=zM ((by rw [hg]; exact Nat.ne_of_lt (IsS73.lt (show IsS73 w0 _ g s0_0 s0_1 from (q10 HI0.out NB0_341.out))) : g ≠ gb350))
                 have NB350_0:=zM ((by rw [hg]; exact Nat.ne_of_gt (IsS73.lt (show IsS73 w0 _ g s0_0 s0_1 from (q10 HI0.out NB0_341.out))) : gb350 ≠ g))
                 replace HI0:=zM (IsS73.below (q10 HI0.out NB0_341.out) hb)
                 clear hb hbox hg
                 refine hK.out _ _ trivial (fun hHeld => ?_)
                 clear hK K
                 refine norm_ (a' := ?_) ?_ ?_
                 rotate_left
                 ·show Act.put _ (some 5) _ = _
                  simp only [Act.put, zE, zF, zG, i64_w, i32_w]
                  rfl
                 exact norm_ (by first | (simp only [putAll, Act.put, zE, zF, zG]; done) | (simp only [putAll, Act.put, zE, zF, zG]; rfl)) (hJ0_11 (.slice (some adz_v343) y342.length co14, adz_v343, gb350) _ ⟨(q3 HO344.out), ⟨_, rfl⟩, (q5 BK341.out), (q5 BK350.out), GW350.out, GE350.out, NB0_350.out, NB350_0.out, NB341_350.out, NB350_341.out, (q15 HI0.out NB0_341.out NB0_350.out), (q16 HK.out GW341.out GW350.out), (q17 HB.out HI0.out GE341.out GE350.out)⟩)
              ·skip
               rintro gb350 w12 ⟨h0_, h1_, h2_, h3_, h4_, h5_, h6_, h7_, h8_, h9_, h10_⟩
               replace BK341 : Aside0 (w12.heap[gb341]? = some (.cells #[.int .i64 0, .int .i64 0, .int .i64 0] 25 (0, 0))) := ⟨h0_⟩
               have BK350 : Aside0 (w12.heap[gb350]? = some (.cells #[.int .i64 0, .int .i64 0, .int .i64 0] 25 (0, 0))) := ⟨h1_⟩
               have GW350 : Aside0 (w.heap.size ≤ gb350) := ⟨h2_⟩
               have GE350 : Aside0 (w0.heap.size ≤ gb350) := ⟨h3_⟩
               have NB0_350 : Aside0 (g ≠ gb350) := ⟨h4_⟩
               have NB350_0 : Aside0 (gb350 ≠ g) := ⟨h5_⟩
               have NB341_350 : Aside0 (gb341 ≠ gb350) := ⟨h6_⟩
               have NB350_341 : Aside0 (gb350 ≠ gb341) := ⟨h7_⟩
               replace HI0 : Aside0 (IsS73 w0 w12 g s0_0 t346) := ⟨h8_⟩
               replace HK : Aside0 (KeepBut w w12 g none) := ⟨h9_⟩
               replace HB : Aside0 (Below w0.heap.size w0 w12) := ⟨h10_⟩
               clear h0_ h1_ h2_ h3_ h4_ h5_ h6_ h7_ h8_ h9_ h10_
               have hHeld := trivial
               refine norm_ (a' := ?_) ?_ ?_
               rotate_left
               ·simp only [putAll, Act.put, zE, zF, zG]
                rfl
               refine two_ (i := 0) (j := 6) (Ni := some 6) (Nj := some 12) (zL 13 2087) (zL 13 2150) rfl rfl rfl rfl (two_of HT_.out (by kernel_rfl)) (by decide) (by decide) (fun K hK => ?_) (fun K hK => ?_)
               ·skip
                refine Kd.R_lit_step (Kd.int .i64) _ 3 q0 (N := 6) q0 (xs := ([0, 0, 1, 1, 2, 3, 4, 5] : List Int)) (inner := [.int .i64 0, .int .i64 0, .int .i64 1, .int .i64 1, .int .i64 2, .int .i64 3, .int .i64 4, .int .i64 5]) (ok := fun _ => True) (okp := fun _ => True) q1 ?hp (fun _ hk => hk) trivial (Below.refl _ _) (Nat.le_refl _) (by simp) ?_; (case hp => exact (Reps.one (show Kd.M (Kd.int .i64) _ _ _ 0 [.int .i64 0] from rfl) (Reps.one (show Kd.M (Kd.int .i64) _ _ _ 0 [.int .i64 0] from rfl) (Reps.one (show Kd.M (Kd.int .i64) _ _ _ 1 [.int .i64 1] from rfl) (Reps.one (show Kd.M (Kd.int .i64) _ _ _ 1 [.int .i64 1] from rfl) (Reps.one (show Kd.M (Kd.int .i64) _ _ _ 2 [.int .i64 2] from rfl) (Reps.one (show Kd.M (Kd.int .i64) _ _ _ 3 [.int .i64 3] from rfl) (Reps.one (show Kd.M (Kd.int .i64) _ _ _ 4 [.int .i64 4] from rfl) (Reps.one (show Kd.M (Kd.int .i64) _ _ _ 5 [.int .i64 5] from rfl) (Reps.none _ _))))))))))
                intro v343 w13 ho14 hb hg_ hnew_
                clear hg_ hnew_
                (first | rw [← Ny342.out] at ho14 | (simp only [Int.reduceToNat] at ho14; rw [← Ny342.out] at ho14))
                have HO344:=zM (Kd.R_lower ho14 (keep_size (w := w) (g := g) (row := none) (q16 HK.out GW341.out GW350.out)))
                replace BK341:=zM (blk_below (g := gb341) (o := .cells #[.int .i64 0, .int .i64 0, .int .i64 0] 25 (0, 0)) (q5 BK341.out) hb)
                replace BK350:=zM (blk_below (g := gb350) (o := .cells #[.int .i64 0, .int .i64 0, .int .i64 0] 25 (0, 0)) (q5 BK350.out) hb)
                replace HK:=zM (KeepBut.trans (q16 HK.out GW341.out GW350.out) (KeepBut.of_below hb g none) (.inl rfl))
                replace HB:=zM (below_step (q17 HB.out HI0.out GE341.out GE350.out) hb)
                replace HI0:=zM (IsS73.below (q15 HI0.out NB0_341.out NB0_350.out) hb)
                clear hb ho14
                obtain ⟨Ao15, co15, eo15⟩ := Kd.R_slice HO344.out
                subst eo15
                obtain ⟨ado15, fo15, _⟩ := Kd.at_int (Kd.R_reads' HO344.out).2.2 0 (by decide) (by rw [Ny342.out]; simp)
                cases fo15
                refine hK.out _ _ trivial (fun hHeld => ?_)
                clear hK K
                refine norm_ (a' := ?_) ?_ ?_
                rotate_left
                ·show Act.put _ (some 6) _ = _
                 simp only [Act.put, zE, zF, zG, i64_w, i32_w]
                 rfl
                refine zp 3 (some 9) (zL 13 2095) HT_ ?_
                exact norm_ (by first | (simp only [putAll, Act.put, zE, zF, zG]; done) | (simp only [putAll, Act.put, zE, zF, zG]; rfl)) (hJ0_2_11 (.slice (some ado15) y342.length co15, ado15, gb350) _ ⟨(q3 HO344.out), ⟨_, rfl⟩, (q5 BK341.out), (q5 BK350.out), GW350.out, GE350.out, NB0_350.out, NB350_0.out, NB341_350.out, NB350_341.out, (q15 HI0.out NB0_341.out NB0_350.out), (q16 HK.out GW341.out GW350.out), (q17 HB.out HI0.out GE341.out GE350.out)⟩)
               ·skip
                refine goes_ Tryd.func43 (by kernel_rfl) rfl #[.pointer (some ⟨g, 0, none⟩), .int .i64 60] (by rfl) rfl rfl (by (try simp only [List.map_toArray, List.map_cons, List.map_nil]); first | done | rfl | (simp only [List.length_drop, List.length_take]; rfl)) ?_
                with_reducible refine (spec_l20Rd_pick.calls k g s0_0 t346 60 t348 t349 w0 _ ?side1 ?side2 A6.out).mono ?_
                (case side1 => exact (q15 HI0.out NB0_341.out NB0_350.out))
                (case side2 => exact (q17 HB.out HI0.out GE341.out GE350.out))
                rintro e w13 ⟨rfl, hi, hb, hk⟩
                refine ⟨_, rfl, ?_⟩
                replace BK341:=zM (KeepBut.blk hk (g' := gb341) (o := .cells #[.int .i64 0, .int .i64 0, .int .i64 0] 25 (0, 0)) (q5 BK341.out) NB341_0.out (by simp))
                replace BK350:=zM (KeepBut.blk hk (g' := gb350) (o := .cells #[.int .i64 0, .int .i64 0, .int .i64 0] 25 (0, 0)) (q5 BK350.out) NB350_0.out (by simp))
                replace HK:=zM (KeepBut.trans (q16 HK.out GW341.out GW350.out) hk (.inl rfl))
                replace HB:=zM (hb)
                replace HI0:=zM (hi)
                (try clear hb)
                (try clear hb2)
                (try clear hk)
                (try clear hi)
                refine hK.out _ _ trivial (fun hHeld => ?_)
                clear hK K
                refine norm_ (a' := ?_) ?_ ?_
                rotate_left
                ·show Act.put _ (some 12) _ = _
                 simp only [Act.put, zE, zF, zG, i64_w, i32_w]
                 rfl
                refine zp 7 (some 13) (zL 13 2278) HT_ ?_
                refine zp 8 (some 14) (zL 13 2534) HT_ ?_
                exact norm_ (by first | (simp only [putAll, Act.put, zE, zF, zG]; done) | (simp only [putAll, Act.put, zE, zF, zG]; rfl)) (hJ2_6_11 (gb350) _ ⟨(q5 BK341.out), (q5 BK350.out), GW350.out, GE350.out, NB0_350.out, NB350_0.out, NB341_350.out, NB350_341.out, (q15 HI0.out NB0_341.out NB0_350.out), (q16 HK.out GW341.out GW350.out), (q17 HB.out HI0.out GE341.out GE350.out)⟩)
             ·skip
              rintro _ w12 ⟨h0_, h1_, h2_, h3_⟩
              replace BK341 : Aside0 (w12.heap[gb341]? = some (.cells #[.int .i64 0, .int .i64 0, .int .i64 0] 25 (0, 0))) := ⟨h0_⟩
              replace HI0 : Aside0 (IsS73 w0 w12 g s0_0 t349) := ⟨h1_⟩
              replace HK : Aside0 (KeepBut w w12 g none) := ⟨h2_⟩
              replace HB : Aside0 (Below w0.heap.size w0 w12) := ⟨h3_⟩
              clear h0_ h1_ h2_ h3_
              have hHeld := trivial
              refine norm_ (a' := ?_) ?_ ?_
              rotate_left
              ·simp only [putAll, Act.put, zE, zF, zG]
               rfl
              refine two_ (i := 0) (j := 11) (Ni := some 6) (Nj := some 5) (zL 13 487) (zL 13 2534) rfl rfl rfl rfl (two_of HT_.out (by kernel_rfl)) (by decide) (by decide) (fun K hK => ?_) (fun K hK => ?_)
              ·skip
               refine Kd.R_lit_step (Kd.int .i64) _ 3 q0 (N := 6) q0 (xs := ([0, 0, 1, 1, 2, 3, 4, 5] : List Int)) (inner := [.int .i64 0, .int .i64 0, .int .i64 1, .int .i64 1, .int .i64 2, .int .i64 3, .int .i64 4, .int .i64 5]) (ok := fun _ => True) (okp := fun _ => True) q1 ?hp (fun _ hk => hk) trivial (Below.refl _ _) (Nat.le_refl _) (by simp) ?_; (case hp => exact (Reps.one (show Kd.M (Kd.int .i64) _ _ _ 0 [.int .i64 0] from rfl) (Reps.one (show Kd.M (Kd.int .i64) _ _ _ 0 [.int .i64 0] from rfl) (Reps.one (show Kd.M (Kd.int .i64) _ _ _ 1 [.int .i64 1] from rfl) (Reps.one (show Kd.M (Kd.int .i64) _ _ _ 1 [.int .i64 1] from rfl) (Reps.one (show Kd.M (Kd.int .i64) _ _ _ 2 [.int .i64 2] from rfl) (Reps.one (show Kd.M (Kd.int .i64) _ _ _ 3 [.int .i64 3] from rfl) (Reps.one (show Kd.M (Kd.int .i64) _ _ _ 4 [.int .i64 4] from rfl) (Reps.one (show Kd.M (Kd.int .i64) _ _ _ 5 [.int .i64 5] from rfl) (Reps.none _ _))))))))))
               intro v343 w13 ho14 hb hg_ hnew_
               clear hg_ hnew_
               (first | rw [← Ny342.out] at ho14 | (simp only [Int.reduceToNat] at ho14; rw [← Ny342.out] at ho14))
               have HO344:=zM (Kd.R_lower ho14 (keep_size (w := w) (g := g) (row := none) (q11 HK.out GW341.out)))
               replace BK341:=zM (blk_below (g := gb341) (o := .cells #[.int .i64 0, .int .i64 0, .int .i64 0] 25 (0, 0)) (q5 BK341.out) hb)
               replace HK:=zM (KeepBut.trans (q11 HK.out GW341.out) (KeepBut.of_below hb g none) (.inl rfl))
               replace HB:=zM (below_step (q14 HB.out HI0.out GE341.out) hb)
               replace HI0:=zM (IsS73.below (q10 HI0.out NB0_341.out) hb)
               clear hb ho14
               obtain ⟨Ao15, co15, eo15⟩ := Kd.R_slice HO344.out
               subst eo15
               obtain ⟨ado15, fo15, _⟩ := Kd.at_int (Kd.R_reads' HO344.out).2.2 0 (by decide) (by rw [Ny342.out]; simp)
               cases fo15
               refine hK.out _ _ trivial (fun hHeld => ?_)
               clear hK K
               refine norm_ (a' := ?_) ?_ ?_
               rotate_left
               ·show Act.put _ (some 6) _ = _
                simp only [Act.put, zE, zF, zG, i64_w, i32_w]
                rfl
               refine zp 3 (some 9) (zL 13 495) HT_ ?_
               exact norm_ (by first | (simp only [putAll, Act.put, zE, zF, zG]; done) | (simp only [putAll, Act.put, zE, zF, zG]; rfl)) (hJ0_2_6 (.slice (some ado15) y342.length co15, ado15) _ ⟨(q3 HO344.out), ⟨_, rfl⟩, (q5 BK341.out), (q10 HI0.out NB0_341.out), (q11 HK.out GW341.out), (q14 HB.out HI0.out GE341.out)⟩)
              ·skip
               refine box_step q0 (N := 5) q0 (cs := #[.int .i64 0, .int .i64 0, .int .i64 0]) (t := 25) q1 ?_
               intro gb350 hg w13 hbox hb
               replace HB:=zM (below_step (q14 HB.out HI0.out GE341.out) hb)
               have BK350:=zM (hbox)
               have GW350:=zM ((by rw [hg]; exact (keep_size (w := w) (g := g) (row := none) (q11 HK.out GW341.out)) : w.heap.size ≤ gb350))
               have GE350:=zM ((Nat.le_trans HW0.out (by rw [hg]; exact (keep_size (w := w) (g := g) (row := none) (q11 HK.out GW341.out)) : w.heap.size ≤ gb350) : w0.heap.size ≤ gb350))
               replace HK:=zM (KeepBut.trans (q11 HK.out GW341.out) (KeepBut.of_below hb g none) (.inl rfl))
               have NB341_350:=zM ((by rw [hg]; exact Nat.ne_of_lt (blk_lt (g := gb341) (o := .cells #[.int .i64 0, .int .i64 0, .int .i64 0] 25 (0, 0)) (q5 BK341.out)) : gb341 ≠ gb350))
               have NB350_341:=zM ((by rw [hg]; exact Nat.ne_of_gt (blk_lt (g := gb341) (o := .cells #[.int .i64 0, .int .i64 0, .int .i64 0] 25 (0, 0)) (q5 BK341.out)) : gb350 ≠ gb341))
               replace BK341:=zM (blk_below (g := gb341) (o := .cells #[.int .i64 0, .int .i64 0, .int .i64 0] 25 (0, 0)) (q5 BK341.out) hb)
               have NB0_350:=zM ((by rw [hg]; exact Nat.ne_of_lt (IsS73.lt (show IsS73 w0 _ g s0_0 t349 from (q10 HI0.out NB0_341.out))) : g ≠ gb350))
               have NB350_0:=zM ((by rw [hg]; exact Nat.ne_of_gt (IsS73.lt (show IsS73 w0 _ g s0_0 t349 from (q10 HI0.out NB0_341.out))) : gb350 ≠ g))
               replace HI0:=zM (IsS73.below (q10 HI0.out NB0_341.out) hb)
               clear hb hbox hg
               refine hK.out _ _ trivial (fun hHeld => ?_)
               clear hK K
               refine norm_ (a' := ?_) ?_ ?_
               rotate_left
               ·show Act.put _ (some 5) _ = _
                simp only [Act.put, zE, zF, zG, i64_w, i32_w]
                rfl
               exact norm_ (by first | (simp only [putAll, Act.put, zE, zF, zG]; done) | (simp only [putAll, Act.put, zE, zF, zG]; rfl)) (hJ2_6_11 (gb350) _ ⟨(q5 BK341.out), (q5 BK350.out), GW350.out, GE350.out, NB0_350.out, NB350_0.out, NB341_350.out, NB350_341.out, (q15 HI0.out NB0_341.out NB0_350.out), (q16 HK.out GW341.out GW350.out), (q17 HB.out HI0.out GE341.out GE350.out)⟩)
            ·skip
             rintro ⟨v343, adz_v343, gb350⟩ w14 ⟨h0_, h1_, h2_, h3_, h4_, h5_, h6_, h7_, h8_, h9_, h10_, h11_, h12_⟩
             have HO344 : Aside0 (Kd.R (Kd.int .i64) 3 w14 w.heap.size (fun _ => True) v343 y342) := ⟨h0_⟩
             have HA_HO344 : Aside0 (∃ c_, (v343 : Value) = .slice (some adz_v343) y342.length c_) := ⟨h1_⟩
             replace BK341 : Aside0 (w14.heap[gb341]? = some (.cells #[.int .i64 0, .int .i64 0, .int .i64 0] 25 (0, 0))) := ⟨h2_⟩
             have BK350 : Aside0 (w14.heap[gb350]? = some (.cells #[.int .i64 0, .int .i64 0, .int .i64 0] 25 (0, 0))) := ⟨h3_⟩
             have GW350 : Aside0 (w.heap.size ≤ gb350) := ⟨h4_⟩
             have GE350 : Aside0 (w0.heap.size ≤ gb350) := ⟨h5_⟩
             have NB0_350 : Aside0 (g ≠ gb350) := ⟨h6_⟩
             have NB350_0 : Aside0 (gb350 ≠ g) := ⟨h7_⟩
             have NB341_350 : Aside0 (gb341 ≠ gb350) := ⟨h8_⟩
             have NB350_341 : Aside0 (gb350 ≠ gb341) := ⟨h9_⟩
             replace HI0 : Aside0 (IsS73 w0 w14 g s0_0 s0_1) := ⟨h10_⟩
             replace HK : Aside0 (KeepBut w w14 g none) := ⟨h11_⟩
             replace HB : Aside0 (Below w0.heap.size w0 w14) := ⟨h12_⟩
             clear h0_ h1_ h2_ h3_ h4_ h5_ h6_ h7_ h8_ h9_ h10_ h11_ h12_
             have hHeld := trivial
             obtain ⟨co15, eo15⟩ := HA_HO344.out
             clear HA_HO344
             subst eo15
             refine norm_ (a' := ?_) ?_ ?_
             rotate_left
             ·simp only [putAll, Act.put, zE, zF, zG]
              rfl
             refine one_ (i := 2) (N := some 8) (zL 13 2087) rfl rfl (one_of HT_.out (by kernel_rfl)) (by decide) (fun K hK => ?_)
             refine goes_ Tryd.func43 (by kernel_rfl) rfl #[.pointer (some ⟨g, 0, none⟩), .int .i64 8] (by rfl) rfl rfl (by (try simp only [List.map_toArray, List.map_cons, List.map_nil]); first | done | rfl | (simp only [List.length_drop, List.length_take]; rfl)) ?_
             with_reducible refine (spec_l20Rd_pick.calls k g s0_0 s0_1 8 t345 t346 w0 _ ?side1 ?side2 A3.out).mono ?_
             (case side1 => exact (q15 HI0.out NB0_341.out NB0_350.out))
             (case side2 => exact (q17 HB.out HI0.out GE341.out GE350.out))
             rintro e w16 ⟨rfl, hi, hb, hk⟩
             refine ⟨_, rfl, ?_⟩
             replace BK341:=zM (KeepBut.blk hk (g' := gb341) (o := .cells #[.int .i64 0, .int .i64 0, .int .i64 0] 25 (0, 0)) (q5 BK341.out) NB341_0.out (by simp))
             replace HO344:=zM (Kd.R_mono (Kd.R_keep (IsS73.apart (show IsS73 w0 _ g s0_0 s0_1 from (q15 HI0.out NB0_341.out NB0_350.out)) (q3 HO344.out) (by decide)) hk (fun _ h => h.2)) (fun _ h => h.1))
             replace BK350:=zM (KeepBut.blk hk (g' := gb350) (o := .cells #[.int .i64 0, .int .i64 0, .int .i64 0] 25 (0, 0)) (q5 BK350.out) NB350_0.out (by simp))
             replace HK:=zM (KeepBut.trans (q16 HK.out GW341.out GW350.out) hk (.inl rfl))
             replace HB:=zM (hb)
             replace HI0:=zM (hi)
             (try clear hb)
             (try clear hb2)
             (try clear hk)
             (try clear hi)
             refine hK.out _ _ trivial (fun hHeld => ?_)
             clear hK K
             refine norm_ (a' := ?_) ?_ ?_
             rotate_left
             ·show Act.put _ (some 8) _ = _
              simp only [Act.put, zE, zF, zG, i64_w, i32_w]
              rfl
             refine zp 3 (some 9) (zL 13 2095) HT_ ?_
             exact norm_ (by first | (simp only [putAll, Act.put, zE, zF, zG]; done) | (simp only [putAll, Act.put, zE, zF, zG]; rfl)) (hJ0_2_11 (.slice (some adz_v343) y342.length co15, adz_v343, gb350) _ ⟨(q3 HO344.out), ⟨_, rfl⟩, (q5 BK341.out), (q5 BK350.out), GW350.out, GE350.out, NB0_350.out, NB350_0.out, NB341_350.out, NB350_341.out, (q15 HI0.out NB0_341.out NB0_350.out), (q16 HK.out GW341.out GW350.out), (q17 HB.out HI0.out GE341.out GE350.out)⟩)
           ·skip
            rintro ⟨v343, adz_v343⟩ w14 ⟨h0_, h1_, h2_, h3_, h4_, h5_⟩
            have HO344 : Aside0 (Kd.R (Kd.int .i64) 3 w14 w.heap.size (fun _ => True) v343 y342) := ⟨h0_⟩
            have HA_HO344 : Aside0 (∃ c_, (v343 : Value) = .slice (some adz_v343) y342.length c_) := ⟨h1_⟩
            replace BK341 : Aside0 (w14.heap[gb341]? = some (.cells #[.int .i64 0, .int .i64 0, .int .i64 0] 25 (0, 0))) := ⟨h2_⟩
            replace HI0 : Aside0 (IsS73 w0 w14 g s0_0 t346) := ⟨h3_⟩
            replace HK : Aside0 (KeepBut w w14 g none) := ⟨h4_⟩
            replace HB : Aside0 (Below w0.heap.size w0 w14) := ⟨h5_⟩
            clear h0_ h1_ h2_ h3_ h4_ h5_
            have hHeld := trivial
            obtain ⟨co15, eo15⟩ := HA_HO344.out
            clear HA_HO344
            subst eo15
            refine norm_ (a' := ?_) ?_ ?_
            rotate_left
            ·simp only [putAll, Act.put, zE, zF, zG]
             rfl
            refine three_ (i := 4) (j := 6) (k := 11) (Ni := some 10) (Nj := some 12) (Nk := some 5) (zL 13 63) (zL 13 111) (zL 13 2095) rfl rfl rfl rfl rfl rfl (three_of HT_.out (by kernel_rfl)) (by decide) (by decide) (by decide) (fun K hK => ?_) (fun K hK => ?_) (fun K hK => ?_)
            ·skip
             (have p347 : 0 ≤ (t345 : Int) := of_decide_eq_true (by first | (with_reducible assumption) | assumption); have q347 : t345 < (y342.length : Int) := of_decide_eq_true (by first | (with_reducible assumption) | assumption); obtain ⟨ad347, e347, hx347_0⟩ := Kd.at_int (Kd.R_reads' HO344.out).2.2 t345 p347 q347; obtain rfl : adz_v343 = ad347 := (by injection e347))
             refine value_ (w1 := ?_) (v := ?_) (by rfl) rfl ?_ ?_
             rotate_left 2
             ·go_simp
              constructor
              ·rfl
              ·rfl
             clear hx347_0
             refine hK.out _ _ trivial (fun hHeld => ?_)
             clear hK K
             refine norm_ (a' := ?_) ?_ ?_
             rotate_left
             ·show Act.put _ (some 10) _ = _
              simp only [Act.put, zE, zF, zG, i64_w, i32_w]
              rfl
             exact norm_ (by first | (simp only [putAll, Act.put, zE, zF, zG]; done) | (simp only [putAll, Act.put, zE, zF, zG]; rfl)) (hJ0_2_4 (.slice (some adz_v343) y342.length co15, adz_v343) _ ⟨(q3 HO344.out), ⟨_, rfl⟩, (q5 BK341.out), (q10 HI0.out NB0_341.out), (q11 HK.out GW341.out), (q14 HB.out HI0.out GE341.out)⟩)
            ·skip
             refine goes_ Tryd.func43 (by kernel_rfl) rfl #[.pointer (some ⟨g, 0, none⟩), .int .i64 60] (by rfl) rfl rfl (by (try simp only [List.map_toArray, List.map_cons, List.map_nil]); first | done | rfl | (simp only [List.length_drop, List.length_take]; rfl)) ?_
             with_reducible refine (spec_l20Rd_pick.calls k g s0_0 t346 60 t348 t349 w0 _ ?side1 ?side2 A6.out).mono ?_
             (case side1 => exact (q10 HI0.out NB0_341.out))
             (case side2 => exact (q14 HB.out HI0.out GE341.out))
             rintro e w16 ⟨rfl, hi, hb, hk⟩
             refine ⟨_, rfl, ?_⟩
             replace BK341:=zM (KeepBut.blk hk (g' := gb341) (o := .cells #[.int .i64 0, .int .i64 0, .int .i64 0] 25 (0, 0)) (q5 BK341.out) NB341_0.out (by simp))
             replace HO344:=zM (Kd.R_mono (Kd.R_keep (IsS73.apart (show IsS73 w0 _ g s0_0 t346 from (q10 HI0.out NB0_341.out)) (q3 HO344.out) (by decide)) hk (fun _ h => h.2)) (fun _ h => h.1))
             replace HK:=zM (KeepBut.trans (q11 HK.out GW341.out) hk (.inl rfl))
             replace HB:=zM (hb)
             replace HI0:=zM (hi)
             (try clear hb)
             (try clear hb2)
             (try clear hk)
             (try clear hi)
             refine hK.out _ _ trivial (fun hHeld => ?_)
             clear hK K
             refine norm_ (a' := ?_) ?_ ?_
             rotate_left
             ·show Act.put _ (some 12) _ = _
              simp only [Act.put, zE, zF, zG, i64_w, i32_w]
              rfl
             refine zp 7 (some 13) (zL 13 239) HT_ ?_
             refine zp 8 (some 14) (zL 13 495) HT_ ?_
             exact norm_ (by first | (simp only [putAll, Act.put, zE, zF, zG]; done) | (simp only [putAll, Act.put, zE, zF, zG]; rfl)) (hJ0_2_6 (.slice (some adz_v343) y342.length co15, adz_v343) _ ⟨(q3 HO344.out), ⟨_, rfl⟩, (q5 BK341.out), (q10 HI0.out NB0_341.out), (q11 HK.out GW341.out), (q14 HB.out HI0.out GE341.out)⟩)
            ·skip
             refine box_step q0 (N := 5) q0 (cs := #[.int .i64 0, .int .i64 0, .int .i64 0]) (t := 25) q1 ?_
             intro gb350 hg w16 hbox hb
             replace HO344:=zM (Kd.R_below (q3 HO344.out) hb)
             replace HB:=zM (below_step (q14 HB.out HI0.out GE341.out) hb)
             have BK350:=zM (hbox)
             have GW350:=zM ((by rw [hg]; exact (keep_size (w := w) (g := g) (row := none) (q11 HK.out GW341.out)) : w.heap.size ≤ gb350))
             have GE350:=zM ((Nat.le_trans HW0.out (by rw [hg]; exact (keep_size (w := w) (g := g) (row := none) (q11 HK.out GW341.out)) : w.heap.size ≤ gb350) : w0.heap.size ≤ gb350))
             replace HK:=zM (KeepBut.trans (q11 HK.out GW341.out) (KeepBut.of_below hb g none) (.inl rfl))
             have NB341_350:=zM ((by rw [hg]; exact Nat.ne_of_lt (blk_lt (g := gb341) (o := .cells #[.int .i64 0, .int .i64 0, .int .i64 0] 25 (0, 0)) (q5 BK341.out)) : gb341 ≠ gb350))
             have NB350_341:=zM ((by rw [hg]; exact Nat.ne_of_gt (blk_lt (g := gb341) (o := .cells #[.int .i64 0, .int .i64 0, .int .i64 0] 25 (0, 0)) (q5 BK341.out)) : gb350 ≠ gb341))
             replace BK341:=zM (blk_below (g := gb341) (o := .cells #[.int .i64 0, .int .i64 0, .int .i64 0] 25 (0, 0)) (q5 BK341.out) hb)
             have NB0_350:=zM ((by rw [hg]; exact Nat.ne_of_lt (IsS73.lt (show IsS73 w0 _ g s0_0 t346 from (q10 HI0.out NB0_341.out))) : g ≠ gb350))
             have NB350_0:=zM ((by rw [hg]; exact Nat.ne_of_gt (IsS73.lt (show IsS73 w0 _ g s0_0 t346 from (q10 HI0.out NB0_341.out))) : gb350 ≠ g))
             replace HI0:=zM (IsS73.below (q10 HI0.out NB0_341.out) hb)
             clear hb hbox hg
             refine hK.out _ _ trivial (fun hHeld => ?_)
             clear hK K
             refine norm_ (a' := ?_) ?_ ?_
             rotate_left
             ·show Act.put _ (some 5) _ = _
              simp only [Act.put, zE, zF, zG, i64_w, i32_w]
              rfl
             exact norm_ (by first | (simp only [putAll, Act.put, zE, zF, zG]; done) | (simp only [putAll, Act.put, zE, zF, zG]; rfl)) (hJ0_2_11 (.slice (some adz_v343) y342.length co15, adz_v343, gb350) _ ⟨(q3 HO344.out), ⟨_, rfl⟩, (q5 BK341.out), (q5 BK350.out), GW350.out, GE350.out, NB0_350.out, NB350_0.out, NB341_350.out, NB350_341.out, (q15 HI0.out NB0_341.out NB0_350.out), (q16 HK.out GW341.out GW350.out), (q17 HB.out HI0.out GE341.out GE350.out)⟩)
          ·skip
           rintro gb350 w13 ⟨h0_, h1_, h2_, h3_, h4_, h5_, h6_, h7_, h8_, h9_, h10_⟩
           replace BK341 : Aside0 (w13.heap[gb341]? = some (.cells #[.int .i64 0, .int .i64 0, .int .i64 0] 25 (0, 0))) := ⟨h0_⟩
           have BK350 : Aside0 (w13.heap[gb350]? = some (.cells #[.int .i64 0, .int .i64 0, .int .i64 0] 25 (0, 0))) := ⟨h1_⟩
           have GW350 : Aside0 (w.heap.size ≤ gb350) := ⟨h2_⟩
           have GE350 : Aside0 (w0.heap.size ≤ gb350) := ⟨h3_⟩
           have NB0_350 : Aside0 (g ≠ gb350) := ⟨h4_⟩
           have NB350_0 : Aside0 (gb350 ≠ g) := ⟨h5_⟩
           have NB341_350 : Aside0 (gb341 ≠ gb350) := ⟨h6_⟩
           have NB350_341 : Aside0 (gb350 ≠ gb341) := ⟨h7_⟩
           replace HI0 : Aside0 (IsS73 w0 w13 g s0_0 t349) := ⟨h8_⟩
           replace HK : Aside0 (KeepBut w w13 g none) := ⟨h9_⟩
           replace HB : Aside0 (Below w0.heap.size w0 w13) := ⟨h10_⟩
           clear h0_ h1_ h2_ h3_ h4_ h5_ h6_ h7_ h8_ h9_ h10_
           have hHeld := trivial
           refine norm_ (a' := ?_) ?_ ?_
           rotate_left
           ·simp only [putAll, Act.put, zE, zF, zG]
            rfl
           refine one_ (i := 0) (N := some 6) (zL 13 2535) rfl rfl (one_of HT_.out (by kernel_rfl)) (by decide) (fun K hK => ?_)
           refine Kd.R_lit_step (Kd.int .i64) _ 3 q0 (N := 6) q0 (xs := ([0, 0, 1, 1, 2, 3, 4, 5] : List Int)) (inner := [.int .i64 0, .int .i64 0, .int .i64 1, .int .i64 1, .int .i64 2, .int .i64 3, .int .i64 4, .int .i64 5]) (ok := fun _ => True) (okp := fun _ => True) q1 ?hp (fun _ hk => hk) trivial (Below.refl _ _) (Nat.le_refl _) (by simp) ?_; (case hp => exact (Reps.one (show Kd.M (Kd.int .i64) _ _ _ 0 [.int .i64 0] from rfl) (Reps.one (show Kd.M (Kd.int .i64) _ _ _ 0 [.int .i64 0] from rfl) (Reps.one (show Kd.M (Kd.int .i64) _ _ _ 1 [.int .i64 1] from rfl) (Reps.one (show Kd.M (Kd.int .i64) _ _ _ 1 [.int .i64 1] from rfl) (Reps.one (show Kd.M (Kd.int .i64) _ _ _ 2 [.int .i64 2] from rfl) (Reps.one (show Kd.M (Kd.int .i64) _ _ _ 3 [.int .i64 3] from rfl) (Reps.one (show Kd.M (Kd.int .i64) _ _ _ 4 [.int .i64 4] from rfl) (Reps.one (show Kd.M (Kd.int .i64) _ _ _ 5 [.int .i64 5] from rfl) (Reps.none _ _))))))))))
           intro v343 w14 ho15 hb hg_ hnew_
           clear hg_ hnew_
           (first | rw [← Ny342.out] at ho15 | (simp only [Int.reduceToNat] at ho15; rw [← Ny342.out] at ho15))
           have HO344:=zM (Kd.R_lower ho15 (keep_size (w := w) (g := g) (row := none) (q16 HK.out GW341.out GW350.out)))
           replace BK341:=zM (blk_below (g := gb341) (o := .cells #[.int .i64 0, .int .i64 0, .int .i64 0] 25 (0, 0)) (q5 BK341.out) hb)
           replace BK350:=zM (blk_below (g := gb350) (o := .cells #[.int .i64 0, .int .i64 0, .int .i64 0] 25 (0, 0)) (q5 BK350.out) hb)
           replace HK:=zM (KeepBut.trans (q16 HK.out GW341.out GW350.out) (KeepBut.of_below hb g none) (.inl rfl))
           replace HB:=zM (below_step (q17 HB.out HI0.out GE341.out GE350.out) hb)
           replace HI0:=zM (IsS73.below (q15 HI0.out NB0_341.out NB0_350.out) hb)
           clear hb ho15
           obtain ⟨Ao16, co16, eo16⟩ := Kd.R_slice HO344.out
           subst eo16
           obtain ⟨ado16, fo16, _⟩ := Kd.at_int (Kd.R_reads' HO344.out).2.2 0 (by decide) (by rw [Ny342.out]; simp)
           cases fo16
           refine hK.out _ _ trivial (fun hHeld => ?_)
           clear hK K
           refine norm_ (a' := ?_) ?_ ?_
           rotate_left
           ·show Act.put _ (some 6) _ = _
            simp only [Act.put, zE, zF, zG, i64_w, i32_w]
            rfl
           refine zp 3 (some 9) (zL 13 2543) HT_ ?_
           exact norm_ (by first | (simp only [putAll, Act.put, zE, zF, zG]; done) | (simp only [putAll, Act.put, zE, zF, zG]; rfl)) (hJ0_2_6_11 (.slice (some ado16) y342.length co16, ado16, gb350) _ ⟨(q3 HO344.out), ⟨_, rfl⟩, (q5 BK341.out), (q5 BK350.out), GW350.out, GE350.out, NB0_350.out, NB350_0.out, NB341_350.out, NB350_341.out, (q15 HI0.out NB0_341.out NB0_350.out), (q16 HK.out GW341.out GW350.out), (q17 HB.out HI0.out GE341.out GE350.out)⟩)
         ·skip
          rintro ⟨v343, adz_v343, gb350⟩ w15 ⟨h0_, h1_, h2_, h3_, h4_, h5_, h6_, h7_, h8_, h9_, h10_, h11_, h12_⟩
          have HO344 : Aside0 (Kd.R (Kd.int .i64) 3 w15 w.heap.size (fun _ => True) v343 y342) := ⟨h0_⟩
          have HA_HO344 : Aside0 (∃ c_, (v343 : Value) = .slice (some adz_v343) y342.length c_) := ⟨h1_⟩
          replace BK341 : Aside0 (w15.heap[gb341]? = some (.cells #[.int .i64 0, .int .i64 0, .int .i64 0] 25 (0, 0))) := ⟨h2_⟩
          have BK350 : Aside0 (w15.heap[gb350]? = some (.cells #[.int .i64 0, .int .i64 0, .int .i64 0] 25 (0, 0))) := ⟨h3_⟩
          have GW350 : Aside0 (w.heap.size ≤ gb350) := ⟨h4_⟩
          have GE350 : Aside0 (w0.heap.size ≤ gb350) := ⟨h5_⟩
          have NB0_350 : Aside0 (g ≠ gb350) := ⟨h6_⟩
          have NB350_0 : Aside0 (gb350 ≠ g) := ⟨h7_⟩
          have NB341_350 : Aside0 (gb341 ≠ gb350) := ⟨h8_⟩
          have NB350_341 : Aside0 (gb350 ≠ gb341) := ⟨h9_⟩
          replace HI0 : Aside0 (IsS73 w0 w15 g s0_0 t346) := ⟨h10_⟩
          replace HK : Aside0 (KeepBut w w15 g none) := ⟨h11_⟩
          replace HB : Aside0 (Below w0.heap.size w0 w15) := ⟨h12_⟩
          clear h0_ h1_ h2_ h3_ h4_ h5_ h6_ h7_ h8_ h9_ h10_ h11_ h12_
          have hHeld := trivial
          obtain ⟨co16, eo16⟩ := HA_HO344.out
          clear HA_HO344
          subst eo16
          refine norm_ (a' := ?_) ?_ ?_
          rotate_left
          ·simp only [putAll, Act.put, zE, zF, zG]
           rfl
          refine two_ (i := 4) (j := 6) (Ni := some 10) (Nj := some 12) (zL 13 2111) (zL 13 2159) rfl rfl rfl rfl (two_of HT_.out (by kernel_rfl)) (by decide) (by decide) (fun K hK => ?_) (fun K hK => ?_)
          ·skip
           (have p347 : 0 ≤ (t345 : Int) := of_decide_eq_true (by first | (with_reducible assumption) | assumption); have q347 : t345 < (y342.length : Int) := of_decide_eq_true (by first | (with_reducible assumption) | assumption); obtain ⟨ad347, e347, hx347_0⟩ := Kd.at_int (Kd.R_reads' HO344.out).2.2 t345 p347 q347; obtain rfl : adz_v343 = ad347 := (by injection e347))
           refine value_ (w1 := ?_) (v := ?_) (by rfl) rfl ?_ ?_
           rotate_left 2
           ·go_simp
            constructor
            ·rfl
            ·rfl
           clear hx347_0
           refine hK.out _ _ trivial (fun hHeld => ?_)
           clear hK K
           refine norm_ (a' := ?_) ?_ ?_
           rotate_left
           ·show Act.put _ (some 10) _ = _
            simp only [Act.put, zE, zF, zG, i64_w, i32_w]
            rfl
           exact norm_ (by first | (simp only [putAll, Act.put, zE, zF, zG]; done) | (simp only [putAll, Act.put, zE, zF, zG]; rfl)) (hJ0_2_4_11 (.slice (some adz_v343) y342.length co16, adz_v343, gb350) _ ⟨(q3 HO344.out), ⟨_, rfl⟩, (q5 BK341.out), (q5 BK350.out), GW350.out, GE350.out, NB0_350.out, NB350_0.out, NB341_350.out, NB350_341.out, (q15 HI0.out NB0_341.out NB0_350.out), (q16 HK.out GW341.out GW350.out), (q17 HB.out HI0.out GE341.out GE350.out)⟩)
          ·skip
           refine goes_ Tryd.func43 (by kernel_rfl) rfl #[.pointer (some ⟨g, 0, none⟩), .int .i64 60] (by rfl) rfl rfl (by (try simp only [List.map_toArray, List.map_cons, List.map_nil]); first | done | rfl | (simp only [List.length_drop, List.length_take]; rfl)) ?_
           with_reducible refine (spec_l20Rd_pick.calls k g s0_0 t346 60 t348 t349 w0 _ ?side1 ?side2 A6.out).mono ?_
           (case side1 => exact (q15 HI0.out NB0_341.out NB0_350.out))
           (case side2 => exact (q17 HB.out HI0.out GE341.out GE350.out))
           rintro e w17 ⟨rfl, hi, hb, hk⟩
           refine ⟨_, rfl, ?_⟩
           replace BK341:=zM (KeepBut.blk hk (g' := gb341) (o := .cells #[.int .i64 0, .int .i64 0, .int .i64 0] 25 (0, 0)) (q5 BK341.out) NB341_0.out (by simp))
           replace HO344:=zM (Kd.R_mono (Kd.R_keep (IsS73.apart (show IsS73 w0 _ g s0_0 t346 from (q15 HI0.out NB0_341.out NB0_350.out)) (q3 HO344.out) (by decide)) hk (fun _ h => h.2)) (fun _ h => h.1))
           replace BK350:=zM (KeepBut.blk hk (g' := gb350) (o := .cells #[.int .i64 0, .int .i64 0, .int .i64 0] 25 (0, 0)) (q5 BK350.out) NB350_0.out (by simp))
           replace HK:=zM (KeepBut.trans (q16 HK.out GW341.out GW350.out) hk (.inl rfl))
           replace HB:=zM (hb)
           replace HI0:=zM (hi)
           (try clear hb)
           (try clear hb2)
           (try clear hk)
           (try clear hi)
           refine hK.out _ _ trivial (fun hHeld => ?_)
           clear hK K
           refine norm_ (a' := ?_) ?_ ?_
           rotate_left
           ·show Act.put _ (some 12) _ = _
            simp only [Act.put, zE, zF, zG, i64_w, i32_w]
            rfl
           refine zp 7 (some 13) (zL 13 2287) HT_ ?_
           refine zp 8 (some 14) (zL 13 2543) HT_ ?_
           exact norm_ (by first | (simp only [putAll, Act.put, zE, zF, zG]; done) | (simp only [putAll, Act.put, zE, zF, zG]; rfl)) (hJ0_2_6_11 (.slice (some adz_v343) y342.length co16, adz_v343, gb350) _ ⟨(q3 HO344.out), ⟨_, rfl⟩, (q5 BK341.out), (q5 BK350.out), GW350.out, GE350.out, NB0_350.out, NB350_0.out, NB341_350.out, NB350_341.out, (q15 HI0.out NB0_341.out NB0_350.out), (q16 HK.out GW341.out GW350.out), (q17 HB.out HI0.out GE341.out GE350.out)⟩)
        ·skip
         rintro ⟨v343, adz_v343⟩ w15 ⟨h0_, h1_, h2_, h3_, h4_, h5_⟩
         have HO344 : Aside0 (Kd.R (Kd.int .i64) 3 w15 w.heap.size (fun _ => True) v343 y342) := ⟨h0_⟩
         have HA_HO344 : Aside0 (∃ c_, (v343 : Value) = .slice (some adz_v343) y342.length c_) := ⟨h1_⟩
         replace BK341 : Aside0 (w15.heap[gb341]? = some (.cells #[.int .i64 0, .int .i64 0, .int .i64 0] 25 (0, 0))) := ⟨h2_⟩
         replace HI0 : Aside0 (IsS73 w0 w15 g s0_0 t349) := ⟨h3_⟩
         replace HK : Aside0 (KeepBut w w15 g none) := ⟨h4_⟩
         replace HB : Aside0 (Below w0.heap.size w0 w15) := ⟨h5_⟩
         clear h0_ h1_ h2_ h3_ h4_ h5_
         have hHeld := trivial
         obtain ⟨co16, eo16⟩ := HA_HO344.out
         clear HA_HO344
         subst eo16
         refine norm_ (a' := ?_) ?_ ?_
         rotate_left
         ·simp only [putAll, Act.put, zE, zF, zG]
          rfl
         refine two_ (i := 4) (j := 11) (Ni := some 10) (Nj := some 5) (zL 13 511) (zL 13 2543) rfl rfl rfl rfl (two_of HT_.out (by kernel_rfl)) (by decide) (by decide) (fun K hK => ?_) (fun K hK => ?_)
         ·skip
          (have p347 : 0 ≤ (t345 : Int) := of_decide_eq_true (by first | (with_reducible assumption) | assumption); have q347 : t345 < (y342.length : Int) := of_decide_eq_true (by first | (with_reducible assumption) | assumption); obtain ⟨ad347, e347, hx347_0⟩ := Kd.at_int (Kd.R_reads' HO344.out).2.2 t345 p347 q347; obtain rfl : adz_v343 = ad347 := (by injection e347))
          refine value_ (w1 := ?_) (v := ?_) (by rfl) rfl ?_ ?_
          rotate_left 2
          ·go_simp
           constructor
           ·rfl
           ·rfl
          clear hx347_0
          refine hK.out _ _ trivial (fun hHeld => ?_)
          clear hK K
          refine norm_ (a' := ?_) ?_ ?_
          rotate_left
          ·show Act.put _ (some 10) _ = _
           simp only [Act.put, zE, zF, zG, i64_w, i32_w]
           rfl
          refine zp 9 (some 15) (zL 13 1023) HT_ ?_
          refine zp 10 (some 16) (zL 13 2047) HT_ ?_
          exact norm_ (by first | (simp only [putAll, Act.put, zE, zF, zG]; done) | (simp only [putAll, Act.put, zE, zF, zG]; rfl)) (hJ0_2_4_6 (.slice (some adz_v343) y342.length co16, adz_v343) _ ⟨(q3 HO344.out), ⟨_, rfl⟩, (q5 BK341.out), (q10 HI0.out NB0_341.out), (q11 HK.out GW341.out), (q14 HB.out HI0.out GE341.out)⟩)
         ·skip
          refine box_step q0 (N := 5) q0 (cs := #[.int .i64 0, .int .i64 0, .int .i64 0]) (t := 25) q1 ?_
          intro gb350 hg w17 hbox hb
          replace HO344:=zM (Kd.R_below (q3 HO344.out) hb)
          replace HB:=zM (below_step (q14 HB.out HI0.out GE341.out) hb)
          have BK350:=zM (hbox)
          have GW350:=zM ((by rw [hg]; exact (keep_size (w := w) (g := g) (row := none) (q11 HK.out GW341.out)) : w.heap.size ≤ gb350))
          have GE350:=zM ((Nat.le_trans HW0.out (by rw [hg]; exact (keep_size (w := w) (g := g) (row := none) (q11 HK.out GW341.out)) : w.heap.size ≤ gb350) : w0.heap.size ≤ gb350))
          replace HK:=zM (KeepBut.trans (q11 HK.out GW341.out) (KeepBut.of_below hb g none) (.inl rfl))
          have NB341_350:=zM ((by rw [hg]; exact Nat.ne_of_lt (blk_lt (g := gb341) (o := .cells #[.int .i64 0, .int .i64 0, .int .i64 0] 25 (0, 0)) (q5 BK341.out)) : gb341 ≠ gb350))
          have NB350_341:=zM ((by rw [hg]; exact Nat.ne_of_gt (blk_lt (g := gb341) (o := .cells #[.int .i64 0, .int .i64 0, .int .i64 0] 25 (0, 0)) (q5 BK341.out)) : gb350 ≠ gb341))
          replace BK341:=zM (blk_below (g := gb341) (o := .cells #[.int .i64 0, .int .i64 0, .int .i64 0] 25 (0, 0)) (q5 BK341.out) hb)
          have NB0_350:=zM ((by rw [hg]; exact Nat.ne_of_lt (IsS73.lt (show IsS73 w0 _ g s0_0 t349 from (q10 HI0.out NB0_341.out))) : g ≠ gb350))
          have NB350_0:=zM ((by rw [hg]; exact Nat.ne_of_gt (IsS73.lt (show IsS73 w0 _ g s0_0 t349 from (q10 HI0.out NB0_341.out))) : gb350 ≠ g))
          replace HI0:=zM (IsS73.below (q10 HI0.out NB0_341.out) hb)
          clear hb hbox hg
          refine hK.out _ _ trivial (fun hHeld => ?_)
          clear hK K
          refine norm_ (a' := ?_) ?_ ?_
          rotate_left
          ·show Act.put _ (some 5) _ = _
           simp only [Act.put, zE, zF, zG, i64_w, i32_w]
           rfl
          exact norm_ (by first | (simp only [putAll, Act.put, zE, zF, zG]; done) | (simp only [putAll, Act.put, zE, zF, zG]; rfl)) (hJ0_2_6_11 (.slice (some adz_v343) y342.length co16, adz_v343, gb350) _ ⟨(q3 HO344.out), ⟨_, rfl⟩, (q5 BK341.out), (q5 BK350.out), GW350.out, GE350.out, NB0_350.out, NB350_0.out, NB341_350.out, NB350_341.out, (q15 HI0.out NB0_341.out NB0_350.out), (q16 HK.out GW341.out GW350.out), (q17 HB.out HI0.out GE341.out GE350.out)⟩)
       ·skip
        rintro ⟨v343, adz_v343⟩ w14 ⟨h0_, h1_, h2_, h3_, h4_, h5_⟩
        have HO344 : Aside0 (Kd.R (Kd.int .i64) 3 w14 w.heap.size (fun _ => True) v343 y342) := ⟨h0_⟩
        have HA_HO344 : Aside0 (∃ c_, (v343 : Value) = .slice (some adz_v343) y342.length c_) := ⟨h1_⟩
        replace BK341 : Aside0 (w14.heap[gb341]? = some (.cells #[.int .i64 0, .int .i64 0, .int .i64 0] 25 (0, 0))) := ⟨h2_⟩
        replace HI0 : Aside0 (IsS73 w0 w14 g s0_0 t346) := ⟨h3_⟩
        replace HK : Aside0 (KeepBut w w14 g none) := ⟨h4_⟩
        replace HB : Aside0 (Below w0.heap.size w0 w14) := ⟨h5_⟩
        clear h0_ h1_ h2_ h3_ h4_ h5_
        have hHeld := trivial
        obtain ⟨co15, eo15⟩ := HA_HO344.out
        clear HA_HO344
        subst eo15
        refine norm_ (a' := ?_) ?_ ?_
        rotate_left
        ·simp only [putAll, Act.put, zE, zF, zG]
         rfl
        refine two_ (i := 6) (j := 11) (Ni := some 12) (Nj := some 5) (zL 13 127) (zL 13 2111) rfl rfl rfl rfl (two_of HT_.out (by kernel_rfl)) (by decide) (by decide) (fun K hK => ?_) (fun K hK => ?_)
        ·skip
         refine goes_ Tryd.func43 (by kernel_rfl) rfl #[.pointer (some ⟨g, 0, none⟩), .int .i64 60] (by rfl) rfl rfl (by (try simp only [List.map_toArray, List.map_cons, List.map_nil]); first | done | rfl | (simp only [List.length_drop, List.length_take]; rfl)) ?_
         with_reducible refine (spec_l20Rd_pick.calls k g s0_0 t346 60 t348 t349 w0 _ ?side1 ?side2 A6.out).mono ?_
         (case side1 => exact (q10 HI0.out NB0_341.out))
         (case side2 => exact (q14 HB.out HI0.out GE341.out))
         rintro e w16 ⟨rfl, hi, hb, hk⟩
         refine ⟨_, rfl, ?_⟩
         replace BK341:=zM (KeepBut.blk hk (g' := gb341) (o := .cells #[.int .i64 0, .int .i64 0, .int .i64 0] 25 (0, 0)) (q5 BK341.out) NB341_0.out (by simp))
         replace HO344:=zM (Kd.R_mono (Kd.R_keep (IsS73.apart (show IsS73 w0 _ g s0_0 t346 from (q10 HI0.out NB0_341.out)) (q3 HO344.out) (by decide)) hk (fun _ h => h.2)) (fun _ h => h.1))
         replace HK:=zM (KeepBut.trans (q11 HK.out GW341.out) hk (.inl rfl))
         replace HB:=zM (hb)
         replace HI0:=zM (hi)
         (try clear hb)
         (try clear hb2)
         (try clear hk)
         (try clear hi)
         refine hK.out _ _ trivial (fun hHeld => ?_)
         clear hK K
         refine norm_ (a' := ?_) ?_ ?_
         rotate_left
         ·show Act.put _ (some 12) _ = _
          simp only [Act.put, zE, zF, zG, i64_w, i32_w]
          rfl
         refine zp 7 (some 13) (zL 13 255) HT_ ?_
         refine zp 8 (some 14) (zL 13 511) HT_ ?_
         refine zp 9 (some 15) (zL 13 1023) HT_ ?_
         refine zp 10 (some 16) (zL 13 2047) HT_ ?_
         exact norm_ (by first | (simp only [putAll, Act.put, zE, zF, zG]; done) | (simp only [putAll, Act.put, zE, zF, zG]; rfl)) (hJ0_2_4_6 (.slice (some adz_v343) y342.length co15, adz_v343) _ ⟨(q3 HO344.out), ⟨_, rfl⟩, (q5 BK341.out), (q10 HI0.out NB0_341.out), (q11 HK.out GW341.out), (q14 HB.out HI0.out GE341.out)⟩)
        ·skip
         refine box_step q0 (N := 5) q0 (cs := #[.int .i64 0, .int .i64 0, .int .i64 0]) (t := 25) q1 ?_
         intro gb350 hg w16 hbox hb
         replace HO344:=zM (Kd.R_below (q3 HO344.out) hb)
         replace HB:=zM (below_step (q14 HB.out HI0.out GE341.out) hb)
         have BK350:=zM (hbox)
         have GW350:=zM ((by rw [hg]; exact (keep_size (w := w) (g := g) (row := none) (q11 HK.out GW341.out)) : w.heap.size ≤ gb350))
         have GE350:=zM ((Nat.le_trans HW0.out (by rw [hg]; exact (keep_size (w := w) (g := g) (row := none) (q11 HK.out GW341.out)) : w.heap.size ≤ gb350) : w0.heap.size ≤ gb350))
         replace HK:=zM (KeepBut.trans (q11 HK.out GW341.out) (KeepBut.of_below hb g none) (.inl rfl))
         have NB341_350:=zM ((by rw [hg]; exact Nat.ne_of_lt (blk_lt (g := gb341) (o := .cells #[.int .i64 0, .int .i64 0, .int .i64 0] 25 (0, 0)) (q5 BK341.out)) : gb341 ≠ gb350))
         have NB350_341:=zM ((by rw [hg]; exact Nat.ne_of_gt (blk_lt (g := gb341) (o := .cells #[.int .i64 0, .int .i64 0, .int .i64 0] 25 (0, 0)) (q5 BK341.out)) : gb350 ≠ gb341))
         replace BK341:=zM (blk_below (g := gb341) (o := .cells #[.int .i64 0, .int .i64 0, .int .i64 0] 25 (0, 0)) (q5 BK341.out) hb)
         have NB0_350:=zM ((by rw [hg]; exact Nat.ne_of_lt (IsS73.lt (show IsS73 w0 _ g s0_0 t346 from (q10 HI0.out NB0_341.out))) : g ≠ gb350))
         have NB350_0:=zM ((by rw [hg]; exact Nat.ne_of_gt (IsS73.lt (show IsS73 w0 _ g s0_0 t346 from (q10 HI0.out NB0_341.out))) : gb350 ≠ g))
         replace HI0:=zM (IsS73.below (q10 HI0.out NB0_341.out) hb)
         clear hb hbox hg
         refine hK.out _ _ trivial (fun hHeld => ?_)
         clear hK K
         refine norm_ (a' := ?_) ?_ ?_
         rotate_left
         ·show Act.put _ (some 5) _ = _
          simp only [Act.put, zE, zF, zG, i64_w, i32_w]
          rfl
         exact norm_ (by first | (simp only [putAll, Act.put, zE, zF, zG]; done) | (simp only [putAll, Act.put, zE, zF, zG]; rfl)) (hJ0_2_4_11 (.slice (some adz_v343) y342.length co15, adz_v343, gb350) _ ⟨(q3 HO344.out), ⟨_, rfl⟩, (q5 BK341.out), (q5 BK350.out), GW350.out, GE350.out, NB0_350.out, NB350_0.out, NB341_350.out, NB350_341.out, (q15 HI0.out NB0_341.out NB0_350.out), (q16 HK.out GW341.out GW350.out), (q17 HB.out HI0.out GE341.out GE350.out)⟩)
      ·skip
       rintro ⟨v343, adz_v343, gb350⟩ w16 ⟨h0_, h1_, h2_, h3_, h4_, h5_, h6_, h7_, h8_, h9_, h10_, h11_, h12_⟩
       have HO344 : Aside0 (Kd.R (Kd.int .i64) 3 w16 w.heap.size (fun _ => True) v343 y342) := ⟨h0_⟩
       have HA_HO344 : Aside0 (∃ c_, (v343 : Value) = .slice (some adz_v343) y342.length c_) := ⟨h1_⟩
       replace BK341 : Aside0 (w16.heap[gb341]? = some (.cells #[.int .i64 0, .int .i64 0, .int .i64 0] 25 (0, 0))) := ⟨h2_⟩
       have BK350 : Aside0 (w16.heap[gb350]? = some (.cells #[.int .i64 0, .int .i64 0, .int .i64 0] 25 (0, 0))) := ⟨h3_⟩
       have GW350 : Aside0 (w.heap.size ≤ gb350) := ⟨h4_⟩
       have GE350 : Aside0 (w0.heap.size ≤ gb350) := ⟨h5_⟩
       have NB0_350 : Aside0 (g ≠ gb350) := ⟨h6_⟩
       have NB350_0 : Aside0 (gb350 ≠ g) := ⟨h7_⟩
       have NB341_350 : Aside0 (gb341 ≠ gb350) := ⟨h8_⟩
       have NB350_341 : Aside0 (gb350 ≠ gb341) := ⟨h9_⟩
       replace HI0 : Aside0 (IsS73 w0 w16 g s0_0 t349) := ⟨h10_⟩
       replace HK : Aside0 (KeepBut w w16 g none) := ⟨h11_⟩
       replace HB : Aside0 (Below w0.heap.size w0 w16) := ⟨h12_⟩
       clear h0_ h1_ h2_ h3_ h4_ h5_ h6_ h7_ h8_ h9_ h10_ h11_ h12_
       have hHeld := trivial
       obtain ⟨co17, eo17⟩ := HA_HO344.out
       clear HA_HO344
       subst eo17
       refine norm_ (a' := ?_) ?_ ?_
       rotate_left
       ·simp only [putAll, Act.put, zE, zF, zG]
        rfl
       refine one_ (i := 4) (N := some 10) (zL 13 2559) rfl rfl (one_of HT_.out (by kernel_rfl)) (by decide) (fun K hK => ?_)
       (have p347 : 0 ≤ (t345 : Int) := of_decide_eq_true (by first | (with_reducible assumption) | assumption); have q347 : t345 < (y342.length : Int) := of_decide_eq_true (by first | (with_reducible assumption) | assumption); obtain ⟨ad347, e347, hx347_0⟩ := Kd.at_int (Kd.R_reads' HO344.out).2.2 t345 p347 q347; obtain rfl : adz_v343 = ad347 := (by injection e347))
       refine value_ (w1 := ?_) (v := ?_) (by rfl) rfl ?_ ?_
       rotate_left 2
       ·go_simp
        constructor
        ·rfl
        ·rfl
       clear hx347_0
       refine hK.out _ _ trivial (fun hHeld => ?_)
       clear hK K
       refine norm_ (a' := ?_) ?_ ?_
       rotate_left
       ·show Act.put _ (some 10) _ = _
        simp only [Act.put, zE, zF, zG, i64_w, i32_w]
        rfl
       refine zp 9 (some 15) (zL 13 3071) HT_ ?_
       refine zp 10 (some 16) (zL 13 4095) HT_ ?_
       exact norm_ (by first | (simp only [putAll, Act.put, zE, zF, zG]; done) | (simp only [putAll, Act.put, zE, zF, zG]; rfl)) (hJ0_2_4_6_11 (.slice (some adz_v343) y342.length co17, adz_v343, gb350) _ ⟨(q3 HO344.out), ⟨_, rfl⟩, (q5 BK341.out), (q5 BK350.out), GW350.out, GE350.out, NB0_350.out, NB350_0.out, NB341_350.out, NB350_341.out, (q15 HI0.out NB0_341.out NB0_350.out), (q16 HK.out GW341.out GW350.out), (q17 HB.out HI0.out GE341.out GE350.out)⟩)
     ·skip
      rintro ⟨v343, adz_v343, gb350⟩ w15 ⟨h0_, h1_, h2_, h3_, h4_, h5_, h6_, h7_, h8_, h9_, h10_, h11_, h12_⟩
      have HO344 : Aside0 (Kd.R (Kd.int .i64) 3 w15 w.heap.size (fun _ => True) v343 y342) := ⟨h0_⟩
      have HA_HO344 : Aside0 (∃ c_, (v343 : Value) = .slice (some adz_v343) y342.length c_) := ⟨h1_⟩
      replace BK341 : Aside0 (w15.heap[gb341]? = some (.cells #[.int .i64 0, .int .i64 0, .int .i64 0] 25 (0, 0))) := ⟨h2_⟩
      have BK350 : Aside0 (w15.heap[gb350]? = some (.cells #[.int .i64 0, .int .i64 0, .int .i64 0] 25 (0, 0))) := ⟨h3_⟩
      have GW350 : Aside0 (w.heap.size ≤ gb350) := ⟨h4_⟩
      have GE350 : Aside0 (w0.heap.size ≤ gb350) := ⟨h5_⟩
      have NB0_350 : Aside0 (g ≠ gb350) := ⟨h6_⟩
      have NB350_0 : Aside0 (gb350 ≠ g) := ⟨h7_⟩
      have NB341_350 : Aside0 (gb341 ≠ gb350) := ⟨h8_⟩
      have NB350_341 : Aside0 (gb350 ≠ gb341) := ⟨h9_⟩
      replace HI0 : Aside0 (IsS73 w0 w15 g s0_0 t346) := ⟨h10_⟩
      replace HK : Aside0 (KeepBut w w15 g none) := ⟨h11_⟩
      replace HB : Aside0 (Below w0.heap.size w0 w15) := ⟨h12_⟩
      clear h0_ h1_ h2_ h3_ h4_ h5_ h6_ h7_ h8_ h9_ h10_ h11_ h12_
      have hHeld := trivial
      obtain ⟨co16, eo16⟩ := HA_HO344.out
      clear HA_HO344
      subst eo16
      refine norm_ (a' := ?_) ?_ ?_
      rotate_left
      ·simp only [putAll, Act.put, zE, zF, zG]
       rfl
      refine one_ (i := 6) (N := some 12) (zL 13 2175) rfl rfl (one_of HT_.out (by kernel_rfl)) (by decide) (fun K hK => ?_)
      refine goes_ Tryd.func43 (by kernel_rfl) rfl #[.pointer (some ⟨g, 0, none⟩), .int .i64 60] (by rfl) rfl rfl (by (try simp only [List.map_toArray, List.map_cons, List.map_nil]); first | done | rfl | (simp only [List.length_drop, List.length_take]; rfl)) ?_
      with_reducible refine (spec_l20Rd_pick.calls k g s0_0 t346 60 t348 t349 w0 _ ?side1 ?side2 A6.out).mono ?_
      (case side1 => exact (q15 HI0.out NB0_341.out NB0_350.out))
      (case side2 => exact (q17 HB.out HI0.out GE341.out GE350.out))
      rintro e w17 ⟨rfl, hi, hb, hk⟩
      refine ⟨_, rfl, ?_⟩
      replace BK341:=zM (KeepBut.blk hk (g' := gb341) (o := .cells #[.int .i64 0, .int .i64 0, .int .i64 0] 25 (0, 0)) (q5 BK341.out) NB341_0.out (by simp))
      replace HO344:=zM (Kd.R_mono (Kd.R_keep (IsS73.apart (show IsS73 w0 _ g s0_0 t346 from (q15 HI0.out NB0_341.out NB0_350.out)) (q3 HO344.out) (by decide)) hk (fun _ h => h.2)) (fun _ h => h.1))
      replace BK350:=zM (KeepBut.blk hk (g' := gb350) (o := .cells #[.int .i64 0, .int .i64 0, .int .i64 0] 25 (0, 0)) (q5 BK350.out) NB350_0.out (by simp))
      replace HK:=zM (KeepBut.trans (q16 HK.out GW341.out GW350.out) hk (.inl rfl))
      replace HB:=zM (hb)
      replace HI0:=zM (hi)
      (try clear hb)
      (try clear hb2)
      (try clear hk)
      (try clear hi)
      refine hK.out _ _ trivial (fun hHeld => ?_)
      clear hK K
      refine norm_ (a' := ?_) ?_ ?_
      rotate_left
      ·show Act.put _ (some 12) _ = _
       simp only [Act.put, zE, zF, zG, i64_w, i32_w]
       rfl
      refine zp 7 (some 13) (zL 13 2303) HT_ ?_
      refine zp 8 (some 14) (zL 13 2559) HT_ ?_
      refine zp 9 (some 15) (zL 13 3071) HT_ ?_
      refine zp 10 (some 16) (zL 13 4095) HT_ ?_
      exact norm_ (by first | (simp only [putAll, Act.put, zE, zF, zG]; done) | (simp only [putAll, Act.put, zE, zF, zG]; rfl)) (hJ0_2_4_6_11 (.slice (some adz_v343) y342.length co16, adz_v343, gb350) _ ⟨(q3 HO344.out), ⟨_, rfl⟩, (q5 BK341.out), (q5 BK350.out), GW350.out, GE350.out, NB0_350.out, NB350_0.out, NB341_350.out, NB350_341.out, (q15 HI0.out NB0_341.out NB0_350.out), (q16 HK.out GW341.out GW350.out), (q17 HB.out HI0.out GE341.out GE350.out)⟩)
    ·skip
     rintro ⟨v343, adz_v343⟩ w15 ⟨h0_, h1_, h2_, h3_, h4_, h5_⟩
     have HO344 : Aside0 (Kd.R (Kd.int .i64) 3 w15 w.heap.size (fun _ => True) v343 y342) := ⟨h0_⟩
     have HA_HO344 : Aside0 (∃ c_, (v343 : Value) = .slice (some adz_v343) y342.length c_) := ⟨h1_⟩
     replace BK341 : Aside0 (w15.heap[gb341]? = some (.cells #[.int .i64 0, .int .i64 0, .int .i64 0] 25 (0, 0))) := ⟨h2_⟩
     replace HI0 : Aside0 (IsS73 w0 w15 g s0_0 t349) := ⟨h3_⟩
     replace HK : Aside0 (KeepBut w w15 g none) := ⟨h4_⟩
     replace HB : Aside0 (Below w0.heap.size w0 w15) := ⟨h5_⟩
     clear h0_ h1_ h2_ h3_ h4_ h5_
     have hHeld := trivial
     obtain ⟨co16, eo16⟩ := HA_HO344.out
     clear HA_HO344
     subst eo16
     refine norm_ (a' := ?_) ?_ ?_
     rotate_left
     ·simp only [putAll, Act.put, zE, zF, zG]
      rfl
     refine one_ (i := 11) (N := some 5) (zL 13 4095) rfl rfl (one_of HT_.out (by kernel_rfl)) (by decide) (fun K hK => ?_)
     refine box_step q0 (N := 5) q0 (cs := #[.int .i64 0, .int .i64 0, .int .i64 0]) (t := 25) q1 ?_
     intro gb350 hg w17 hbox hb
     replace HO344:=zM (Kd.R_below (q3 HO344.out) hb)
     replace HB:=zM (below_step (q14 HB.out HI0.out GE341.out) hb)
     have BK350:=zM (hbox)
     have GW350:=zM ((by rw [hg]; exact (keep_size (w := w) (g := g) (row := none) (q11 HK.out GW341.out)) : w.heap.size ≤ gb350))
     have GE350:=zM ((Nat.le_trans HW0.out (by rw [hg]; exact (keep_size (w := w) (g := g) (row := none) (q11 HK.out GW341.out)) : w.heap.size ≤ gb350) : w0.heap.size ≤ gb350))
     replace HK:=zM (KeepBut.trans (q11 HK.out GW341.out) (KeepBut.of_below hb g none) (.inl rfl))
     have NB341_350:=zM ((by rw [hg]; exact Nat.ne_of_lt (blk_lt (g := gb341) (o := .cells #[.int .i64 0, .int .i64 0, .int .i64 0] 25 (0, 0)) (q5 BK341.out)) : gb341 ≠ gb350))
     have NB350_341:=zM ((by rw [hg]; exact Nat.ne_of_gt (blk_lt (g := gb341) (o := .cells #[.int .i64 0, .int .i64 0, .int .i64 0] 25 (0, 0)) (q5 BK341.out)) : gb350 ≠ gb341))
     replace BK341:=zM (blk_below (g := gb341) (o := .cells #[.int .i64 0, .int .i64 0, .int .i64 0] 25 (0, 0)) (q5 BK341.out) hb)
     have NB0_350:=zM ((by rw [hg]; exact Nat.ne_of_lt (IsS73.lt (show IsS73 w0 _ g s0_0 t349 from (q10 HI0.out NB0_341.out))) : g ≠ gb350))
     have NB350_0:=zM ((by rw [hg]; exact Nat.ne_of_gt (IsS73.lt (show IsS73 w0 _ g s0_0 t349 from (q10 HI0.out NB0_341.out))) : gb350 ≠ g))
     replace HI0:=zM (IsS73.below (q10 HI0.out NB0_341.out) hb)
     clear hb hbox hg
     refine hK.out _ _ trivial (fun hHeld => ?_)
     clear hK K
     refine norm_ (a' := ?_) ?_ ?_
     rotate_left
     ·show Act.put _ (some 5) _ = _
      simp only [Act.put, zE, zF, zG, i64_w, i32_w]
      rfl
     exact norm_ (by first | (simp only [putAll, Act.put, zE, zF, zG]; done) | (simp only [putAll, Act.put, zE, zF, zG]; rfl)) (hJ0_2_4_6_11 (.slice (some adz_v343) y342.length co16, adz_v343, gb350) _ ⟨(q3 HO344.out), ⟨_, rfl⟩, (q5 BK341.out), (q5 BK350.out), GW350.out, GE350.out, NB0_350.out, NB350_0.out, NB341_350.out, NB350_341.out, (q15 HI0.out NB0_341.out NB0_350.out), (q16 HK.out GW341.out GW350.out), (q17 HB.out HI0.out GE341.out GE350.out)⟩)
   rintro ⟨v343, adz_v343, gb350⟩ w16 ⟨h0_, h1_, h2_, h3_, h4_, h5_, h6_, h7_, h8_, h9_, h10_, h11_, h12_⟩
   have HO344 : Aside0 (Kd.R (Kd.int .i64) 3 w16 w.heap.size (fun _ => True) v343 y342) := ⟨h0_⟩
   have HA_HO344 : Aside0 (∃ c_, (v343 : Value) = .slice (some adz_v343) y342.length c_) := ⟨h1_⟩
   replace BK341 : Aside0 (w16.heap[gb341]? = some (.cells #[.int .i64 0, .int .i64 0, .int .i64 0] 25 (0, 0))) := ⟨h2_⟩
   have BK350 : Aside0 (w16.heap[gb350]? = some (.cells #[.int .i64 0, .int .i64 0, .int .i64 0] 25 (0, 0))) := ⟨h3_⟩
   have GW350 : Aside0 (w.heap.size ≤ gb350) := ⟨h4_⟩
   have GE350 : Aside0 (w0.heap.size ≤ gb350) := ⟨h5_⟩
   have NB0_350 : Aside0 (g ≠ gb350) := ⟨h6_⟩
   have NB350_0 : Aside0 (gb350 ≠ g) := ⟨h7_⟩
   have NB341_350 : Aside0 (gb341 ≠ gb350) := ⟨h8_⟩
   have NB350_341 : Aside0 (gb350 ≠ gb341) := ⟨h9_⟩
   replace HI0 : Aside0 (IsS73 w0 w16 g s0_0 t349) := ⟨h10_⟩
   replace HK : Aside0 (KeepBut w w16 g none) := ⟨h11_⟩
   replace HB : Aside0 (Below w0.heap.size w0 w16) := ⟨h12_⟩
   clear h0_ h1_ h2_ h3_ h4_ h5_ h6_ h7_ h8_ h9_ h10_ h11_ h12_
   have hHeld := trivial
   obtain ⟨co17, eo17⟩ := HA_HO344.out
   clear HA_HO344
   subst eo17
   refine norm_ (a' := ?_) ?_ ?_
   rotate_left
   ·simp only [putAll, Act.put, zE, zF, zG]
    rfl
   refine one_ (i := 12) (N := none) (zL 13 8191) rfl rfl (one_of HT_.out (by kernel_rfl)) (by decide) (fun K hK => ?_)
   have hs18 : w16.cell? ⟨gb350, 0, none⟩ = some (.int .i64 0) := (blk_cell BK350.out 0).trans rfl
   have hfs18 := blk_frozen BK350.out 0
   have hns18_0 := NB341_350.out
   have hms18_0 := NB350_341.out
   have hs19 : w16.cell? ⟨gb350, 1, none⟩ = some (.int .i64 0) := (blk_cell BK350.out 1).trans rfl
   have hfs19 := blk_frozen BK350.out 1
   have hns19_0 := NB341_350.out
   have hms19_0 := NB350_341.out
   have hs20 : w16.cell? ⟨gb350, 2, none⟩ = some (.int .i64 0) := (blk_cell BK350.out 2).trans rfl
   have hfs20 := blk_frozen BK350.out 2
   have hns20_0 := NB341_350.out
   have hms20_0 := NB350_341.out
   refine skip_ (w1 := ?_) (by rfl) rfl ?_ ?_
   rotate_left
   ·go_simp
    rfl
   refine hK.out _ _ trivial (fun hHeld => ?_)
   clear hK K
   refine done_ (done_of HT_.out (by kernel_rfl)) ?_
   have hnb21 := NB350_341.out
   have hnc21 := NB341_350.out
   have hnb22 := NB350_0.out
   have hnc22 := NB0_350.out
   have hcz23_0 : w16.cell? ⟨gb350, 0, none⟩ = some (.int .i64 0) := (blk_cell BK350.out 0).trans rfl
   have hcz23_1 : w16.cell? ⟨gb350, 1, none⟩ = some (.int .i64 0) := (blk_cell BK350.out 1).trans rfl
   have hcz23_2 : w16.cell? ⟨gb350, 2, none⟩ = some (.int .i64 0) := (blk_cell BK350.out 2).trans rfl
   have hfz23_0 := blk_frozen BK350.out 0
   have hfz23_1 := blk_frozen BK350.out 1
   have hfz23_2 := blk_frozen BK350.out 2
   go_upto_block 0 with (fail)
   go_cut [] (fun wc => ∃ (kq : Nat) (x1001_6 : Int) (x351001_6 : Int) (x351002_6 : Int), Aside0 (spec_l20Deed.j0 kq s0_0 x1001_6 (wrap64 ((rd y342 t345) + (wrap64 ((wrap64 (Int.tdiv t348 59)) * 6)))) x351001_6 x351002_6 = some (r1, r2, r3, r4)) ∧ Aside0 (kq ≤ k) ∧ Aside0 (wc.heap[gb341]? = some (.cells #[.int .i64 0, .int .i64 0, .int .i64 0] 25 (0, 0))) ∧ Aside0 (wc.heap[gb350]? = some (.cells #[.int .i64 (wrap64 ((rd y342 t345) + (wrap64 ((wrap64 (Int.tdiv t348 59)) * 6)))), .int .i64 x351001_6, .int .i64 x351002_6] 25 (0, 0))) ∧ Aside0 (IsS73 w0 wc g s0_0 x1001_6) ∧ Aside0 (KeepBut w wc g none) ∧ Aside0 (Below w0.heap.size w0 wc))
   case first =>
    have H := HC7.out
    clear HC7
    by_cases c24 : (wrap64 ((rd y342 t345) + (wrap64 ((wrap64 (Int.tdiv t348 59)) * 6)))) = 0
    ·rw [if_pos c24] at H
     have c24b0 : ((wrap64 ((rd y342 t345) + (wrap64 ((wrap64 (Int.tdiv t348 59)) * 6)))) == 0) = true := beq_iff_eq.mpr c24
     have c24b1 : ((wrap64 ((rd y342 t345) + (wrap64 ((wrap64 (Int.tdiv t348 59)) * 6)))) != 0) = false := bne_eq_false_iff_eq.mpr c24
     clear c24
     (first | rw [c24b0] | (simp only [i64_w, i32_w]; rw [c24b0]) | skip)
     obtain ⟨ji25, hji25⟩ : ∃ j_ : Int, (mx (l1.length : Int) 1) = j_ := ⟨_, rfl⟩
     replace H : ((spec_l20Rd_pick.f k s0_0 t349 (ji25)).bind fun bt351 => ((spec_l20Rd_pick.f k s0_0 bt351.2 (wrap64 ((l1.length : Int) + 1))).bind fun bt353 => (spec_l20Deed.j0 k s0_0 bt353.2 (wrap64 ((rd y342 t345) + (wrap64 ((wrap64 (Int.tdiv t348 59)) * 6)))) (wrap64 (1 + bt351.1)) bt353.1))) = some (r1, r2, r3, r4) := by first | (rw [hji25] at H; exact H) | (simp only [hji25] at H ⊢; exact H)
     (try (have hji25l : 1 ≤ ji25 := by (rw [← hji25]; unfold mx; (repeat' split) <;> omega)))
     (try (have hji25m : 0 ≤ ji25 := by omega))
     have hji25_ : (if (l1.length : Int) < 1 then 1 else (l1.length : Int)) = ji25 := hji25
     obtain ⟨⟨t351, t352⟩, A26, H⟩ := zb H; try dsimp only at H
     obtain ⟨⟨t353, t354⟩, A27, H⟩ := zb H; try dsimp only at H
     have H':=zM H
     clear H
     go_wp2_with (first | (refine zg 43 (some 25) Tryd.func43 #[.pointer (some ⟨g, 0, none⟩), .int .i64 ji25] ?_ (hargs := by (try simp only [List.map_toArray, List.map_cons, List.map_nil]); first | done | (simp only [hji25]; rfl) | rfl); (with_reducible refine (spec_l20Rd_pick.calls k g s0_0 t349 ji25 t351 t352 w0 _ ?side1 ?side2 A26.out).mono ?_); (case side1 => exact (q15 HI0.out NB0_341.out NB0_350.out)); (case side2 => exact (q17 HB.out HI0.out GE341.out GE350.out)); rintro e w28 ⟨rfl, hi, hb, hk⟩; refine ⟨_, rfl, ?_⟩; replace BK341:=zM (KeepBut.blk hk (g' := gb341) (o := .cells #[.int .i64 0, .int .i64 0, .int .i64 0] 25 (0, 0)) (by refine blk_far ?_ NB341_350.out _; refine blk_far ?_ NB341_350.out _; refine blk_far ?_ NB341_350.out _; exact BK341.out) NB341_0.out (by simp)); replace HO344:=zM (Kd.R_mono (Kd.R_keep (IsS73.apart (show IsS73 w0 _ g s0_0 t349 from (q15 HI0.out NB0_341.out NB0_350.out)) (by (with_reducible repeat (first | apply Kd.R_alloc | apply Kd.R_drewN | apply Kd.R_drew)); exact (Kd.R_mono (Kd.R_far (p := ⟨gb350, 2, none⟩) (Kd.R_far (p := ⟨gb350, 1, none⟩) (Kd.R_far (p := ⟨gb350, 0, none⟩) (Kd.R_types HO344.out BK350.out (by decide)) (fun _ hk => hk.2) (.int .i64 (wrap64 ((rd y342 t345) + (wrap64 ((wrap64 (Int.tdiv t348 59)) * 6)))))) (fun _ hk => hk.2) (.int .i64 0)) (fun _ hk => hk.2) (.int .i64 0)) (fun _ h_ => h_.1))) (by decide)) hk (fun _ h => h.2)) (fun _ h => h.1)); replace BK350:=zM (KeepBut.blk hk (g' := gb350) (o := .cells #[.int .i64 (wrap64 ((rd y342 t345) + (wrap64 ((wrap64 (Int.tdiv t348 59)) * 6)))), .int .i64 0, .int .i64 0] 25 (0, 0)) (by refine blk_put (cs := #[.int .i64 (wrap64 ((rd y342 t345) + (wrap64 ((wrap64 (Int.tdiv t348 59)) * 6)))), .int .i64 0, .int .i64 0]) ?_ 2 _ rfl; refine blk_put (cs := #[.int .i64 (wrap64 ((rd y342 t345) + (wrap64 ((wrap64 (Int.tdiv t348 59)) * 6)))), .int .i64 0, .int .i64 0]) ?_ 1 _ rfl; refine blk_put (cs := #[.int .i64 0, .int .i64 0, .int .i64 0]) ?_ 0 _ rfl; exact BK350.out) NB350_0.out (by simp)); replace HK:=zM (KeepBut.trans (q16 HK.out GW341.out GW350.out) hk (.inl rfl)); replace HB:=zM (hb); replace HI0:=zM (hi); (try clear hb); (try clear hb2); (try clear hk); (try clear hi); have hnb29 := NB350_341.out; have hnc29 := NB341_350.out; have hnb30 := NB350_0.out; have hnc30 := NB0_350.out; have hcz31_0 : w28.cell? ⟨gb350, 0, none⟩ = some (.int .i64 (wrap64 ((rd y342 t345) + (wrap64 ((wrap64 (Int.tdiv t348 59)) * 6))))) := (blk_cell BK350.out 0).trans rfl; have hcz31_1 : w28.cell? ⟨gb350, 1, none⟩ = some (.int .i64 0) := (blk_cell BK350.out 1).trans rfl; have hcz31_2 : w28.cell? ⟨gb350, 2, none⟩ = some (.int .i64 0) := (blk_cell BK350.out 2).trans rfl; have hfz31_0 := blk_frozen BK350.out 0; have hfz31_1 := blk_frozen BK350.out 1; have hfz31_2 := blk_frozen BK350.out 2) | (refine zg 43 (some 32) Tryd.func43 #[.pointer (some ⟨g, 0, none⟩), .int .i64 (wrap64 ((l1.length : Int) + 1))] ?_; (with_reducible refine (spec_l20Rd_pick.calls k g s0_0 t352 (wrap64 ((l1.length : Int) + 1)) t353 t354 w0 _ ?side1 ?side2 A27.out).mono ?_); (case side1 => exact (q15 HI0.out NB0_341.out NB0_350.out)); (case side2 => exact (q17 HB.out HI0.out GE341.out GE350.out)); rintro e w32 ⟨rfl, hi, hb, hk⟩; refine ⟨_, rfl, ?_⟩; replace BK341:=zM (KeepBut.blk hk (g' := gb341) (o := .cells #[.int .i64 0, .int .i64 0, .int .i64 0] 25 (0, 0)) (by refine blk_far ?_ NB341_350.out _; exact BK341.out) NB341_0.out (by simp)); replace HO344:=zM (Kd.R_mono (Kd.R_keep (IsS73.apart (show IsS73 w0 _ g s0_0 t352 from (q15 HI0.out NB0_341.out NB0_350.out)) (by (with_reducible repeat (first | apply Kd.R_alloc | apply Kd.R_drewN | apply Kd.R_drew)); exact (Kd.R_mono (Kd.R_far (p := ⟨gb350, 1, none⟩) (Kd.R_types HO344.out BK350.out (by decide)) (fun _ hk => hk.2) (.int .i64 (wrap64 (1 + t351)))) (fun _ h_ => h_.1))) (by decide)) hk (fun _ h => h.2)) (fun _ h => h.1)); replace BK350:=zM (KeepBut.blk hk (g' := gb350) (o := .cells #[.int .i64 (wrap64 ((rd y342 t345) + (wrap64 ((wrap64 (Int.tdiv t348 59)) * 6)))), .int .i64 (wrap64 (1 + t351)), .int .i64 0] 25 (0, 0)) (by refine blk_put (cs := #[.int .i64 (wrap64 ((rd y342 t345) + (wrap64 ((wrap64 (Int.tdiv t348 59)) * 6)))), .int .i64 0, .int .i64 0]) ?_ 1 _ rfl; exact BK350.out) NB350_0.out (by simp)); replace HK:=zM (KeepBut.trans (q16 HK.out GW341.out GW350.out) hk (.inl rfl)); replace HB:=zM (hb); replace HI0:=zM (hi); (try clear hb); (try clear hb2); (try clear hk); (try clear hi); have hcz33_0 : w32.cell? ⟨gb350, 0, none⟩ = some (.int .i64 (wrap64 ((rd y342 t345) + (wrap64 ((wrap64 (Int.tdiv t348 59)) * 6))))) := (blk_cell BK350.out 0).trans rfl; have hcz33_1 : w32.cell? ⟨gb350, 1, none⟩ = some (.int .i64 (wrap64 (1 + t351))) := (blk_cell BK350.out 1).trans rfl; have hcz33_2 : w32.cell? ⟨gb350, 2, none⟩ = some (.int .i64 0) := (blk_cell BK350.out 2).trans rfl; have hfz33_0 := blk_frozen BK350.out 0; have hfz33_1 := blk_frozen BK350.out 1; have hfz33_2 := blk_frozen BK350.out 2))
     go_meet
     case rel => exact ⟨_, (t354), (wrap64 (1 + t351)), (t353), H', ⟨by first | omega | exact Nat.le_refl _⟩, ⟨by refine blk_far ?_ NB341_350.out _; exact BK341.out⟩, ⟨by refine blk_put (cs := #[.int .i64 (wrap64 ((rd y342 t345) + (wrap64 ((wrap64 (Int.tdiv t348 59)) * 6)))), .int .i64 (wrap64 (1 + t351)), .int .i64 0]) ?_ 2 _ rfl; exact BK350.out⟩, ⟨(q15 HI0.out NB0_341.out NB0_350.out)⟩, ⟨(q16 HK.out GW341.out GW350.out)⟩, ⟨(q17 HB.out HI0.out GE341.out GE350.out)⟩⟩
    ·rw [if_neg c24] at H
     have c24b0 : ((wrap64 ((rd y342 t345) + (wrap64 ((wrap64 (Int.tdiv t348 59)) * 6)))) == 0) = false := beq_eq_false_iff_ne.mpr c24
     have c24b1 : ((wrap64 ((rd y342 t345) + (wrap64 ((wrap64 (Int.tdiv t348 59)) * 6)))) != 0) = true := bne_iff_ne.mpr c24
     (first | rw [c24b0] | (simp only [i64_w, i32_w]; rw [c24b0]) | skip)
     by_cases c34 : (wrap64 ((rd y342 t345) + (wrap64 ((wrap64 (Int.tdiv t348 59)) * 6)))) = 1
     ·rw [if_pos c34] at H
      have c34b0 : ((wrap64 ((rd y342 t345) + (wrap64 ((wrap64 (Int.tdiv t348 59)) * 6)))) == 1) = true := beq_iff_eq.mpr c34
      have c34b1 : ((wrap64 ((rd y342 t345) + (wrap64 ((wrap64 (Int.tdiv t348 59)) * 6)))) != 1) = false := bne_eq_false_iff_eq.mpr c34
      clear c34
      obtain ⟨⟨t355, t356⟩, A35, H⟩ := zb H; try dsimp only at H
      obtain ⟨⟨t357, t358⟩, A36, H⟩ := zb H; try dsimp only at H
      have H':=zM H
      clear H
      go_wp2_with (first | (refine zg 43 (some 40) Tryd.func43 #[.pointer (some ⟨g, 0, none⟩), .int .i64 (wrap64 ((l1.length : Int) + 1))] ?_; (with_reducible refine (spec_l20Rd_pick.calls k g s0_0 t349 (wrap64 ((l1.length : Int) + 1)) t355 t356 w0 _ ?side1 ?side2 A35.out).mono ?_); (case side1 => exact (q15 HI0.out NB0_341.out NB0_350.out)); (case side2 => exact (q17 HB.out HI0.out GE341.out GE350.out)); rintro e w37 ⟨rfl, hi, hb, hk⟩; refine ⟨_, rfl, ?_⟩; replace BK341:=zM (KeepBut.blk hk (g' := gb341) (o := .cells #[.int .i64 0, .int .i64 0, .int .i64 0] 25 (0, 0)) (by refine blk_far ?_ NB341_350.out _; refine blk_far ?_ NB341_350.out _; refine blk_far ?_ NB341_350.out _; exact BK341.out) NB341_0.out (by simp)); replace HO344:=zM (Kd.R_mono (Kd.R_keep (IsS73.apart (show IsS73 w0 _ g s0_0 t349 from (q15 HI0.out NB0_341.out NB0_350.out)) (by (with_reducible repeat (first | apply Kd.R_alloc | apply Kd.R_drewN | apply Kd.R_drew)); exact (Kd.R_mono (Kd.R_far (p := ⟨gb350, 2, none⟩) (Kd.R_far (p := ⟨gb350, 1, none⟩) (Kd.R_far (p := ⟨gb350, 0, none⟩) (Kd.R_types HO344.out BK350.out (by decide)) (fun _ hk => hk.2) (.int .i64 (wrap64 ((rd y342 t345) + (wrap64 ((wrap64 (Int.tdiv t348 59)) * 6)))))) (fun _ hk => hk.2) (.int .i64 0)) (fun _ hk => hk.2) (.int .i64 0)) (fun _ h_ => h_.1))) (by decide)) hk (fun _ h => h.2)) (fun _ h => h.1)); replace BK350:=zM (KeepBut.blk hk (g' := gb350) (o := .cells #[.int .i64 (wrap64 ((rd y342 t345) + (wrap64 ((wrap64 (Int.tdiv t348 59)) * 6)))), .int .i64 0, .int .i64 0] 25 (0, 0)) (by refine blk_put (cs := #[.int .i64 (wrap64 ((rd y342 t345) + (wrap64 ((wrap64 (Int.tdiv t348 59)) * 6)))), .int .i64 0, .int .i64 0]) ?_ 2 _ rfl; refine blk_put (cs := #[.int .i64 (wrap64 ((rd y342 t345) + (wrap64 ((wrap64 (Int.tdiv t348 59)) * 6)))), .int .i64 0, .int .i64 0]) ?_ 1 _ rfl; refine blk_put (cs := #[.int .i64 0, .int .i64 0, .int .i64 0]) ?_ 0 _ rfl; exact BK350.out) NB350_0.out (by simp)); replace HK:=zM (KeepBut.trans (q16 HK.out GW341.out GW350.out) hk (.inl rfl)); replace HB:=zM (hb); replace HI0:=zM (hi); (try clear hb); (try clear hb2); (try clear hk); (try clear hi)) | (refine zg 43 (some 42) Tryd.func43 #[.pointer (some ⟨g, 0, none⟩), .int .i64 9] ?_; (with_reducible refine (spec_l20Rd_pick.calls k g s0_0 t356 9 t357 t358 w0 _ ?side1 ?side2 A36.out).mono ?_); (case side1 => exact (q15 HI0.out NB0_341.out NB0_350.out)); (case side2 => exact (q17 HB.out HI0.out GE341.out GE350.out)); rintro e w38 ⟨rfl, hi, hb, hk⟩; refine ⟨_, rfl, ?_⟩; replace BK341:=zM (KeepBut.blk hk (g' := gb341) (o := .cells #[.int .i64 0, .int .i64 0, .int .i64 0] 25 (0, 0)) (q5 BK341.out) NB341_0.out (by simp)); replace HO344:=zM (Kd.R_mono (Kd.R_keep (IsS73.apart (show IsS73 w0 _ g s0_0 t356 from (q15 HI0.out NB0_341.out NB0_350.out)) (q3 HO344.out) (by decide)) hk (fun _ h => h.2)) (fun _ h => h.1)); replace BK350:=zM (KeepBut.blk hk (g' := gb350) (o := .cells #[.int .i64 (wrap64 ((rd y342 t345) + (wrap64 ((wrap64 (Int.tdiv t348 59)) * 6)))), .int .i64 0, .int .i64 0] 25 (0, 0)) (q5 BK350.out) NB350_0.out (by simp)); replace HK:=zM (KeepBut.trans (q16 HK.out GW341.out GW350.out) hk (.inl rfl)); replace HB:=zM (hb); replace HI0:=zM (hi); (try clear hb); (try clear hb2); (try clear hk); (try clear hi); have hnb39 := NB350_341.out; have hnc39 := NB341_350.out; have hnb40 := NB350_0.out; have hnc40 := NB0_350.out; have hcz41_0 : w38.cell? ⟨gb350, 0, none⟩ = some (.int .i64 (wrap64 ((rd y342 t345) + (wrap64 ((wrap64 (Int.tdiv t348 59)) * 6))))) := (blk_cell BK350.out 0).trans rfl; have hcz41_1 : w38.cell? ⟨gb350, 1, none⟩ = some (.int .i64 0) := (blk_cell BK350.out 1).trans rfl; have hcz41_2 : w38.cell? ⟨gb350, 2, none⟩ = some (.int .i64 0) := (blk_cell BK350.out 2).trans rfl; have hfz41_0 := blk_frozen BK350.out 0; have hfz41_1 := blk_frozen BK350.out 1; have hfz41_2 := blk_frozen BK350.out 2))
      go_meet
      case rel => exact ⟨_, (t358), (wrap64 (t355 + (wrap64 (Int.tdiv t357 8)))), (0), H', ⟨by first | omega | exact Nat.le_refl _⟩, ⟨by refine blk_far ?_ NB341_350.out _; exact BK341.out⟩, ⟨by refine blk_put (cs := #[.int .i64 (wrap64 ((rd y342 t345) + (wrap64 ((wrap64 (Int.tdiv t348 59)) * 6)))), .int .i64 0, .int .i64 0]) ?_ 1 _ rfl; exact BK350.out⟩, ⟨(q15 HI0.out NB0_341.out NB0_350.out)⟩, ⟨(q16 HK.out GW341.out GW350.out)⟩, ⟨(q17 HB.out HI0.out GE341.out GE350.out)⟩⟩
     ·rw [if_neg c34] at H
      have c34b0 : ((wrap64 ((rd y342 t345) + (wrap64 ((wrap64 (Int.tdiv t348 59)) * 6)))) == 1) = false := beq_eq_false_iff_ne.mpr c34
      have c34b1 : ((wrap64 ((rd y342 t345) + (wrap64 ((wrap64 (Int.tdiv t348 59)) * 6)))) != 1) = true := bne_iff_ne.mpr c34
      have H':=zM H
      clear H
      go_wp2
      go_meet
      case rel => exact ⟨_, (t349), (0), (0), H', ⟨by first | omega | exact Nat.le_refl _⟩, ⟨by refine blk_far ?_ NB341_350.out _; refine blk_far ?_ NB341_350.out _; refine blk_far ?_ NB341_350.out _; exact BK341.out⟩, ⟨by refine blk_put (cs := #[.int .i64 (wrap64 ((rd y342 t345) + (wrap64 ((wrap64 (Int.tdiv t348 59)) * 6)))), .int .i64 0, .int .i64 0]) ?_ 2 _ rfl; refine blk_put (cs := #[.int .i64 (wrap64 ((rd y342 t345) + (wrap64 ((wrap64 (Int.tdiv t348 59)) * 6)))), .int .i64 0, .int .i64 0]) ?_ 1 _ rfl; refine blk_put (cs := #[.int .i64 0, .int .i64 0, .int .i64 0]) ?_ 0 _ rfl; exact BK350.out⟩, ⟨(q15 HI0.out NB0_341.out NB0_350.out)⟩, ⟨(q16 HK.out GW341.out GW350.out)⟩, ⟨(q17 HB.out HI0.out GE341.out GE350.out)⟩⟩
   case rest =>
    clear HC7
    try clear c2
    try clear p2
    try clear c3
    try clear p3
    try clear q3
    try clear hx3
    try clear c4
    try clear p6
    try clear c21
    try clear c22
    try clear c24
    try clear c24b0
    try clear c24b1
    try clear c29
    try clear c30
    try clear c34
    try clear c34b0
    try clear c34b1
    try clear p34
    try clear q34
    try clear hx34
    try clear c39
    try clear c40
    try clear hcz23_0
    try clear hcz23_1
    try clear hcz23_2
    try clear hcz31_0
    try clear hcz31_1
    try clear hcz31_2
    try clear hcz33_0
    try clear hcz33_1
    try clear hcz33_2
    try clear hcz41_0
    try clear hcz41_1
    try clear hcz41_2
    try clear hfz23_0
    try clear hfz23_1
    try clear hfz23_2
    try clear hfz31_0
    try clear hfz31_1
    try clear hfz31_2
    try clear hfz33_0
    try clear hfz33_1
    try clear hfz33_2
    try clear hfz41_0
    try clear hfz41_1
    try clear hfz41_2
    try clear hx347_0
    try clear p347
    try clear q347
    obtain ⟨kq, x1001_6, x351001_6, x351002_6, HA, HJ6, BK341, BK350, HI0, HK, HB⟩ := hcut
    cases kq with
    | zero => exact absurd HA.out (by simp [spec_l20Deed.j0])
    | succ kj6 =>
     have H := HA.out
     clear HA
     simp only [spec_l20Deed.j0] at H
     obtain ⟨⟨t359, t360⟩, A42, H⟩ := zb H; try dsimp only at H
     by_cases c43 : t359 = true
     ·subst c43
      have H1 : ((some (([(-1), 9, 100] : List Int) : List Int)).bind fun y361 => ((spec_l20Rd_pick.f kj6 s0_0 t360 3).bind fun bt364 => (if 0 ≤ bt364.1 then (if bt364.1 < (y361.length : Int) then (some ((wrap64 ((rd y342 t345) + (wrap64 ((wrap64 (Int.tdiv t348 59)) * 6)))), x351001_6, rd y361 bt364.1, bt364.2)) else (none)) else (none)))) = some (r1, r2, r3, r4) := by rw [if_pos rfl] at H; exact H
      clear H
      have H := H1
      clear H1
      obtain ⟨y361, hy361⟩ : ∃ y_ : List Int, y_ = (([(-1), 9, 100] : List Int)) := ⟨_, rfl⟩
      replace H : ((spec_l20Rd_pick.f kj6 s0_0 t360 3).bind fun bt364 => (if 0 ≤ bt364.1 then (if bt364.1 < (y361.length : Int) then (some ((wrap64 ((rd y342 t345) + (wrap64 ((wrap64 (Int.tdiv t348 59)) * 6)))), x351001_6, rd y361 bt364.1, bt364.2)) else (none)) else (none))) = some (r1, r2, r3, r4) := by first | (rw [hy361]; with_reducible exact H) | (have H2_ := (Option.bind_some _ _).symm.trans H; rw [hy361]; with_reducible exact H2_) | (have H2_ := (Option.bind_some _ _).symm.trans H; with_reducible exact H2_) | with_reducible exact H | (rw [hy361]; exact H) | exact H
      have Ny361:=zM hy361
      clear hy361
      obtain ⟨⟨t364, t365⟩, A44, H⟩ := zb H; try dsimp only at H
      by_cases c45 : 0 ≤ t364
      ·rw [if_pos c45] at H
       have c45b0 : decide (0 ≤ t364) = true := decide_eq_true c45
       clear c45
       by_cases c46 : t364 < (y361.length : Int)
       ·rw [if_pos c46] at H
        have c46b0 : decide (t364 < (y361.length : Int)) = true := decide_eq_true c46
        clear c46
        simp only [Option.some.injEq, Prod.mk.injEq] at H
        obtain ⟨rfl, rfl, rfl, rfl⟩ := H
        go_wp2_with (first | (refine zg 46 (some 47) Tryd.func46 #[.pointer (some ⟨g, 0, none⟩), .int .i64 40] ?_; (with_reducible refine (spec_l20Rd_odd.calls kj6 g s0_0 x1001_6 40 true t360 w0 _ ?side1 ?side2 A42.out).mono ?_); (case side1 => exact (q15 HI0.out NB0_341.out NB0_350.out)); (case side2 => exact (q17 HB.out HI0.out GE341.out GE350.out)); rintro e w47 ⟨rfl, hi, hb, hk⟩; refine ⟨_, rfl, ?_⟩; replace BK341:=zM (KeepBut.blk hk (g' := gb341) (o := .cells #[.int .i64 0, .int .i64 0, .int .i64 0] 25 (0, 0)) (q5 BK341.out) NB341_0.out (by simp)); replace BK350:=zM (KeepBut.blk hk (g' := gb350) (o := .cells #[.int .i64 (wrap64 ((rd y342 t345) + (wrap64 ((wrap64 (Int.tdiv t348 59)) * 6)))), .int .i64 x351001_6, .int .i64 x351002_6] 25 (0, 0)) (q5 BK350.out) NB350_0.out (by simp)); replace HK:=zM (KeepBut.trans (q16 HK.out GW341.out GW350.out) hk (.inl rfl)); replace HB:=zM (hb); replace HI0:=zM (hi); (try clear hb); (try clear hb2); (try clear hk); (try clear hi)) | ((with_reducible refine gate_dst (N := 48) rfl ?_); refine Kd.R_lit (Kd.int .i64) _ 3 q0 (N := 48) q0 (xs := ([(-1), 9, 100] : List Int)) (inner := [.int .i64 (-1), .int .i64 9, .int .i64 100]) (ok := fun _ => True) (okp := fun _ => True) q1 ?hp (fun _ hk => hk) trivial (Below.refl _ _) (Nat.le_refl _) (by simp) ?_; (case hp => exact (Reps.one (show Kd.M (Kd.int .i64) _ _ _ (-1) [.int .i64 (-1)] from rfl) (Reps.one (show Kd.M (Kd.int .i64) _ _ _ 9 [.int .i64 9] from rfl) (Reps.one (show Kd.M (Kd.int .i64) _ _ _ 100 [.int .i64 100] from rfl) (Reps.none _ _))))); intro v362 w48 ho49 hb hg_ hnew_; clear hg_ hnew_; (first | rw [← Ny361.out] at ho49 | (simp only [Int.reduceToNat] at ho49; rw [← Ny361.out] at ho49)); have HO363:=zM (Kd.R_lower ho49 (keep_size (w := w) (g := g) (row := none) (q16 HK.out GW341.out GW350.out))); replace BK341:=zM (blk_below (g := gb341) (o := .cells #[.int .i64 0, .int .i64 0, .int .i64 0] 25 (0, 0)) (q5 BK341.out) hb); replace BK350:=zM (blk_below (g := gb350) (o := .cells #[.int .i64 (wrap64 ((rd y342 t345) + (wrap64 ((wrap64 (Int.tdiv t348 59)) * 6)))), .int .i64 x351001_6, .int .i64 x351002_6] 25 (0, 0)) (q5 BK350.out) hb); replace HK:=zM (KeepBut.trans (q16 HK.out GW341.out GW350.out) (KeepBut.of_below hb g none) (.inl rfl)); replace HB:=zM (below_step (q17 HB.out HI0.out GE341.out GE350.out) hb); replace HI0:=zM (IsS73.below (q15 HI0.out NB0_341.out NB0_350.out) hb); clear hb ho49) | (refine zg 43 (some 50) Tryd.func43 #[.pointer (some ⟨g, 0, none⟩), .int .i64 3] ?_; (with_reducible refine (spec_l20Rd_pick.calls kj6 g s0_0 t360 3 t364 t365 w0 _ ?side1 ?side2 A44.out).mono ?_); (case side1 => exact (q15 HI0.out NB0_341.out NB0_350.out)); (case side2 => exact (q17 HB.out HI0.out GE341.out GE350.out)); rintro e w50 ⟨rfl, hi, hb, hk⟩; refine ⟨_, rfl, ?_⟩; replace BK341:=zM (KeepBut.blk hk (g' := gb341) (o := .cells #[.int .i64 0, .int .i64 0, .int .i64 0] 25 (0, 0)) (q5 BK341.out) NB341_0.out (by simp)); replace BK350:=zM (KeepBut.blk hk (g' := gb350) (o := .cells #[.int .i64 (wrap64 ((rd y342 t345) + (wrap64 ((wrap64 (Int.tdiv t348 59)) * 6)))), .int .i64 x351001_6, .int .i64 x351002_6] 25 (0, 0)) (q5 BK350.out) NB350_0.out (by simp)); replace HO363:=zM (Kd.R_mono (Kd.R_keep (IsS73.apart (show IsS73 w0 _ g s0_0 t360 from (q15 HI0.out NB0_341.out NB0_350.out)) (q3 HO363.out) (by decide)) hk (fun _ h => h.2)) (fun _ h => h.1)); replace HK:=zM (KeepBut.trans (q16 HK.out GW341.out GW350.out) hk (.inl rfl)); replace HB:=zM (hb); replace HI0:=zM (hi); (try clear hb); (try clear hb2); (try clear hk); (try clear hi); obtain ⟨Ao51, co51, eo51⟩ := Kd.R_slice HO363.out; subst eo51; have p366 : 0 ≤ (t364 : Int) := of_decide_eq_true (by first | (with_reducible assumption) | assumption); have q366 : t364 < (y361.length : Int) := of_decide_eq_true (by first | (with_reducible assumption) | assumption); obtain ⟨ad366, e366, hx366_0⟩ := Kd.at_int (Kd.R_reads' HO363.out).2.2 t364 p366 q366; cases e366; replace p366 := eq_true p366; replace q366 := eq_true q366; have hnb52 := NB350_341.out; have hnc52 := NB341_350.out; have hnb53 := NB350_0.out; have hnc53 := NB0_350.out; have hcz54_0 : w50.cell? ⟨gb350, 0, none⟩ = some (.int .i64 (wrap64 ((rd y342 t345) + (wrap64 ((wrap64 (Int.tdiv t348 59)) * 6))))) := (blk_cell BK350.out 0).trans rfl; have hcz54_1 : w50.cell? ⟨gb350, 1, none⟩ = some (.int .i64 x351001_6) := (blk_cell BK350.out 1).trans rfl; have hcz54_2 : w50.cell? ⟨gb350, 2, none⟩ = some (.int .i64 x351002_6) := (blk_cell BK350.out 2).trans rfl; have hfz54_0 := blk_frozen BK350.out 0; have hfz54_1 := blk_frozen BK350.out 1; have hfz54_2 := blk_frozen BK350.out 2; have hnb55 := NB341_0.out; have hnc55 := NB0_341.out; have hcz56_0 : w50.cell? ⟨gb341, 0, none⟩ = some (.int .i64 0) := (blk_cell BK341.out 0).trans rfl; have hcz56_1 : w50.cell? ⟨gb341, 1, none⟩ = some (.int .i64 0) := (blk_cell BK341.out 1).trans rfl; have hcz56_2 : w50.cell? ⟨gb341, 2, none⟩ = some (.int .i64 0) := (blk_cell BK341.out 2).trans rfl; have hfz56_0 := blk_frozen BK341.out 0; have hfz56_1 := blk_frozen BK341.out 1; have hfz56_2 := blk_frozen BK341.out 2))
        refine bodyPost_ret (results_cell_row rfl _ _ gb341 25 #[.int .i64 (wrap64 ((rd y342 t345) + (wrap64 ((wrap64 (Int.tdiv t348 59)) * 6)))), .int .i64 x351001_6, .int .i64 (rd y361 t364)] (0, 0) _ rfl (by refine blk_put (cs := #[.int .i64 (wrap64 ((rd y342 t345) + (wrap64 ((wrap64 (Int.tdiv t348 59)) * 6)))), .int .i64 x351001_6, .int .i64 0]) ?_ 2 _ rfl; refine blk_put (cs := #[.int .i64 (wrap64 ((rd y342 t345) + (wrap64 ((wrap64 (Int.tdiv t348 59)) * 6)))), .int .i64 0, .int .i64 0]) ?_ 1 _ rfl; refine blk_put (cs := #[.int .i64 0, .int .i64 0, .int .i64 0]) ?_ 0 _ rfl; refine blk_far ?_ NB341_350.out _; exact BK341.out) Tryd.underlying25 rfl (by kernel_rfl)) rfl ?_
        exact ⟨by first | rfl | (simp [errW_none, errW_some] <;> rfl) | (simp [*, errW_none, errW_some] <;> rfl), (q15 HI0.out NB0_341.out NB0_350.out), (q17 HB.out HI0.out GE341.out GE350.out), (q16 HK.out GW341.out GW350.out)⟩
       ·rw [if_neg c46] at H
        exact absurd H (by simp)
      ·rw [if_neg c45] at H
       exact absurd H (by simp)
     ·replace c43 := Bool.eq_false_iff.mpr c43
      subst c43
      have H1 : (some ((wrap64 ((rd y342 t345) + (wrap64 ((wrap64 (Int.tdiv t348 59)) * 6)))), x351001_6, x351002_6, t360)) = some (r1, r2, r3, r4) := by rw [if_neg (show ¬ (false = true) by decide)] at H; exact H
      clear H
      have H := H1
      clear H1
      simp only [Option.some.injEq, Prod.mk.injEq] at H
      obtain ⟨rfl, rfl, rfl, rfl⟩ := H
      go_wp2_with (first | (refine zg 46 (some 47) Tryd.func46 #[.pointer (some ⟨g, 0, none⟩), .int .i64 40] ?_; (with_reducible refine (spec_l20Rd_odd.calls kj6 g s0_0 x1001_6 40 false t360 w0 _ ?side1 ?side2 A42.out).mono ?_); (case side1 => exact (q15 HI0.out NB0_341.out NB0_350.out)); (case side2 => exact (q17 HB.out HI0.out GE341.out GE350.out)); rintro e w57 ⟨rfl, hi, hb, hk⟩; refine ⟨_, rfl, ?_⟩; replace BK341:=zM (KeepBut.blk hk (g' := gb341) (o := .cells #[.int .i64 0, .int .i64 0, .int .i64 0] 25 (0, 0)) (q5 BK341.out) NB341_0.out (by simp)); replace BK350:=zM (KeepBut.blk hk (g' := gb350) (o := .cells #[.int .i64 (wrap64 ((rd y342 t345) + (wrap64 ((wrap64 (Int.tdiv t348 59)) * 6)))), .int .i64 x351001_6, .int .i64 x351002_6] 25 (0, 0)) (q5 BK350.out) NB350_0.out (by simp)); replace HK:=zM (KeepBut.trans (q16 HK.out GW341.out GW350.out) hk (.inl rfl)); replace HB:=zM (hb); replace HI0:=zM (hi); (try clear hb); (try clear hb2); (try clear hk); (try clear hi); have hnb58 := NB350_341.out; have hnc58 := NB341_350.out; have hnb59 := NB350_0.out; have hnc59 := NB0_350.out; have hcz60_0 : w57.cell? ⟨gb350, 0, none⟩ = some (.int .i64 (wrap64 ((rd y342 t345) + (wrap64 ((wrap64 (Int.tdiv t348 59)) * 6))))) := (blk_cell BK350.out 0).trans rfl; have hcz60_1 : w57.cell? ⟨gb350, 1, none⟩ = some (.int .i64 x351001_6) := (blk_cell BK350.out 1).trans rfl; have hcz60_2 : w57.cell? ⟨gb350, 2, none⟩ = some (.int .i64 x351002_6) := (blk_cell BK350.out 2).trans rfl; have hfz60_0 := blk_frozen BK350.out 0; have hfz60_1 := blk_frozen BK350.out 1; have hfz60_2 := blk_frozen BK350.out 2; have hnb61 := NB341_0.out; have hnc61 := NB0_341.out; have hcz62_0 : w57.cell? ⟨gb341, 0, none⟩ = some (.int .i64 0) := (blk_cell BK341.out 0).trans rfl; have hcz62_1 : w57.cell? ⟨gb341, 1, none⟩ = some (.int .i64 0) := (blk_cell BK341.out 1).trans rfl; have hcz62_2 : w57.cell? ⟨gb341, 2, none⟩ = some (.int .i64 0) := (blk_cell BK341.out 2).trans rfl; have hfz62_0 := blk_frozen BK341.out 0; have hfz62_1 := blk_frozen BK341.out 1; have hfz62_2 := blk_frozen BK341.out 2))
      refine bodyPost_ret (results_cell_row rfl _ _ gb341 25 #[.int .i64 (wrap64 ((rd y342 t345) + (wrap64 ((wrap64 (Int.tdiv t348 59)) * 6)))), .int .i64 x351001_6, .int .i64 x351002_6] (0, 0) _ rfl (by refine blk_put (cs := #[.int .i64 (wrap64 ((rd y342 t345) + (wrap64 ((wrap64 (Int.tdiv t348 59)) * 6)))), .int .i64 x351001_6, .int .i64 0]) ?_ 2 _ rfl; refine blk_put (cs := #[.int .i64 (wrap64 ((rd y342 t345) + (wrap64 ((wrap64 (Int.tdiv t348 59)) * 6)))), .int .i64 0, .int .i64 0]) ?_ 1 _ rfl; refine blk_put (cs := #[.int .i64 0, .int .i64 0, .int .i64 0]) ?_ 0 _ rfl; exact BK341.out) Tryd.underlying25 rfl (by kernel_rfl)) rfl ?_
      exact ⟨by first | rfl | (simp [errW_none, errW_some] <;> rfl) | (simp [*, errW_none, errW_some] <;> rfl), (q15 HI0.out NB0_341.out NB0_350.out), (q17 HB.out HI0.out GE341.out GE350.out), (q16 HK.out GW341.out GW350.out)⟩
  ·rw [if_neg c5] at H
   exact absurd H (by simp)
 ·rw [if_neg c4] at H
  exact absurd H (by simp)

end Go.Proofs.YtopfhdhdpnenpaaDoor.LH
