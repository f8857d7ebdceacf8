/- Printed by a program of this session (wip/lp/lp.py) out of the translation: functions with the same answers as the Go code, and their contracts; no conditions beyond those that each theorem names. -/
import Derived.Test.YtopfhdhdpnenpaaDoorLGx0
import Derived.Test.YtopfhdhdpnenpaaDoorLGx8
import Derived.Test.YtopfhdhdpnenpaaDoorLGx9
namespace Go.Proofs.YtopfhdhdpnenpaaDoor.LG
open Go.RowKit Go.Proofs.YtopfhdhdpnenpaaDoorV.PrintWords Go.Proofs.YtopfhdhdpnenpaaDoorV.PrintLast Go.Proofs.YtopfhdhdpnenpaaDoorV.PrintMore
attribute [local go_sem] max2_int min2_int max_two min_two max_three min_three max_four min_four   -- for this text's walks alone
set_option linter.unusedVariables false
set_option linter.unusedSimpArgs false

/-! ### spec_l20Deed: function 35 -/
def spec_l20Deed.j0 : Nat → List Int → Int → Int → Int → Int → Option (Int × Int × Int × Int)
 | 0, _, _, _, _, _ => none
 | k + 1, x1000, x1001, x198000, x198001, x198002 => (spec_l20Rd_odd.f k x1000 x1001 40).bind fun bt206 => (if bt206.1 = true then ((some (([(-1), 9, 100] : List Int) : List Int)).bind fun y208 => ((spec_l20Rd_pick.f k x1000 bt206.2 3).bind fun bt211 => (if 0 ≤ bt211.1 then (if bt211.1 < (y208.length : Int) then (some (x198000, x198001, rd y208 bt211.1, bt211.2)) else (none)) else (none)))) else (some (x198000, x198001, x198002, bt206.2)))
def spec_l20Deed.f (k : Nat) (s0_0 : List Int) (s0_1 : Int) (l1 : List Int) : Option (Int × Int × Int × Int) := (some (([0, 0, 1, 1, 2, 3, 4, 5] : List Int) : List Int)).bind fun y189 => ((spec_l20Rd_pick.f k s0_0 s0_1 8).bind fun bt192 => (if 0 ≤ bt192.1 then (if bt192.1 < (y189.length : Int) then ((spec_l20Rd_pick.f k s0_0 bt192.2 60).bind fun bt195 => (if (wrap64 ((rd y189 bt192.1) + (wrap64 ((wrap64 (Int.tdiv bt195.1 59)) * 6)))) = 0 then ((spec_l20Rd_pick.f k s0_0 bt195.2 (mx (l1.length : Int) 1)).bind fun bt198 => ((spec_l20Rd_pick.f k s0_0 bt198.2 (wrap64 ((l1.length : Int) + 1))).bind fun bt200 => (spec_l20Deed.j0 k s0_0 bt200.2 (wrap64 ((rd y189 bt192.1) + (wrap64 ((wrap64 (Int.tdiv bt195.1 59)) * 6)))) (wrap64 (1 + bt198.1)) bt200.1))) else (if (wrap64 ((rd y189 bt192.1) + (wrap64 ((wrap64 (Int.tdiv bt195.1 59)) * 6)))) = 1 then ((spec_l20Rd_pick.f k s0_0 bt195.2 (wrap64 ((l1.length : Int) + 1))).bind fun bt202 => ((spec_l20Rd_pick.f k s0_0 bt202.2 9).bind fun bt204 => (spec_l20Deed.j0 k s0_0 bt204.2 (wrap64 ((rd y189 bt192.1) + (wrap64 ((wrap64 (Int.tdiv bt195.1 59)) * 6)))) (wrap64 (bt202.1 + (wrap64 (Int.tdiv bt204.1 8)))) 0))) else (spec_l20Deed.j0 k s0_0 bt195.2 (wrap64 ((rd y189 bt192.1) + (wrap64 ((wrap64 (Int.tdiv bt195.1 59)) * 6)))) 0 0)))) else (none)) else (none)))
theorem spec_l20Deed.mono_l : ∀ k, (∀ y0 y1 y2 y3 y4, LeO (spec_l20Deed.j0 k y0 y1 y2 y3 y4) (spec_l20Deed.j0 (k + 1) y0 y1 y2 y3 y4))
 | 0 => fun _ _ _ _ _ r h => by simp [spec_l20Deed.j0] at h
 | k + 1 => by
  have ih0 := spec_l20Deed.mono_l k
  ·intro y0 y1 y2 y3 y4
   unfold spec_l20Deed.j0
   have := @spec_l20Rd_odd.mono; have := @spec_l20Rd_pick.mono; exact zmono
theorem spec_l20Deed.mono : ∀ a0 a1 a2 k, LeO (spec_l20Deed.f k a0 a1 a2) (spec_l20Deed.f (k + 1) a0 a1 a2) := by
 intro a0 a1 a2 k
 have ih0 := spec_l20Deed.mono_l k
 unfold spec_l20Deed.f
 have := @spec_l20Rd_odd.mono; have := @spec_l20Rd_pick.mono; exact zmono
def spec_l20Deed.T1 : Bool × List (List Nat × List Nat) := (true, [([], []), ([], []), ([1], [1]), ([0, 2], [0, 2]), ([3], [3]), ([], []), ([5, 2], [5]), ([6], [6]), ([7], [7]), ([4, 8], [4, 8]), ([9], [9]), ([], []), ([11, 10, 6, 0, 1, 2, 3, 4, 5, 6, 7, 8, 9, 10, 11], [10, 11])])
def spec_l20Deed.B1 : List Nat := [0, 0, 2, 7, 15, 0, 38, 102, 230, 511, 1023, 0, 4095]
theorem spec_l20Deed.tab1 : rtab .any (opsOf Tryd.f35 1) = spec_l20Deed.T1 := by kernel_rfl
theorem spec_l20Deed.bits1 : waitsOk spec_l20Deed.T1.2 spec_l20Deed.B1 = true := by kernel_rfl
set_option maxHeartbeats 8000000 in
set_option maxRecDepth 100000 in
theorem spec_l20Deed.calls (k : Nat) (g : Nat) (s0_0 : List Int) (s0_1 : Int) (A1 : Option Addr) (c1 : Nat) (l1 : List Int) (r1 : Int) (r2 : Int) (r3 : Int) (r4 : Int) (w0 w : World) (hI : IsS73 w0 w g s0_0 s0_1) (hB : Below w0.heap.size w0 w) (hr1 : Kd.C (Kd.int .i64) w A1 l1.length l1) (hc1 : l1.length ≤ c1) (hf1 : ∀ ad, A1 = some ad → 0 < l1.length → ad.block ≠ g) (h : spec_l20Deed.f k s0_0 s0_1 l1 = some (r1, r2, r3, r4)) :
  Calls Tryd.prog 35 #[.pointer (some ⟨g, 0, none⟩), .slice A1 l1.length c1] w fun e w' => e = .returned (.agg #[.int .i64 r1, .int .i64 r2, .int .i64 r3]) ∧ IsS73 w0 w' g s0_0 r4 ∧ Below w0.heap.size w0 w' ∧ KeepBut w w' g none := by
 have hu25 := Tryd.underlying25
 have HR1:=zM hr1
 have HC1:=zM hc1
 clear hr1 hc1
 have HI0:=zM hI
 have HK:=zM (KeepBut.refl w g none)
 have HL:=zM hB.size
 clear hI
 have HW0:=zM hB.size
 have HB:=zM hB
 clear hB
 have H : ((some (([0, 0, 1, 1, 2, 3, 4, 5] : List Int) : List Int)).bind fun y189 => ((spec_l20Rd_pick.f k s0_0 s0_1 8).bind fun bt192 => (if 0 ≤ bt192.1 then (if bt192.1 < (y189.length : Int) then ((spec_l20Rd_pick.f k s0_0 bt192.2 60).bind fun bt195 => (if (wrap64 ((rd y189 bt192.1) + (wrap64 ((wrap64 (Int.tdiv bt195.1 59)) * 6)))) = 0 then ((spec_l20Rd_pick.f k s0_0 bt195.2 (mx (l1.length : Int) 1)).bind fun bt198 => ((spec_l20Rd_pick.f k s0_0 bt198.2 (wrap64 ((l1.length : Int) + 1))).bind fun bt200 => (spec_l20Deed.j0 k s0_0 bt200.2 (wrap64 ((rd y189 bt192.1) + (wrap64 ((wrap64 (Int.tdiv bt195.1 59)) * 6)))) (wrap64 (1 + bt198.1)) bt200.1))) else (if (wrap64 ((rd y189 bt192.1) + (wrap64 ((wrap64 (Int.tdiv bt195.1 59)) * 6)))) = 1 then ((spec_l20Rd_pick.f k s0_0 bt195.2 (wrap64 ((l1.length : Int) + 1))).bind fun bt202 => ((spec_l20Rd_pick.f k s0_0 bt202.2 9).bind fun bt204 => (spec_l20Deed.j0 k s0_0 bt204.2 (wrap64 ((rd y189 bt192.1) + (wrap64 ((wrap64 (Int.tdiv bt195.1 59)) * 6)))) (wrap64 (bt202.1 + (wrap64 (Int.tdiv bt204.1 8)))) 0))) else (spec_l20Deed.j0 k s0_0 bt195.2 (wrap64 ((rd y189 bt192.1) + (wrap64 ((wrap64 (Int.tdiv bt195.1 59)) * 6)))) 0 0)))) else (none)) else (none)))) = some (r1, r2, r3, r4) := h
 clear h
 replace H := zy H; obtain ⟨y189, Ny189, H⟩ := H; try dsimp only at H
 replace H := zb H; obtain ⟨⟨t192, t193⟩, A3, H⟩ := H; try dsimp only at H
 by_cases c4 : 0 ≤ t192
 ·rw [if_pos c4] at H
  have c4b0 := decide_eq_true c4
  clear c4
  by_cases c5 : t192 < (y189.length : Int)
  ·rw [if_pos c5] at H
   have c5b0 := decide_eq_true c5
   clear c5
   replace H := zb H; obtain ⟨⟨t195, t196⟩, A6, H⟩ := H; try dsimp only at H
   have HC7:=zM H
   clear H
   go_enter Tryd.func35, Tryd.ntmps35
   try go_wp2_with (first | ((with_reducible refine gate_dst (N := 4) rfl ?_); refine box_event zs0 (N := 4) zs0 (cs := #[.int .i64 0, .int .i64 0, .int .i64 0]) (t := 25) zs1 ?_; intro gb188 hg w8 hbox hb; replace HB:=zM (below_step (zs16 HB.out HI0.out) hb); have BK188:=zM (hbox); have GW188:=zM ((by rw [hg]; exact (keep_size (w := w) (g := g) (row := none) (zs15 HK.out)) : w.heap.size ≤ gb188)); have GE188:=zM ((Nat.le_trans HW0.out (by rw [hg]; exact (keep_size (w := w) (g := g) (row := none) (zs15 HK.out)) : w.heap.size ≤ gb188) : w0.heap.size ≤ gb188)); replace HK:=zM (KeepBut.trans (zs15 HK.out) (KeepBut.of_below hb g none) (.inl rfl)); have NB0_188:=zM ((by rw [hg]; exact Nat.ne_of_lt (IsS73.lt (show IsS73 w0 _ g s0_0 s0_1 from (zs14 HI0.out))) : g ≠ gb188)); have NB188_0:=zM ((by rw [hg]; exact Nat.ne_of_gt (IsS73.lt (show IsS73 w0 _ g s0_0 s0_1 from (zs14 HI0.out))) : gb188 ≠ g)); replace HI0:=zM (IsS73.below (zs14 HI0.out) hb); clear hb hbox hg))
   have pi194 : (0 ≤ (t192 : Int)) = True := eq_true (of_decide_eq_true zs8)
   have qi194 : (t192 < (y189.length : Int)) = True := eq_true (of_decide_eq_true zs8)
   replace BK188:=zM (blk_drew BK188.out)
   replace HI0:=zM (IsS73.drew HI0.out)
   replace HK:=zM (keep_drew HK.out)
   replace HB:=zM (zC HB.out)
   refine start_ (n := 13) (S := fun w' => True) (ds := []) (zL 13 0) (by kernel_rfl) rfl rfl trivial (fun hHeld => ?_); refine with_tabW spec_l20Deed.tab1 spec_l20Deed.bits1 (fun HT_ HW_ => ?_)
   generalize w8.drew = w9 at BK188 HI0 HK HB hHeld ⊢
   refine zp 1 (some 7) (zL 13 2) HT_ ?_
   refine zp 5 (some 11) (zL 13 34) HT_ ?_
   refine join_ (σ := Value × Addr × Nat) 1 (zL 13 4095) (fun s_ => [(6, s_.1), (8, .int .i64 t192), (10, .int .i64 (rd y189 t192)), (12, .int .i64 t195), (5, .pointer (some ⟨s_.2.2, 0, none⟩)), (9, .pointer (some (s_.2.1.add (t192).toNat))), (13, .int .i64 (wrap64 (Int.tdiv t195 59))), (14, .int .i64 (wrap64 ((wrap64 (Int.tdiv t195 59)) * 6))), (15, .int .i64 (wrap64 ((rd y189 t192) + (wrap64 ((wrap64 (Int.tdiv t195 59)) * 6))))), (16, .agg #[.int .i64 (wrap64 ((rd y189 t192) + (wrap64 ((wrap64 (Int.tdiv t195 59)) * 6)))), .int .i64 0, .int .i64 0])]) (fun s_ w' => (Kd.R (Kd.int .i64) 3 w' w.heap.size (fun _ => True) s_.1 y189) ∧ (∃ c_, (s_.1 : Value) = .slice (some s_.2.1) y189.length c_) ∧ (w'.heap[gb188]? = some (.cells #[.int .i64 0, .int .i64 0, .int .i64 0] 25 (0, 0))) ∧ (w'.heap[s_.2.2]? = some (.cells #[.int .i64 0, .int .i64 0, .int .i64 0] 25 (0, 0))) ∧ (w.heap.size ≤ s_.2.2) ∧ (w0.heap.size ≤ s_.2.2) ∧ (g ≠ s_.2.2) ∧ (s_.2.2 ≠ g) ∧ (gb188 ≠ s_.2.2) ∧ (s_.2.2 ≠ gb188) ∧ (IsS73 w0 w' g s0_0 t196) ∧ (KeepBut w w' g none) ∧ (Below w0.heap.size w0 w')) ?_ ?_
   rotate_left
   ·intro hJ0_2_4_6_11
    refine join_ (σ := Value × Addr) 2 (zL 13 2047) (fun s_ => [(6, s_.1), (8, .int .i64 t192), (10, .int .i64 (rd y189 t192)), (12, .int .i64 t195), (9, .pointer (some (s_.2.add (t192).toNat))), (13, .int .i64 (wrap64 (Int.tdiv t195 59))), (14, .int .i64 (wrap64 ((wrap64 (Int.tdiv t195 59)) * 6))), (15, .int .i64 (wrap64 ((rd y189 t192) + (wrap64 ((wrap64 (Int.tdiv t195 59)) * 6))))), (16, .agg #[.int .i64 (wrap64 ((rd y189 t192) + (wrap64 ((wrap64 (Int.tdiv t195 59)) * 6)))), .int .i64 0, .int .i64 0])]) (fun s_ w' => (Kd.R (Kd.int .i64) 3 w' w.heap.size (fun _ => True) s_.1 y189) ∧ (∃ c_, (s_.1 : Value) = .slice (some s_.2) y189.length c_) ∧ (w'.heap[gb188]? = some (.cells #[.int .i64 0, .int .i64 0, .int .i64 0] 25 (0, 0))) ∧ (IsS73 w0 w' g s0_0 t196) ∧ (KeepBut w w' g none) ∧ (Below w0.heap.size w0 w')) ?_ ?_
    rotate_left
    ·intro hJ0_2_4_6
     refine join_ (σ := Value × Addr × Nat) 6 (zL 13 2111) (fun s_ => [(6, s_.1), (8, .int .i64 t192), (10, .int .i64 (rd y189 t192)), (5, .pointer (some ⟨s_.2.2, 0, none⟩)), (9, .pointer (some (s_.2.1.add (t192).toNat)))]) (fun s_ w' => (Kd.R (Kd.int .i64) 3 w' w.heap.size (fun _ => True) s_.1 y189) ∧ (∃ c_, (s_.1 : Value) = .slice (some s_.2.1) y189.length c_) ∧ (w'.heap[gb188]? = some (.cells #[.int .i64 0, .int .i64 0, .int .i64 0] 25 (0, 0))) ∧ (w'.heap[s_.2.2]? = some (.cells #[.int .i64 0, .int .i64 0, .int .i64 0] 25 (0, 0))) ∧ (w.heap.size ≤ s_.2.2) ∧ (w0.heap.size ≤ s_.2.2) ∧ (g ≠ s_.2.2) ∧ (s_.2.2 ≠ g) ∧ (gb188 ≠ s_.2.2) ∧ (s_.2.2 ≠ gb188) ∧ (IsS73 w0 w' g s0_0 t193) ∧ (KeepBut w w' g none) ∧ (Below w0.heap.size w0 w')) ?_ ?_
     rotate_left
     ·intro hJ0_2_4_11
      refine join_ (σ := Value × Addr × Nat) 4 (zL 13 2543) (fun s_ => [(6, s_.1), (8, .int .i64 t192), (12, .int .i64 t195), (5, .pointer (some ⟨s_.2.2, 0, none⟩)), (9, .pointer (some (s_.2.1.add (t192).toNat))), (13, .int .i64 (wrap64 (Int.tdiv t195 59))), (14, .int .i64 (wrap64 ((wrap64 (Int.tdiv t195 59)) * 6)))]) (fun s_ w' => (Kd.R (Kd.int .i64) 3 w' w.heap.size (fun _ => True) s_.1 y189) ∧ (∃ c_, (s_.1 : Value) = .slice (some s_.2.1) y189.length c_) ∧ (w'.heap[gb188]? = some (.cells #[.int .i64 0, .int .i64 0, .int .i64 0] 25 (0, 0))) ∧ (w'.heap[s_.2.2]? = some (.cells #[.int .i64 0, .int .i64 0, .int .i64 0] 25 (0, 0))) ∧ (w.heap.size ≤ s_.2.2) ∧ (w0.heap.size ≤ s_.2.2) ∧ (g ≠ s_.2.2) ∧ (s_.2.2 ≠ g) ∧ (gb188 ≠ s_.2.2) ∧ (s_.2.2 ≠ gb188) ∧ (IsS73 w0 w' g s0_0 t196) ∧ (KeepBut w w' g none) ∧ (Below w0.heap.size w0 w')) ?_ ?_
      rotate_left
      ·intro hJ0_2_6_11
       refine join_ (σ := Value × Addr) 7 (zL 13 63) (fun s_ => [(6, s_.1), (8, .int .i64 t192), (10, .int .i64 (rd y189 t192)), (9, .pointer (some (s_.2.add (t192).toNat)))]) (fun s_ w' => (Kd.R (Kd.int .i64) 3 w' w.heap.size (fun _ => True) s_.1 y189) ∧ (∃ c_, (s_.1 : Value) = .slice (some s_.2) y189.length c_) ∧ (w'.heap[gb188]? = some (.cells #[.int .i64 0, .int .i64 0, .int .i64 0] 25 (0, 0))) ∧ (IsS73 w0 w' g s0_0 t193) ∧ (KeepBut w w' g none) ∧ (Below w0.heap.size w0 w')) ?_ ?_
       rotate_left
       ·intro hJ0_2_4
        refine join_ (σ := Value × Addr) 5 (zL 13 495) (fun s_ => [(6, s_.1), (8, .int .i64 t192), (12, .int .i64 t195), (9, .pointer (some (s_.2.add (t192).toNat))), (13, .int .i64 (wrap64 (Int.tdiv t195 59))), (14, .int .i64 (wrap64 ((wrap64 (Int.tdiv t195 59)) * 6)))]) (fun s_ w' => (Kd.R (Kd.int .i64) 3 w' w.heap.size (fun _ => True) s_.1 y189) ∧ (∃ c_, (s_.1 : Value) = .slice (some s_.2) y189.length c_) ∧ (w'.heap[gb188]? = some (.cells #[.int .i64 0, .int .i64 0, .int .i64 0] 25 (0, 0))) ∧ (IsS73 w0 w' g s0_0 t196) ∧ (KeepBut w w' g none) ∧ (Below w0.heap.size w0 w')) ?_ ?_
        rotate_left
        ·intro hJ0_2_6
         refine join_ (σ := Value × Addr × Nat) 7 (zL 13 2095) (fun s_ => [(6, s_.1), (8, .int .i64 t192), (5, .pointer (some ⟨s_.2.2, 0, none⟩)), (9, .pointer (some (s_.2.1.add (t192).toNat)))]) (fun s_ w' => (Kd.R (Kd.int .i64) 3 w' w.heap.size (fun _ => True) s_.1 y189) ∧ (∃ c_, (s_.1 : Value) = .slice (some s_.2.1) y189.length c_) ∧ (w'.heap[gb188]? = some (.cells #[.int .i64 0, .int .i64 0, .int .i64 0] 25 (0, 0))) ∧ (w'.heap[s_.2.2]? = some (.cells #[.int .i64 0, .int .i64 0, .int .i64 0] 25 (0, 0))) ∧ (w.heap.size ≤ s_.2.2) ∧ (w0.heap.size ≤ s_.2.2) ∧ (g ≠ s_.2.2) ∧ (s_.2.2 ≠ g) ∧ (gb188 ≠ s_.2.2) ∧ (s_.2.2 ≠ gb188) ∧ (IsS73 w0 w' g s0_0 t193) ∧ (KeepBut w w' g none) ∧ (Below w0.heap.size w0 w')) ?_ ?_
         rotate_left
         ·intro hJ0_2_11
          refine join_ (σ := Nat) 6 (zL 13 2534) (fun s_ => [(8, .int .i64 t192), (12, .int .i64 t195), (5, .pointer (some ⟨s_, 0, none⟩)), (13, .int .i64 (wrap64 (Int.tdiv t195 59))), (14, .int .i64 (wrap64 ((wrap64 (Int.tdiv t195 59)) * 6)))]) (fun s_ w' => (w'.heap[gb188]? = some (.cells #[.int .i64 0, .int .i64 0, .int .i64 0] 25 (0, 0))) ∧ (w'.heap[s_]? = some (.cells #[.int .i64 0, .int .i64 0, .int .i64 0] 25 (0, 0))) ∧ (w.heap.size ≤ s_) ∧ (w0.heap.size ≤ s_) ∧ (g ≠ s_) ∧ (s_ ≠ g) ∧ (gb188 ≠ s_) ∧ (s_ ≠ gb188) ∧ (IsS73 w0 w' g s0_0 t196) ∧ (KeepBut w w' g none) ∧ (Below w0.heap.size w0 w')) ?_ ?_
          rotate_left
          ·intro hJ2_6_11
           refine join_ (σ := Value × Addr) 8 (zL 13 47) (fun s_ => [(6, s_.1), (8, .int .i64 t192), (9, .pointer (some (s_.2.add (t192).toNat)))]) (fun s_ w' => (Kd.R (Kd.int .i64) 3 w' w.heap.size (fun _ => True) s_.1 y189) ∧ (∃ c_, (s_.1 : Value) = .slice (some s_.2) y189.length c_) ∧ (w'.heap[gb188]? = some (.cells #[.int .i64 0, .int .i64 0, .int .i64 0] 25 (0, 0))) ∧ (IsS73 w0 w' g s0_0 t193) ∧ (KeepBut w w' g none) ∧ (Below w0.heap.size w0 w')) ?_ ?_
           rotate_left
           ·intro hJ0_2
            refine join_ (σ := Value × Addr × Nat) 9 (zL 13 2083) (fun s_ => [(6, s_.1), (5, .pointer (some ⟨s_.2.2, 0, none⟩))]) (fun s_ w' => (Kd.R (Kd.int .i64) 3 w' w.heap.size (fun _ => True) s_.1 y189) ∧ (∃ c_, (s_.1 : Value) = .slice (some s_.2.1) y189.length c_) ∧ (w'.heap[gb188]? = some (.cells #[.int .i64 0, .int .i64 0, .int .i64 0] 25 (0, 0))) ∧ (w'.heap[s_.2.2]? = some (.cells #[.int .i64 0, .int .i64 0, .int .i64 0] 25 (0, 0))) ∧ (w.heap.size ≤ s_.2.2) ∧ (w0.heap.size ≤ s_.2.2) ∧ (g ≠ s_.2.2) ∧ (s_.2.2 ≠ g) ∧ (gb188 ≠ s_.2.2) ∧ (s_.2.2 ≠ gb188) ∧ (IsS73 w0 w' g s0_0 s0_1) ∧ (KeepBut w w' g none) ∧ (Below w0.heap.size w0 w')) ?_ ?_
            rotate_left
            ·intro hJ0_11
             refine join_ (σ := Unit) 7 (zL 13 486) (fun s_ => [(8, .int .i64 t192), (12, .int .i64 t195), (13, .int .i64 (wrap64 (Int.tdiv t195 59))), (14, .int .i64 (wrap64 ((wrap64 (Int.tdiv t195 59)) * 6)))]) (fun s_ w' => (w'.heap[gb188]? = some (.cells #[.int .i64 0, .int .i64 0, .int .i64 0] 25 (0, 0))) ∧ (IsS73 w0 w' g s0_0 t196) ∧ (KeepBut w w' g none) ∧ (Below w0.heap.size w0 w')) ?_ ?_
             rotate_left
             ·intro hJ2_6
              refine join_ (σ := Nat) 9 (zL 13 2086) (fun s_ => [(8, .int .i64 t192), (5, .pointer (some ⟨s_, 0, none⟩))]) (fun s_ w' => (w'.heap[gb188]? = some (.cells #[.int .i64 0, .int .i64 0, .int .i64 0] 25 (0, 0))) ∧ (w'.heap[s_]? = some (.cells #[.int .i64 0, .int .i64 0, .int .i64 0] 25 (0, 0))) ∧ (w.heap.size ≤ s_) ∧ (w0.heap.size ≤ s_) ∧ (g ≠ s_) ∧ (s_ ≠ g) ∧ (gb188 ≠ s_) ∧ (s_ ≠ gb188) ∧ (IsS73 w0 w' g s0_0 t193) ∧ (KeepBut w w' g none) ∧ (Below w0.heap.size w0 w')) ?_ ?_
              rotate_left
              ·intro hJ2_11
               refine join_ (σ := Value × Addr) 10 (zL 13 35) (fun s_ => [(6, s_.1)]) (fun s_ w' => (Kd.R (Kd.int .i64) 3 w' w.heap.size (fun _ => True) s_.1 y189) ∧ (∃ c_, (s_.1 : Value) = .slice (some s_.2) y189.length c_) ∧ (w'.heap[gb188]? = some (.cells #[.int .i64 0, .int .i64 0, .int .i64 0] 25 (0, 0))) ∧ (IsS73 w0 w' g s0_0 s0_1) ∧ (KeepBut w w' g none) ∧ (Below w0.heap.size w0 w')) ?_ ?_
               rotate_left
               ·intro hJ0
                refine join_ (σ := Unit) 10 (zL 13 38) (fun s_ => [(8, .int .i64 t192)]) (fun s_ w' => (w'.heap[gb188]? = some (.cells #[.int .i64 0, .int .i64 0, .int .i64 0] 25 (0, 0))) ∧ (IsS73 w0 w' g s0_0 t193) ∧ (KeepBut w w' g none) ∧ (Below w0.heap.size w0 w')) ?_ ?_
                rotate_left
                ·intro hJ2
                 refine join_ (σ := Nat) 10 (zL 13 2082) (fun s_ => [(5, .pointer (some ⟨s_, 0, none⟩))]) (fun s_ w' => (w'.heap[gb188]? = some (.cells #[.int .i64 0, .int .i64 0, .int .i64 0] 25 (0, 0))) ∧ (w'.heap[s_]? = some (.cells #[.int .i64 0, .int .i64 0, .int .i64 0] 25 (0, 0))) ∧ (w.heap.size ≤ s_) ∧ (w0.heap.size ≤ s_) ∧ (g ≠ s_) ∧ (s_ ≠ g) ∧ (gb188 ≠ s_) ∧ (s_ ≠ gb188) ∧ (IsS73 w0 w' g s0_0 s0_1) ∧ (KeepBut w w' g none) ∧ (Below w0.heap.size w0 w')) ?_ ?_
                 rotate_left
                 ·intro hJ11
                  refine three_ (i := 0) (j := 2) (k := 11) (Ni := some 6) (Nj := some 8) (Nk := some 5) (zL 13 35) (zL 13 38) (zL 13 2082) rfl rfl rfl rfl rfl rfl (three_of HT_.out (by kernel_rfl)) (by decide) (by decide) (by decide) (fun K hK => ?_) (fun K hK => ?_) (fun K hK => ?_)
                  ·skip
                   refine Kd.R_lit_step (Kd.int .i64) _ 3 zs0 (N := 6) zs0 (xs := ([0, 0, 1, 1, 2, 3, 4, 5] : List Int)) (inner := [.int .i64 0, .int .i64 0, .int .i64 1, .int .i64 1, .int .i64 2, .int .i64 3, .int .i64 4, .int .i64 5]) (ok := fun _ => True) (okp := fun _ => True) zs1 ?hp (fun _ hk => hk) trivial (Below.refl _ _) (Nat.le_refl _) (by simp) ?_; (case hp => exact (Reps.one (show Kd.M (Kd.int .i64) _ _ _ 0 [.int .i64 0] from rfl) (Reps.one (show Kd.M (Kd.int .i64) _ _ _ 0 [.int .i64 0] from rfl) (Reps.one (show Kd.M (Kd.int .i64) _ _ _ 1 [.int .i64 1] from rfl) (Reps.one (show Kd.M (Kd.int .i64) _ _ _ 1 [.int .i64 1] from rfl) (Reps.one (show Kd.M (Kd.int .i64) _ _ _ 2 [.int .i64 2] from rfl) (Reps.one (show Kd.M (Kd.int .i64) _ _ _ 3 [.int .i64 3] from rfl) (Reps.one (show Kd.M (Kd.int .i64) _ _ _ 4 [.int .i64 4] from rfl) (Reps.one (show Kd.M (Kd.int .i64) _ _ _ 5 [.int .i64 5] from rfl) (Reps.none _ _))))))))))
                   intro v190 w10 ho11 hb hg_ hnew_
                   clear hg_ hnew_
                   (first | rw [← Ny189.out] at ho11 | (simp only [Int.reduceToNat] at ho11; rw [← Ny189.out] at ho11))
                   have HO191:=zM (Kd.R_lower ho11 (keep_size (w := w) (g := g) (row := none) (zs17 HK.out GW188.out)))
                   replace BK188:=zM (blk_below (g := gb188) (o := .cells #[.int .i64 0, .int .i64 0, .int .i64 0] 25 (0, 0)) (zs12 BK188.out) hb)
                   replace HK:=zM (KeepBut.trans (zs17 HK.out GW188.out) (KeepBut.of_below hb g none) (.inl rfl))
                   replace HB:=zM (below_step (zs18 HB.out HI0.out GE188.out) hb)
                   replace HI0:=zM (IsS73.below (zs19 HI0.out NB0_188.out) hb)
                   clear hb ho11
                   obtain ⟨Ao12, co12, eo12⟩ := Kd.R_slice HO191.out
                   subst eo12
                   obtain ⟨ado12, fo12, _⟩ := Kd.at_int (Kd.R_reads' HO191.out).2.2 0 (by decide) (by rw [Ny189.out]; simp)
                   cases fo12
                   refine hK.out _ _ trivial (fun hHeld => ?_)
                   clear hK K
                   refine norm_ (a' := ?_) ?_ ?_
                   rotate_left
                   ·show Act.put _ (some 6) _ = _
                    simp only [Act.put, zE, zF, zG, i64_w, i32_w]
                    rfl
                   exact norm_ zs20 (hJ0 (.slice (some ado12) y189.length co12, ado12) _ ⟨(zs11 HO191.out), ⟨_, rfl⟩, (zs12 BK188.out), (zs19 HI0.out NB0_188.out), (zs17 HK.out GW188.out), (zs18 HB.out HI0.out GE188.out)⟩)
                  ·skip
                   refine goes_ Tryd.func43 (by kernel_rfl) rfl #[.pointer (some ⟨g, 0, none⟩), .int .i64 8] (by rfl) rfl rfl (by (try simp only [List.map_toArray, List.map_cons, List.map_nil]); first | done | rfl | (simp only [List.length_drop, List.length_take]; rfl)) ?_
                   with_reducible refine (spec_l20Rd_pick.calls k g s0_0 s0_1 8 t192 t193 w0 _ ?side1 ?side2 A3.out).mono ?_
                   (case side1 => exact (zs19 HI0.out NB0_188.out))
                   (case side2 => exact (zs18 HB.out HI0.out GE188.out))
                   rintro e w10 ⟨rfl, hi, hb, hk⟩
                   refine ⟨_, rfl, ?_⟩
                   replace BK188:=zM (KeepBut.blk hk (g' := gb188) (o := .cells #[.int .i64 0, .int .i64 0, .int .i64 0] 25 (0, 0)) (zs12 BK188.out) NB188_0.out (by simp))
                   replace HK:=zM (KeepBut.trans (zs17 HK.out GW188.out) hk (.inl rfl))
                   replace HB:=zM (hb)
                   replace HI0:=zM (hi)
                   (try clear hb)
                   (try clear hb2)
                   (try clear hk)
                   (try clear hi)
                   refine hK.out _ _ trivial (fun hHeld => ?_)
                   clear hK K
                   refine norm_ (a' := ?_) ?_ ?_
                   rotate_left
                   ·show Act.put _ (some 8) _ = _
                    simp only [Act.put, zE, zF, zG, i64_w, i32_w]
                    rfl
                   exact norm_ zs20 (hJ2 () _ ⟨(zs12 BK188.out), (zs19 HI0.out NB0_188.out), (zs17 HK.out GW188.out), (zs18 HB.out HI0.out GE188.out)⟩)
                  ·skip
                   refine box_step zs0 (N := 5) zs0 (cs := #[.int .i64 0, .int .i64 0, .int .i64 0]) (t := 25) zs1 ?_
                   intro gb197 hg w10 hbox hb
                   replace HB:=zM (below_step (zs18 HB.out HI0.out GE188.out) hb)
                   have BK197:=zM (hbox)
                   have GW197:=zM ((by rw [hg]; exact (keep_size (w := w) (g := g) (row := none) (zs17 HK.out GW188.out)) : w.heap.size ≤ gb197))
                   have GE197:=zM ((Nat.le_trans HW0.out (by rw [hg]; exact (keep_size (w := w) (g := g) (row := none) (zs17 HK.out GW188.out)) : w.heap.size ≤ gb197) : w0.heap.size ≤ gb197))
                   replace HK:=zM (KeepBut.trans (zs17 HK.out GW188.out) (KeepBut.of_below hb g none) (.inl rfl))
                   have NB188_197:=zM ((by rw [hg]; exact Nat.ne_of_lt (blk_lt (g := gb188) (o := .cells #[.int .i64 0, .int .i64 0, .int .i64 0] 25 (0, 0)) (zs12 BK188.out)) : gb188 ≠ gb197))
                   have NB197_188:=zM ((by rw [hg]; exact Nat.ne_of_gt (blk_lt (g := gb188) (o := .cells #[.int .i64 0, .int .i64 0, .int .i64 0] 25 (0, 0)) (zs12 BK188.out)) : gb197 ≠ gb188))
                   replace BK188:=zM (blk_below (g := gb188) (o := .cells #[.int .i64 0, .int .i64 0, .int .i64 0] 25 (0, 0)) (zs12 BK188.out) hb)
                   have NB0_197:=zM ((by rw [hg]; exact Nat.ne_of_lt (IsS73.lt (show IsS73 w0 _ g s0_0 s0_1 from (zs19 HI0.out NB0_188.out))) : g ≠ gb197))
                   have NB197_0:=zM ((by rw [hg]; exact Nat.ne_of_gt (IsS73.lt (show IsS73 w0 _ g s0_0 s0_1 from (zs19 HI0.out NB0_188.out))) : gb197 ≠ g))
                   replace HI0:=zM (IsS73.below (zs19 HI0.out NB0_188.out) hb)
                   clear hb hbox hg
                   refine hK.out _ _ trivial (fun hHeld => ?_)
                   clear hK K
                   refine norm_ (a' := ?_) ?_ ?_
                   rotate_left
                   ·show Act.put _ (some 5) _ = _
                    simp only [Act.put, zE, zF, zG, i64_w, i32_w]
                    rfl
                   exact norm_ zs20 (hJ11 (gb197) _ ⟨(zs12 BK188.out), (zs12 BK197.out), GW197.out, GE197.out, NB0_197.out, NB197_0.out, NB188_197.out, NB197_188.out, (zs21 HI0.out NB0_188.out NB0_197.out), (zs22 HK.out GW188.out GW197.out), (zs23 HB.out HI0.out GE188.out GE197.out)⟩)
                 ·skip
                  rintro gb197 w11 ⟨h0_, h1_, h2_, h3_, h4_, h5_, h6_, h7_, h8_, h9_, h10_⟩
                  replace BK188 : Aside0 (w11.heap[gb188]? = some (.cells #[.int .i64 0, .int .i64 0, .int .i64 0] 25 (0, 0))) := ⟨h0_⟩
                  have BK197 : Aside0 (w11.heap[gb197]? = some (.cells #[.int .i64 0, .int .i64 0, .int .i64 0] 25 (0, 0))) := ⟨h1_⟩
                  have GW197 : Aside0 (w.heap.size ≤ gb197) := ⟨h2_⟩
                  have GE197 : Aside0 (w0.heap.size ≤ gb197) := ⟨h3_⟩
                  have NB0_197 : Aside0 (g ≠ gb197) := ⟨h4_⟩
                  have NB197_0 : Aside0 (gb197 ≠ g) := ⟨h5_⟩
                  have NB188_197 : Aside0 (gb188 ≠ gb197) := ⟨h6_⟩
                  have NB197_188 : Aside0 (gb197 ≠ gb188) := ⟨h7_⟩
                  replace HI0 : Aside0 (IsS73 w0 w11 g s0_0 s0_1) := ⟨h8_⟩
                  replace HK : Aside0 (KeepBut w w11 g none) := ⟨h9_⟩
                  replace HB : Aside0 (Below w0.heap.size w0 w11) := ⟨h10_⟩
                  clear h0_ h1_ h2_ h3_ h4_ h5_ h6_ h7_ h8_ h9_ h10_
                  have hHeld := trivial
                  refine norm_ (a' := ?_) ?_ ?_
                  rotate_left
                  ·simp only [putAll, Act.put, zE, zF, zG]
                   rfl
                  refine two_ (i := 0) (j := 2) (Ni := some 6) (Nj := some 8) (zL 13 2083) (zL 13 2086) rfl rfl rfl rfl (two_of HT_.out (by kernel_rfl)) (by decide) (by decide) (fun K hK => ?_) (fun K hK => ?_)
                  ·skip
                   refine Kd.R_lit_step (Kd.int .i64) _ 3 zs0 (N := 6) zs0 (xs := ([0, 0, 1, 1, 2, 3, 4, 5] : List Int)) (inner := [.int .i64 0, .int .i64 0, .int .i64 1, .int .i64 1, .int .i64 2, .int .i64 3, .int .i64 4, .int .i64 5]) (ok := fun _ => True) (okp := fun _ => True) zs1 ?hp (fun _ hk => hk) trivial (Below.refl _ _) (Nat.le_refl _) (by simp) ?_; (case hp => exact (Reps.one (show Kd.M (Kd.int .i64) _ _ _ 0 [.int .i64 0] from rfl) (Reps.one (show Kd.M (Kd.int .i64) _ _ _ 0 [.int .i64 0] from rfl) (Reps.one (show Kd.M (Kd.int .i64) _ _ _ 1 [.int .i64 1] from rfl) (Reps.one (show Kd.M (Kd.int .i64) _ _ _ 1 [.int .i64 1] from rfl) (Reps.one (show Kd.M (Kd.int .i64) _ _ _ 2 [.int .i64 2] from rfl) (Reps.one (show Kd.M (Kd.int .i64) _ _ _ 3 [.int .i64 3] from rfl) (Reps.one (show Kd.M (Kd.int .i64) _ _ _ 4 [.int .i64 4] from rfl) (Reps.one (show Kd.M (Kd.int .i64) _ _ _ 5 [.int .i64 5] from rfl) (Reps.none _ _))))))))))
                   intro v190 w12 ho13 hb hg_ hnew_
                   clear hg_ hnew_
                   (first | rw [← Ny189.out] at ho13 | (simp only [Int.reduceToNat] at ho13; rw [← Ny189.out] at ho13))
                   have HO191:=zM (Kd.R_lower ho13 (keep_size (w := w) (g := g) (row := none) (zs22 HK.out GW188.out GW197.out)))
                   replace BK188:=zM (blk_below (g := gb188) (o := .cells #[.int .i64 0, .int .i64 0, .int .i64 0] 25 (0, 0)) (zs12 BK188.out) hb)
                   replace BK197:=zM (blk_below (g := gb197) (o := .cells #[.int .i64 0, .int .i64 0, .int .i64 0] 25 (0, 0)) (zs12 BK197.out) hb)
                   replace HK:=zM (KeepBut.trans (zs22 HK.out GW188.out GW197.out) (KeepBut.of_below hb g none) (.inl rfl))
                   replace HB:=zM (below_step (zs23 HB.out HI0.out GE188.out GE197.out) hb)
                   replace HI0:=zM (IsS73.below (zs21 HI0.out NB0_188.out NB0_197.out) hb)
                   clear hb ho13
                   obtain ⟨Ao14, co14, eo14⟩ := Kd.R_slice HO191.out
                   subst eo14
                   obtain ⟨ado14, fo14, _⟩ := Kd.at_int (Kd.R_reads' HO191.out).2.2 0 (by decide) (by rw [Ny189.out]; simp)
                   cases fo14
                   refine hK.out _ _ trivial (fun hHeld => ?_)
                   clear hK K
                   refine norm_ (a' := ?_) ?_ ?_
                   rotate_left
                   ·show Act.put _ (some 6) _ = _
                    simp only [Act.put, zE, zF, zG, i64_w, i32_w]
                    rfl
                   exact norm_ zs20 (hJ0_11 (.slice (some ado14) y189.length co14, ado14, gb197) _ ⟨(zs11 HO191.out), ⟨_, rfl⟩, (zs12 BK188.out), (zs12 BK197.out), GW197.out, GE197.out, NB0_197.out, NB197_0.out, NB188_197.out, NB197_188.out, (zs21 HI0.out NB0_188.out NB0_197.out), (zs22 HK.out GW188.out GW197.out), (zs23 HB.out HI0.out GE188.out GE197.out)⟩)
                  ·skip
                   refine goes_ Tryd.func43 (by kernel_rfl) rfl #[.pointer (some ⟨g, 0, none⟩), .int .i64 8] (by rfl) rfl rfl (by (try simp only [List.map_toArray, List.map_cons, List.map_nil]); first | done | rfl | (simp only [List.length_drop, List.length_take]; rfl)) ?_
                   with_reducible refine (spec_l20Rd_pick.calls k g s0_0 s0_1 8 t192 t193 w0 _ ?side1 ?side2 A3.out).mono ?_
                   (case side1 => exact (zs21 HI0.out NB0_188.out NB0_197.out))
                   (case side2 => exact (zs23 HB.out HI0.out GE188.out GE197.out))
                   rintro e w12 ⟨rfl, hi, hb, hk⟩
                   refine ⟨_, rfl, ?_⟩
                   replace BK188:=zM (KeepBut.blk hk (g' := gb188) (o := .cells #[.int .i64 0, .int .i64 0, .int .i64 0] 25 (0, 0)) (zs12 BK188.out) NB188_0.out (by simp))
                   replace BK197:=zM (KeepBut.blk hk (g' := gb197) (o := .cells #[.int .i64 0, .int .i64 0, .int .i64 0] 25 (0, 0)) (zs12 BK197.out) NB197_0.out (by simp))
                   replace HK:=zM (KeepBut.trans (zs22 HK.out GW188.out GW197.out) hk (.inl rfl))
                   replace HB:=zM (hb)
                   replace HI0:=zM (hi)
                   (try clear hb)
                   (try clear hb2)
                   (try clear hk)
                   (try clear hi)
                   refine hK.out _ _ trivial (fun hHeld => ?_)
                   clear hK K
                   refine norm_ (a' := ?_) ?_ ?_
                   rotate_left
                   ·show Act.put _ (some 8) _ = _
                    simp only [Act.put, zE, zF, zG, i64_w, i32_w]
                    rfl
                   exact norm_ zs20 (hJ2_11 (gb197) _ ⟨(zs12 BK188.out), (zs12 BK197.out), GW197.out, GE197.out, NB0_197.out, NB197_0.out, NB188_197.out, NB197_188.out, (zs21 HI0.out NB0_188.out NB0_197.out), (zs22 HK.out GW188.out GW197.out), (zs23 HB.out HI0.out GE188.out GE197.out)⟩)
                ·skip
                 rintro _ w11 ⟨h0_, h1_, h2_, h3_⟩
                 replace BK188 : Aside0 (w11.heap[gb188]? = some (.cells #[.int .i64 0, .int .i64 0, .int .i64 0] 25 (0, 0))) := ⟨h0_⟩
                 replace HI0 : Aside0 (IsS73 w0 w11 g s0_0 t193) := ⟨h1_⟩
                 replace HK : Aside0 (KeepBut w w11 g none) := ⟨h2_⟩
                 replace HB : Aside0 (Below w0.heap.size w0 w11) := ⟨h3_⟩
                 clear h0_ h1_ h2_ h3_
                 have hHeld := trivial
                 refine norm_ (a' := ?_) ?_ ?_
                 rotate_left
                 ·simp only [putAll, Act.put, zE, zF, zG]
                  rfl
                 refine three_ (i := 0) (j := 6) (k := 11) (Ni := some 6) (Nj := some 12) (Nk := some 5) (zL 13 39) (zL 13 102) (zL 13 2086) rfl rfl rfl rfl rfl rfl (three_of HT_.out (by kernel_rfl)) (by decide) (by decide) (by decide) (fun K hK => ?_) (fun K hK => ?_) (fun K hK => ?_)
                 ·skip
                  refine Kd.R_lit_step (Kd.int .i64) _ 3 zs0 (N := 6) zs0 (xs := ([0, 0, 1, 1, 2, 3, 4, 5] : List Int)) (inner := [.int .i64 0, .int .i64 0, .int .i64 1, .int .i64 1, .int .i64 2, .int .i64 3, .int .i64 4, .int .i64 5]) (ok := fun _ => True) (okp := fun _ => True) zs1 ?hp (fun _ hk => hk) trivial (Below.refl _ _) (Nat.le_refl _) (by simp) ?_; (case hp => exact (Reps.one (show Kd.M (Kd.int .i64) _ _ _ 0 [.int .i64 0] from rfl) (Reps.one (show Kd.M (Kd.int .i64) _ _ _ 0 [.int .i64 0] from rfl) (Reps.one (show Kd.M (Kd.int .i64) _ _ _ 1 [.int .i64 1] from rfl) (Reps.one (show Kd.M (Kd.int .i64) _ _ _ 1 [.int .i64 1] from rfl) (Reps.one (show Kd.M (Kd.int .i64) _ _ _ 2 [.int .i64 2] from rfl) (Reps.one (show Kd.M (Kd.int .i64) _ _ _ 3 [.int .i64 3] from rfl) (Reps.one (show Kd.M (Kd.int .i64) _ _ _ 4 [.int .i64 4] from rfl) (Reps.one (show Kd.M (Kd.int .i64) _ _ _ 5 [.int .i64 5] from rfl) (Reps.none _ _))))))))))
                  intro v190 w12 ho13 hb hg_ hnew_
                  clear hg_ hnew_
                  (first | rw [← Ny189.out] at ho13 | (simp only [Int.reduceToNat] at ho13; rw [← Ny189.out] at ho13))
                  have HO191:=zM (Kd.R_lower ho13 (keep_size (w := w) (g := g) (row := none) (zs17 HK.out GW188.out)))
                  replace BK188:=zM (blk_below (g := gb188) (o := .cells #[.int .i64 0, .int .i64 0, .int .i64 0] 25 (0, 0)) (zs12 BK188.out) hb)
                  replace HK:=zM (KeepBut.trans (zs17 HK.out GW188.out) (KeepBut.of_below hb g none) (.inl rfl))
                  replace HB:=zM (below_step (zs18 HB.out HI0.out GE188.out) hb)
                  replace HI0:=zM (IsS73.below (zs19 HI0.out NB0_188.out) hb)
                  clear hb ho13
                  obtain ⟨Ao14, co14, eo14⟩ := Kd.R_slice HO191.out
                  subst eo14
                  obtain ⟨ado14, fo14, _⟩ := Kd.at_int (Kd.R_reads' HO191.out).2.2 0 (by decide) (by rw [Ny189.out]; simp)
                  cases fo14
                  refine hK.out _ _ trivial (fun hHeld => ?_)
                  clear hK K
                  refine norm_ (a' := ?_) ?_ ?_
                  rotate_left
                  ·show Act.put _ (some 6) _ = _
                   simp only [Act.put, zE, zF, zG, i64_w, i32_w]
                   rfl
                  refine zp 3 (some 9) (zL 13 47) HT_ ?_
                  exact norm_ zs20 (hJ0_2 (.slice (some ado14) y189.length co14, ado14) _ ⟨(zs11 HO191.out), ⟨_, rfl⟩, (zs12 BK188.out), (zs19 HI0.out NB0_188.out), (zs17 HK.out GW188.out), (zs18 HB.out HI0.out GE188.out)⟩)
                 ·skip
                  refine goes_ Tryd.func43 (by kernel_rfl) rfl #[.pointer (some ⟨g, 0, none⟩), .int .i64 60] (by rfl) rfl rfl (by (try simp only [List.map_toArray, List.map_cons, List.map_nil]); first | done | rfl | (simp only [List.length_drop, List.length_take]; rfl)) ?_
                  with_reducible refine (spec_l20Rd_pick.calls k g s0_0 t193 60 t195 t196 w0 _ ?side1 ?side2 A6.out).mono ?_
                  (case side1 => exact (zs19 HI0.out NB0_188.out))
                  (case side2 => exact (zs18 HB.out HI0.out GE188.out))
                  rintro e w12 ⟨rfl, hi, hb, hk⟩
                  refine ⟨_, rfl, ?_⟩
                  replace BK188:=zM (KeepBut.blk hk (g' := gb188) (o := .cells #[.int .i64 0, .int .i64 0, .int .i64 0] 25 (0, 0)) (zs12 BK188.out) NB188_0.out (by simp))
                  replace HK:=zM (KeepBut.trans (zs17 HK.out GW188.out) hk (.inl rfl))
                  replace HB:=zM (hb)
                  replace HI0:=zM (hi)
                  (try clear hb)
                  (try clear hb2)
                  (try clear hk)
                  (try clear hi)
                  refine hK.out _ _ trivial (fun hHeld => ?_)
                  clear hK K
                  refine norm_ (a' := ?_) ?_ ?_
                  rotate_left
                  ·show Act.put _ (some 12) _ = _
                   simp only [Act.put, zE, zF, zG, i64_w, i32_w]
                   rfl
                  refine zp 7 (some 13) (zL 13 230) HT_ ?_
                  refine zp 8 (some 14) (zL 13 486) HT_ ?_
                  exact norm_ zs20 (hJ2_6 () _ ⟨(zs12 BK188.out), (zs19 HI0.out NB0_188.out), (zs17 HK.out GW188.out), (zs18 HB.out HI0.out GE188.out)⟩)
                 ·skip
                  refine box_step zs0 (N := 5) zs0 (cs := #[.int .i64 0, .int .i64 0, .int .i64 0]) (t := 25) zs1 ?_
                  intro gb197 hg w12 hbox hb
                  replace HB:=zM (below_step (zs18 HB.out HI0.out GE188.out) hb)
                  have BK197:=zM (hbox)
                  have GW197:=zM ((by rw [hg]; exact (keep_size (w := w) (g := g) (row := none) (zs17 HK.out GW188.out)) : w.heap.size ≤ gb197))
                  have GE197:=zM ((Nat.le_trans HW0.out (by rw [hg]; exact (keep_size (w := w) (g := g) (row := none) (zs17 HK.out GW188.out)) : w.heap.size ≤ gb197) : w0.heap.size ≤ gb197))
                  replace HK:=zM (KeepBut.trans (zs17 HK.out GW188.out) (KeepBut.of_below hb g none) (.inl rfl))
                  have NB188_197:=zM ((by rw [hg]; exact Nat.ne_of_lt (blk_lt (g := gb188) (o := .cells #[.int .i64 0, .int .i64 0, .int .i64 0] 25 (0, 0)) (zs12 BK188.out)) : gb188 ≠ gb197))
                  have NB197_188:=zM ((by rw [hg]; exact Nat.ne_of_gt (blk_lt (g := gb188) (o := .cells #[.int .i64 0, .int .i64 0, .int .i64 0] 25 (0, 0)) (zs12 BK188.out)) : gb197 ≠ gb188))
                  replace BK188:=zM (blk_below (g := gb188) (o := .cells #[.int .i64 0, .int .i64 0, .int .i64 0] 25 (0, 0)) (zs12 BK188.out) hb)
                  have NB0_197:=zM ((by rw [hg]; exact Nat.ne_of_lt (IsS73.lt (show IsS73 w0 _ g s0_0 t193 from (zs19 HI0.out NB0_188.out))) : g ≠ gb197))
                  have NB197_0:=zM ((by rw [hg]; exact Nat.ne_of_gt (IsS73.lt (show IsS73 w0 _ g s0_0 t193 from (zs19 HI0.out NB0_188.out))) : gb197 ≠ g))
                  replace HI0:=zM (IsS73.below (zs19 HI0.out NB0_188.out) hb)
                  clear hb hbox hg
                  refine hK.out _ _ trivial (fun hHeld => ?_)
                  clear hK K
                  refine norm_ (a' := ?_) ?_ ?_
                  rotate_left
                  ·show Act.put _ (some 5) _ = _
                   simp only [Act.put, zE, zF, zG, i64_w, i32_w]
                   rfl
                  exact norm_ zs20 (hJ2_11 (gb197) _ ⟨(zs12 BK188.out), (zs12 BK197.out), GW197.out, GE197.out, NB0_197.out, NB197_0.out, NB188_197.out, NB197_188.out, (zs21 HI0.out NB0_188.out NB0_197.out), (zs22 HK.out GW188.out GW197.out), (zs23 HB.out HI0.out GE188.out GE197.out)⟩)
               ·skip
                rintro ⟨v190, adz_v190⟩ w13 ⟨h0_, h1_, h2_, h3_, h4_, h5_⟩
                have HO191 : Aside0 (Kd.R (Kd.int .i64) 3 w13 w.heap.size (fun _ => True) v190 y189) := ⟨h0_⟩
                have HA_HO191 : Aside0 (∃ c_, (v190 : Value) = .slice (some adz_v190) y189.length c_) := ⟨h1_⟩
                replace BK188 : Aside0 (w13.heap[gb188]? = some (.cells #[.int .i64 0, .int .i64 0, .int .i64 0] 25 (0, 0))) := ⟨h2_⟩
                replace HI0 : Aside0 (IsS73 w0 w13 g s0_0 s0_1) := ⟨h3_⟩
                replace HK : Aside0 (KeepBut w w13 g none) := ⟨h4_⟩
                replace HB : Aside0 (Below w0.heap.size w0 w13) := ⟨h5_⟩
                clear h0_ h1_ h2_ h3_ h4_ h5_
                have hHeld := trivial
                obtain ⟨co14, eo14⟩ := HA_HO191.out
                clear HA_HO191
                subst eo14
                refine norm_ (a' := ?_) ?_ ?_
                rotate_left
                ·simp only [putAll, Act.put, zE, zF, zG]
                 rfl
                refine two_ (i := 2) (j := 11) (Ni := some 8) (Nj := some 5) (zL 13 39) (zL 13 2083) rfl rfl rfl rfl (two_of HT_.out (by kernel_rfl)) (by decide) (by decide) (fun K hK => ?_) (fun K hK => ?_)
                ·skip
                 refine goes_ Tryd.func43 (by kernel_rfl) rfl #[.pointer (some ⟨g, 0, none⟩), .int .i64 8] (by rfl) rfl rfl (by (try simp only [List.map_toArray, List.map_cons, List.map_nil]); first | done | rfl | (simp only [List.length_drop, List.length_take]; rfl)) ?_
                 with_reducible refine (spec_l20Rd_pick.calls k g s0_0 s0_1 8 t192 t193 w0 _ ?side1 ?side2 A3.out).mono ?_
                 (case side1 => exact (zs19 HI0.out NB0_188.out))
                 (case side2 => exact (zs18 HB.out HI0.out GE188.out))
                 rintro e w15 ⟨rfl, hi, hb, hk⟩
                 refine ⟨_, rfl, ?_⟩
                 replace BK188:=zM (KeepBut.blk hk (g' := gb188) (o := .cells #[.int .i64 0, .int .i64 0, .int .i64 0] 25 (0, 0)) (zs12 BK188.out) NB188_0.out (by simp))
                 replace HO191:=zM (Kd.R_mono (Kd.R_keep (IsS73.apart (show IsS73 w0 _ g s0_0 s0_1 from (zs19 HI0.out NB0_188.out)) (zs11 HO191.out) (by decide)) hk (fun _ h => h.2)) (fun _ h => h.1))
                 replace HK:=zM (KeepBut.trans (zs17 HK.out GW188.out) hk (.inl rfl))
                 replace HB:=zM (hb)
                 replace HI0:=zM (hi)
                 (try clear hb)
                 (try clear hb2)
                 (try clear hk)
                 (try clear hi)
                 refine hK.out _ _ trivial (fun hHeld => ?_)
                 clear hK K
                 refine norm_ (a' := ?_) ?_ ?_
                 rotate_left
                 ·show Act.put _ (some 8) _ = _
                  simp only [Act.put, zE, zF, zG, i64_w, i32_w]
                  rfl
                 refine zp 3 (some 9) (zL 13 47) HT_ ?_
                 exact norm_ zs20 (hJ0_2 (.slice (some adz_v190) y189.length co14, adz_v190) _ ⟨(zs11 HO191.out), ⟨_, rfl⟩, (zs12 BK188.out), (zs19 HI0.out NB0_188.out), (zs17 HK.out GW188.out), (zs18 HB.out HI0.out GE188.out)⟩)
                ·skip
                 refine box_step zs0 (N := 5) zs0 (cs := #[.int .i64 0, .int .i64 0, .int .i64 0]) (t := 25) zs1 ?_
                 intro gb197 hg w15 hbox hb
                 replace HO191:=zM (Kd.R_below (zs11 HO191.out) hb)
                 replace HB:=zM (below_step (zs18 HB.out HI0.out GE188.out) hb)
                 have BK197:=zM (hbox)
                 have GW197:=zM ((by rw [hg]; exact (keep_size (w := w) (g := g) (row := none) (zs17 HK.out GW188.out)) : w.heap.size ≤ gb197))
                 have GE197:=zM ((Nat.le_trans HW0.out (by rw [hg]; exact (keep_size (w := w) (g := g) (row := none) (zs17 HK.out GW188.out)) : w.heap.size ≤ gb197) : w0.heap.size ≤ gb197))
                 replace HK:=zM (KeepBut.trans (zs17 HK.out GW188.out) (KeepBut.of_below hb g none) (.inl rfl))
                 have NB188_197:=zM ((by rw [hg]; exact Nat.ne_of_lt (blk_lt (g := gb188) (o := .cells #[.int .i64 0, .int .i64 0, .int .i64 0] 25 (0, 0)) (zs12 BK188.out)) : gb188 ≠ gb197))
                 have NB197_188:=zM ((by rw [hg]; exact Nat.ne_of_gt (blk_lt (g := gb188) (o := .cells #[.int .i64 0, .int .i64 0, .int .i64 0] 25 (0, 0)) (zs12 BK188.out)) : gb197 ≠ gb188))
                 replace BK188:=zM (blk_below (g := gb188) (o := .cells #[.int .i64 0, .int .i64 0, .int .i64 0] 25 (0, 0)) (zs12 BK188.out) hb)
                 have NB0_197:=zM ((by rw [hg]; exact Nat.ne_of_lt (IsS73.lt (show IsS73 w0 _ g s0_0 s0_1 from (zs19 HI0.out NB0_188.out))) : g ≠ gb197))
                 have NB197_0:=zM ((by rw [hg]; exact Nat.ne_of_gt (IsS73.lt (show IsS73 w0 _ g s0_0 s0_1 from (zs19 HI0.out NB0_188.out))) : gb197 ≠ g))
                 replace HI0:=zM (IsS73.below (zs19 HI0.out NB0_188.out) hb)
                 clear hb hbox hg
                 refine hK.out _ _ trivial (fun hHeld => ?_)
                 clear hK K
                 refine norm_ (a' := ?_) ?_ ?_
                 rotate_left
                 ·show Act.put _ (some 5) _ = _
                  simp only [Act.put, zE, zF, zG, i64_w, i32_w]
                  rfl
                 exact norm_ zs20 (hJ0_11 (.slice (some adz_v190) y189.length co14, adz_v190, gb197) _ ⟨(zs11 HO191.out), ⟨_, rfl⟩, (zs12 BK188.out), (zs12 BK197.out), GW197.out, GE197.out, NB0_197.out, NB197_0.out, NB188_197.out, NB197_188.out, (zs21 HI0.out NB0_188.out NB0_197.out), (zs22 HK.out GW188.out GW197.out), (zs23 HB.out HI0.out GE188.out GE197.out)⟩)
              ·skip
               rintro gb197 w12 ⟨h0_, h1_, h2_, h3_, h4_, h5_, h6_, h7_, h8_, h9_, h10_⟩
               replace BK188 : Aside0 (w12.heap[gb188]? = some (.cells #[.int .i64 0, .int .i64 0, .int .i64 0] 25 (0, 0))) := ⟨h0_⟩
               have BK197 : Aside0 (w12.heap[gb197]? = some (.cells #[.int .i64 0, .int .i64 0, .int .i64 0] 25 (0, 0))) := ⟨h1_⟩
               have GW197 : Aside0 (w.heap.size ≤ gb197) := ⟨h2_⟩
               have GE197 : Aside0 (w0.heap.size ≤ gb197) := ⟨h3_⟩
               have NB0_197 : Aside0 (g ≠ gb197) := ⟨h4_⟩
               have NB197_0 : Aside0 (gb197 ≠ g) := ⟨h5_⟩
               have NB188_197 : Aside0 (gb188 ≠ gb197) := ⟨h6_⟩
               have NB197_188 : Aside0 (gb197 ≠ gb188) := ⟨h7_⟩
               replace HI0 : Aside0 (IsS73 w0 w12 g s0_0 t193) := ⟨h8_⟩
               replace HK : Aside0 (KeepBut w w12 g none) := ⟨h9_⟩
               replace HB : Aside0 (Below w0.heap.size w0 w12) := ⟨h10_⟩
               clear h0_ h1_ h2_ h3_ h4_ h5_ h6_ h7_ h8_ h9_ h10_
               have hHeld := trivial
               refine norm_ (a' := ?_) ?_ ?_
               rotate_left
               ·simp only [putAll, Act.put, zE, zF, zG]
                rfl
               refine two_ (i := 0) (j := 6) (Ni := some 6) (Nj := some 12) (zL 13 2087) (zL 13 2150) rfl rfl rfl rfl (two_of HT_.out (by kernel_rfl)) (by decide) (by decide) (fun K hK => ?_) (fun K hK => ?_)
               ·skip
                refine Kd.R_lit_step (Kd.int .i64) _ 3 zs0 (N := 6) zs0 (xs := ([0, 0, 1, 1, 2, 3, 4, 5] : List Int)) (inner := [.int .i64 0, .int .i64 0, .int .i64 1, .int .i64 1, .int .i64 2, .int .i64 3, .int .i64 4, .int .i64 5]) (ok := fun _ => True) (okp := fun _ => True) zs1 ?hp (fun _ hk => hk) trivial (Below.refl _ _) (Nat.le_refl _) (by simp) ?_; (case hp => exact (Reps.one (show Kd.M (Kd.int .i64) _ _ _ 0 [.int .i64 0] from rfl) (Reps.one (show Kd.M (Kd.int .i64) _ _ _ 0 [.int .i64 0] from rfl) (Reps.one (show Kd.M (Kd.int .i64) _ _ _ 1 [.int .i64 1] from rfl) (Reps.one (show Kd.M (Kd.int .i64) _ _ _ 1 [.int .i64 1] from rfl) (Reps.one (show Kd.M (Kd.int .i64) _ _ _ 2 [.int .i64 2] from rfl) (Reps.one (show Kd.M (Kd.int .i64) _ _ _ 3 [.int .i64 3] from rfl) (Reps.one (show Kd.M (Kd.int .i64) _ _ _ 4 [.int .i64 4] from rfl) (Reps.one (show Kd.M (Kd.int .i64) _ _ _ 5 [.int .i64 5] from rfl) (Reps.none _ _))))))))))
                intro v190 w13 ho14 hb hg_ hnew_
                clear hg_ hnew_
                (first | rw [← Ny189.out] at ho14 | (simp only [Int.reduceToNat] at ho14; rw [← Ny189.out] at ho14))
                have HO191:=zM (Kd.R_lower ho14 (keep_size (w := w) (g := g) (row := none) (zs22 HK.out GW188.out GW197.out)))
                replace BK188:=zM (blk_below (g := gb188) (o := .cells #[.int .i64 0, .int .i64 0, .int .i64 0] 25 (0, 0)) (zs12 BK188.out) hb)
                replace BK197:=zM (blk_below (g := gb197) (o := .cells #[.int .i64 0, .int .i64 0, .int .i64 0] 25 (0, 0)) (zs12 BK197.out) hb)
                replace HK:=zM (KeepBut.trans (zs22 HK.out GW188.out GW197.out) (KeepBut.of_below hb g none) (.inl rfl))
                replace HB:=zM (below_step (zs23 HB.out HI0.out GE188.out GE197.out) hb)
                replace HI0:=zM (IsS73.below (zs21 HI0.out NB0_188.out NB0_197.out) hb)
                clear hb ho14
                obtain ⟨Ao15, co15, eo15⟩ := Kd.R_slice HO191.out
                subst eo15
                obtain ⟨ado15, fo15, _⟩ := Kd.at_int (Kd.R_reads' HO191.out).2.2 0 (by decide) (by rw [Ny189.out]; simp)
                cases fo15
                refine hK.out _ _ trivial (fun hHeld => ?_)
                clear hK K
                refine norm_ (a' := ?_) ?_ ?_
                rotate_left
                ·show Act.put _ (some 6) _ = _
                 simp only [Act.put, zE, zF, zG, i64_w, i32_w]
                 rfl
                refine zp 3 (some 9) (zL 13 2095) HT_ ?_
                exact norm_ zs20 (hJ0_2_11 (.slice (some ado15) y189.length co15, ado15, gb197) _ ⟨(zs11 HO191.out), ⟨_, rfl⟩, (zs12 BK188.out), (zs12 BK197.out), GW197.out, GE197.out, NB0_197.out, NB197_0.out, NB188_197.out, NB197_188.out, (zs21 HI0.out NB0_188.out NB0_197.out), (zs22 HK.out GW188.out GW197.out), (zs23 HB.out HI0.out GE188.out GE197.out)⟩)
               ·skip
                refine goes_ Tryd.func43 (by kernel_rfl) rfl #[.pointer (some ⟨g, 0, none⟩), .int .i64 60] (by rfl) rfl rfl (by (try simp only [List.map_toArray, List.map_cons, List.map_nil]); first | done | rfl | (simp only [List.length_drop, List.length_take]; rfl)) ?_
                with_reducible refine (spec_l20Rd_pick.calls k g s0_0 t193 60 t195 t196 w0 _ ?side1 ?side2 A6.out).mono ?_
                (case side1 => exact (zs21 HI0.out NB0_188.out NB0_197.out))
                (case side2 => exact (zs23 HB.out HI0.out GE188.out GE197.out))
                rintro e w13 ⟨rfl, hi, hb, hk⟩
                refine ⟨_, rfl, ?_⟩
                replace BK188:=zM (KeepBut.blk hk (g' := gb188) (o := .cells #[.int .i64 0, .int .i64 0, .int .i64 0] 25 (0, 0)) (zs12 BK188.out) NB188_0.out (by simp))
                replace BK197:=zM (KeepBut.blk hk (g' := gb197) (o := .cells #[.int .i64 0, .int .i64 0, .int .i64 0] 25 (0, 0)) (zs12 BK197.out) NB197_0.out (by simp))
                replace HK:=zM (KeepBut.trans (zs22 HK.out GW188.out GW197.out) hk (.inl rfl))
                replace HB:=zM (hb)
                replace HI0:=zM (hi)
                (try clear hb)
                (try clear hb2)
                (try clear hk)
                (try clear hi)
                refine hK.out _ _ trivial (fun hHeld => ?_)
                clear hK K
                refine norm_ (a' := ?_) ?_ ?_
                rotate_left
                ·show Act.put _ (some 12) _ = _
                 simp only [Act.put, zE, zF, zG, i64_w, i32_w]
                 rfl
                refine zp 7 (some 13) (zL 13 2278) HT_ ?_
                refine zp 8 (some 14) (zL 13 2534) HT_ ?_
                exact norm_ zs20 (hJ2_6_11 (gb197) _ ⟨(zs12 BK188.out), (zs12 BK197.out), GW197.out, GE197.out, NB0_197.out, NB197_0.out, NB188_197.out, NB197_188.out, (zs21 HI0.out NB0_188.out NB0_197.out), (zs22 HK.out GW188.out GW197.out), (zs23 HB.out HI0.out GE188.out GE197.out)⟩)
             ·skip
              rintro _ w12 ⟨h0_, h1_, h2_, h3_⟩
              replace BK188 : Aside0 (w12.heap[gb188]? = some (.cells #[.int .i64 0, .int .i64 0, .int .i64 0] 25 (0, 0))) := ⟨h0_⟩
              replace HI0 : Aside0 (IsS73 w0 w12 g s0_0 t196) := ⟨h1_⟩
              replace HK : Aside0 (KeepBut w w12 g none) := ⟨h2_⟩
              replace HB : Aside0 (Below w0.heap.size w0 w12) := ⟨h3_⟩
              clear h0_ h1_ h2_ h3_
              have hHeld := trivial
              refine norm_ (a' := ?_) ?_ ?_
              rotate_left
              ·simp only [putAll, Act.put, zE, zF, zG]
               rfl
              refine two_ (i := 0) (j := 11) (Ni := some 6) (Nj := some 5) (zL 13 487) (zL 13 2534) rfl rfl rfl rfl (two_of HT_.out (by kernel_rfl)) (by decide) (by decide) (fun K hK => ?_) (fun K hK => ?_)
              ·skip
               refine Kd.R_lit_step (Kd.int .i64) _ 3 zs0 (N := 6) zs0 (xs := ([0, 0, 1, 1, 2, 3, 4, 5] : List Int)) (inner := [.int .i64 0, .int .i64 0, .int .i64 1, .int .i64 1, .int .i64 2, .int .i64 3, .int .i64 4, .int .i64 5]) (ok := fun _ => True) (okp := fun _ => True) zs1 ?hp (fun _ hk => hk) trivial (Below.refl _ _) (Nat.le_refl _) (by simp) ?_; (case hp => exact (Reps.one (show Kd.M (Kd.int .i64) _ _ _ 0 [.int .i64 0] from rfl) (Reps.one (show Kd.M (Kd.int .i64) _ _ _ 0 [.int .i64 0] from rfl) (Reps.one (show Kd.M (Kd.int .i64) _ _ _ 1 [.int .i64 1] from rfl) (Reps.one (show Kd.M (Kd.int .i64) _ _ _ 1 [.int .i64 1] from rfl) (Reps.one (show Kd.M (Kd.int .i64) _ _ _ 2 [.int .i64 2] from rfl) (Reps.one (show Kd.M (Kd.int .i64) _ _ _ 3 [.int .i64 3] from rfl) (Reps.one (show Kd.M (Kd.int .i64) _ _ _ 4 [.int .i64 4] from rfl) (Reps.one (show Kd.M (Kd.int .i64) _ _ _ 5 [.int .i64 5] from rfl) (Reps.none _ _))))))))))
               intro v190 w13 ho14 hb hg_ hnew_
               clear hg_ hnew_
               (first | rw [← Ny189.out] at ho14 | (simp only [Int.reduceToNat] at ho14; rw [← Ny189.out] at ho14))
               have HO191:=zM (Kd.R_lower ho14 (keep_size (w := w) (g := g) (row := none) (zs17 HK.out GW188.out)))
               replace BK188:=zM (blk_below (g := gb188) (o := .cells #[.int .i64 0, .int .i64 0, .int .i64 0] 25 (0, 0)) (zs12 BK188.out) hb)
               replace HK:=zM (KeepBut.trans (zs17 HK.out GW188.out) (KeepBut.of_below hb g none) (.inl rfl))
               replace HB:=zM (below_step (zs18 HB.out HI0.out GE188.out) hb)
               replace HI0:=zM (IsS73.below (zs19 HI0.out NB0_188.out) hb)
               clear hb ho14
               obtain ⟨Ao15, co15, eo15⟩ := Kd.R_slice HO191.out
               subst eo15
               obtain ⟨ado15, fo15, _⟩ := Kd.at_int (Kd.R_reads' HO191.out).2.2 0 (by decide) (by rw [Ny189.out]; simp)
               cases fo15
               refine hK.out _ _ trivial (fun hHeld => ?_)
               clear hK K
               refine norm_ (a' := ?_) ?_ ?_
               rotate_left
               ·show Act.put _ (some 6) _ = _
                simp only [Act.put, zE, zF, zG, i64_w, i32_w]
                rfl
               refine zp 3 (some 9) (zL 13 495) HT_ ?_
               exact norm_ zs20 (hJ0_2_6 (.slice (some ado15) y189.length co15, ado15) _ ⟨(zs11 HO191.out), ⟨_, rfl⟩, (zs12 BK188.out), (zs19 HI0.out NB0_188.out), (zs17 HK.out GW188.out), (zs18 HB.out HI0.out GE188.out)⟩)
              ·skip
               refine box_step zs0 (N := 5) zs0 (cs := #[.int .i64 0, .int .i64 0, .int .i64 0]) (t := 25) zs1 ?_
               intro gb197 hg w13 hbox hb
               replace HB:=zM (below_step (zs18 HB.out HI0.out GE188.out) hb)
               have BK197:=zM (hbox)
               have GW197:=zM ((by rw [hg]; exact (keep_size (w := w) (g := g) (row := none) (zs17 HK.out GW188.out)) : w.heap.size ≤ gb197))
               have GE197:=zM ((Nat.le_trans HW0.out (by rw [hg]; exact (keep_size (w := w) (g := g) (row := none) (zs17 HK.out GW188.out)) : w.heap.size ≤ gb197) : w0.heap.size ≤ gb197))
               replace HK:=zM (KeepBut.trans (zs17 HK.out GW188.out) (KeepBut.of_below hb g none) (.inl rfl))
               have NB188_197:=zM ((by rw [hg]; exact Nat.ne_of_lt (blk_lt (g := gb188) (o := .cells #[.int .i64 0, .int .i64 0, .int .i64 0] 25 (0, 0)) (zs12 BK188.out)) : gb188 ≠ gb197))
               have NB197_188:=zM ((by rw [hg]; exact Nat.ne_of_gt (blk_lt (g := gb188) (o := .cells #[.int .i64 0, .int .i64 0, .int .i64 0] 25 (0, 0)) (zs12 BK188.out)) : gb197 ≠ gb188))
               replace BK188:=zM (blk_below (g := gb188) (o := .cells #[.int .i64 0, .int .i64 0, .int .i64 0] 25 (0, 0)) (zs12 BK188.out) hb)
               have NB0_197:=zM ((by rw [hg]; exact Nat.ne_of_lt (IsS73.lt (show IsS73 w0 _ g s0_0 t196 from (zs19 HI0.out NB0_188.out))) : g ≠ gb197))
               have NB197_0:=zM ((by rw [hg]; exact Nat.ne_of_gt (IsS73.lt (show IsS73 w0 _ g s0_0 t196 from (zs19 HI0.out NB0_188.out))) : gb197 ≠ g))
               replace HI0:=zM (IsS73.below (zs19 HI0.out NB0_188.out) hb)
               clear hb hbox hg
               refine hK.out _ _ trivial (fun hHeld => ?_)
               clear hK K
               refine norm_ (a' := ?_) ?_ ?_
               rotate_left
               ·show Act.put _ (some 5) _ = _
                simp only [Act.put, zE, zF, zG, i64_w, i32_w]
                rfl
               exact norm_ zs20 (hJ2_6_11 (gb197) _ ⟨(zs12 BK188.out), (zs12 BK197.out), GW197.out, GE197.out, NB0_197.out, NB197_0.out, NB188_197.out, NB197_188.out, (zs21 HI0.out NB0_188.out NB0_197.out), (zs22 HK.out GW188.out GW197.out), (zs23 HB.out HI0.out GE188.out GE197.out)⟩)
            ·skip
             rintro ⟨v190, adz_v190, gb197⟩ w14 ⟨h0_, h1_, h2_, h3_, h4_, h5_, h6_, h7_, h8_, h9_, h10_, h11_, h12_⟩
             have HO191 : Aside0 (Kd.R (Kd.int .i64) 3 w14 w.heap.size (fun _ => True) v190 y189) := ⟨h0_⟩
             have HA_HO191 : Aside0 (∃ c_, (v190 : Value) = .slice (some adz_v190) y189.length c_) := ⟨h1_⟩
             replace BK188 : Aside0 (w14.heap[gb188]? = some (.cells #[.int .i64 0, .int .i64 0, .int .i64 0] 25 (0, 0))) := ⟨h2_⟩
             have BK197 : Aside0 (w14.heap[gb197]? = some (.cells #[.int .i64 0, .int .i64 0, .int .i64 0] 25 (0, 0))) := ⟨h3_⟩
             have GW197 : Aside0 (w.heap.size ≤ gb197) := ⟨h4_⟩
             have GE197 : Aside0 (w0.heap.size ≤ gb197) := ⟨h5_⟩
             have NB0_197 : Aside0 (g ≠ gb197) := ⟨h6_⟩
             have NB197_0 : Aside0 (gb197 ≠ g) := ⟨h7_⟩
             have NB188_197 : Aside0 (gb188 ≠ gb197) := ⟨h8_⟩
             have NB197_188 : Aside0 (gb197 ≠ gb188) := ⟨h9_⟩
             replace HI0 : Aside0 (IsS73 w0 w14 g s0_0 s0_1) := ⟨h10_⟩
             replace HK : Aside0 (KeepBut w w14 g none) := ⟨h11_⟩
             replace HB : Aside0 (Below w0.heap.size w0 w14) := ⟨h12_⟩
             clear h0_ h1_ h2_ h3_ h4_ h5_ h6_ h7_ h8_ h9_ h10_ h11_ h12_
             have hHeld := trivial
             obtain ⟨co15, eo15⟩ := HA_HO191.out
             clear HA_HO191
             subst eo15
             refine norm_ (a' := ?_) ?_ ?_
             rotate_left
             ·simp only [putAll, Act.put, zE, zF, zG]
              rfl
             refine one_ (i := 2) (N := some 8) (zL 13 2087) rfl rfl (one_of HT_.out (by kernel_rfl)) (by decide) (fun K hK => ?_)
             refine goes_ Tryd.func43 (by kernel_rfl) rfl #[.pointer (some ⟨g, 0, none⟩), .int .i64 8] (by rfl) rfl rfl (by (try simp only [List.map_toArray, List.map_cons, List.map_nil]); first | done | rfl | (simp only [List.length_drop, List.length_take]; rfl)) ?_
             with_reducible refine (spec_l20Rd_pick.calls k g s0_0 s0_1 8 t192 t193 w0 _ ?side1 ?side2 A3.out).mono ?_
             (case side1 => exact (zs21 HI0.out NB0_188.out NB0_197.out))
             (case side2 => exact (zs23 HB.out HI0.out GE188.out GE197.out))
             rintro e w16 ⟨rfl, hi, hb, hk⟩
             refine ⟨_, rfl, ?_⟩
             replace BK188:=zM (KeepBut.blk hk (g' := gb188) (o := .cells #[.int .i64 0, .int .i64 0, .int .i64 0] 25 (0, 0)) (zs12 BK188.out) NB188_0.out (by simp))
             replace HO191:=zM (Kd.R_mono (Kd.R_keep (IsS73.apart (show IsS73 w0 _ g s0_0 s0_1 from (zs21 HI0.out NB0_188.out NB0_197.out)) (zs11 HO191.out) (by decide)) hk (fun _ h => h.2)) (fun _ h => h.1))
             replace BK197:=zM (KeepBut.blk hk (g' := gb197) (o := .cells #[.int .i64 0, .int .i64 0, .int .i64 0] 25 (0, 0)) (zs12 BK197.out) NB197_0.out (by simp))
             replace HK:=zM (KeepBut.trans (zs22 HK.out GW188.out GW197.out) hk (.inl rfl))
             replace HB:=zM (hb)
             replace HI0:=zM (hi)
             (try clear hb)
             (try clear hb2)
             (try clear hk)
             (try clear hi)
             refine hK.out _ _ trivial (fun hHeld => ?_)
             clear hK K
             refine norm_ (a' := ?_) ?_ ?_
             rotate_left
             ·show Act.put _ (some 8) _ = _
              simp only [Act.put, zE, zF, zG, i64_w, i32_w]
              rfl
             refine zp 3 (some 9) (zL 13 2095) HT_ ?_
             exact norm_ zs20 (hJ0_2_11 (.slice (some adz_v190) y189.length co15, adz_v190, gb197) _ ⟨(zs11 HO191.out), ⟨_, rfl⟩, (zs12 BK188.out), (zs12 BK197.out), GW197.out, GE197.out, NB0_197.out, NB197_0.out, NB188_197.out, NB197_188.out, (zs21 HI0.out NB0_188.out NB0_197.out), (zs22 HK.out GW188.out GW197.out), (zs23 HB.out HI0.out GE188.out GE197.out)⟩)
           ·skip
            rintro ⟨v190, adz_v190⟩ w14 ⟨h0_, h1_, h2_, h3_, h4_, h5_⟩
            have HO191 : Aside0 (Kd.R (Kd.int .i64) 3 w14 w.heap.size (fun _ => True) v190 y189) := ⟨h0_⟩
            have HA_HO191 : Aside0 (∃ c_, (v190 : Value) = .slice (some adz_v190) y189.length c_) := ⟨h1_⟩
            replace BK188 : Aside0 (w14.heap[gb188]? = some (.cells #[.int .i64 0, .int .i64 0, .int .i64 0] 25 (0, 0))) := ⟨h2_⟩
            replace HI0 : Aside0 (IsS73 w0 w14 g s0_0 t193) := ⟨h3_⟩
            replace HK : Aside0 (KeepBut w w14 g none) := ⟨h4_⟩
            replace HB : Aside0 (Below w0.heap.size w0 w14) := ⟨h5_⟩
            clear h0_ h1_ h2_ h3_ h4_ h5_
            have hHeld := trivial
            obtain ⟨co15, eo15⟩ := HA_HO191.out
            clear HA_HO191
            subst eo15
            refine norm_ (a' := ?_) ?_ ?_
            rotate_left
            ·simp only [putAll, Act.put, zE, zF, zG]
             rfl
            refine three_ (i := 4) (j := 6) (k := 11) (Ni := some 10) (Nj := some 12) (Nk := some 5) (zL 13 63) (zL 13 111) (zL 13 2095) rfl rfl rfl rfl rfl rfl (three_of HT_.out (by kernel_rfl)) (by decide) (by decide) (by decide) (fun K hK => ?_) (fun K hK => ?_) (fun K hK => ?_)
            ·skip
             (have p194 : 0 ≤ (t192 : Int) := of_decide_eq_true zs8; have q194 : t192 < (y189.length : Int) := of_decide_eq_true zs8; obtain ⟨ad194, e194, hx194_0⟩ := Kd.at_int (Kd.R_reads' HO191.out).2.2 t192 p194 q194; obtain rfl : adz_v190 = ad194 := (by injection e194))
             refine value_ (w1 := ?_) (v := ?_) (by rfl) rfl ?_ ?_
             rotate_left 2
             ·go_simp
              constructor
              ·rfl
              ·rfl
             clear hx194_0
             refine hK.out _ _ trivial (fun hHeld => ?_)
             clear hK K
             refine norm_ (a' := ?_) ?_ ?_
             rotate_left
             ·show Act.put _ (some 10) _ = _
              simp only [Act.put, zE, zF, zG, i64_w, i32_w]
              rfl
             exact norm_ zs20 (hJ0_2_4 (.slice (some adz_v190) y189.length co15, adz_v190) _ ⟨(zs11 HO191.out), ⟨_, rfl⟩, (zs12 BK188.out), (zs19 HI0.out NB0_188.out), (zs17 HK.out GW188.out), (zs18 HB.out HI0.out GE188.out)⟩)
            ·skip
             refine goes_ Tryd.func43 (by kernel_rfl) rfl #[.pointer (some ⟨g, 0, none⟩), .int .i64 60] (by rfl) rfl rfl (by (try simp only [List.map_toArray, List.map_cons, List.map_nil]); first | done | rfl | (simp only [List.length_drop, List.length_take]; rfl)) ?_
             with_reducible refine (spec_l20Rd_pick.calls k g s0_0 t193 60 t195 t196 w0 _ ?side1 ?side2 A6.out).mono ?_
             (case side1 => exact (zs19 HI0.out NB0_188.out))
             (case side2 => exact (zs18 HB.out HI0.out GE188.out))
             rintro e w16 ⟨rfl, hi, hb, hk⟩
             refine ⟨_, rfl, ?_⟩
             replace BK188:=zM (KeepBut.blk hk (g' := gb188) (o := .cells #[.int .i64 0, .int .i64 0, .int .i64 0] 25 (0, 0)) (zs12 BK188.out) NB188_0.out (by simp))
             replace HO191:=zM (Kd.R_mono (Kd.R_keep (IsS73.apart (show IsS73 w0 _ g s0_0 t193 from (zs19 HI0.out NB0_188.out)) (zs11 HO191.out) (by decide)) hk (fun _ h => h.2)) (fun _ h => h.1))
             replace HK:=zM (KeepBut.trans (zs17 HK.out GW188.out) hk (.inl rfl))
             replace HB:=zM (hb)
             replace HI0:=zM (hi)
             (try clear hb)
             (try clear hb2)
             (try clear hk)
             (try clear hi)
             refine hK.out _ _ trivial (fun hHeld => ?_)
             clear hK K
             refine norm_ (a' := ?_) ?_ ?_
             rotate_left
             ·show Act.put _ (some 12) _ = _
              simp only [Act.put, zE, zF, zG, i64_w, i32_w]
              rfl
             refine zp 7 (some 13) (zL 13 239) HT_ ?_
             refine zp 8 (some 14) (zL 13 495) HT_ ?_
             exact norm_ zs20 (hJ0_2_6 (.slice (some adz_v190) y189.length co15, adz_v190) _ ⟨(zs11 HO191.out), ⟨_, rfl⟩, (zs12 BK188.out), (zs19 HI0.out NB0_188.out), (zs17 HK.out GW188.out), (zs18 HB.out HI0.out GE188.out)⟩)
            ·skip
             refine box_step zs0 (N := 5) zs0 (cs := #[.int .i64 0, .int .i64 0, .int .i64 0]) (t := 25) zs1 ?_
             intro gb197 hg w16 hbox hb
             replace HO191:=zM (Kd.R_below (zs11 HO191.out) hb)
             replace HB:=zM (below_step (zs18 HB.out HI0.out GE188.out) hb)
             have BK197:=zM (hbox)
             have GW197:=zM ((by rw [hg]; exact (keep_size (w := w) (g := g) (row := none) (zs17 HK.out GW188.out)) : w.heap.size ≤ gb197))
             have GE197:=zM ((Nat.le_trans HW0.out (by rw [hg]; exact (keep_size (w := w) (g := g) (row := none) (zs17 HK.out GW188.out)) : w.heap.size ≤ gb197) : w0.heap.size ≤ gb197))
             replace HK:=zM (KeepBut.trans (zs17 HK.out GW188.out) (KeepBut.of_below hb g none) (.inl rfl))
             have NB188_197:=zM ((by rw [hg]; exact Nat.ne_of_lt (blk_lt (g := gb188) (o := .cells #[.int .i64 0, .int .i64 0, .int .i64 0] 25 (0, 0)) (zs12 BK188.out)) : gb188 ≠ gb197))
             have NB197_188:=zM ((by rw [hg]; exact Nat.ne_of_gt (blk_lt (g := gb188) (o := .cells #[.int .i64 0, .int .i64 0, .int .i64 0] 25 (0, 0)) (zs12 BK188.out)) : gb197 ≠ gb188))
             replace BK188:=zM (blk_below (g := gb188) (o := .cells #[.int .i64 0, .int .i64 0, .int .i64 0] 25 (0, 0)) (zs12 BK188.out) hb)
             have NB0_197:=zM ((by rw [hg]; exact Nat.ne_of_lt (IsS73.lt (show IsS73 w0 _ g s0_0 t193 from (zs19 HI0.out NB0_188.out))) : g ≠ gb197))
             have NB197_0:=zM ((by rw [hg]; exact Nat.ne_of_gt (IsS73.lt (show IsS73 w0 _ g s0_0 t193 from (zs19 HI0.out NB0_188.out))) : gb197 ≠ g))
             replace HI0:=zM (IsS73.below (zs19 HI0.out NB0_188.out) hb)
             clear hb hbox hg
             refine hK.out _ _ trivial (fun hHeld => ?_)
             clear hK K
             refine norm_ (a' := ?_) ?_ ?_
             rotate_left
             ·show Act.put _ (some 5) _ = _
              simp only [Act.put, zE, zF, zG, i64_w, i32_w]
              rfl
             exact norm_ zs20 (hJ0_2_11 (.slice (some adz_v190) y189.length co15, adz_v190, gb197) _ ⟨(zs11 HO191.out), ⟨_, rfl⟩, (zs12 BK188.out), (zs12 BK197.out), GW197.out, GE197.out, NB0_197.out, NB197_0.out, NB188_197.out, NB197_188.out, (zs21 HI0.out NB0_188.out NB0_197.out), (zs22 HK.out GW188.out GW197.out), (zs23 HB.out HI0.out GE188.out GE197.out)⟩)
          ·skip
           rintro gb197 w13 ⟨h0_, h1_, h2_, h3_, h4_, h5_, h6_, h7_, h8_, h9_, h10_⟩
           replace BK188 : Aside0 (w13.heap[gb188]? = some (.cells #[.int .i64 0, .int .i64 0, .int .i64 0] 25 (0, 0))) := ⟨h0_⟩
           have BK197 : Aside0 (w13.heap[gb197]? = some (.cells #[.int .i64 0, .int .i64 0, .int .i64 0] 25 (0, 0))) := ⟨h1_⟩
           have GW197 : Aside0 (w.heap.size ≤ gb197) := ⟨h2_⟩
           have GE197 : Aside0 (w0.heap.size ≤ gb197) := ⟨h3_⟩
           have NB0_197 : Aside0 (g ≠ gb197) := ⟨h4_⟩
           have NB197_0 : Aside0 (gb197 ≠ g) := ⟨h5_⟩
           have NB188_197 : Aside0 (gb188 ≠ gb197) := ⟨h6_⟩
           have NB197_188 : Aside0 (gb197 ≠ gb188) := ⟨h7_⟩
           replace HI0 : Aside0 (IsS73 w0 w13 g s0_0 t196) := ⟨h8_⟩
           replace HK : Aside0 (KeepBut w w13 g none) := ⟨h9_⟩
           replace HB : Aside0 (Below w0.heap.size w0 w13) := ⟨h10_⟩
           clear h0_ h1_ h2_ h3_ h4_ h5_ h6_ h7_ h8_ h9_ h10_
           have hHeld := trivial
           refine norm_ (a' := ?_) ?_ ?_
           rotate_left
           ·simp only [putAll, Act.put, zE, zF, zG]
            rfl
           refine one_ (i := 0) (N := some 6) (zL 13 2535) rfl rfl (one_of HT_.out (by kernel_rfl)) (by decide) (fun K hK => ?_)
           refine Kd.R_lit_step (Kd.int .i64) _ 3 zs0 (N := 6) zs0 (xs := ([0, 0, 1, 1, 2, 3, 4, 5] : List Int)) (inner := [.int .i64 0, .int .i64 0, .int .i64 1, .int .i64 1, .int .i64 2, .int .i64 3, .int .i64 4, .int .i64 5]) (ok := fun _ => True) (okp := fun _ => True) zs1 ?hp (fun _ hk => hk) trivial (Below.refl _ _) (Nat.le_refl _) (by simp) ?_; (case hp => exact (Reps.one (show Kd.M (Kd.int .i64) _ _ _ 0 [.int .i64 0] from rfl) (Reps.one (show Kd.M (Kd.int .i64) _ _ _ 0 [.int .i64 0] from rfl) (Reps.one (show Kd.M (Kd.int .i64) _ _ _ 1 [.int .i64 1] from rfl) (Reps.one (show Kd.M (Kd.int .i64) _ _ _ 1 [.int .i64 1] from rfl) (Reps.one (show Kd.M (Kd.int .i64) _ _ _ 2 [.int .i64 2] from rfl) (Reps.one (show Kd.M (Kd.int .i64) _ _ _ 3 [.int .i64 3] from rfl) (Reps.one (show Kd.M (Kd.int .i64) _ _ _ 4 [.int .i64 4] from rfl) (Reps.one (show Kd.M (Kd.int .i64) _ _ _ 5 [.int .i64 5] from rfl) (Reps.none _ _))))))))))
           intro v190 w14 ho15 hb hg_ hnew_
           clear hg_ hnew_
           (first | rw [← Ny189.out] at ho15 | (simp only [Int.reduceToNat] at ho15; rw [← Ny189.out] at ho15))
           have HO191:=zM (Kd.R_lower ho15 (keep_size (w := w) (g := g) (row := none) (zs22 HK.out GW188.out GW197.out)))
           replace BK188:=zM (blk_below (g := gb188) (o := .cells #[.int .i64 0, .int .i64 0, .int .i64 0] 25 (0, 0)) (zs12 BK188.out) hb)
           replace BK197:=zM (blk_below (g := gb197) (o := .cells #[.int .i64 0, .int .i64 0, .int .i64 0] 25 (0, 0)) (zs12 BK197.out) hb)
           replace HK:=zM (KeepBut.trans (zs22 HK.out GW188.out GW197.out) (KeepBut.of_below hb g none) (.inl rfl))
           replace HB:=zM (below_step (zs23 HB.out HI0.out GE188.out GE197.out) hb)
           replace HI0:=zM (IsS73.below (zs21 HI0.out NB0_188.out NB0_197.out) hb)
           clear hb ho15
           obtain ⟨Ao16, co16, eo16⟩ := Kd.R_slice HO191.out
           subst eo16
           obtain ⟨ado16, fo16, _⟩ := Kd.at_int (Kd.R_reads' HO191.out).2.2 0 (by decide) (by rw [Ny189.out]; simp)
           cases fo16
           refine hK.out _ _ trivial (fun hHeld => ?_)
           clear hK K
           refine norm_ (a' := ?_) ?_ ?_
           rotate_left
           ·show Act.put _ (some 6) _ = _
            simp only [Act.put, zE, zF, zG, i64_w, i32_w]
            rfl
           refine zp 3 (some 9) (zL 13 2543) HT_ ?_
           exact norm_ zs20 (hJ0_2_6_11 (.slice (some ado16) y189.length co16, ado16, gb197) _ ⟨(zs11 HO191.out), ⟨_, rfl⟩, (zs12 BK188.out), (zs12 BK197.out), GW197.out, GE197.out, NB0_197.out, NB197_0.out, NB188_197.out, NB197_188.out, (zs21 HI0.out NB0_188.out NB0_197.out), (zs22 HK.out GW188.out GW197.out), (zs23 HB.out HI0.out GE188.out GE197.out)⟩)
         ·skip
          rintro ⟨v190, adz_v190, gb197⟩ w15 ⟨h0_, h1_, h2_, h3_, h4_, h5_, h6_, h7_, h8_, h9_, h10_, h11_, h12_⟩
          have HO191 : Aside0 (Kd.R (Kd.int .i64) 3 w15 w.heap.size (fun _ => True) v190 y189) := ⟨h0_⟩
          have HA_HO191 : Aside0 (∃ c_, (v190 : Value) = .slice (some adz_v190) y189.length c_) := ⟨h1_⟩
          replace BK188 : Aside0 (w15.heap[gb188]? = some (.cells #[.int .i64 0, .int .i64 0, .int .i64 0] 25 (0, 0))) := ⟨h2_⟩
          have BK197 : Aside0 (w15.heap[gb197]? = some (.cells #[.int .i64 0, .int .i64 0, .int .i64 0] 25 (0, 0))) := ⟨h3_⟩
          have GW197 : Aside0 (w.heap.size ≤ gb197) := ⟨h4_⟩
          have GE197 : Aside0 (w0.heap.size ≤ gb197) := ⟨h5_⟩
          have NB0_197 : Aside0 (g ≠ gb197) := ⟨h6_⟩
          have NB197_0 : Aside0 (gb197 ≠ g) := ⟨h7_⟩
          have NB188_197 : Aside0 (gb188 ≠ gb197) := ⟨h8_⟩
          have NB197_188 : Aside0 (gb197 ≠ gb188) := ⟨h9_⟩
          replace HI0 : Aside0 (IsS73 w0 w15 g s0_0 t193) := ⟨h10_⟩
          replace HK : Aside0 (KeepBut w w15 g none) := ⟨h11_⟩
          replace HB : Aside0 (Below w0.heap.size w0 w15) := ⟨h12_⟩
          clear h0_ h1_ h2_ h3_ h4_ h5_ h6_ h7_ h8_ h9_ h10_ h11_ h12_
          have hHeld := trivial
          obtain ⟨co16, eo16⟩ := HA_HO191.out
          clear HA_HO191
          subst eo16
          refine norm_ (a' := ?_) ?_ ?_
          rotate_left
          ·simp only [putAll, Act.put, zE, zF, zG]
           rfl
          refine two_ (i := 4) (j := 6) (Ni := some 10) (Nj := some 12) (zL 13 2111) (zL 13 2159) rfl rfl rfl rfl (two_of HT_.out (by kernel_rfl)) (by decide) (by decide) (fun K hK => ?_) (fun K hK => ?_)
          ·skip
           (have p194 : 0 ≤ (t192 : Int) := of_decide_eq_true zs8; have q194 : t192 < (y189.length : Int) := of_decide_eq_true zs8; obtain ⟨ad194, e194, hx194_0⟩ := Kd.at_int (Kd.R_reads' HO191.out).2.2 t192 p194 q194; obtain rfl : adz_v190 = ad194 := (by injection e194))
           refine value_ (w1 := ?_) (v := ?_) (by rfl) rfl ?_ ?_
           rotate_left 2
           ·go_simp
            constructor
            ·rfl
            ·rfl
           clear hx194_0
           refine hK.out _ _ trivial (fun hHeld => ?_)
           clear hK K
           refine norm_ (a' := ?_) ?_ ?_
           rotate_left
           ·show Act.put _ (some 10) _ = _
            simp only [Act.put, zE, zF, zG, i64_w, i32_w]
            rfl
           exact norm_ zs20 (hJ0_2_4_11 (.slice (some adz_v190) y189.length co16, adz_v190, gb197) _ ⟨(zs11 HO191.out), ⟨_, rfl⟩, (zs12 BK188.out), (zs12 BK197.out), GW197.out, GE197.out, NB0_197.out, NB197_0.out, NB188_197.out, NB197_188.out, (zs21 HI0.out NB0_188.out NB0_197.out), (zs22 HK.out GW188.out GW197.out), (zs23 HB.out HI0.out GE188.out GE197.out)⟩)
          ·skip
           refine goes_ Tryd.func43 (by kernel_rfl) rfl #[.pointer (some ⟨g, 0, none⟩), .int .i64 60] (by rfl) rfl rfl (by (try simp only [List.map_toArray, List.map_cons, List.map_nil]); first | done | rfl | (simp only [List.length_drop, List.length_take]; rfl)) ?_
           with_reducible refine (spec_l20Rd_pick.calls k g s0_0 t193 60 t195 t196 w0 _ ?side1 ?side2 A6.out).mono ?_
           (case side1 => exact (zs21 HI0.out NB0_188.out NB0_197.out))
           (case side2 => exact (zs23 HB.out HI0.out GE188.out GE197.out))
           rintro e w17 ⟨rfl, hi, hb, hk⟩
           refine ⟨_, rfl, ?_⟩
           replace BK188:=zM (KeepBut.blk hk (g' := gb188) (o := .cells #[.int .i64 0, .int .i64 0, .int .i64 0] 25 (0, 0)) (zs12 BK188.out) NB188_0.out (by simp))
           replace HO191:=zM (Kd.R_mono (Kd.R_keep (IsS73.apart (show IsS73 w0 _ g s0_0 t193 from (zs21 HI0.out NB0_188.out NB0_197.out)) (zs11 HO191.out) (by decide)) hk (fun _ h => h.2)) (fun _ h => h.1))
           replace BK197:=zM (KeepBut.blk hk (g' := gb197) (o := .cells #[.int .i64 0, .int .i64 0, .int .i64 0] 25 (0, 0)) (zs12 BK197.out) NB197_0.out (by simp))
           replace HK:=zM (KeepBut.trans (zs22 HK.out GW188.out GW197.out) hk (.inl rfl))
           replace HB:=zM (hb)
           replace HI0:=zM (hi)
           (try clear hb)
           (try clear hb2)
           (try clear hk)
           (try clear hi)
           refine hK.out _ _ trivial (fun hHeld => ?_)
           clear hK K
           refine norm_ (a' := ?_) ?_ ?_
           rotate_left
           ·show Act.put _ (some 12) _ = _
            simp only [Act.put, zE, zF, zG, i64_w, i32_w]
            rfl
           refine zp 7 (some 13) (zL 13 2287) HT_ ?_
           refine zp 8 (some 14) (zL 13 2543) HT_ ?_
           exact norm_ zs20 (hJ0_2_6_11 (.slice (some adz_v190) y189.length co16, adz_v190, gb197) _ ⟨(zs11 HO191.out), ⟨_, rfl⟩, (zs12 BK188.out), (zs12 BK197.out), GW197.out, GE197.out, NB0_197.out, NB197_0.out, NB188_197.out, NB197_188.out, (zs21 HI0.out NB0_188.out NB0_197.out), (zs22 HK.out GW188.out GW197.out), (zs23 HB.out HI0.out GE188.out GE197.out)⟩)
        ·skip
         rintro ⟨v190, adz_v190⟩ w15 ⟨h0_, h1_, h2_, h3_, h4_, h5_⟩
         have HO191 : Aside0 (Kd.R (Kd.int .i64) 3 w15 w.heap.size (fun _ => True) v190 y189) := ⟨h0_⟩
         have HA_HO191 : Aside0 (∃ c_, (v190 : Value) = .slice (some adz_v190) y189.length c_) := ⟨h1_⟩
         replace BK188 : Aside0 (w15.heap[gb188]? = some (.cells #[.int .i64 0, .int .i64 0, .int .i64 0] 25 (0, 0))) := ⟨h2_⟩
         replace HI0 : Aside0 (IsS73 w0 w15 g s0_0 t196) := ⟨h3_⟩
         replace HK : Aside0 (KeepBut w w15 g none) := ⟨h4_⟩
         replace HB : Aside0 (Below w0.heap.size w0 w15) := ⟨h5_⟩
         clear h0_ h1_ h2_ h3_ h4_ h5_
         have hHeld := trivial
         obtain ⟨co16, eo16⟩ := HA_HO191.out
         clear HA_HO191
         subst eo16
         refine norm_ (a' := ?_) ?_ ?_
         rotate_left
         ·simp only [putAll, Act.put, zE, zF, zG]
          rfl
         refine two_ (i := 4) (j := 11) (Ni := some 10) (Nj := some 5) (zL 13 511) (zL 13 2543) rfl rfl rfl rfl (two_of HT_.out (by kernel_rfl)) (by decide) (by decide) (fun K hK => ?_) (fun K hK => ?_)
         ·skip
          (have p194 : 0 ≤ (t192 : Int) := of_decide_eq_true zs8; have q194 : t192 < (y189.length : Int) := of_decide_eq_true zs8; obtain ⟨ad194, e194, hx194_0⟩ := Kd.at_int (Kd.R_reads' HO191.out).2.2 t192 p194 q194; obtain rfl : adz_v190 = ad194 := (by injection e194))
          refine value_ (w1 := ?_) (v := ?_) (by rfl) rfl ?_ ?_
          rotate_left 2
          ·go_simp
           constructor
           ·rfl
           ·rfl
          clear hx194_0
          refine hK.out _ _ trivial (fun hHeld => ?_)
          clear hK K
          refine norm_ (a' := ?_) ?_ ?_
          rotate_left
          ·show Act.put _ (some 10) _ = _
           simp only [Act.put, zE, zF, zG, i64_w, i32_w]
           rfl
          refine zp 9 (some 15) (zL 13 1023) HT_ ?_
          refine zp 10 (some 16) (zL 13 2047) HT_ ?_
          exact norm_ zs20 (hJ0_2_4_6 (.slice (some adz_v190) y189.length co16, adz_v190) _ ⟨(zs11 HO191.out), ⟨_, rfl⟩, (zs12 BK188.out), (zs19 HI0.out NB0_188.out), (zs17 HK.out GW188.out), (zs18 HB.out HI0.out GE188.out)⟩)
         ·skip
          refine box_step zs0 (N := 5) zs0 (cs := #[.int .i64 0, .int .i64 0, .int .i64 0]) (t := 25) zs1 ?_
          intro gb197 hg w17 hbox hb
          replace HO191:=zM (Kd.R_below (zs11 HO191.out) hb)
          replace HB:=zM (below_step (zs18 HB.out HI0.out GE188.out) hb)
          have BK197:=zM (hbox)
          have GW197:=zM ((by rw [hg]; exact (keep_size (w := w) (g := g) (row := none) (zs17 HK.out GW188.out)) : w.heap.size ≤ gb197))
          have GE197:=zM ((Nat.le_trans HW0.out (by rw [hg]; exact (keep_size (w := w) (g := g) (row := none) (zs17 HK.out GW188.out)) : w.heap.size ≤ gb197) : w0.heap.size ≤ gb197))
          replace HK:=zM (KeepBut.trans (zs17 HK.out GW188.out) (KeepBut.of_below hb g none) (.inl rfl))
          have NB188_197:=zM ((by rw [hg]; exact Nat.ne_of_lt (blk_lt (g := gb188) (o := .cells #[.int .i64 0, .int .i64 0, .int .i64 0] 25 (0, 0)) (zs12 BK188.out)) : gb188 ≠ gb197))
          have NB197_188:=zM ((by rw [hg]; exact Nat.ne_of_gt (blk_lt (g := gb188) (o := .cells #[.int .i64 0, .int .i64 0, .int .i64 0] 25 (0, 0)) (zs12 BK188.out)) : gb197 ≠ gb188))
          replace BK188:=zM (blk_below (g := gb188) (o := .cells #[.int .i64 0, .int .i64 0, .int .i64 0] 25 (0, 0)) (zs12 BK188.out) hb)
          have NB0_197:=zM ((by rw [hg]; exact Nat.ne_of_lt (IsS73.lt (show IsS73 w0 _ g s0_0 t196 from (zs19 HI0.out NB0_188.out))) : g ≠ gb197))
          have NB197_0:=zM ((by rw [hg]; exact Nat.ne_of_gt (IsS73.lt (show IsS73 w0 _ g s0_0 t196 from (zs19 HI0.out NB0_188.out))) : gb197 ≠ g))
          replace HI0:=zM (IsS73.below (zs19 HI0.out NB0_188.out) hb)
          clear hb hbox hg
          refine hK.out _ _ trivial (fun hHeld => ?_)
          clear hK K
          refine norm_ (a' := ?_) ?_ ?_
          rotate_left
          ·show Act.put _ (some 5) _ = _
           simp only [Act.put, zE, zF, zG, i64_w, i32_w]
           rfl
          exact norm_ zs20 (hJ0_2_6_11 (.slice (some adz_v190) y189.length co16, adz_v190, gb197) _ ⟨(zs11 HO191.out), ⟨_, rfl⟩, (zs12 BK188.out), (zs12 BK197.out), GW197.out, GE197.out, NB0_197.out, NB197_0.out, NB188_197.out, NB197_188.out, (zs21 HI0.out NB0_188.out NB0_197.out), (zs22 HK.out GW188.out GW197.out), (zs23 HB.out HI0.out GE188.out GE197.out)⟩)
       ·skip
        rintro ⟨v190, adz_v190⟩ w14 ⟨h0_, h1_, h2_, h3_, h4_, h5_⟩
        have HO191 : Aside0 (Kd.R (Kd.int .i64) 3 w14 w.heap.size (fun _ => True) v190 y189) := ⟨h0_⟩
        have HA_HO191 : Aside0 (∃ c_, (v190 : Value) = .slice (some adz_v190) y189.length c_) := ⟨h1_⟩
        replace BK188 : Aside0 (w14.heap[gb188]? = some (.cells #[.int .i64 0, .int .i64 0, .int .i64 0] 25 (0, 0))) := ⟨h2_⟩
        replace HI0 : Aside0 (IsS73 w0 w14 g s0_0 t193) := ⟨h3_⟩
        replace HK : Aside0 (KeepBut w w14 g none) := ⟨h4_⟩
        replace HB : Aside0 (Below w0.heap.size w0 w14) := ⟨h5_⟩
        clear h0_ h1_ h2_ h3_ h4_ h5_
        have hHeld := trivial
        obtain ⟨co15, eo15⟩ := HA_HO191.out
        clear HA_HO191
        subst eo15
        refine norm_ (a' := ?_) ?_ ?_
        rotate_left
        ·simp only [putAll, Act.put, zE, zF, zG]
         rfl
        refine two_ (i := 6) (j := 11) (Ni := some 12) (Nj := some 5) (zL 13 127) (zL 13 2111) rfl rfl rfl rfl (two_of HT_.out (by kernel_rfl)) (by decide) (by decide) (fun K hK => ?_) (fun K hK => ?_)
        ·skip
         refine goes_ Tryd.func43 (by kernel_rfl) rfl #[.pointer (some ⟨g, 0, none⟩), .int .i64 60] (by rfl) rfl rfl (by (try simp only [List.map_toArray, List.map_cons, List.map_nil]); first | done | rfl | (simp only [List.length_drop, List.length_take]; rfl)) ?_
         with_reducible refine (spec_l20Rd_pick.calls k g s0_0 t193 60 t195 t196 w0 _ ?side1 ?side2 A6.out).mono ?_
         (case side1 => exact (zs19 HI0.out NB0_188.out))
         (case side2 => exact (zs18 HB.out HI0.out GE188.out))
         rintro e w16 ⟨rfl, hi, hb, hk⟩
         refine ⟨_, rfl, ?_⟩
         replace BK188:=zM (KeepBut.blk hk (g' := gb188) (o := .cells #[.int .i64 0, .int .i64 0, .int .i64 0] 25 (0, 0)) (zs12 BK188.out) NB188_0.out (by simp))
         replace HO191:=zM (Kd.R_mono (Kd.R_keep (IsS73.apart (show IsS73 w0 _ g s0_0 t193 from (zs19 HI0.out NB0_188.out)) (zs11 HO191.out) (by decide)) hk (fun _ h => h.2)) (fun _ h => h.1))
         replace HK:=zM (KeepBut.trans (zs17 HK.out GW188.out) hk (.inl rfl))
         replace HB:=zM (hb)
         replace HI0:=zM (hi)
         (try clear hb)
         (try clear hb2)
         (try clear hk)
         (try clear hi)
         refine hK.out _ _ trivial (fun hHeld => ?_)
         clear hK K
         refine norm_ (a' := ?_) ?_ ?_
         rotate_left
         ·show Act.put _ (some 12) _ = _
          simp only [Act.put, zE, zF, zG, i64_w, i32_w]
          rfl
         refine zp 7 (some 13) (zL 13 255) HT_ ?_
         refine zp 8 (some 14) (zL 13 511) HT_ ?_
         refine zp 9 (some 15) (zL 13 1023) HT_ ?_
         refine zp 10 (some 16) (zL 13 2047) HT_ ?_
         exact norm_ zs20 (hJ0_2_4_6 (.slice (some adz_v190) y189.length co15, adz_v190) _ ⟨(zs11 HO191.out), ⟨_, rfl⟩, (zs12 BK188.out), (zs19 HI0.out NB0_188.out), (zs17 HK.out GW188.out), (zs18 HB.out HI0.out GE188.out)⟩)
        ·skip
         refine box_step zs0 (N := 5) zs0 (cs := #[.int .i64 0, .int .i64 0, .int .i64 0]) (t := 25) zs1 ?_
         intro gb197 hg w16 hbox hb
         replace HO191:=zM (Kd.R_below (zs11 HO191.out) hb)
         replace HB:=zM (below_step (zs18 HB.out HI0.out GE188.out) hb)
         have BK197:=zM (hbox)
         have GW197:=zM ((by rw [hg]; exact (keep_size (w := w) (g := g) (row := none) (zs17 HK.out GW188.out)) : w.heap.size ≤ gb197))
         have GE197:=zM ((Nat.le_trans HW0.out (by rw [hg]; exact (keep_size (w := w) (g := g) (row := none) (zs17 HK.out GW188.out)) : w.heap.size ≤ gb197) : w0.heap.size ≤ gb197))
         replace HK:=zM (KeepBut.trans (zs17 HK.out GW188.out) (KeepBut.of_below hb g none) (.inl rfl))
         have NB188_197:=zM ((by rw [hg]; exact Nat.ne_of_lt (blk_lt (g := gb188) (o := .cells #[.int .i64 0, .int .i64 0, .int .i64 0] 25 (0, 0)) (zs12 BK188.out)) : gb188 ≠ gb197))
         have NB197_188:=zM ((by rw [hg]; exact Nat.ne_of_gt (blk_lt (g := gb188) (o := .cells #[.int .i64 0, .int .i64 0, .int .i64 0] 25 (0, 0)) (zs12 BK188.out)) : gb197 ≠ gb188))
         replace BK188:=zM (blk_below (g := gb188) (o := .cells #[.int .i64 0, .int .i64 0, .int .i64 0] 25 (0, 0)) (zs12 BK188.out) hb)
         have NB0_197:=zM ((by rw [hg]; exact Nat.ne_of_lt (IsS73.lt (show IsS73 w0 _ g s0_0 t193 from (zs19 HI0.out NB0_188.out))) : g ≠ gb197))
         have NB197_0:=zM ((by rw [hg]; exact Nat.ne_of_gt (IsS73.lt (show IsS73 w0 _ g s0_0 t193 from (zs19 HI0.out NB0_188.out))) : gb197 ≠ g))
         replace HI0:=zM (IsS73.below (zs19 HI0.out NB0_188.out) hb)
         clear hb hbox hg
         refine hK.out _ _ trivial (fun hHeld => ?_)
         clear hK K
         refine norm_ (a' := ?_) ?_ ?_
         rotate_left
         ·show Act.put _ (some 5) _ = _
          simp only [Act.put, zE, zF, zG, i64_w, i32_w]
          rfl
         exact norm_ zs20 (hJ0_2_4_11 (.slice (some adz_v190) y189.length co15, adz_v190, gb197) _ ⟨(zs11 HO191.out), ⟨_, rfl⟩, (zs12 BK188.out), (zs12 BK197.out), GW197.out, GE197.out, NB0_197.out, NB197_0.out, NB188_197.out, NB197_188.out, (zs21 HI0.out NB0_188.out NB0_197.out), (zs22 HK.out GW188.out GW197.out), (zs23 HB.out HI0.out GE188.out GE197.out)⟩)
      ·skip
       rintro ⟨v190, adz_v190, gb197⟩ w16 ⟨h0_, h1_, h2_, h3_, h4_, h5_, h6_, h7_, h8_, h9_, h10_, h11_, h12_⟩
       have HO191 : Aside0 (Kd.R (Kd.int .i64) 3 w16 w.heap.size (fun _ => True) v190 y189) := ⟨h0_⟩
       have HA_HO191 : Aside0 (∃ c_, (v190 : Value) = .slice (some adz_v190) y189.length c_) := ⟨h1_⟩
       replace BK188 : Aside0 (w16.heap[gb188]? = some (.cells #[.int .i64 0, .int .i64 0, .int .i64 0] 25 (0, 0))) := ⟨h2_⟩
       have BK197 : Aside0 (w16.heap[gb197]? = some (.cells #[.int .i64 0, .int .i64 0, .int .i64 0] 25 (0, 0))) := ⟨h3_⟩
       have GW197 : Aside0 (w.heap.size ≤ gb197) := ⟨h4_⟩
       have GE197 : Aside0 (w0.heap.size ≤ gb197) := ⟨h5_⟩
       have NB0_197 : Aside0 (g ≠ gb197) := ⟨h6_⟩
       have NB197_0 : Aside0 (gb197 ≠ g) := ⟨h7_⟩
       have NB188_197 : Aside0 (gb188 ≠ gb197) := ⟨h8_⟩
       have NB197_188 : Aside0 (gb197 ≠ gb188) := ⟨h9_⟩
       replace HI0 : Aside0 (IsS73 w0 w16 g s0_0 t196) := ⟨h10_⟩
       replace HK : Aside0 (KeepBut w w16 g none) := ⟨h11_⟩
       replace HB : Aside0 (Below w0.heap.size w0 w16) := ⟨h12_⟩
       clear h0_ h1_ h2_ h3_ h4_ h5_ h6_ h7_ h8_ h9_ h10_ h11_ h12_
       have hHeld := trivial
       obtain ⟨co17, eo17⟩ := HA_HO191.out
       clear HA_HO191
       subst eo17
       refine norm_ (a' := ?_) ?_ ?_
       rotate_left
       ·simp only [putAll, Act.put, zE, zF, zG]
        rfl
       refine one_ (i := 4) (N := some 10) (zL 13 2559) rfl rfl (one_of HT_.out (by kernel_rfl)) (by decide) (fun K hK => ?_)
       (have p194 : 0 ≤ (t192 : Int) := of_decide_eq_true zs8; have q194 : t192 < (y189.length : Int) := of_decide_eq_true zs8; obtain ⟨ad194, e194, hx194_0⟩ := Kd.at_int (Kd.R_reads' HO191.out).2.2 t192 p194 q194; obtain rfl : adz_v190 = ad194 := (by injection e194))
       refine value_ (w1 := ?_) (v := ?_) (by rfl) rfl ?_ ?_
       rotate_left 2
       ·go_simp
        constructor
        ·rfl
        ·rfl
       clear hx194_0
       refine hK.out _ _ trivial (fun hHeld => ?_)
       clear hK K
       refine norm_ (a' := ?_) ?_ ?_
       rotate_left
       ·show Act.put _ (some 10) _ = _
        simp only [Act.put, zE, zF, zG, i64_w, i32_w]
        rfl
       refine zp 9 (some 15) (zL 13 3071) HT_ ?_
       refine zp 10 (some 16) (zL 13 4095) HT_ ?_
       exact norm_ zs20 (hJ0_2_4_6_11 (.slice (some adz_v190) y189.length co17, adz_v190, gb197) _ ⟨(zs11 HO191.out), ⟨_, rfl⟩, (zs12 BK188.out), (zs12 BK197.out), GW197.out, GE197.out, NB0_197.out, NB197_0.out, NB188_197.out, NB197_188.out, (zs21 HI0.out NB0_188.out NB0_197.out), (zs22 HK.out GW188.out GW197.out), (zs23 HB.out HI0.out GE188.out GE197.out)⟩)
     ·skip
      rintro ⟨v190, adz_v190, gb197⟩ w15 ⟨h0_, h1_, h2_, h3_, h4_, h5_, h6_, h7_, h8_, h9_, h10_, h11_, h12_⟩
      have HO191 : Aside0 (Kd.R (Kd.int .i64) 3 w15 w.heap.size (fun _ => True) v190 y189) := ⟨h0_⟩
      have HA_HO191 : Aside0 (∃ c_, (v190 : Value) = .slice (some adz_v190) y189.length c_) := ⟨h1_⟩
      replace BK188 : Aside0 (w15.heap[gb188]? = some (.cells #[.int .i64 0, .int .i64 0, .int .i64 0] 25 (0, 0))) := ⟨h2_⟩
      have BK197 : Aside0 (w15.heap[gb197]? = some (.cells #[.int .i64 0, .int .i64 0, .int .i64 0] 25 (0, 0))) := ⟨h3_⟩
      have GW197 : Aside0 (w.heap.size ≤ gb197) := ⟨h4_⟩
      have GE197 : Aside0 (w0.heap.size ≤ gb197) := ⟨h5_⟩
      have NB0_197 : Aside0 (g ≠ gb197) := ⟨h6_⟩
      have NB197_0 : Aside0 (gb197 ≠ g) := ⟨h7_⟩
      have NB188_197 : Aside0 (gb188 ≠ gb197) := ⟨h8_⟩
      have NB197_188 : Aside0 (gb197 ≠ gb188) := ⟨h9_⟩
      replace HI0 : Aside0 (IsS73 w0 w15 g s0_0 t193) := ⟨h10_⟩
      replace HK : Aside0 (KeepBut w w15 g none) := ⟨h11_⟩
      replace HB : Aside0 (Below w0.heap.size w0 w15) := ⟨h12_⟩
      clear h0_ h1_ h2_ h3_ h4_ h5_ h6_ h7_ h8_ h9_ h10_ h11_ h12_
      have hHeld := trivial
      obtain ⟨co16, eo16⟩ := HA_HO191.out
      clear HA_HO191
      subst eo16
      refine norm_ (a' := ?_) ?_ ?_
      rotate_left
      ·simp only [putAll, Act.put, zE, zF, zG]
       rfl
      refine one_ (i := 6) (N := some 12) (zL 13 2175) rfl rfl (one_of HT_.out (by kernel_rfl)) (by decide) (fun K hK => ?_)
      refine goes_ Tryd.func43 (by kernel_rfl) rfl #[.pointer (some ⟨g, 0, none⟩), .int .i64 60] (by rfl) rfl rfl (by (try simp only [List.map_toArray, List.map_cons, List.map_nil]); first | done | rfl | (simp only [List.length_drop, List.length_take]; rfl)) ?_
      with_reducible refine (spec_l20Rd_pick.calls k g s0_0 t193 60 t195 t196 w0 _ ?side1 ?side2 A6.out).mono ?_
      (case side1 => exact (zs21 HI0.out NB0_188.out NB0_197.out))
      (case side2 => exact (zs23 HB.out HI0.out GE188.out GE197.out))
      rintro e w17 ⟨rfl, hi, hb, hk⟩
      refine ⟨_, rfl, ?_⟩
      replace BK188:=zM (KeepBut.blk hk (g' := gb188) (o := .cells #[.int .i64 0, .int .i64 0, .int .i64 0] 25 (0, 0)) (zs12 BK188.out) NB188_0.out (by simp))
      replace HO191:=zM (Kd.R_mono (Kd.R_keep (IsS73.apart (show IsS73 w0 _ g s0_0 t193 from (zs21 HI0.out NB0_188.out NB0_197.out)) (zs11 HO191.out) (by decide)) hk (fun _ h => h.2)) (fun _ h => h.1))
      replace BK197:=zM (KeepBut.blk hk (g' := gb197) (o := .cells #[.int .i64 0, .int .i64 0, .int .i64 0] 25 (0, 0)) (zs12 BK197.out) NB197_0.out (by simp))
      replace HK:=zM (KeepBut.trans (zs22 HK.out GW188.out GW197.out) hk (.inl rfl))
      replace HB:=zM (hb)
      replace HI0:=zM (hi)
      (try clear hb)
      (try clear hb2)
      (try clear hk)
      (try clear hi)
      refine hK.out _ _ trivial (fun hHeld => ?_)
      clear hK K
      refine norm_ (a' := ?_) ?_ ?_
      rotate_left
      ·show Act.put _ (some 12) _ = _
       simp only [Act.put, zE, zF, zG, i64_w, i32_w]
       rfl
      refine zp 7 (some 13) (zL 13 2303) HT_ ?_
      refine zp 8 (some 14) (zL 13 2559) HT_ ?_
      refine zp 9 (some 15) (zL 13 3071) HT_ ?_
      refine zp 10 (some 16) (zL 13 4095) HT_ ?_
      exact norm_ zs20 (hJ0_2_4_6_11 (.slice (some adz_v190) y189.length co16, adz_v190, gb197) _ ⟨(zs11 HO191.out), ⟨_, rfl⟩, (zs12 BK188.out), (zs12 BK197.out), GW197.out, GE197.out, NB0_197.out, NB197_0.out, NB188_197.out, NB197_188.out, (zs21 HI0.out NB0_188.out NB0_197.out), (zs22 HK.out GW188.out GW197.out), (zs23 HB.out HI0.out GE188.out GE197.out)⟩)
    ·skip
     rintro ⟨v190, adz_v190⟩ w15 ⟨h0_, h1_, h2_, h3_, h4_, h5_⟩
     have HO191 : Aside0 (Kd.R (Kd.int .i64) 3 w15 w.heap.size (fun _ => True) v190 y189) := ⟨h0_⟩
     have HA_HO191 : Aside0 (∃ c_, (v190 : Value) = .slice (some adz_v190) y189.length c_) := ⟨h1_⟩
     replace BK188 : Aside0 (w15.heap[gb188]? = some (.cells #[.int .i64 0, .int .i64 0, .int .i64 0] 25 (0, 0))) := ⟨h2_⟩
     replace HI0 : Aside0 (IsS73 w0 w15 g s0_0 t196) := ⟨h3_⟩
     replace HK : Aside0 (KeepBut w w15 g none) := ⟨h4_⟩
     replace HB : Aside0 (Below w0.heap.size w0 w15) := ⟨h5_⟩
     clear h0_ h1_ h2_ h3_ h4_ h5_
     have hHeld := trivial
     obtain ⟨co16, eo16⟩ := HA_HO191.out
     clear HA_HO191
     subst eo16
     refine norm_ (a' := ?_) ?_ ?_
     rotate_left
     ·simp only [putAll, Act.put, zE, zF, zG]
      rfl
     refine one_ (i := 11) (N := some 5) (zL 13 4095) rfl rfl (one_of HT_.out (by kernel_rfl)) (by decide) (fun K hK => ?_)
     refine box_step zs0 (N := 5) zs0 (cs := #[.int .i64 0, .int .i64 0, .int .i64 0]) (t := 25) zs1 ?_
     intro gb197 hg w17 hbox hb
     replace HO191:=zM (Kd.R_below (zs11 HO191.out) hb)
     replace HB:=zM (below_step (zs18 HB.out HI0.out GE188.out) hb)
     have BK197:=zM (hbox)
     have GW197:=zM ((by rw [hg]; exact (keep_size (w := w) (g := g) (row := none) (zs17 HK.out GW188.out)) : w.heap.size ≤ gb197))
     have GE197:=zM ((Nat.le_trans HW0.out (by rw [hg]; exact (keep_size (w := w) (g := g) (row := none) (zs17 HK.out GW188.out)) : w.heap.size ≤ gb197) : w0.heap.size ≤ gb197))
     replace HK:=zM (KeepBut.trans (zs17 HK.out GW188.out) (KeepBut.of_below hb g none) (.inl rfl))
     have NB188_197:=zM ((by rw [hg]; exact Nat.ne_of_lt (blk_lt (g := gb188) (o := .cells #[.int .i64 0, .int .i64 0, .int .i64 0] 25 (0, 0)) (zs12 BK188.out)) : gb188 ≠ gb197))
     have NB197_188:=zM ((by rw [hg]; exact Nat.ne_of_gt (blk_lt (g := gb188) (o := .cells #[.int .i64 0, .int .i64 0, .int .i64 0] 25 (0, 0)) (zs12 BK188.out)) : gb197 ≠ gb188))
     replace BK188:=zM (blk_below (g := gb188) (o := .cells #[.int .i64 0, .int .i64 0, .int .i64 0] 25 (0, 0)) (zs12 BK188.out) hb)
     have NB0_197:=zM ((by rw [hg]; exact Nat.ne_of_lt (IsS73.lt (show IsS73 w0 _ g s0_0 t196 from (zs19 HI0.out NB0_188.out))) : g ≠ gb197))
     have NB197_0:=zM ((by rw [hg]; exact Nat.ne_of_gt (IsS73.lt (show IsS73 w0 _ g s0_0 t196 from (zs19 HI0.out NB0_188.out))) : gb197 ≠ g))
     replace HI0:=zM (IsS73.below (zs19 HI0.out NB0_188.out) hb)
     clear hb hbox hg
     refine hK.out _ _ trivial (fun hHeld => ?_)
     clear hK K
     refine norm_ (a' := ?_) ?_ ?_
     rotate_left
     ·show Act.put _ (some 5) _ = _
      simp only [Act.put, zE, zF, zG, i64_w, i32_w]
      rfl
     exact norm_ zs20 (hJ0_2_4_6_11 (.slice (some adz_v190) y189.length co16, adz_v190, gb197) _ ⟨(zs11 HO191.out), ⟨_, rfl⟩, (zs12 BK188.out), (zs12 BK197.out), GW197.out, GE197.out, NB0_197.out, NB197_0.out, NB188_197.out, NB197_188.out, (zs21 HI0.out NB0_188.out NB0_197.out), (zs22 HK.out GW188.out GW197.out), (zs23 HB.out HI0.out GE188.out GE197.out)⟩)
   rintro ⟨v190, adz_v190, gb197⟩ w16 ⟨h0_, h1_, h2_, h3_, h4_, h5_, h6_, h7_, h8_, h9_, h10_, h11_, h12_⟩
   have HO191 : Aside0 (Kd.R (Kd.int .i64) 3 w16 w.heap.size (fun _ => True) v190 y189) := ⟨h0_⟩
   have HA_HO191 : Aside0 (∃ c_, (v190 : Value) = .slice (some adz_v190) y189.length c_) := ⟨h1_⟩
   replace BK188 : Aside0 (w16.heap[gb188]? = some (.cells #[.int .i64 0, .int .i64 0, .int .i64 0] 25 (0, 0))) := ⟨h2_⟩
   have BK197 : Aside0 (w16.heap[gb197]? = some (.cells #[.int .i64 0, .int .i64 0, .int .i64 0] 25 (0, 0))) := ⟨h3_⟩
   have GW197 : Aside0 (w.heap.size ≤ gb197) := ⟨h4_⟩
   have GE197 : Aside0 (w0.heap.size ≤ gb197) := ⟨h5_⟩
   have NB0_197 : Aside0 (g ≠ gb197) := ⟨h6_⟩
   have NB197_0 : Aside0 (gb197 ≠ g) := ⟨h7_⟩
   have NB188_197 : Aside0 (gb188 ≠ gb197) := ⟨h8_⟩
   have NB197_188 : Aside0 (gb197 ≠ gb188) := ⟨h9_⟩
   replace HI0 : Aside0 (IsS73 w0 w16 g s0_0 t196) := ⟨h10_⟩
   replace HK : Aside0 (KeepBut w w16 g none) := ⟨h11_⟩
   replace HB : Aside0 (Below w0.heap.size w0 w16) := ⟨h12_⟩
   clear h0_ h1_ h2_ h3_ h4_ h5_ h6_ h7_ h8_ h9_ h10_ h11_ h12_
   have hHeld := trivial
   obtain ⟨co17, eo17⟩ := HA_HO191.out
   clear HA_HO191
   subst eo17
   refine norm_ (a' := ?_) ?_ ?_
   rotate_left
   ·simp only [putAll, Act.put, zE, zF, zG]
    rfl
   refine one_ (i := 12) (N := none) (zL 13 8191) rfl rfl (one_of HT_.out (by kernel_rfl)) (by decide) (fun K hK => ?_)
   have hs18 : w16.cell? ⟨gb197, 0, none⟩ = some (.int .i64 0) := (blk_cell BK197.out 0).trans rfl
   have hfs18 := blk_frozen BK197.out 0
   have hns18_0 := NB188_197.out
   have hms18_0 := NB197_188.out
   have hs19 : w16.cell? ⟨gb197, 1, none⟩ = some (.int .i64 0) := (blk_cell BK197.out 1).trans rfl
   have hfs19 := blk_frozen BK197.out 1
   have hns19_0 := NB188_197.out
   have hms19_0 := NB197_188.out
   have hs20 : w16.cell? ⟨gb197, 2, none⟩ = some (.int .i64 0) := (blk_cell BK197.out 2).trans rfl
   have hfs20 := blk_frozen BK197.out 2
   have hns20_0 := NB188_197.out
   have hms20_0 := NB197_188.out
   refine skip_ (w1 := ?_) (by rfl) rfl ?_ ?_
   rotate_left
   ·go_simp
    rfl
   refine hK.out _ _ trivial (fun hHeld => ?_)
   clear hK K
   refine done_ (done_of HT_.out (by kernel_rfl)) ?_
   have hnb21 := NB197_188.out
   have hnc21 := NB188_197.out
   have hnb22 := NB197_0.out
   have hnc22 := NB0_197.out
   have hcz23_0 := cz0 BK197.out
   have hcz23_1 := cz1 BK197.out
   have hcz23_2 := cz2 BK197.out
   have hfz23_0 := blk_frozen BK197.out 0
   have hfz23_1 := blk_frozen BK197.out 1
   have hfz23_2 := blk_frozen BK197.out 2
   go_upto_block 0 with (fail)
   go_cut [] (fun wc => ∃ (kq : Nat) (x1001_6 : Int) (x198001_6 : Int) (x198002_6 : Int), Aside0 (spec_l20Deed.j0 kq s0_0 x1001_6 (wrap64 ((rd y189 t192) + (wrap64 ((wrap64 (Int.tdiv t195 59)) * 6)))) x198001_6 x198002_6 = some (r1, r2, r3, r4)) ∧ Aside0 (kq ≤ k) ∧ Aside0 (wc.heap[gb188]? = some (.cells #[.int .i64 0, .int .i64 0, .int .i64 0] 25 (0, 0))) ∧ Aside0 (wc.heap[gb197]? = some (.cells #[.int .i64 (wrap64 ((rd y189 t192) + (wrap64 ((wrap64 (Int.tdiv t195 59)) * 6)))), .int .i64 x198001_6, .int .i64 x198002_6] 25 (0, 0))) ∧ Aside0 (IsS73 w0 wc g s0_0 x1001_6) ∧ Aside0 (KeepBut w wc g none) ∧ Aside0 (Below w0.heap.size w0 wc))
   case first =>
    have H := HC7.out
    clear HC7
    by_cases c24 : (wrap64 ((rd y189 t192) + (wrap64 ((wrap64 (Int.tdiv t195 59)) * 6)))) = 0
    ·rw [if_pos c24] at H
     have c24b0 := beq_iff_eq.mpr c24
     have c24b1 := bne_eq_false_iff_eq.mpr c24
     clear c24
     (first | rw [c24b0] | (simp only [i64_w, i32_w]; rw [c24b0]) | skip)
     obtain ⟨ji25, hji25⟩ : ∃ j_ : Int, (mx (l1.length : Int) 1) = j_ := ⟨_, rfl⟩
     replace H : ((spec_l20Rd_pick.f k s0_0 t196 (ji25)).bind fun bt198 => ((spec_l20Rd_pick.f k s0_0 bt198.2 (wrap64 ((l1.length : Int) + 1))).bind fun bt200 => (spec_l20Deed.j0 k s0_0 bt200.2 (wrap64 ((rd y189 t192) + (wrap64 ((wrap64 (Int.tdiv t195 59)) * 6)))) (wrap64 (1 + bt198.1)) bt200.1))) = some (r1, r2, r3, r4) := by first | (rw [hji25] at H; exact H) | (simp only [hji25] at H ⊢; exact H)
     (try (have hji25l : 1 ≤ ji25 := by (rw [← hji25]; unfold mx; (repeat' split) <;> omega)))
     (try (have hji25m : 0 ≤ ji25 := by omega))
     have hji25_ : (if (l1.length : Int) < 1 then 1 else (l1.length : Int)) = ji25 := hji25
     replace H := zb H; obtain ⟨⟨t198, t199⟩, A26, H⟩ := H; try dsimp only at H
     replace H := zb H; obtain ⟨⟨t200, t201⟩, A27, H⟩ := H; try dsimp only at H
     have H':=zM H
     clear H
     go_wp2_with (first | (refine zg 43 (some 25) Tryd.func43 #[.pointer (some ⟨g, 0, none⟩), .int .i64 ji25] ?_ (hargs := by (try simp only [List.map_toArray, List.map_cons, List.map_nil]); first | done | (simp only [hji25]; rfl) | rfl); (with_reducible refine (spec_l20Rd_pick.calls k g s0_0 t196 ji25 t198 t199 w0 _ (zs21 HI0.out NB0_188.out NB0_197.out) (zs23 HB.out HI0.out GE188.out GE197.out) A26.out).mono ?_); rintro e w28 ⟨rfl, hi, hb, hk⟩; refine ⟨_, rfl, ?_⟩; replace BK188:=zM (KeepBut.blk hk (g' := gb188) (o := .cells #[.int .i64 0, .int .i64 0, .int .i64 0] 25 (0, 0)) (by refine blk_far ?_ NB188_197.out _; refine blk_far ?_ NB188_197.out _; refine blk_far ?_ NB188_197.out _; exact BK188.out) NB188_0.out (by simp)); replace HO191:=zM (Kd.R_mono (Kd.R_keep (IsS73.apart (show IsS73 w0 _ g s0_0 t196 from (zs21 HI0.out NB0_188.out NB0_197.out)) (by (with_reducible repeat (first | apply Kd.R_alloc | apply Kd.R_drewN | apply Kd.R_drew)); exact (Kd.R_mono (Kd.R_far (p := ⟨gb197, 2, none⟩) (Kd.R_far (p := ⟨gb197, 1, none⟩) (Kd.R_far (p := ⟨gb197, 0, none⟩) (Kd.R_types HO191.out BK197.out (by decide)) (fun _ hk => hk.2) (.int .i64 (wrap64 ((rd y189 t192) + (wrap64 ((wrap64 (Int.tdiv t195 59)) * 6)))))) (fun _ hk => hk.2) (.int .i64 0)) (fun _ hk => hk.2) (.int .i64 0)) (fun _ h_ => h_.1))) (by decide)) hk (fun _ h => h.2)) (fun _ h => h.1)); replace BK197:=zM (KeepBut.blk hk (g' := gb197) (o := .cells #[.int .i64 (wrap64 ((rd y189 t192) + (wrap64 ((wrap64 (Int.tdiv t195 59)) * 6)))), .int .i64 0, .int .i64 0] 25 (0, 0)) (by refine blk_put (cs := #[.int .i64 (wrap64 ((rd y189 t192) + (wrap64 ((wrap64 (Int.tdiv t195 59)) * 6)))), .int .i64 0, .int .i64 0]) ?_ 2 _ rfl; refine blk_put (cs := #[.int .i64 (wrap64 ((rd y189 t192) + (wrap64 ((wrap64 (Int.tdiv t195 59)) * 6)))), .int .i64 0, .int .i64 0]) ?_ 1 _ rfl; refine blk_put (cs := #[.int .i64 0, .int .i64 0, .int .i64 0]) ?_ 0 _ rfl; exact BK197.out) NB197_0.out (by simp)); replace HK:=zM (KeepBut.trans (zs22 HK.out GW188.out GW197.out) hk (.inl rfl)); replace HB:=zM (hb); replace HI0:=zM (hi); clear hb hk hi; have hnb29 := NB197_188.out; have hnc29 := NB188_197.out; have hnb30 := NB197_0.out; have hnc30 := NB0_197.out; have hcz31_0 : w28.cell? ⟨gb197, 0, none⟩ = some (.int .i64 (wrap64 ((rd y189 t192) + (wrap64 ((wrap64 (Int.tdiv t195 59)) * 6))))) := (blk_cell BK197.out 0).trans rfl; have hcz31_1 := cz1 BK197.out; have hcz31_2 := cz2 BK197.out; have hfz31_0 := blk_frozen BK197.out 0; have hfz31_1 := blk_frozen BK197.out 1; have hfz31_2 := blk_frozen BK197.out 2) | (refine zg 43 (some 32) Tryd.func43 #[.pointer (some ⟨g, 0, none⟩), .int .i64 (wrap64 ((l1.length : Int) + 1))] ?_; (with_reducible refine (spec_l20Rd_pick.calls k g s0_0 t199 (wrap64 ((l1.length : Int) + 1)) t200 t201 w0 _ (zs21 HI0.out NB0_188.out NB0_197.out) (zs23 HB.out HI0.out GE188.out GE197.out) A27.out).mono ?_); rintro e w32 ⟨rfl, hi, hb, hk⟩; refine ⟨_, rfl, ?_⟩; replace BK188:=zM (KeepBut.blk hk (g' := gb188) (o := .cells #[.int .i64 0, .int .i64 0, .int .i64 0] 25 (0, 0)) (by refine blk_far ?_ NB188_197.out _; exact BK188.out) NB188_0.out (by simp)); replace HO191:=zM (Kd.R_mono (Kd.R_keep (IsS73.apart (show IsS73 w0 _ g s0_0 t199 from (zs21 HI0.out NB0_188.out NB0_197.out)) (by (with_reducible repeat (first | apply Kd.R_alloc | apply Kd.R_drewN | apply Kd.R_drew)); exact (Kd.R_mono (Kd.R_far (p := ⟨gb197, 1, none⟩) (Kd.R_types HO191.out BK197.out (by decide)) (fun _ hk => hk.2) (.int .i64 (wrap64 (1 + t198)))) (fun _ h_ => h_.1))) (by decide)) hk (fun _ h => h.2)) (fun _ h => h.1)); replace BK197:=zM (KeepBut.blk hk (g' := gb197) (o := .cells #[.int .i64 (wrap64 ((rd y189 t192) + (wrap64 ((wrap64 (Int.tdiv t195 59)) * 6)))), .int .i64 (wrap64 (1 + t198)), .int .i64 0] 25 (0, 0)) (by refine blk_put (cs := #[.int .i64 (wrap64 ((rd y189 t192) + (wrap64 ((wrap64 (Int.tdiv t195 59)) * 6)))), .int .i64 0, .int .i64 0]) ?_ 1 _ rfl; exact BK197.out) NB197_0.out (by simp)); replace HK:=zM (KeepBut.trans (zs22 HK.out GW188.out GW197.out) hk (.inl rfl)); replace HB:=zM (hb); replace HI0:=zM (hi); clear hb hk hi; have hcz33_0 : w32.cell? ⟨gb197, 0, none⟩ = some (.int .i64 (wrap64 ((rd y189 t192) + (wrap64 ((wrap64 (Int.tdiv t195 59)) * 6))))) := (blk_cell BK197.out 0).trans rfl; have hcz33_1 := cz1 BK197.out; have hcz33_2 := cz2 BK197.out; have hfz33_0 := blk_frozen BK197.out 0; have hfz33_1 := blk_frozen BK197.out 1; have hfz33_2 := blk_frozen BK197.out 2))
     go_meet
     case rel => exact ⟨_, (t201), (wrap64 (1 + t198)), (t200), H', ⟨zs7⟩, ⟨by refine blk_far ?_ NB188_197.out _; exact BK188.out⟩, ⟨by refine blk_put (cs := #[.int .i64 (wrap64 ((rd y189 t192) + (wrap64 ((wrap64 (Int.tdiv t195 59)) * 6)))), .int .i64 (wrap64 (1 + t198)), .int .i64 0]) ?_ 2 _ rfl; exact BK197.out⟩, ⟨(zs21 HI0.out NB0_188.out NB0_197.out)⟩, ⟨(zs22 HK.out GW188.out GW197.out)⟩, ⟨(zs23 HB.out HI0.out GE188.out GE197.out)⟩⟩
    ·rw [if_neg c24] at H
     have c24b0 := beq_eq_false_iff_ne.mpr c24
     have c24b1 := bne_iff_ne.mpr c24
     (first | rw [c24b0] | (simp only [i64_w, i32_w]; rw [c24b0]) | skip)
     by_cases c34 : (wrap64 ((rd y189 t192) + (wrap64 ((wrap64 (Int.tdiv t195 59)) * 6)))) = 1
     ·rw [if_pos c34] at H
      have c34b0 := beq_iff_eq.mpr c34
      have c34b1 := bne_eq_false_iff_eq.mpr c34
      clear c34
      replace H := zb H; obtain ⟨⟨t202, t203⟩, A35, H⟩ := H; try dsimp only at H
      replace H := zb H; obtain ⟨⟨t204, t205⟩, A36, H⟩ := H; try dsimp only at H
      have H':=zM H
      clear H
      go_wp2_with (first | (refine zg 43 (some 40) Tryd.func43 #[.pointer (some ⟨g, 0, none⟩), .int .i64 (wrap64 ((l1.length : Int) + 1))] ?_; (with_reducible refine (spec_l20Rd_pick.calls k g s0_0 t196 (wrap64 ((l1.length : Int) + 1)) t202 t203 w0 _ (zs21 HI0.out NB0_188.out NB0_197.out) (zs23 HB.out HI0.out GE188.out GE197.out) A35.out).mono ?_); rintro e w37 ⟨rfl, hi, hb, hk⟩; refine ⟨_, rfl, ?_⟩; replace BK188:=zM (KeepBut.blk hk (g' := gb188) (o := .cells #[.int .i64 0, .int .i64 0, .int .i64 0] 25 (0, 0)) (by refine blk_far ?_ NB188_197.out _; refine blk_far ?_ NB188_197.out _; refine blk_far ?_ NB188_197.out _; exact BK188.out) NB188_0.out (by simp)); replace HO191:=zM (Kd.R_mono (Kd.R_keep (IsS73.apart (show IsS73 w0 _ g s0_0 t196 from (zs21 HI0.out NB0_188.out NB0_197.out)) (by (with_reducible repeat (first | apply Kd.R_alloc | apply Kd.R_drewN | apply Kd.R_drew)); exact (Kd.R_mono (Kd.R_far (p := ⟨gb197, 2, none⟩) (Kd.R_far (p := ⟨gb197, 1, none⟩) (Kd.R_far (p := ⟨gb197, 0, none⟩) (Kd.R_types HO191.out BK197.out (by decide)) (fun _ hk => hk.2) (.int .i64 (wrap64 ((rd y189 t192) + (wrap64 ((wrap64 (Int.tdiv t195 59)) * 6)))))) (fun _ hk => hk.2) (.int .i64 0)) (fun _ hk => hk.2) (.int .i64 0)) (fun _ h_ => h_.1))) (by decide)) hk (fun _ h => h.2)) (fun _ h => h.1)); replace BK197:=zM (KeepBut.blk hk (g' := gb197) (o := .cells #[.int .i64 (wrap64 ((rd y189 t192) + (wrap64 ((wrap64 (Int.tdiv t195 59)) * 6)))), .int .i64 0, .int .i64 0] 25 (0, 0)) (by refine blk_put (cs := #[.int .i64 (wrap64 ((rd y189 t192) + (wrap64 ((wrap64 (Int.tdiv t195 59)) * 6)))), .int .i64 0, .int .i64 0]) ?_ 2 _ rfl; refine blk_put (cs := #[.int .i64 (wrap64 ((rd y189 t192) + (wrap64 ((wrap64 (Int.tdiv t195 59)) * 6)))), .int .i64 0, .int .i64 0]) ?_ 1 _ rfl; refine blk_put (cs := #[.int .i64 0, .int .i64 0, .int .i64 0]) ?_ 0 _ rfl; exact BK197.out) NB197_0.out (by simp)); replace HK:=zM (KeepBut.trans (zs22 HK.out GW188.out GW197.out) hk (.inl rfl)); replace HB:=zM (hb); replace HI0:=zM (hi); clear hb hk hi) | (refine zg 43 (some 42) Tryd.func43 #[.pointer (some ⟨g, 0, none⟩), .int .i64 9] ?_; (with_reducible refine (spec_l20Rd_pick.calls k g s0_0 t203 9 t204 t205 w0 _ (zs21 HI0.out NB0_188.out NB0_197.out) (zs23 HB.out HI0.out GE188.out GE197.out) A36.out).mono ?_); rintro e w38 ⟨rfl, hi, hb, hk⟩; refine ⟨_, rfl, ?_⟩; replace BK188:=zM (KeepBut.blk hk (g' := gb188) (o := .cells #[.int .i64 0, .int .i64 0, .int .i64 0] 25 (0, 0)) (zs12 BK188.out) NB188_0.out (by simp)); replace HO191:=zM (Kd.R_mono (Kd.R_keep (IsS73.apart (show IsS73 w0 _ g s0_0 t203 from (zs21 HI0.out NB0_188.out NB0_197.out)) (zs11 HO191.out) (by decide)) hk (fun _ h => h.2)) (fun _ h => h.1)); replace BK197:=zM (KeepBut.blk hk (g' := gb197) (o := .cells #[.int .i64 (wrap64 ((rd y189 t192) + (wrap64 ((wrap64 (Int.tdiv t195 59)) * 6)))), .int .i64 0, .int .i64 0] 25 (0, 0)) (zs12 BK197.out) NB197_0.out (by simp)); replace HK:=zM (KeepBut.trans (zs22 HK.out GW188.out GW197.out) hk (.inl rfl)); replace HB:=zM (hb); replace HI0:=zM (hi); clear hb hk hi; have hnb39 := NB197_188.out; have hnc39 := NB188_197.out; have hnb40 := NB197_0.out; have hnc40 := NB0_197.out; have hcz41_0 : w38.cell? ⟨gb197, 0, none⟩ = some (.int .i64 (wrap64 ((rd y189 t192) + (wrap64 ((wrap64 (Int.tdiv t195 59)) * 6))))) := (blk_cell BK197.out 0).trans rfl; have hcz41_1 := cz1 BK197.out; have hcz41_2 := cz2 BK197.out; have hfz41_0 := blk_frozen BK197.out 0; have hfz41_1 := blk_frozen BK197.out 1; have hfz41_2 := blk_frozen BK197.out 2))
      go_meet
      case rel => exact ⟨_, (t205), (wrap64 (t202 + (wrap64 (Int.tdiv t204 8)))), (0), H', ⟨zs7⟩, ⟨by refine blk_far ?_ NB188_197.out _; exact BK188.out⟩, ⟨by refine blk_put (cs := #[.int .i64 (wrap64 ((rd y189 t192) + (wrap64 ((wrap64 (Int.tdiv t195 59)) * 6)))), .int .i64 0, .int .i64 0]) ?_ 1 _ rfl; exact BK197.out⟩, ⟨(zs21 HI0.out NB0_188.out NB0_197.out)⟩, ⟨(zs22 HK.out GW188.out GW197.out)⟩, ⟨(zs23 HB.out HI0.out GE188.out GE197.out)⟩⟩
     ·rw [if_neg c34] at H
      have c34b0 := beq_eq_false_iff_ne.mpr c34
      have c34b1 := bne_iff_ne.mpr c34
      have H':=zM H
      clear H
      go_wp2
      go_meet
      case rel => exact ⟨_, (t196), (0), (0), H', ⟨zs7⟩, ⟨by refine blk_far ?_ NB188_197.out _; refine blk_far ?_ NB188_197.out _; refine blk_far ?_ NB188_197.out _; exact BK188.out⟩, ⟨by refine blk_put (cs := #[.int .i64 (wrap64 ((rd y189 t192) + (wrap64 ((wrap64 (Int.tdiv t195 59)) * 6)))), .int .i64 0, .int .i64 0]) ?_ 2 _ rfl; refine blk_put (cs := #[.int .i64 (wrap64 ((rd y189 t192) + (wrap64 ((wrap64 (Int.tdiv t195 59)) * 6)))), .int .i64 0, .int .i64 0]) ?_ 1 _ rfl; refine blk_put (cs := #[.int .i64 0, .int .i64 0, .int .i64 0]) ?_ 0 _ rfl; exact BK197.out⟩, ⟨(zs21 HI0.out NB0_188.out NB0_197.out)⟩, ⟨(zs22 HK.out GW188.out GW197.out)⟩, ⟨(zs23 HB.out HI0.out GE188.out GE197.out)⟩⟩
   case rest =>
    clear HC7
    try clear p1
    try clear q1
    try clear hx1
    try clear c2
    try clear p2
    try clear c3
    try clear c4
    try clear p6
    try clear p19
    try clear q19
    try clear hx19
    try clear c21
    try clear c22
    try clear c24
    try clear c24b0
    try clear c24b1
    try clear c29
    try clear c30
    try clear c34
    try clear c34b0
    try clear c34b1
    try clear c39
    try clear c40
    try clear hcz23_0
    try clear hcz23_1
    try clear hcz23_2
    try clear hcz31_0
    try clear hcz31_1
    try clear hcz31_2
    try clear hcz33_0
    try clear hcz33_1
    try clear hcz33_2
    try clear hcz41_0
    try clear hcz41_1
    try clear hcz41_2
    try clear hfz23_0
    try clear hfz23_1
    try clear hfz23_2
    try clear hfz31_0
    try clear hfz31_1
    try clear hfz31_2
    try clear hfz33_0
    try clear hfz33_1
    try clear hfz33_2
    try clear hfz41_0
    try clear hfz41_1
    try clear hfz41_2
    try clear hx194_0
    try clear p194
    try clear q194
    obtain ⟨kq, x1001_6, x198001_6, x198002_6, HA, HJ6, BK188, BK197, HI0, HK, HB⟩ := hcut
    cases kq with
    | zero => exact absurd HA.out (by simp [spec_l20Deed.j0])
    | succ kj6 =>
     have H := HA.out
     clear HA
     simp only [spec_l20Deed.j0] at H
     replace H := zb H; obtain ⟨⟨t206, t207⟩, A42, H⟩ := H; try dsimp only at H
     by_cases c43 : t206 = true
     ·subst c43
      have H1 : ((some (([(-1), 9, 100] : List Int) : List Int)).bind fun y208 => ((spec_l20Rd_pick.f kj6 s0_0 t207 3).bind fun bt211 => (if 0 ≤ bt211.1 then (if bt211.1 < (y208.length : Int) then (some ((wrap64 ((rd y189 t192) + (wrap64 ((wrap64 (Int.tdiv t195 59)) * 6)))), x198001_6, rd y208 bt211.1, bt211.2)) else (none)) else (none)))) = some (r1, r2, r3, r4) := by rw [if_pos rfl] at H; exact H
      clear H
      have H := H1
      clear H1
      replace H := zy H; obtain ⟨y208, Ny208, H⟩ := H; try dsimp only at H
      replace H := zb H; obtain ⟨⟨t211, t212⟩, A44, H⟩ := H; try dsimp only at H
      by_cases c45 : 0 ≤ t211
      ·rw [if_pos c45] at H
       have c45b0 := decide_eq_true c45
       clear c45
       by_cases c46 : t211 < (y208.length : Int)
       ·rw [if_pos c46] at H
        have c46b0 := decide_eq_true c46
        clear c46
        simp only [Option.some.injEq, Prod.mk.injEq] at H
        obtain ⟨rfl, rfl, rfl, rfl⟩ := H
        go_wp2_with (first | (refine zg 46 (some 47) Tryd.func46 #[.pointer (some ⟨g, 0, none⟩), .int .i64 40] ?_; (with_reducible refine (spec_l20Rd_odd.calls kj6 g s0_0 x1001_6 40 true t207 w0 _ (zs21 HI0.out NB0_188.out NB0_197.out) (zs23 HB.out HI0.out GE188.out GE197.out) A42.out).mono ?_); rintro e w47 ⟨rfl, hi, hb, hk⟩; refine ⟨_, rfl, ?_⟩; replace BK188:=zM (KeepBut.blk hk (g' := gb188) (o := .cells #[.int .i64 0, .int .i64 0, .int .i64 0] 25 (0, 0)) (zs12 BK188.out) NB188_0.out (by simp)); replace BK197:=zM (KeepBut.blk hk (g' := gb197) (o := .cells #[.int .i64 (wrap64 ((rd y189 t192) + (wrap64 ((wrap64 (Int.tdiv t195 59)) * 6)))), .int .i64 x198001_6, .int .i64 x198002_6] 25 (0, 0)) (zs12 BK197.out) NB197_0.out (by simp)); replace HK:=zM (KeepBut.trans (zs22 HK.out GW188.out GW197.out) hk (.inl rfl)); replace HB:=zM (hb); replace HI0:=zM (hi); clear hb hk hi) | ((with_reducible refine gate_dst (N := 48) rfl ?_); refine Kd.R_lit (Kd.int .i64) _ 3 zs0 (N := 48) zs0 (xs := ([(-1), 9, 100] : List Int)) (inner := [.int .i64 (-1), .int .i64 9, .int .i64 100]) (ok := fun _ => True) (okp := fun _ => True) zs1 ?hp (fun _ hk => hk) trivial (Below.refl _ _) (Nat.le_refl _) (by simp) ?_; (case hp => exact (Reps.one (show Kd.M (Kd.int .i64) _ _ _ (-1) [.int .i64 (-1)] from rfl) (Reps.one (show Kd.M (Kd.int .i64) _ _ _ 9 [.int .i64 9] from rfl) (Reps.one (show Kd.M (Kd.int .i64) _ _ _ 100 [.int .i64 100] from rfl) (Reps.none _ _))))); intro v209 w48 ho49 hb hg_ hnew_; clear hg_ hnew_; (first | rw [← Ny208.out] at ho49 | (simp only [Int.reduceToNat] at ho49; rw [← Ny208.out] at ho49)); have HO210:=zM (Kd.R_lower ho49 (keep_size (w := w) (g := g) (row := none) (zs22 HK.out GW188.out GW197.out))); replace BK188:=zM (blk_below (g := gb188) (o := .cells #[.int .i64 0, .int .i64 0, .int .i64 0] 25 (0, 0)) (zs12 BK188.out) hb); replace BK197:=zM (blk_below (g := gb197) (o := .cells #[.int .i64 (wrap64 ((rd y189 t192) + (wrap64 ((wrap64 (Int.tdiv t195 59)) * 6)))), .int .i64 x198001_6, .int .i64 x198002_6] 25 (0, 0)) (zs12 BK197.out) hb); replace HK:=zM (KeepBut.trans (zs22 HK.out GW188.out GW197.out) (KeepBut.of_below hb g none) (.inl rfl)); replace HB:=zM (below_step (zs23 HB.out HI0.out GE188.out GE197.out) hb); replace HI0:=zM (IsS73.below (zs21 HI0.out NB0_188.out NB0_197.out) hb); clear hb ho49) | (refine zg 43 (some 50) Tryd.func43 #[.pointer (some ⟨g, 0, none⟩), .int .i64 3] ?_; (with_reducible refine (spec_l20Rd_pick.calls kj6 g s0_0 t207 3 t211 t212 w0 _ (zs21 HI0.out NB0_188.out NB0_197.out) (zs23 HB.out HI0.out GE188.out GE197.out) A44.out).mono ?_); rintro e w50 ⟨rfl, hi, hb, hk⟩; refine ⟨_, rfl, ?_⟩; replace BK188:=zM (KeepBut.blk hk (g' := gb188) (o := .cells #[.int .i64 0, .int .i64 0, .int .i64 0] 25 (0, 0)) (zs12 BK188.out) NB188_0.out (by simp)); replace BK197:=zM (KeepBut.blk hk (g' := gb197) (o := .cells #[.int .i64 (wrap64 ((rd y189 t192) + (wrap64 ((wrap64 (Int.tdiv t195 59)) * 6)))), .int .i64 x198001_6, .int .i64 x198002_6] 25 (0, 0)) (zs12 BK197.out) NB197_0.out (by simp)); replace HO210:=zM (Kd.R_mono (Kd.R_keep (IsS73.apart (show IsS73 w0 _ g s0_0 t207 from (zs21 HI0.out NB0_188.out NB0_197.out)) (zs11 HO210.out) (by decide)) hk (fun _ h => h.2)) (fun _ h => h.1)); replace HK:=zM (KeepBut.trans (zs22 HK.out GW188.out GW197.out) hk (.inl rfl)); replace HB:=zM (hb); replace HI0:=zM (hi); clear hb hk hi; obtain ⟨Ao51, co51, eo51⟩ := Kd.R_slice HO210.out; subst eo51; have p213 : 0 ≤ (t211 : Int) := of_decide_eq_true zs8; have q213 : t211 < (y208.length : Int) := of_decide_eq_true zs8; obtain ⟨ad213, e213, hx213_0⟩ := Kd.at_int (Kd.R_reads' HO210.out).2.2 t211 p213 q213; cases e213; replace p213 := eq_true p213; replace q213 := eq_true q213; have hnb52 := NB197_188.out; have hnc52 := NB188_197.out; have hnb53 := NB197_0.out; have hnc53 := NB0_197.out; have hcz54_0 : w50.cell? ⟨gb197, 0, none⟩ = some (.int .i64 (wrap64 ((rd y189 t192) + (wrap64 ((wrap64 (Int.tdiv t195 59)) * 6))))) := (blk_cell BK197.out 0).trans rfl; have hcz54_1 := cz1 BK197.out; have hcz54_2 := cz2 BK197.out; have hfz54_0 := blk_frozen BK197.out 0; have hfz54_1 := blk_frozen BK197.out 1; have hfz54_2 := blk_frozen BK197.out 2; have hnb55 := NB188_0.out; have hnc55 := NB0_188.out; have hcz56_0 := cz0 BK188.out; have hcz56_1 := cz1 BK188.out; have hcz56_2 := cz2 BK188.out; have hfz56_0 := blk_frozen BK188.out 0; have hfz56_1 := blk_frozen BK188.out 1; have hfz56_2 := blk_frozen BK188.out 2))
        refine bodyPost_ret (results_cell_row rfl _ _ gb188 25 #[.int .i64 (wrap64 ((rd y189 t192) + (wrap64 ((wrap64 (Int.tdiv t195 59)) * 6)))), .int .i64 x198001_6, .int .i64 (rd y208 t211)] (0, 0) _ rfl (by refine blk_put (cs := #[.int .i64 (wrap64 ((rd y189 t192) + (wrap64 ((wrap64 (Int.tdiv t195 59)) * 6)))), .int .i64 x198001_6, .int .i64 0]) ?_ 2 _ rfl; refine blk_put (cs := #[.int .i64 (wrap64 ((rd y189 t192) + (wrap64 ((wrap64 (Int.tdiv t195 59)) * 6)))), .int .i64 0, .int .i64 0]) ?_ 1 _ rfl; refine blk_put (cs := #[.int .i64 0, .int .i64 0, .int .i64 0]) ?_ 0 _ rfl; refine blk_far ?_ NB188_197.out _; exact BK188.out) Tryd.underlying25 rfl (by kernel_rfl)) rfl ?_
        exact ⟨zs3, (zs21 HI0.out NB0_188.out NB0_197.out), (zs23 HB.out HI0.out GE188.out GE197.out), (zs22 HK.out GW188.out GW197.out)⟩
       ·rw [if_neg c46] at H
        exact absurd H (by simp)
      ·rw [if_neg c45] at H
       exact absurd H (by simp)
     ·replace c43 := Bool.eq_false_iff.mpr c43
      subst c43
      have H1 : (some ((wrap64 ((rd y189 t192) + (wrap64 ((wrap64 (Int.tdiv t195 59)) * 6)))), x198001_6, x198002_6, t207)) = some (r1, r2, r3, r4) := by rw [if_neg (show ¬ (false = true) by decide)] at H; exact H
      clear H
      have H := H1
      clear H1
      simp only [Option.some.injEq, Prod.mk.injEq] at H
      obtain ⟨rfl, rfl, rfl, rfl⟩ := H
      go_wp2_with (first | (refine zg 46 (some 47) Tryd.func46 #[.pointer (some ⟨g, 0, none⟩), .int .i64 40] ?_; (with_reducible refine (spec_l20Rd_odd.calls kj6 g s0_0 x1001_6 40 false t207 w0 _ (zs21 HI0.out NB0_188.out NB0_197.out) (zs23 HB.out HI0.out GE188.out GE197.out) A42.out).mono ?_); rintro e w57 ⟨rfl, hi, hb, hk⟩; refine ⟨_, rfl, ?_⟩; replace BK188:=zM (KeepBut.blk hk (g' := gb188) (o := .cells #[.int .i64 0, .int .i64 0, .int .i64 0] 25 (0, 0)) (zs12 BK188.out) NB188_0.out (by simp)); replace BK197:=zM (KeepBut.blk hk (g' := gb197) (o := .cells #[.int .i64 (wrap64 ((rd y189 t192) + (wrap64 ((wrap64 (Int.tdiv t195 59)) * 6)))), .int .i64 x198001_6, .int .i64 x198002_6] 25 (0, 0)) (zs12 BK197.out) NB197_0.out (by simp)); replace HK:=zM (KeepBut.trans (zs22 HK.out GW188.out GW197.out) hk (.inl rfl)); replace HB:=zM (hb); replace HI0:=zM (hi); clear hb hk hi; have hnb58 := NB197_188.out; have hnc58 := NB188_197.out; have hnb59 := NB197_0.out; have hnc59 := NB0_197.out; have hcz60_0 : w57.cell? ⟨gb197, 0, none⟩ = some (.int .i64 (wrap64 ((rd y189 t192) + (wrap64 ((wrap64 (Int.tdiv t195 59)) * 6))))) := (blk_cell BK197.out 0).trans rfl; have hcz60_1 := cz1 BK197.out; have hcz60_2 := cz2 BK197.out; have hfz60_0 := blk_frozen BK197.out 0; have hfz60_1 := blk_frozen BK197.out 1; have hfz60_2 := blk_frozen BK197.out 2; have hnb61 := NB188_0.out; have hnc61 := NB0_188.out; have hcz62_0 := cz0 BK188.out; have hcz62_1 := cz1 BK188.out; have hcz62_2 := cz2 BK188.out; have hfz62_0 := blk_frozen BK188.out 0; have hfz62_1 := blk_frozen BK188.out 1; have hfz62_2 := blk_frozen BK188.out 2))
      refine bodyPost_ret (results_cell_row rfl _ _ gb188 25 #[.int .i64 (wrap64 ((rd y189 t192) + (wrap64 ((wrap64 (Int.tdiv t195 59)) * 6)))), .int .i64 x198001_6, .int .i64 x198002_6] (0, 0) _ rfl (by refine blk_put (cs := #[.int .i64 (wrap64 ((rd y189 t192) + (wrap64 ((wrap64 (Int.tdiv t195 59)) * 6)))), .int .i64 x198001_6, .int .i64 0]) ?_ 2 _ rfl; refine blk_put (cs := #[.int .i64 (wrap64 ((rd y189 t192) + (wrap64 ((wrap64 (Int.tdiv t195 59)) * 6)))), .int .i64 0, .int .i64 0]) ?_ 1 _ rfl; refine blk_put (cs := #[.int .i64 0, .int .i64 0, .int .i64 0]) ?_ 0 _ rfl; exact BK188.out) Tryd.underlying25 rfl (by kernel_rfl)) rfl ?_
      exact ⟨zs3, (zs21 HI0.out NB0_188.out NB0_197.out), (zs23 HB.out HI0.out GE188.out GE197.out), (zs22 HK.out GW188.out GW197.out)⟩
  ·rw [if_neg c5] at H
   exact absurd H (by simp)
 ·rw [if_neg c4] at H
  exact absurd H (by simp)

end Go.Proofs.YtopfhdhdpnenpaaDoor.LG
