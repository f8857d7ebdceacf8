/- Printed by a program of this session (wip/lp/lp.py) out of the translation: functions with the same answers as the Go code, and their contracts; no conditions beyond those that each theorem names. -/
import Derived.Test.YtopfhdhdpnenpaaDoorLGx0
import Derived.Test.YtopfhdhdpnenpaaDoorLGx1
import Derived.Test.YtopfhdhdpnenpaaDoorLGx2
import Derived.Test.YtopfhdhdpnenpaaDoorLGx3
import Derived.Test.YtopfhdhdpnenpaaDoorLGx4
import Derived.Test.YtopfhdhdpnenpaaDoorLGx8
import Derived.Test.YtopfhdhdpnenpaaDoorLGx15
namespace Go.Proofs.YtopfhdhdpnenpaaDoor.LG
open Go.RowKit Go.Proofs.YtopfhdhdpnenpaaDoorV.PrintWords Go.Proofs.YtopfhdhdpnenpaaDoorV.PrintLast Go.Proofs.YtopfhdhdpnenpaaDoorV.PrintMore
attribute [local go_sem] max2_int min2_int max_two min_two max_three min_three max_four min_four   -- for this text's walks alone
set_option linter.unusedVariables false
set_option linter.unusedSimpArgs false

attribute [local go_sem high] eqA25
/-! ### laws_FnReadDeed: function 6 -/
def laws_FnReadDeed.j0 : Nat → ByteArray → Bool → Bool → Int → Int → Int → Option (Bool)
 | 0, _, _, _, _, _, _ => none
 | k + 1, x3, x5, x32, x438000, x438001, x438002 => if x32 = true then (some false) else (if x5 = true then (if x3.size + 1 ≤ 9223372036854775807 then ((impl_ReadDeed.f k (x3 ++ (⟨#[32]⟩ : ByteArray))).bind fun bt443 => ((impl_DeedText.f k x438000 x438001 x438002).bind fun t448 => (if t448.toList = x3.toList then (some (!bt443.2.2.2)) else (some false)))) else (none)) else (if (x438000 == 0 && (x438001 == 0 && (x438002 == 0))) = true then ((laws_alive.f k).bind fun t449 => (some t449)) else (some false)))
def laws_FnReadDeed.f (k : Nat) (l0 : List Int) : Option (Bool) := if (l0.length : Int) > 1048576 then (some true) else ((spec_DrawReadDeed.f k l0).bind fun t432 => ((impl_ReadDeed.f k t432).bind fun bt433 => ((spec_ReadDeed.f k t432).bind fun bt438 => (if (!(bt433.1 == bt438.1) || (!(bt433.2.1 == bt438.2.1) || (!(bt433.2.2.1 == bt438.2.2.1)))) = true then (laws_FnReadDeed.j0 k t432 bt433.2.2.2 true bt433.1 bt433.2.1 bt433.2.2.1) else (laws_FnReadDeed.j0 k t432 bt433.2.2.2 (bt433.2.2.2 != bt438.2.2.2) bt433.1 bt433.2.1 bt433.2.2.1)))))
theorem laws_FnReadDeed.mono_l : ∀ k, (∀ y0 y1 y2 y3 y4 y5, LeO (laws_FnReadDeed.j0 k y0 y1 y2 y3 y4 y5) (laws_FnReadDeed.j0 (k + 1) y0 y1 y2 y3 y4 y5))
 | 0 => fun _ _ _ _ _ _ r h => by simp [laws_FnReadDeed.j0] at h
 | k + 1 => by
  have ih0 := laws_FnReadDeed.mono_l k
  ·intro y0 y1 y2 y3 y4 y5
   unfold laws_FnReadDeed.j0
   have := @impl_DeedText.mono; have := @impl_ReadDeed.mono; have := @laws_alive.mono; have := @spec_DrawReadDeed.mono; have := @spec_ReadDeed.mono; exact zmono
theorem laws_FnReadDeed.mono : ∀ a0 k, LeO (laws_FnReadDeed.f k a0) (laws_FnReadDeed.f (k + 1) a0) := by
 intro a0 k
 have ih0 := laws_FnReadDeed.mono_l k
 unfold laws_FnReadDeed.f
 have := @impl_DeedText.mono; have := @impl_ReadDeed.mono; have := @laws_alive.mono; have := @spec_DrawReadDeed.mono; have := @spec_ReadDeed.mono; exact zmono
set_option maxHeartbeats 8000000 in
set_option maxRecDepth 100000 in
theorem laws_FnReadDeed.calls (k : Nat) (A0 : Option Addr) (c0 : Nat) (l0 : List Int) (r : Bool) (w : World) (hr0 : Kd.C (Kd.int .u8) w A0 l0.length l0) (hc0 : l0.length ≤ c0) (hT : TabR w) (h : laws_FnReadDeed.f k l0 = some r) :
  Calls Tryd.prog 6 #[.slice A0 l0.length c0] w fun e w' => e = .returned (.bool r) ∧ Below w.heap.size w w' := by
 have hu25 := Tryd.underlying25
 have HR0:=zM hr0
 have HC0:=zM hc0
 clear hr0 hc0
 have HB:=zM (Below.refl w.heap.size w)
 have HT:=zM hT
 clear hT
 have H : (if (l0.length : Int) > 1048576 then (some true) else ((spec_DrawReadDeed.f k l0).bind fun t432 => ((impl_ReadDeed.f k t432).bind fun bt433 => ((spec_ReadDeed.f k t432).bind fun bt438 => (if (!(bt433.1 == bt438.1) || (!(bt433.2.1 == bt438.2.1) || (!(bt433.2.2.1 == bt438.2.2.1)))) = true then (laws_FnReadDeed.j0 k t432 bt433.2.2.2 true bt433.1 bt433.2.1 bt433.2.2.1) else (laws_FnReadDeed.j0 k t432 bt433.2.2.2 (bt433.2.2.2 != bt438.2.2.2) bt433.1 bt433.2.1 bt433.2.2.1)))))) = some r := h
 clear h
 by_cases c2 : (l0.length : Int) > 1048576
 ·rw [if_pos c2] at H
  have c2b0 : decide (1048576 < (l0.length : Int)) = true := decide_eq_true c2
  have c2b1 : decide (1048576 < l0.length) = true := decide_eq_true (by omega)
  clear c2
  obtain rfl := Option.some.inj H
  go_enter Tryd.func6, Tryd.ntmps6
  go_wp2
  go_ret
  exact ⟨zs3, (zs2 HB.out)⟩
 ·rw [if_neg c2] at H
  have c2b0 : decide (1048576 < (l0.length : Int)) = false := decide_eq_false c2
  have c2b1 : decide (1048576 < l0.length) = false := decide_eq_false (by omega)
  clear c2
  replace H := zb H; obtain ⟨t432, A3, H⟩ := H; try dsimp only at H
  replace H := zb H; obtain ⟨⟨t433, t434, t435, t436⟩, A4, H⟩ := H; try dsimp only at H
  replace H := zb H; obtain ⟨⟨t438, t439, t440, t441⟩, A5, H⟩ := H; try dsimp only at H
  have HC6:=zM H
  clear H
  go_enter Tryd.func6, Tryd.ntmps6
  go_upto_region 6 with (first | (refine zg 18 (some 14) Tryd.func18 #[.slice A0 l0.length c0] ?_; (with_reducible refine (spec_DrawReadDeed.calls k _ _ l0 t432 _ (zs9 HR0.out) HC0.out A3.out).mono ?_); rintro e w7 ⟨rfl, hb⟩; refine ⟨_, rfl, ?_⟩; replace HB:=zM (below_step (zs2 HB.out) hb); clear hb) | (refine zg 15 (some 17) Tryd.func15 #[.string t432] ?_; (with_reducible refine (impl_ReadDeed.calls k t432 t433 t434 t435 t436 _ (TabR.below HT.out (zs2 HB.out)) A4.out).mono ?_); rintro e w8 ⟨rfl, hb⟩; refine ⟨_, rfl, ?_⟩; replace HB:=zM (below_step (zs2 HB.out) hb); clear hb) | ((with_reducible refine gate_dst (N := 4) rfl ?_); refine box_event zs0 (N := 4) zs0 (cs := #[.int .i64 0, .int .i64 0, .int .i64 0]) (t := 25) zs1 ?_; intro gb437 hg w9 hbox hb; have BK437:=zM (hbox); have GW437:=zM ((by rw [hg]; exact (below_size (zs2 HB.out)) : w.heap.size ≤ gb437)); have GE437:=zM ((by rw [hg]; exact (below_size (zs2 HB.out)) : w.heap.size ≤ gb437)); replace HB:=zM (below_step (zs2 HB.out) hb); clear hb hbox hg; have hcz10_0 := cz0 BK437.out; have hcz10_1 := cz1 BK437.out; have hcz10_2 := cz2 BK437.out; have hfz10_0 := blk_frozen BK437.out 0; have hfz10_1 := blk_frozen BK437.out 1; have hfz10_2 := blk_frozen BK437.out 2) | (refine zg 16 (some 22) Tryd.func16 #[.string t432] ?_; (with_reducible refine (spec_ReadDeed.calls k t432 t438 t439 t440 t441 _ A5.out).mono ?_); rintro e w11 ⟨rfl, hb⟩; refine ⟨_, rfl, ?_⟩; replace BK437:=zM (blk_below (g := gb437) (o := .cells #[.int .i64 t433, .int .i64 t434, .int .i64 t435] 25 (0, 0)) (by refine blk_put (cs := #[.int .i64 t433, .int .i64 t434, .int .i64 0]) ?_ 2 _ rfl; refine blk_put (cs := #[.int .i64 t433, .int .i64 0, .int .i64 0]) ?_ 1 _ rfl; refine blk_put (cs := #[.int .i64 0, .int .i64 0, .int .i64 0]) ?_ 0 _ rfl; exact BK437.out) hb); replace HB:=zM (below_step (zs4 HB.out GE437.out) hb); clear hb) | ((with_reducible refine gate_dst (N := 6) rfl ?_); refine box_event zs0 (N := 6) zs0 (cs := #[.int .i64 0, .int .i64 0, .int .i64 0]) (t := 25) zs1 ?_; intro gb442 hg w12 hbox hb; have BK442:=zM (hbox); have GW442:=zM ((by rw [hg]; exact (below_size (zs4 HB.out GE437.out)) : w.heap.size ≤ gb442)); have GE442:=zM ((by rw [hg]; exact (below_size (zs4 HB.out GE437.out)) : w.heap.size ≤ gb442)); replace HB:=zM (below_step (zs4 HB.out GE437.out) hb); have NB437_442:=zM ((by rw [hg]; exact Nat.ne_of_lt (blk_lt (g := gb437) (o := .cells #[.int .i64 t433, .int .i64 t434, .int .i64 t435] 25 (0, 0)) (zs12 BK437.out)) : gb437 ≠ gb442)); have NB442_437:=zM ((by rw [hg]; exact Nat.ne_of_gt (blk_lt (g := gb437) (o := .cells #[.int .i64 t433, .int .i64 t434, .int .i64 t435] 25 (0, 0)) (zs12 BK437.out)) : gb442 ≠ gb437)); replace BK437:=zM (blk_below (g := gb437) (o := .cells #[.int .i64 t433, .int .i64 t434, .int .i64 t435] 25 (0, 0)) (zs12 BK437.out) hb); clear hb hbox hg; have hnb13 := NB442_437.out; have hnc13 := NB437_442.out; have hcz14_0 := cz0 BK442.out; have hcz14_1 := cz1 BK442.out; have hcz14_2 := cz2 BK442.out; have hfz14_0 := blk_frozen BK442.out 0; have hfz14_1 := blk_frozen BK442.out 1; have hfz14_2 := blk_frozen BK442.out 2))
  (try simp only [Act.put, zE, zF, zG])
  go_cut [32] (fun v32 wc => ∃ (kq : Nat) (x32_5 : Bool), v32 = .bool x32_5 ∧ Aside0 (laws_FnReadDeed.j0 kq t432 t436 x32_5 t433 t434 t435 = some r) ∧ Aside0 (kq ≤ k) ∧ Aside0 (wc.heap[gb437]? = some (.cells #[.int .i64 t433, .int .i64 t434, .int .i64 t435] 25 (0, 0))) ∧ Aside0 (wc.heap[gb442]? = some (.cells #[.int .i64 t438, .int .i64 t439, .int .i64 t440] 25 (0, 0))) ∧ Aside0 (Below w.heap.size w wc))
  case first =>
   have H := HC6.out
   clear HC6
   by_cases c15 : (!(t433 == t438) || (!(t434 == t439) || (!(t435 == t440)))) = true
   ·rw [if_pos c15] at H
    have c15b0 : (!(t433 == t438) || (!(t434 == t439) || (!(t435 == t440)))) = true := c15
    clear c15
    (first | rw [c15b0] | (simp only [i64_w, i32_w]; rw [c15b0]) | skip)
    have H':=zM H
    clear H
    have hnb16 := NB437_442.out
    have hnc16 := NB442_437.out
    have hcz17_0 := cz0 BK437.out
    have hcz17_1 := cz1 BK437.out
    have hcz17_2 := cz2 BK437.out
    have hfz17_0 := blk_frozen BK437.out 0
    have hfz17_1 := blk_frozen BK437.out 1
    have hfz17_2 := blk_frozen BK437.out 2
    have hcz18_0 := cz0 BK442.out
    have hcz18_1 := cz1 BK442.out
    have hcz18_2 := cz2 BK442.out
    have hfz18_0 := blk_frozen BK442.out 0
    have hfz18_1 := blk_frozen BK442.out 1
    have hfz18_2 := blk_frozen BK442.out 2
    go_wp2
    go_meet
    case rel => exact ⟨_, (true), zs6, H', ⟨zs7⟩, ⟨by refine blk_far ?_ NB437_442.out _; refine blk_far ?_ NB437_442.out _; refine blk_far ?_ NB437_442.out _; exact BK437.out⟩, ⟨by refine blk_put (cs := #[.int .i64 t438, .int .i64 t439, .int .i64 0]) ?_ 2 _ rfl; refine blk_put (cs := #[.int .i64 t438, .int .i64 0, .int .i64 0]) ?_ 1 _ rfl; refine blk_put (cs := #[.int .i64 0, .int .i64 0, .int .i64 0]) ?_ 0 _ rfl; exact BK442.out⟩, ⟨(zs13 HB.out GE437.out GE442.out)⟩⟩
   ·rw [if_neg c15] at H
    have c15b0 : (!(t433 == t438) || (!(t434 == t439) || (!(t435 == t440)))) = false := by simpa using c15
    clear c15
    (first | rw [c15b0] | (simp only [i64_w, i32_w]; rw [c15b0]) | skip)
    have H':=zM H
    clear H
    have hnb19 := NB437_442.out
    have hnc19 := NB442_437.out
    have hcz20_0 := cz0 BK437.out
    have hcz20_1 := cz1 BK437.out
    have hcz20_2 := cz2 BK437.out
    have hfz20_0 := blk_frozen BK437.out 0
    have hfz20_1 := blk_frozen BK437.out 1
    have hfz20_2 := blk_frozen BK437.out 2
    have hcz21_0 := cz0 BK442.out
    have hcz21_1 := cz1 BK442.out
    have hcz21_2 := cz2 BK442.out
    have hfz21_0 := blk_frozen BK442.out 0
    have hfz21_1 := blk_frozen BK442.out 1
    have hfz21_2 := blk_frozen BK442.out 2
    go_wp2
    go_meet
    case rel => exact ⟨_, ((t436 != t441)), zs6, H', ⟨zs7⟩, ⟨by refine blk_far ?_ NB437_442.out _; refine blk_far ?_ NB437_442.out _; refine blk_far ?_ NB437_442.out _; exact BK437.out⟩, ⟨by refine blk_put (cs := #[.int .i64 t438, .int .i64 t439, .int .i64 0]) ?_ 2 _ rfl; refine blk_put (cs := #[.int .i64 t438, .int .i64 0, .int .i64 0]) ?_ 1 _ rfl; refine blk_put (cs := #[.int .i64 0, .int .i64 0, .int .i64 0]) ?_ 0 _ rfl; exact BK442.out⟩, ⟨(zs13 HB.out GE437.out GE442.out)⟩⟩
  case rest =>
   clear HC6
   try clear c1
   try clear c2
   try clear c2b0
   try clear c2b1
   try clear p2
   try clear c6
   try clear c13
   try clear c15
   try clear c15b0
   try clear c16
   try clear c18
   try clear c19
   try clear hcz10_0
   try clear hcz10_1
   try clear hcz10_2
   try clear hcz14_0
   try clear hcz14_1
   try clear hcz14_2
   try clear hcz17_0
   try clear hcz17_1
   try clear hcz17_2
   try clear hcz18_0
   try clear hcz18_1
   try clear hcz18_2
   try clear hcz20_0
   try clear hcz20_1
   try clear hcz20_2
   try clear hcz21_0
   try clear hcz21_1
   try clear hcz21_2
   try clear hfz10_0
   try clear hfz10_1
   try clear hfz10_2
   try clear hfz14_0
   try clear hfz14_1
   try clear hfz14_2
   try clear hfz17_0
   try clear hfz17_1
   try clear hfz17_2
   try clear hfz18_0
   try clear hfz18_1
   try clear hfz18_2
   try clear hfz20_0
   try clear hfz20_1
   try clear hfz20_2
   try clear hfz21_0
   try clear hfz21_1
   try clear hfz21_2
   obtain ⟨kq, x32_5, rfl, HA, HJ5, BK437, BK442, HB⟩ := hcut
   cases kq with
   | zero => exact absurd HA.out (by simp [laws_FnReadDeed.j0])
   | succ kj5 =>
    have H := HA.out
    clear HA
    simp only [laws_FnReadDeed.j0] at H
    by_cases c22 : x32_5 = true
    ·subst c22
     have H1 : (some false) = some r := by rw [if_pos rfl] at H; exact H
     clear H
     have H := H1
     clear H1
     obtain rfl := Option.some.inj H
     go_wp2
     go_ret
     exact ⟨zs3, (zs13 HB.out GE437.out GE442.out)⟩
    ·replace c22 := Bool.eq_false_iff.mpr c22
     subst c22
     have H1 : (if t436 = true then (if t432.size + 1 ≤ 9223372036854775807 then ((impl_ReadDeed.f kj5 (t432 ++ (⟨#[32]⟩ : ByteArray))).bind fun bt443 => ((impl_DeedText.f kj5 t433 t434 t435).bind fun t448 => (if t448.toList = t432.toList then (some (!bt443.2.2.2)) else (some false)))) else (none)) else (if (t433 == 0 && (t434 == 0 && (t435 == 0))) = true then ((laws_alive.f kj5).bind fun t449 => (some t449)) else (some false))) = some r := by rw [if_neg (show ¬ (false = true) by decide)] at H; exact H
     clear H
     have H := H1
     clear H1
     by_cases c23 : t436 = true
     ·subst c23
      have H1 : (if t432.size + 1 ≤ 9223372036854775807 then ((impl_ReadDeed.f kj5 (t432 ++ (⟨#[32]⟩ : ByteArray))).bind fun bt443 => ((impl_DeedText.f kj5 t433 t434 t435).bind fun t448 => (if t448.toList = t432.toList then (some (!bt443.2.2.2)) else (some false)))) else (none)) = some r := by rw [if_pos rfl] at H; exact H
      clear H
      have H := H1
      clear H1
      by_cases c24 : t432.size + 1 ≤ 9223372036854775807
      ·rw [if_pos c24] at H
       have c24b0 := eq_true c24
       have c24b1 := decide_eq_true c24
       try have c24b2 : (9223372036854775807 < t432.size + 1) = False := eq_false (Nat.not_lt.2 c24)
       replace H := zb H; obtain ⟨⟨t443, t444, t445, t446⟩, A25, H⟩ := H; try dsimp only at H
       replace H := zb H; obtain ⟨t448, A26, H⟩ := H; try dsimp only at H
       by_cases c27 : t448.toList = t432.toList
       ·rw [if_pos c27] at H
        have c27b0 := beq_iff_eq.mpr c27
        have c27b1 := bne_eq_false_iff_eq.mpr c27
        clear c27
        obtain rfl := Option.some.inj H
        go_wp2_with (first | (refine zg 15 (some 44) Tryd.func15 #[.string (t432 ++ (⟨#[32]⟩ : ByteArray))] ?_; (with_reducible refine (impl_ReadDeed.calls kj5 (t432 ++ (⟨#[32]⟩ : ByteArray)) t443 t444 t445 t446 _ (TabR.below HT.out (zs13 HB.out GE437.out GE442.out)) A25.out).mono ?_); rintro e w28 ⟨rfl, hb⟩; refine ⟨_, rfl, ?_⟩; replace BK437:=zM (blk_below (g := gb437) (o := .cells #[.int .i64 t433, .int .i64 t434, .int .i64 t435] 25 (0, 0)) (zs12 BK437.out) hb); replace BK442:=zM (blk_below (g := gb442) (o := .cells #[.int .i64 t438, .int .i64 t439, .int .i64 t440] 25 (0, 0)) (zs12 BK442.out) hb); replace HB:=zM (below_step (zs13 HB.out GE437.out GE442.out) hb); clear hb) | ((with_reducible refine gate_dst (N := 8) rfl ?_); refine box_event zs0 (N := 8) zs0 (cs := #[.int .i64 0, .int .i64 0, .int .i64 0]) (t := 25) zs1 ?_; intro gb447 hg w29 hbox hb; have BK447:=zM (hbox); have GW447:=zM ((by rw [hg]; exact (below_size (zs13 HB.out GE437.out GE442.out)) : w.heap.size ≤ gb447)); have GE447:=zM ((by rw [hg]; exact (below_size (zs13 HB.out GE437.out GE442.out)) : w.heap.size ≤ gb447)); replace HB:=zM (below_step (zs13 HB.out GE437.out GE442.out) hb); have NB437_447:=zM ((by rw [hg]; exact Nat.ne_of_lt (blk_lt (g := gb437) (o := .cells #[.int .i64 t433, .int .i64 t434, .int .i64 t435] 25 (0, 0)) (zs12 BK437.out)) : gb437 ≠ gb447)); have NB447_437:=zM ((by rw [hg]; exact Nat.ne_of_gt (blk_lt (g := gb437) (o := .cells #[.int .i64 t433, .int .i64 t434, .int .i64 t435] 25 (0, 0)) (zs12 BK437.out)) : gb447 ≠ gb437)); replace BK437:=zM (blk_below (g := gb437) (o := .cells #[.int .i64 t433, .int .i64 t434, .int .i64 t435] 25 (0, 0)) (zs12 BK437.out) hb); have NB442_447:=zM ((by rw [hg]; exact Nat.ne_of_lt (blk_lt (g := gb442) (o := .cells #[.int .i64 t438, .int .i64 t439, .int .i64 t440] 25 (0, 0)) (zs12 BK442.out)) : gb442 ≠ gb447)); have NB447_442:=zM ((by rw [hg]; exact Nat.ne_of_gt (blk_lt (g := gb442) (o := .cells #[.int .i64 t438, .int .i64 t439, .int .i64 t440] 25 (0, 0)) (zs12 BK442.out)) : gb447 ≠ gb442)); replace BK442:=zM (blk_below (g := gb442) (o := .cells #[.int .i64 t438, .int .i64 t439, .int .i64 t440] 25 (0, 0)) (zs12 BK442.out) hb); clear hb hbox hg; have hnb30 := NB447_437.out; have hnc30 := NB437_447.out; have hnb31 := NB447_442.out; have hnc31 := NB442_447.out; have hcz32_0 := cz0 BK447.out; have hcz32_1 := cz1 BK447.out; have hcz32_2 := cz2 BK447.out; have hfz32_0 := blk_frozen BK447.out 0; have hfz32_1 := blk_frozen BK447.out 1; have hfz32_2 := blk_frozen BK447.out 2; have hnb33 := NB437_442.out; have hnc33 := NB442_437.out; have hcz34_0 := cz0 BK437.out; have hcz34_1 := cz1 BK437.out; have hcz34_2 := cz2 BK437.out; have hfz34_0 := blk_frozen BK437.out 0; have hfz34_1 := blk_frozen BK437.out 1; have hfz34_2 := blk_frozen BK437.out 2) | (refine zg 12 (some 48) Tryd.func12 #[.agg #[.int .i64 t433, .int .i64 t434, .int .i64 t435]] ?_; (with_reducible refine (impl_DeedText.calls kj5 t433 t434 t435 t448 _ (TabR.below HT.out (zs27 HB.out GE437.out GE442.out GE447.out)) A26.out).mono ?_); rintro e w35 ⟨rfl, hb⟩; refine ⟨_, rfl, ?_⟩; replace BK437:=zM (blk_below (g := gb437) (o := .cells #[.int .i64 t433, .int .i64 t434, .int .i64 t435] 25 (0, 0)) (by refine blk_far ?_ NB437_447.out _; refine blk_far ?_ NB437_447.out _; refine blk_far ?_ NB437_447.out _; exact BK437.out) hb); replace BK442:=zM (blk_below (g := gb442) (o := .cells #[.int .i64 t438, .int .i64 t439, .int .i64 t440] 25 (0, 0)) (by refine blk_far ?_ NB442_447.out _; refine blk_far ?_ NB442_447.out _; refine blk_far ?_ NB442_447.out _; exact BK442.out) hb); replace BK447:=zM (blk_below (g := gb447) (o := .cells #[.int .i64 t443, .int .i64 t444, .int .i64 t445] 25 (0, 0)) (by refine blk_put (cs := #[.int .i64 t443, .int .i64 t444, .int .i64 0]) ?_ 2 _ rfl; refine blk_put (cs := #[.int .i64 t443, .int .i64 0, .int .i64 0]) ?_ 1 _ rfl; refine blk_put (cs := #[.int .i64 0, .int .i64 0, .int .i64 0]) ?_ 0 _ rfl; exact BK447.out) hb); replace HB:=zM (below_step (zs27 HB.out GE437.out GE442.out GE447.out) hb); clear hb))
        go_ret
        exact ⟨zs3, (zs27 HB.out GE437.out GE442.out GE447.out)⟩
       ·rw [if_neg c27] at H
        have c27b0 := beq_eq_false_iff_ne.mpr c27
        have c27b1 := bne_iff_ne.mpr c27
        obtain rfl := Option.some.inj H
        go_wp2_with (first | (refine zg 15 (some 44) Tryd.func15 #[.string (t432 ++ (⟨#[32]⟩ : ByteArray))] ?_; (with_reducible refine (impl_ReadDeed.calls kj5 (t432 ++ (⟨#[32]⟩ : ByteArray)) t443 t444 t445 t446 _ (TabR.below HT.out (zs13 HB.out GE437.out GE442.out)) A25.out).mono ?_); rintro e w36 ⟨rfl, hb⟩; refine ⟨_, rfl, ?_⟩; replace BK437:=zM (blk_below (g := gb437) (o := .cells #[.int .i64 t433, .int .i64 t434, .int .i64 t435] 25 (0, 0)) (zs12 BK437.out) hb); replace BK442:=zM (blk_below (g := gb442) (o := .cells #[.int .i64 t438, .int .i64 t439, .int .i64 t440] 25 (0, 0)) (zs12 BK442.out) hb); replace HB:=zM (below_step (zs13 HB.out GE437.out GE442.out) hb); clear hb) | ((with_reducible refine gate_dst (N := 8) rfl ?_); refine box_event zs0 (N := 8) zs0 (cs := #[.int .i64 0, .int .i64 0, .int .i64 0]) (t := 25) zs1 ?_; intro gb447 hg w37 hbox hb; have BK447:=zM (hbox); have GW447:=zM ((by rw [hg]; exact (below_size (zs13 HB.out GE437.out GE442.out)) : w.heap.size ≤ gb447)); have GE447:=zM ((by rw [hg]; exact (below_size (zs13 HB.out GE437.out GE442.out)) : w.heap.size ≤ gb447)); replace HB:=zM (below_step (zs13 HB.out GE437.out GE442.out) hb); have NB437_447:=zM ((by rw [hg]; exact Nat.ne_of_lt (blk_lt (g := gb437) (o := .cells #[.int .i64 t433, .int .i64 t434, .int .i64 t435] 25 (0, 0)) (zs12 BK437.out)) : gb437 ≠ gb447)); have NB447_437:=zM ((by rw [hg]; exact Nat.ne_of_gt (blk_lt (g := gb437) (o := .cells #[.int .i64 t433, .int .i64 t434, .int .i64 t435] 25 (0, 0)) (zs12 BK437.out)) : gb447 ≠ gb437)); replace BK437:=zM (blk_below (g := gb437) (o := .cells #[.int .i64 t433, .int .i64 t434, .int .i64 t435] 25 (0, 0)) (zs12 BK437.out) hb); have NB442_447:=zM ((by rw [hg]; exact Nat.ne_of_lt (blk_lt (g := gb442) (o := .cells #[.int .i64 t438, .int .i64 t439, .int .i64 t440] 25 (0, 0)) (zs12 BK442.out)) : gb442 ≠ gb447)); have NB447_442:=zM ((by rw [hg]; exact Nat.ne_of_gt (blk_lt (g := gb442) (o := .cells #[.int .i64 t438, .int .i64 t439, .int .i64 t440] 25 (0, 0)) (zs12 BK442.out)) : gb447 ≠ gb442)); replace BK442:=zM (blk_below (g := gb442) (o := .cells #[.int .i64 t438, .int .i64 t439, .int .i64 t440] 25 (0, 0)) (zs12 BK442.out) hb); clear hb hbox hg; have hnb38 := NB447_437.out; have hnc38 := NB437_447.out; have hnb39 := NB447_442.out; have hnc39 := NB442_447.out; have hcz40_0 := cz0 BK447.out; have hcz40_1 := cz1 BK447.out; have hcz40_2 := cz2 BK447.out; have hfz40_0 := blk_frozen BK447.out 0; have hfz40_1 := blk_frozen BK447.out 1; have hfz40_2 := blk_frozen BK447.out 2; have hnb41 := NB437_442.out; have hnc41 := NB442_437.out; have hcz42_0 := cz0 BK437.out; have hcz42_1 := cz1 BK437.out; have hcz42_2 := cz2 BK437.out; have hfz42_0 := blk_frozen BK437.out 0; have hfz42_1 := blk_frozen BK437.out 1; have hfz42_2 := blk_frozen BK437.out 2) | (refine zg 12 (some 48) Tryd.func12 #[.agg #[.int .i64 t433, .int .i64 t434, .int .i64 t435]] ?_; (with_reducible refine (impl_DeedText.calls kj5 t433 t434 t435 t448 _ (TabR.below HT.out (zs27 HB.out GE437.out GE442.out GE447.out)) A26.out).mono ?_); rintro e w43 ⟨rfl, hb⟩; refine ⟨_, rfl, ?_⟩; replace BK437:=zM (blk_below (g := gb437) (o := .cells #[.int .i64 t433, .int .i64 t434, .int .i64 t435] 25 (0, 0)) (by refine blk_far ?_ NB437_447.out _; refine blk_far ?_ NB437_447.out _; refine blk_far ?_ NB437_447.out _; exact BK437.out) hb); replace BK442:=zM (blk_below (g := gb442) (o := .cells #[.int .i64 t438, .int .i64 t439, .int .i64 t440] 25 (0, 0)) (by refine blk_far ?_ NB442_447.out _; refine blk_far ?_ NB442_447.out _; refine blk_far ?_ NB442_447.out _; exact BK442.out) hb); replace BK447:=zM (blk_below (g := gb447) (o := .cells #[.int .i64 t443, .int .i64 t444, .int .i64 t445] 25 (0, 0)) (by refine blk_put (cs := #[.int .i64 t443, .int .i64 t444, .int .i64 0]) ?_ 2 _ rfl; refine blk_put (cs := #[.int .i64 t443, .int .i64 0, .int .i64 0]) ?_ 1 _ rfl; refine blk_put (cs := #[.int .i64 0, .int .i64 0, .int .i64 0]) ?_ 0 _ rfl; exact BK447.out) hb); replace HB:=zM (below_step (zs27 HB.out GE437.out GE442.out GE447.out) hb); clear hb))
        go_ret
        exact ⟨zs3, (zs27 HB.out GE437.out GE442.out GE447.out)⟩
      ·rw [if_neg c24] at H
       exact absurd H (by simp)
     ·replace c23 := Bool.eq_false_iff.mpr c23
      subst c23
      have H1 : (if (t433 == 0 && (t434 == 0 && (t435 == 0))) = true then ((laws_alive.f kj5).bind fun t449 => (some t449)) else (some false)) = some r := by rw [if_neg (show ¬ (false = true) by decide)] at H; exact H
      clear H
      have H := H1
      clear H1
      by_cases c44 : (t433 == 0 && (t434 == 0 && (t435 == 0))) = true
      ·rw [if_pos c44] at H
       have c44b0 : (t433 == 0 && (t434 == 0 && (t435 == 0))) = true := c44
       (try (have c44b1 : decide (t433 = 0 && (t434 == 0 && (t435 == 0))) = true := by simpa using c44))
       (try (have c44b2 : (t433 == 0 && (t434 == 0 && (t435 == 0))) = true := by simpa using c44))
       clear c44
       replace H := zb H; obtain ⟨t449, A45, H⟩ := H; try dsimp only at H
       obtain rfl := Option.some.inj H
       have hnb46 := NB437_442.out
       have hnc46 := NB442_437.out
       have hcz47_0 := cz0 BK437.out
       have hcz47_1 := cz1 BK437.out
       have hcz47_2 := cz2 BK437.out
       have hfz47_0 := blk_frozen BK437.out 0
       have hfz47_1 := blk_frozen BK437.out 1
       have hfz47_2 := blk_frozen BK437.out 2
       go_wp2_with (first | (go_at_call 14; (with_reducible refine (laws_alive.calls kj5  t449 _ A45.out).mono ?_); rintro e w48 ⟨rfl, hb⟩; replace BK437:=zM (blk_below (g := gb437) (o := .cells #[.int .i64 t433, .int .i64 t434, .int .i64 t435] 25 (0, 0)) (zs12 BK437.out) hb); replace BK442:=zM (blk_below (g := gb442) (o := .cells #[.int .i64 t438, .int .i64 t439, .int .i64 t440] 25 (0, 0)) (zs12 BK442.out) hb); replace HB:=zM (below_step (zs13 HB.out GE437.out GE442.out) hb); clear hb))
       go_ret
       exact ⟨zs3, (zs13 HB.out GE437.out GE442.out)⟩
      ·rw [if_neg c44] at H
       have c44b0 : (t433 == 0 && (t434 == 0 && (t435 == 0))) = false := by simpa using c44
       (try (have c44b1 : decide (t433 = 0 && (t434 == 0 && (t435 == 0))) = false := by simpa using c44))
       (try (have c44b2 : (t433 == 0 && (t434 == 0 && (t435 == 0))) = false := by simpa using c44))
       (try (have c44b3 : ¬ (t433 = 0 && (t434 == 0 && (t435 == 0))) := by simpa using c44))
       clear c44
       obtain rfl := Option.some.inj H
       have hnb49 := NB437_442.out
       have hnc49 := NB442_437.out
       have hcz50_0 := cz0 BK437.out
       have hcz50_1 := cz1 BK437.out
       have hcz50_2 := cz2 BK437.out
       have hfz50_0 := blk_frozen BK437.out 0
       have hfz50_1 := blk_frozen BK437.out 1
       have hfz50_2 := blk_frozen BK437.out 2
       go_wp2
       go_ret
       exact ⟨zs3, (zs13 HB.out GE437.out GE442.out)⟩

/-- THE ONE PURE STATEMENT of laws_FnReadDeed: yours. -/
def laws_FnReadDeed.Pure : Prop := ∀ (l0 : List Int), l0.length ≤ maxLen → l0.length * 1 ≤ 140737488351232 → (∀ x ∈ l0, (Lit.int .u8 x).wf = true) → ∃ k, laws_FnReadDeed.f k l0 = some true
theorem laws_FnReadDeed.walk (P : laws_FnReadDeed.Pure) (a0 : Option Addr) (len0 cap0 : Nat) (z0 : List Int) (w : World) (w0 : (a0 = none ∧ len0 = 0 ∧ cap0 = 0 ∧ z0 = []) ∨ ∃ x, a0 = some x ∧ len0 ≤ cap0 ∧ cap0 ≤ maxLen ∧ z0.length = cap0 ∧ (∀ i, i < z0.length → w.cell? (x.add i) = some (.int .u8 (z0.getD i 0))) ∧ ∀ n ∈ z0, (Lit.int .u8 n).wf = true) (y0 : len0 * 1 ≤ 140737488351232) (hT : TabR w) :
  Calls Tryd.prog 6 #[.slice a0 len0 cap0] w fun e w' => e = .returned (.bool true) ∧ Below w.heap.size w w' := by
 obtain ⟨l0, rfl, hr0, hm0, hw0, hc0⟩ := ReadsInt.ofRowC w0
 obtain ⟨k, h⟩ := P l0 hm0 y0 hw0
 refine (laws_FnReadDeed.calls k _ _ l0 true w (Kd.C_of_reads (d := (0 : Int)) (h1 := fun _ => rfl) hr0) hc0 hT h).mono ?_
 rintro e w' ⟨rfl, hd⟩
 exact ⟨rfl, hd⟩

end Go.Proofs.YtopfhdhdpnenpaaDoor.LG
