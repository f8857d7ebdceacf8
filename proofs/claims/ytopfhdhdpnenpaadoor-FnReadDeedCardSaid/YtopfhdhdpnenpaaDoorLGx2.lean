/- Printed by a program of this session (wip/lp/lp.py) out of the translation: functions with the same answers as the Go code, and their contracts; no conditions beyond those that each theorem names. -/
import Derived.Test.YtopfhdhdpnenpaaDoorLGx0
namespace Go.Proofs.YtopfhdhdpnenpaaDoor.LG
open Go.RowKit Go.Proofs.YtopfhdhdpnenpaaDoorV.PrintWords Go.Proofs.YtopfhdhdpnenpaaDoorV.PrintLast Go.Proofs.YtopfhdhdpnenpaaDoorV.PrintMore
attribute [local go_sem] max2_int min2_int max_two min_two max_three min_three max_four min_four   -- for this text's walks alone
set_option linter.unusedVariables false
set_option linter.unusedSimpArgs false

/-! ### impl_Deed_named: function 32 -/
def impl_Deed_named.f (a0_0 : Int) (a0_1 : Int) (a0_2 : Int) : Option (Bool) := if a0_0 = 0 then (some true) else (if a0_0 = 1 then (some (a0_2 == 0)) else (if a0_0 = 2 then (if a0_1 = 0 then (some (a0_2 == 0)) else (some false)) else (if a0_0 = 3 then (if a0_1 = 0 then (some (a0_2 == 0)) else (some false)) else (if a0_0 = 4 then (if a0_1 = 0 then (some (a0_2 == 0)) else (some false)) else (if a0_0 = 5 then (if a0_1 = 0 then (some (a0_2 == 0)) else (some false)) else (some false))))))
set_option maxHeartbeats 8000000 in
set_option maxRecDepth 100000 in
theorem impl_Deed_named.calls (a0_0 : Int) (a0_1 : Int) (a0_2 : Int) (r : Bool) (w : World) (h : impl_Deed_named.f a0_0 a0_1 a0_2 = some r) :
  Calls Tryd.prog 32 #[.agg #[.int .i64 a0_0, .int .i64 a0_1, .int .i64 a0_2]] w fun e w' => e = .returned (.bool r) ∧ Below w.heap.size w w' := by
 have hu25 := Tryd.underlying25
 have HB:=zM (Below.refl w.heap.size w)
 have H : (if a0_0 = 0 then (some true) else (if a0_0 = 1 then (some (a0_2 == 0)) else (if a0_0 = 2 then (if a0_1 = 0 then (some (a0_2 == 0)) else (some false)) else (if a0_0 = 3 then (if a0_1 = 0 then (some (a0_2 == 0)) else (some false)) else (if a0_0 = 4 then (if a0_1 = 0 then (some (a0_2 == 0)) else (some false)) else (if a0_0 = 5 then (if a0_1 = 0 then (some (a0_2 == 0)) else (some false)) else (some false))))))) = some r := h
 clear h
 by_cases c2 : a0_0 = 0
 ·rw [if_pos c2] at H
  have c2b0 := beq_iff_eq.mpr c2
  have c2b1 := bne_eq_false_iff_eq.mpr c2
  clear c2
  obtain rfl := Option.some.inj H
  go_enter Tryd.func32, Tryd.ntmps32
  go_wp2_with (first | ((with_reducible refine gate_dst (N := 1) rfl ?_); refine box_event zs0 (N := 1) zs0 (cs := #[.int .i64 a0_0, .int .i64 a0_1, .int .i64 a0_2]) (t := 25) zs1 ?_; intro gb101 hg w3 hbox hb; have BK101:=zM (hbox); have GW101:=zM ((by rw [hg]; exact (below_size (zs2 HB.out)) : w.heap.size ≤ gb101)); have GE101:=zM ((by rw [hg]; exact (below_size (zs2 HB.out)) : w.heap.size ≤ gb101)); replace HB:=zM (below_step (zs2 HB.out) hb); clear hb hbox hg; have hcz4_0 := cz0 BK101.out; have hcz4_1 := cz1 BK101.out; have hcz4_2 := cz2 BK101.out; have hfz4_0 := blk_frozen BK101.out 0; have hfz4_1 := blk_frozen BK101.out 1; have hfz4_2 := blk_frozen BK101.out 2))
  go_ret
  exact ⟨zs3, (zs4 HB.out GE101.out)⟩
 ·rw [if_neg c2] at H
  have c2b0 := beq_eq_false_iff_ne.mpr c2
  have c2b1 := bne_iff_ne.mpr c2
  by_cases c5 : a0_0 = 1
  ·rw [if_pos c5] at H
   have c5b0 := beq_iff_eq.mpr c5
   have c5b1 := bne_eq_false_iff_eq.mpr c5
   clear c5
   obtain rfl := Option.some.inj H
   go_enter Tryd.func32, Tryd.ntmps32
   go_wp2_with (first | ((with_reducible refine gate_dst (N := 1) rfl ?_); refine box_event zs0 (N := 1) zs0 (cs := #[.int .i64 a0_0, .int .i64 a0_1, .int .i64 a0_2]) (t := 25) zs1 ?_; intro gb101 hg w6 hbox hb; have BK101:=zM (hbox); have GW101:=zM ((by rw [hg]; exact (below_size (zs2 HB.out)) : w.heap.size ≤ gb101)); have GE101:=zM ((by rw [hg]; exact (below_size (zs2 HB.out)) : w.heap.size ≤ gb101)); replace HB:=zM (below_step (zs2 HB.out) hb); clear hb hbox hg; have hcz7_0 := cz0 BK101.out; have hcz7_1 := cz1 BK101.out; have hcz7_2 := cz2 BK101.out; have hfz7_0 := blk_frozen BK101.out 0; have hfz7_1 := blk_frozen BK101.out 1; have hfz7_2 := blk_frozen BK101.out 2))
   go_ret
   exact ⟨zs3, (zs4 HB.out GE101.out)⟩
  ·rw [if_neg c5] at H
   have c5b0 := beq_eq_false_iff_ne.mpr c5
   have c5b1 := bne_iff_ne.mpr c5
   by_cases c8 : a0_0 = 2
   ·rw [if_pos c8] at H
    have c8b0 := beq_iff_eq.mpr c8
    have c8b1 := bne_eq_false_iff_eq.mpr c8
    clear c8
    by_cases c9 : a0_1 = 0
    ·rw [if_pos c9] at H
     have c9b0 := beq_iff_eq.mpr c9
     have c9b1 := bne_eq_false_iff_eq.mpr c9
     clear c9
     obtain rfl := Option.some.inj H
     go_enter Tryd.func32, Tryd.ntmps32
     go_wp2_with (first | ((with_reducible refine gate_dst (N := 1) rfl ?_); refine box_event zs0 (N := 1) zs0 (cs := #[.int .i64 a0_0, .int .i64 a0_1, .int .i64 a0_2]) (t := 25) zs1 ?_; intro gb101 hg w10 hbox hb; have BK101:=zM (hbox); have GW101:=zM ((by rw [hg]; exact (below_size (zs2 HB.out)) : w.heap.size ≤ gb101)); have GE101:=zM ((by rw [hg]; exact (below_size (zs2 HB.out)) : w.heap.size ≤ gb101)); replace HB:=zM (below_step (zs2 HB.out) hb); clear hb hbox hg; have hcz11_0 := cz0 BK101.out; have hcz11_1 := cz1 BK101.out; have hcz11_2 := cz2 BK101.out; have hfz11_0 := blk_frozen BK101.out 0; have hfz11_1 := blk_frozen BK101.out 1; have hfz11_2 := blk_frozen BK101.out 2))
     go_ret
     exact ⟨zs3, (zs4 HB.out GE101.out)⟩
    ·rw [if_neg c9] at H
     have c9b0 := beq_eq_false_iff_ne.mpr c9
     have c9b1 := bne_iff_ne.mpr c9
     obtain rfl := Option.some.inj H
     go_enter Tryd.func32, Tryd.ntmps32
     go_wp2_with (first | ((with_reducible refine gate_dst (N := 1) rfl ?_); refine box_event zs0 (N := 1) zs0 (cs := #[.int .i64 a0_0, .int .i64 a0_1, .int .i64 a0_2]) (t := 25) zs1 ?_; intro gb101 hg w12 hbox hb; have BK101:=zM (hbox); have GW101:=zM ((by rw [hg]; exact (below_size (zs2 HB.out)) : w.heap.size ≤ gb101)); have GE101:=zM ((by rw [hg]; exact (below_size (zs2 HB.out)) : w.heap.size ≤ gb101)); replace HB:=zM (below_step (zs2 HB.out) hb); clear hb hbox hg; have hcz13_0 := cz0 BK101.out; have hcz13_1 := cz1 BK101.out; have hcz13_2 := cz2 BK101.out; have hfz13_0 := blk_frozen BK101.out 0; have hfz13_1 := blk_frozen BK101.out 1; have hfz13_2 := blk_frozen BK101.out 2))
     go_ret
     exact ⟨zs3, (zs4 HB.out GE101.out)⟩
   ·rw [if_neg c8] at H
    have c8b0 := beq_eq_false_iff_ne.mpr c8
    have c8b1 := bne_iff_ne.mpr c8
    by_cases c14 : a0_0 = 3
    ·rw [if_pos c14] at H
     have c14b0 := beq_iff_eq.mpr c14
     have c14b1 := bne_eq_false_iff_eq.mpr c14
     clear c14
     by_cases c15 : a0_1 = 0
     ·rw [if_pos c15] at H
      have c15b0 := beq_iff_eq.mpr c15
      have c15b1 := bne_eq_false_iff_eq.mpr c15
      clear c15
      obtain rfl := Option.some.inj H
      go_enter Tryd.func32, Tryd.ntmps32
      go_wp2_with (first | ((with_reducible refine gate_dst (N := 1) rfl ?_); refine box_event zs0 (N := 1) zs0 (cs := #[.int .i64 a0_0, .int .i64 a0_1, .int .i64 a0_2]) (t := 25) zs1 ?_; intro gb101 hg w16 hbox hb; have BK101:=zM (hbox); have GW101:=zM ((by rw [hg]; exact (below_size (zs2 HB.out)) : w.heap.size ≤ gb101)); have GE101:=zM ((by rw [hg]; exact (below_size (zs2 HB.out)) : w.heap.size ≤ gb101)); replace HB:=zM (below_step (zs2 HB.out) hb); clear hb hbox hg; have hcz17_0 := cz0 BK101.out; have hcz17_1 := cz1 BK101.out; have hcz17_2 := cz2 BK101.out; have hfz17_0 := blk_frozen BK101.out 0; have hfz17_1 := blk_frozen BK101.out 1; have hfz17_2 := blk_frozen BK101.out 2))
      go_ret
      exact ⟨zs3, (zs4 HB.out GE101.out)⟩
     ·rw [if_neg c15] at H
      have c15b0 := beq_eq_false_iff_ne.mpr c15
      have c15b1 := bne_iff_ne.mpr c15
      obtain rfl := Option.some.inj H
      go_enter Tryd.func32, Tryd.ntmps32
      go_wp2_with (first | ((with_reducible refine gate_dst (N := 1) rfl ?_); refine box_event zs0 (N := 1) zs0 (cs := #[.int .i64 a0_0, .int .i64 a0_1, .int .i64 a0_2]) (t := 25) zs1 ?_; intro gb101 hg w18 hbox hb; have BK101:=zM (hbox); have GW101:=zM ((by rw [hg]; exact (below_size (zs2 HB.out)) : w.heap.size ≤ gb101)); have GE101:=zM ((by rw [hg]; exact (below_size (zs2 HB.out)) : w.heap.size ≤ gb101)); replace HB:=zM (below_step (zs2 HB.out) hb); clear hb hbox hg; have hcz19_0 := cz0 BK101.out; have hcz19_1 := cz1 BK101.out; have hcz19_2 := cz2 BK101.out; have hfz19_0 := blk_frozen BK101.out 0; have hfz19_1 := blk_frozen BK101.out 1; have hfz19_2 := blk_frozen BK101.out 2))
      go_ret
      exact ⟨zs3, (zs4 HB.out GE101.out)⟩
    ·rw [if_neg c14] at H
     have c14b0 := beq_eq_false_iff_ne.mpr c14
     have c14b1 := bne_iff_ne.mpr c14
     by_cases c20 : a0_0 = 4
     ·rw [if_pos c20] at H
      have c20b0 := beq_iff_eq.mpr c20
      have c20b1 := bne_eq_false_iff_eq.mpr c20
      clear c20
      by_cases c21 : a0_1 = 0
      ·rw [if_pos c21] at H
       have c21b0 := beq_iff_eq.mpr c21
       have c21b1 := bne_eq_false_iff_eq.mpr c21
       clear c21
       obtain rfl := Option.some.inj H
       go_enter Tryd.func32, Tryd.ntmps32
       go_wp2_with (first | ((with_reducible refine gate_dst (N := 1) rfl ?_); refine box_event zs0 (N := 1) zs0 (cs := #[.int .i64 a0_0, .int .i64 a0_1, .int .i64 a0_2]) (t := 25) zs1 ?_; intro gb101 hg w22 hbox hb; have BK101:=zM (hbox); have GW101:=zM ((by rw [hg]; exact (below_size (zs2 HB.out)) : w.heap.size ≤ gb101)); have GE101:=zM ((by rw [hg]; exact (below_size (zs2 HB.out)) : w.heap.size ≤ gb101)); replace HB:=zM (below_step (zs2 HB.out) hb); clear hb hbox hg; have hcz23_0 := cz0 BK101.out; have hcz23_1 := cz1 BK101.out; have hcz23_2 := cz2 BK101.out; have hfz23_0 := blk_frozen BK101.out 0; have hfz23_1 := blk_frozen BK101.out 1; have hfz23_2 := blk_frozen BK101.out 2))
       go_ret
       exact ⟨zs3, (zs4 HB.out GE101.out)⟩
      ·rw [if_neg c21] at H
       have c21b0 := beq_eq_false_iff_ne.mpr c21
       have c21b1 := bne_iff_ne.mpr c21
       obtain rfl := Option.some.inj H
       go_enter Tryd.func32, Tryd.ntmps32
       go_wp2_with (first | ((with_reducible refine gate_dst (N := 1) rfl ?_); refine box_event zs0 (N := 1) zs0 (cs := #[.int .i64 a0_0, .int .i64 a0_1, .int .i64 a0_2]) (t := 25) zs1 ?_; intro gb101 hg w24 hbox hb; have BK101:=zM (hbox); have GW101:=zM ((by rw [hg]; exact (below_size (zs2 HB.out)) : w.heap.size ≤ gb101)); have GE101:=zM ((by rw [hg]; exact (below_size (zs2 HB.out)) : w.heap.size ≤ gb101)); replace HB:=zM (below_step (zs2 HB.out) hb); clear hb hbox hg; have hcz25_0 := cz0 BK101.out; have hcz25_1 := cz1 BK101.out; have hcz25_2 := cz2 BK101.out; have hfz25_0 := blk_frozen BK101.out 0; have hfz25_1 := blk_frozen BK101.out 1; have hfz25_2 := blk_frozen BK101.out 2))
       go_ret
       exact ⟨zs3, (zs4 HB.out GE101.out)⟩
     ·rw [if_neg c20] at H
      have c20b0 := beq_eq_false_iff_ne.mpr c20
      have c20b1 := bne_iff_ne.mpr c20
      by_cases c26 : a0_0 = 5
      ·rw [if_pos c26] at H
       have c26b0 := beq_iff_eq.mpr c26
       have c26b1 := bne_eq_false_iff_eq.mpr c26
       clear c26
       by_cases c27 : a0_1 = 0
       ·rw [if_pos c27] at H
        have c27b0 := beq_iff_eq.mpr c27
        have c27b1 := bne_eq_false_iff_eq.mpr c27
        clear c27
        obtain rfl := Option.some.inj H
        go_enter Tryd.func32, Tryd.ntmps32
        go_wp2_with (first | ((with_reducible refine gate_dst (N := 1) rfl ?_); refine box_event zs0 (N := 1) zs0 (cs := #[.int .i64 a0_0, .int .i64 a0_1, .int .i64 a0_2]) (t := 25) zs1 ?_; intro gb101 hg w28 hbox hb; have BK101:=zM (hbox); have GW101:=zM ((by rw [hg]; exact (below_size (zs2 HB.out)) : w.heap.size ≤ gb101)); have GE101:=zM ((by rw [hg]; exact (below_size (zs2 HB.out)) : w.heap.size ≤ gb101)); replace HB:=zM (below_step (zs2 HB.out) hb); clear hb hbox hg; have hcz29_0 := cz0 BK101.out; have hcz29_1 := cz1 BK101.out; have hcz29_2 := cz2 BK101.out; have hfz29_0 := blk_frozen BK101.out 0; have hfz29_1 := blk_frozen BK101.out 1; have hfz29_2 := blk_frozen BK101.out 2))
        go_ret
        exact ⟨zs3, (zs4 HB.out GE101.out)⟩
       ·rw [if_neg c27] at H
        have c27b0 := beq_eq_false_iff_ne.mpr c27
        have c27b1 := bne_iff_ne.mpr c27
        obtain rfl := Option.some.inj H
        go_enter Tryd.func32, Tryd.ntmps32
        go_wp2_with (first | ((with_reducible refine gate_dst (N := 1) rfl ?_); refine box_event zs0 (N := 1) zs0 (cs := #[.int .i64 a0_0, .int .i64 a0_1, .int .i64 a0_2]) (t := 25) zs1 ?_; intro gb101 hg w30 hbox hb; have BK101:=zM (hbox); have GW101:=zM ((by rw [hg]; exact (below_size (zs2 HB.out)) : w.heap.size ≤ gb101)); have GE101:=zM ((by rw [hg]; exact (below_size (zs2 HB.out)) : w.heap.size ≤ gb101)); replace HB:=zM (below_step (zs2 HB.out) hb); clear hb hbox hg; have hcz31_0 := cz0 BK101.out; have hcz31_1 := cz1 BK101.out; have hcz31_2 := cz2 BK101.out; have hfz31_0 := blk_frozen BK101.out 0; have hfz31_1 := blk_frozen BK101.out 1; have hfz31_2 := blk_frozen BK101.out 2))
        go_ret
        exact ⟨zs3, (zs4 HB.out GE101.out)⟩
      ·rw [if_neg c26] at H
       have c26b0 := beq_eq_false_iff_ne.mpr c26
       have c26b1 := bne_iff_ne.mpr c26
       obtain rfl := Option.some.inj H
       go_enter Tryd.func32, Tryd.ntmps32
       go_wp2_with (first | ((with_reducible refine gate_dst (N := 1) rfl ?_); refine box_event zs0 (N := 1) zs0 (cs := #[.int .i64 a0_0, .int .i64 a0_1, .int .i64 a0_2]) (t := 25) zs1 ?_; intro gb101 hg w32 hbox hb; have BK101:=zM (hbox); have GW101:=zM ((by rw [hg]; exact (below_size (zs2 HB.out)) : w.heap.size ≤ gb101)); have GE101:=zM ((by rw [hg]; exact (below_size (zs2 HB.out)) : w.heap.size ≤ gb101)); replace HB:=zM (below_step (zs2 HB.out) hb); clear hb hbox hg; have hcz33_0 := cz0 BK101.out; have hcz33_1 := cz1 BK101.out; have hcz33_2 := cz2 BK101.out; have hfz33_0 := blk_frozen BK101.out 0; have hfz33_1 := blk_frozen BK101.out 1; have hfz33_2 := blk_frozen BK101.out 2))
       go_ret
       exact ⟨zs3, (zs4 HB.out GE101.out)⟩

/-! ### strconv_Itoa: function 33, told by hand -/
def strconv_Itoa.ren : Go.Shelf.Ren := { f := fun x => if x = 129 then 88 else if x = 171 then 33 else if x = 243 then 49 else if x = 246 then 61 else if x = 283 then 73 else if x = 284 then 74 else if x = 285 then 75 else if x = 286 then 76 else if x = 317 then 87 else if x = 318 then 89 else if x = 319 then 90 else if x = 320 then 91 else if x = 337 then 97 else if x = 338 then 98 else 0, t := fun x => if x = 0 then 0 else if x = 2 then 2 else if x = 3 then 3 else if x = 4 then 4 else if x = 5 then 5 else if x = 9 then 9 else if x = 20 then 20 else if x = 37 then 28 else if x = 46 then 102 else if x = 51 then 109 else if x = 53 then 92 else if x = 171 then 91 else if x = 173 then 95 else if x = 212 then 108 else if x = 213 then 110 else if x = 232 then 124 else if x = 233 then 125 else 0, g := fun x => if x = 17 then 4 else if x = 18 then 7 else if x = 19 then 8 else 0 }
theorem strconv_Itoa.lays : Lays.n171 Tryd.prog strconv_Itoa.ren := {
 mixed := by kernel_rfl
 f129 := by kernel_rfl
 f171 := by kernel_rfl
 f243 := by kernel_rfl
 f246 := by kernel_rfl
 f283 := by kernel_rfl
 f284 := by kernel_rfl
 f285 := by kernel_rfl
 f286 := by kernel_rfl
 f317 := by kernel_rfl
 f318 := by kernel_rfl
 f319 := by kernel_rfl
 f320 := by kernel_rfl
 f337 := by kernel_rfl
 f338 := by kernel_rfl
 t0 := by kernel_rfl
 a0 := fun _ => by kernel_rfl
 z0 := fun _ => by kernel_rfl
 v0 := fun _ => by kernel_rfl
 t2 := by kernel_rfl
 a2 := fun _ => by kernel_rfl
 z2 := fun _ => by kernel_rfl
 v2 := fun _ => by kernel_rfl
 t3 := by kernel_rfl
 a3 := fun _ => by kernel_rfl
 z3 := fun _ => by kernel_rfl
 v3 := fun _ => by kernel_rfl
 t4 := by kernel_rfl
 a4 := fun _ => by kernel_rfl
 z4 := fun _ => by kernel_rfl
 v4 := fun _ => by kernel_rfl
 t5 := by kernel_rfl
 a5 := fun _ => by kernel_rfl
 z5 := fun _ => by kernel_rfl
 v5 := fun _ => by kernel_rfl
 t9 := by kernel_rfl
 a9 := fun _ => by kernel_rfl
 z9 := fun _ => by kernel_rfl
 v9 := fun _ => by kernel_rfl
 t20 := by kernel_rfl
 a20 := fun _ => by kernel_rfl
 z20 := fun _ => by kernel_rfl
 v20 := fun _ => by kernel_rfl
 t37 := by kernel_rfl
 a37 := fun _ => by kernel_rfl
 z37 := fun _ => by kernel_rfl
 v37 := fun _ => by kernel_rfl
 t46 := by kernel_rfl
 a46 := fun _ => by kernel_rfl
 z46 := fun _ => by kernel_rfl
 v46 := fun _ => by kernel_rfl
 t51 := by kernel_rfl
 a51 := fun _ => by kernel_rfl
 z51 := fun _ => by kernel_rfl
 v51 := fun _ => by kernel_rfl
 t53 := by kernel_rfl
 a53 := fun _ => by kernel_rfl
 z53 := fun _ => by kernel_rfl
 v53 := fun _ => by kernel_rfl
 t171 := by kernel_rfl
 a171 := fun _ => by kernel_rfl
 z171 := fun _ => by kernel_rfl
 v171 := fun _ => by kernel_rfl
 t173 := by kernel_rfl
 a173 := fun _ => by kernel_rfl
 z173 := fun _ => by kernel_rfl
 v173 := fun _ => by kernel_rfl
 t212 := by kernel_rfl
 a212 := fun _ => by kernel_rfl
 z212 := fun _ => by kernel_rfl
 v212 := fun _ => by kernel_rfl
 t213 := by kernel_rfl
 a213 := fun _ => by kernel_rfl
 z213 := fun _ => by kernel_rfl
 t232 := by kernel_rfl
 a232 := fun _ => by kernel_rfl
 z232 := fun _ => by kernel_rfl
 v232 := fun _ => by kernel_rfl
 t233 := by kernel_rfl
 a233 := fun _ => by kernel_rfl
 z233 := fun _ => by kernel_rfl
 v233 := fun _ => by kernel_rfl
 g17 := by kernel_rfl
 g18 := by kernel_rfl
 g19 := by kernel_rfl }
def strconv_Itoa.f (a0 : Int) : Option ByteArray := if 0 ≤ a0 ∧ a0 < 100 then some ⟨(Lib.decDigits a0.toNat).toArray⟩ else none
theorem strconv_Itoa.calls (a0 : Int) (r : ByteArray) (w : World) (h : strconv_Itoa.f a0 = some r) :
  Calls Tryd.prog 33 #[.int .i64 a0] w fun e w' => e = .returned (.string r) ∧ Drawn0 w w' := by
 unfold strconv_Itoa.f at h
 by_cases hc : 0 ≤ a0 ∧ a0 < 100
 ·rw [if_pos hc] at h
  obtain rfl := Option.some.inj h
  obtain ⟨i, rfl⟩ : ∃ i : Nat, a0 = (i : Int) := ⟨a0.toNat, by omega⟩
  refine (Any.strconv_Itoa_small (ρ := strconv_Itoa.ren) strconv_Itoa.lays i (by omega) w).mono ?_
  rintro e w' ⟨rfl, rfl⟩
  exact ⟨rfl, Drawn0.refl _⟩
 ·rw [if_neg hc] at h; cases h

/-! ### impl_DeedText: function 12 -/
def impl_DeedText.j0 : Nat → Bool → Int → Int → Int → Option (ByteArray)
 | 0, _, _, _, _ => none
 | k + 1, x25, x103000, x103001, x103002 => if x25 = true then (some (⟨#[]⟩ : ByteArray)) else (if x103000 = 0 then ((strconv_Itoa.f x103001).bind fun t104 => (if 5 + t104.size ≤ 9223372036854775807 then (if ((⟨#[104, 101, 97, 100, 32]⟩ : ByteArray) ++ t104).size + 1 ≤ 9223372036854775807 then ((strconv_Itoa.f x103002).bind fun t105 => (if (((⟨#[104, 101, 97, 100, 32]⟩ : ByteArray) ++ t104) ++ (⟨#[32]⟩ : ByteArray)).size + t105.size ≤ 9223372036854775807 then (some ((((⟨#[104, 101, 97, 100, 32]⟩ : ByteArray) ++ t104) ++ (⟨#[32]⟩ : ByteArray)) ++ t105)) else (none))) else (none)) else (none))) else (if x103000 = 1 then ((strconv_Itoa.f x103001).bind fun t106 => (if 4 + t106.size ≤ 9223372036854775807 then (some ((⟨#[97, 100, 100, 32]⟩ : ByteArray) ++ t106)) else (none))) else (wordOf x103000)))
def impl_DeedText.f (k : Nat) (a0_0 : Int) (a0_1 : Int) (a0_2 : Int) : Option (ByteArray) := (impl_Deed_named.f a0_0 a0_1 a0_2).bind fun t103 => (if t103 = true then (if a0_1 < 0 then (impl_DeedText.j0 k true a0_0 a0_1 a0_2) else (if a0_1 > 99 then (impl_DeedText.j0 k true a0_0 a0_1 a0_2) else (if a0_2 < 0 then (impl_DeedText.j0 k true a0_0 a0_1 a0_2) else (impl_DeedText.j0 k (decide (a0_2 > 99)) a0_0 a0_1 a0_2)))) else (impl_DeedText.j0 k true a0_0 a0_1 a0_2))
theorem impl_DeedText.mono_l : ∀ k, (∀ y0 y1 y2 y3, LeO (impl_DeedText.j0 k y0 y1 y2 y3) (impl_DeedText.j0 (k + 1) y0 y1 y2 y3))
 | 0 => fun _ _ _ _ r h => by simp [impl_DeedText.j0] at h
 | k + 1 => by
  have ih0 := impl_DeedText.mono_l k
  ·intro y0 y1 y2 y3
   unfold impl_DeedText.j0
   exact zmono
theorem impl_DeedText.mono : ∀ a0 a1 a2 k, LeO (impl_DeedText.f k a0 a1 a2) (impl_DeedText.f (k + 1) a0 a1 a2) := by
 intro a0 a1 a2 k
 have ih0 := impl_DeedText.mono_l k
 unfold impl_DeedText.f
 exact zmono
set_option maxHeartbeats 8000000 in
set_option maxRecDepth 100000 in
theorem impl_DeedText.calls (k : Nat) (a0_0 : Int) (a0_1 : Int) (a0_2 : Int) (r : ByteArray) (w : World) (hT : TabR w) (h : impl_DeedText.f k a0_0 a0_1 a0_2 = some r) :
  Calls Tryd.prog 12 #[.agg #[.int .i64 a0_0, .int .i64 a0_1, .int .i64 a0_2]] w fun e w' => e = .returned (.string r) ∧ Below w.heap.size w w' := by
 have hu25 := Tryd.underlying25
 have HB:=zM (Below.refl w.heap.size w)
 have HT:=zM hT
 clear hT
 have H : ((impl_Deed_named.f a0_0 a0_1 a0_2).bind fun t103 => (if t103 = true then (if a0_1 < 0 then (impl_DeedText.j0 k true a0_0 a0_1 a0_2) else (if a0_1 > 99 then (impl_DeedText.j0 k true a0_0 a0_1 a0_2) else (if a0_2 < 0 then (impl_DeedText.j0 k true a0_0 a0_1 a0_2) else (impl_DeedText.j0 k (decide (a0_2 > 99)) a0_0 a0_1 a0_2)))) else (impl_DeedText.j0 k true a0_0 a0_1 a0_2))) = some r := h
 clear h
 have HC2:=zM H
 clear H
 go_enter Tryd.func12, Tryd.ntmps12
 go_upto_region 1 with (first | ((with_reducible refine gate_dst (N := 1) rfl ?_); refine box_event zs0 (N := 1) zs0 (cs := #[.int .i64 a0_0, .int .i64 a0_1, .int .i64 a0_2]) (t := 25) zs1 ?_; intro gb102 hg w3 hbox hb; have BK102:=zM (hbox); have GW102:=zM ((by rw [hg]; exact (below_size (zs2 HB.out)) : w.heap.size ≤ gb102)); have GE102:=zM ((by rw [hg]; exact (below_size (zs2 HB.out)) : w.heap.size ≤ gb102)); replace HB:=zM (below_step (zs2 HB.out) hb); clear hb hbox hg))
 repeat (go_quiet (first | ((with_reducible refine gate_dst (N := 1) rfl ?_); refine box_event zs0 (N := 1) zs0 (cs := #[.int .i64 a0_0, .int .i64 a0_1, .int .i64 a0_2]) (t := 25) zs1 ?_; intro gb102 hg w3 hbox hb; have BK102:=zM (hbox); have GW102:=zM ((by rw [hg]; exact (below_size (zs2 HB.out)) : w.heap.size ≤ gb102)); have GE102:=zM ((by rw [hg]; exact (below_size (zs2 HB.out)) : w.heap.size ≤ gb102)); replace HB:=zM (below_step (zs2 HB.out) hb); clear hb hbox hg)); go_upto_region 1 with (first | ((with_reducible refine gate_dst (N := 1) rfl ?_); refine box_event zs0 (N := 1) zs0 (cs := #[.int .i64 a0_0, .int .i64 a0_1, .int .i64 a0_2]) (t := 25) zs1 ?_; intro gb102 hg w3 hbox hb; have BK102:=zM (hbox); have GW102:=zM ((by rw [hg]; exact (below_size (zs2 HB.out)) : w.heap.size ≤ gb102)); have GE102:=zM ((by rw [hg]; exact (below_size (zs2 HB.out)) : w.heap.size ≤ gb102)); replace HB:=zM (below_step (zs2 HB.out) hb); clear hb hbox hg)))
 (try simp only [Act.put, zE, zF, zG])
 go_cut [25] (fun v25 wc => ∃ (kq : Nat) (x25_1 : Bool), v25 = .bool x25_1 ∧ Aside0 (impl_DeedText.j0 kq x25_1 a0_0 a0_1 a0_2 = some r) ∧ Aside0 (kq ≤ k) ∧ Aside0 (wc.heap[gb102]? = some (.cells #[.int .i64 a0_0, .int .i64 a0_1, .int .i64 a0_2] 25 (0, 0))) ∧ Aside0 (Below w.heap.size w wc))
 case first =>
  have H := HC2.out
  clear HC2
  replace H := zb H; obtain ⟨t103, A4, H⟩ := H; try dsimp only at H
  by_cases c5 : t103 = true
  ·subst c5
   have H1 : (if a0_1 < 0 then (impl_DeedText.j0 k true a0_0 a0_1 a0_2) else (if a0_1 > 99 then (impl_DeedText.j0 k true a0_0 a0_1 a0_2) else (if a0_2 < 0 then (impl_DeedText.j0 k true a0_0 a0_1 a0_2) else (impl_DeedText.j0 k (decide (a0_2 > 99)) a0_0 a0_1 a0_2)))) = some r := by rw [if_pos rfl] at H; exact H
   clear H
   have H := H1
   clear H1
   by_cases c6 : a0_1 < 0
   ·rw [if_pos c6] at H
    have c6b0 := decide_eq_true c6
    clear c6
    (first | rw [c6b0] | (simp only [i64_w, i32_w]; rw [c6b0]) | skip)
    have H':=zM H
    clear H
    have hcz7_0 := cz0 BK102.out
    have hcz7_1 := cz1 BK102.out
    have hcz7_2 := cz2 BK102.out
    have hfz7_0 := blk_frozen BK102.out 0
    have hfz7_1 := blk_frozen BK102.out 1
    have hfz7_2 := blk_frozen BK102.out 2
    go_wp2_with (first | (go_at_call 32; (with_reducible refine (impl_Deed_named.calls a0_0 a0_1 a0_2 true _ A4.out).mono ?_); rintro e w8 ⟨rfl, hb⟩; replace BK102:=zM (blk_below (g := gb102) (o := .cells #[.int .i64 a0_0, .int .i64 a0_1, .int .i64 a0_2] 25 (0, 0)) (zs5 BK102.out) hb); replace HB:=zM (below_step (zs4 HB.out GE102.out) hb); clear hb; have hcz9_0 := cz0 BK102.out; have hcz9_1 := cz1 BK102.out; have hcz9_2 := cz2 BK102.out; have hfz9_0 := blk_frozen BK102.out 0; have hfz9_1 := blk_frozen BK102.out 1; have hfz9_2 := blk_frozen BK102.out 2))
    repeat (go_quiet (first | (go_at_call 32; (with_reducible refine (impl_Deed_named.calls a0_0 a0_1 a0_2 true _ A4.out).mono ?_); rintro e w8 ⟨rfl, hb⟩; replace BK102:=zM (blk_below (g := gb102) (o := .cells #[.int .i64 a0_0, .int .i64 a0_1, .int .i64 a0_2] 25 (0, 0)) (zs5 BK102.out) hb); replace HB:=zM (below_step (zs4 HB.out GE102.out) hb); clear hb; have hcz9_0 := cz0 BK102.out; have hcz9_1 := cz1 BK102.out; have hcz9_2 := cz2 BK102.out; have hfz9_0 := blk_frozen BK102.out 0; have hfz9_1 := blk_frozen BK102.out 1; have hfz9_2 := blk_frozen BK102.out 2)); try go_wp2_with (first | (go_at_call 32; (with_reducible refine (impl_Deed_named.calls a0_0 a0_1 a0_2 true _ A4.out).mono ?_); rintro e w8 ⟨rfl, hb⟩; replace BK102:=zM (blk_below (g := gb102) (o := .cells #[.int .i64 a0_0, .int .i64 a0_1, .int .i64 a0_2] 25 (0, 0)) (zs5 BK102.out) hb); replace HB:=zM (below_step (zs4 HB.out GE102.out) hb); clear hb; have hcz9_0 := cz0 BK102.out; have hcz9_1 := cz1 BK102.out; have hcz9_2 := cz2 BK102.out; have hfz9_0 := blk_frozen BK102.out 0; have hfz9_1 := blk_frozen BK102.out 1; have hfz9_2 := blk_frozen BK102.out 2)))
    go_meet
    case rel => exact ⟨_, (true), zs6, H', ⟨zs7⟩, ⟨by (with_reducible repeat (first | refine blk_drewN ?_ _ | refine blk_drew ?_ | refine blk_alloc ?_ _)); exact BK102.out⟩, ⟨(zs4 HB.out GE102.out)⟩⟩
   ·rw [if_neg c6] at H
    have c6b0 := decide_eq_false c6
    clear c6
    (first | rw [c6b0] | (simp only [i64_w, i32_w]; rw [c6b0]) | skip)
    by_cases c10 : a0_1 > 99
    ·rw [if_pos c10] at H
     have c10b0 : decide (99 < a0_1) = true := decide_eq_true c10
     clear c10
     have H':=zM H
     clear H
     have hcz11_0 := cz0 BK102.out
     have hcz11_1 := cz1 BK102.out
     have hcz11_2 := cz2 BK102.out
     have hfz11_0 := blk_frozen BK102.out 0
     have hfz11_1 := blk_frozen BK102.out 1
     have hfz11_2 := blk_frozen BK102.out 2
     go_wp2_with (first | (go_at_call 32; (with_reducible refine (impl_Deed_named.calls a0_0 a0_1 a0_2 true _ A4.out).mono ?_); rintro e w12 ⟨rfl, hb⟩; replace BK102:=zM (blk_below (g := gb102) (o := .cells #[.int .i64 a0_0, .int .i64 a0_1, .int .i64 a0_2] 25 (0, 0)) (zs5 BK102.out) hb); replace HB:=zM (below_step (zs4 HB.out GE102.out) hb); clear hb; have hcz13_0 := cz0 BK102.out; have hcz13_1 := cz1 BK102.out; have hcz13_2 := cz2 BK102.out; have hfz13_0 := blk_frozen BK102.out 0; have hfz13_1 := blk_frozen BK102.out 1; have hfz13_2 := blk_frozen BK102.out 2))
     repeat (go_quiet (first | (go_at_call 32; (with_reducible refine (impl_Deed_named.calls a0_0 a0_1 a0_2 true _ A4.out).mono ?_); rintro e w12 ⟨rfl, hb⟩; replace BK102:=zM (blk_below (g := gb102) (o := .cells #[.int .i64 a0_0, .int .i64 a0_1, .int .i64 a0_2] 25 (0, 0)) (zs5 BK102.out) hb); replace HB:=zM (below_step (zs4 HB.out GE102.out) hb); clear hb; have hcz13_0 := cz0 BK102.out; have hcz13_1 := cz1 BK102.out; have hcz13_2 := cz2 BK102.out; have hfz13_0 := blk_frozen BK102.out 0; have hfz13_1 := blk_frozen BK102.out 1; have hfz13_2 := blk_frozen BK102.out 2)); try go_wp2_with (first | (go_at_call 32; (with_reducible refine (impl_Deed_named.calls a0_0 a0_1 a0_2 true _ A4.out).mono ?_); rintro e w12 ⟨rfl, hb⟩; replace BK102:=zM (blk_below (g := gb102) (o := .cells #[.int .i64 a0_0, .int .i64 a0_1, .int .i64 a0_2] 25 (0, 0)) (zs5 BK102.out) hb); replace HB:=zM (below_step (zs4 HB.out GE102.out) hb); clear hb; have hcz13_0 := cz0 BK102.out; have hcz13_1 := cz1 BK102.out; have hcz13_2 := cz2 BK102.out; have hfz13_0 := blk_frozen BK102.out 0; have hfz13_1 := blk_frozen BK102.out 1; have hfz13_2 := blk_frozen BK102.out 2)))
     go_meet
     case rel => exact ⟨_, (true), zs6, H', ⟨zs7⟩, ⟨by (with_reducible repeat (first | refine blk_drewN ?_ _ | refine blk_drew ?_ | refine blk_alloc ?_ _)); exact BK102.out⟩, ⟨(zs4 HB.out GE102.out)⟩⟩
    ·rw [if_neg c10] at H
     have c10b0 : decide (99 < a0_1) = false := decide_eq_false c10
     clear c10
     by_cases c14 : a0_2 < 0
     ·rw [if_pos c14] at H
      have c14b0 := decide_eq_true c14
      clear c14
      have H':=zM H
      clear H
      have hcz15_0 := cz0 BK102.out
      have hcz15_1 := cz1 BK102.out
      have hcz15_2 := cz2 BK102.out
      have hfz15_0 := blk_frozen BK102.out 0
      have hfz15_1 := blk_frozen BK102.out 1
      have hfz15_2 := blk_frozen BK102.out 2
      go_wp2_with (first | (go_at_call 32; (with_reducible refine (impl_Deed_named.calls a0_0 a0_1 a0_2 true _ A4.out).mono ?_); rintro e w16 ⟨rfl, hb⟩; replace BK102:=zM (blk_below (g := gb102) (o := .cells #[.int .i64 a0_0, .int .i64 a0_1, .int .i64 a0_2] 25 (0, 0)) (zs5 BK102.out) hb); replace HB:=zM (below_step (zs4 HB.out GE102.out) hb); clear hb; have hcz17_0 := cz0 BK102.out; have hcz17_1 := cz1 BK102.out; have hcz17_2 := cz2 BK102.out; have hfz17_0 := blk_frozen BK102.out 0; have hfz17_1 := blk_frozen BK102.out 1; have hfz17_2 := blk_frozen BK102.out 2))
      repeat (go_quiet (first | (go_at_call 32; (with_reducible refine (impl_Deed_named.calls a0_0 a0_1 a0_2 true _ A4.out).mono ?_); rintro e w16 ⟨rfl, hb⟩; replace BK102:=zM (blk_below (g := gb102) (o := .cells #[.int .i64 a0_0, .int .i64 a0_1, .int .i64 a0_2] 25 (0, 0)) (zs5 BK102.out) hb); replace HB:=zM (below_step (zs4 HB.out GE102.out) hb); clear hb; have hcz17_0 := cz0 BK102.out; have hcz17_1 := cz1 BK102.out; have hcz17_2 := cz2 BK102.out; have hfz17_0 := blk_frozen BK102.out 0; have hfz17_1 := blk_frozen BK102.out 1; have hfz17_2 := blk_frozen BK102.out 2)); try go_wp2_with (first | (go_at_call 32; (with_reducible refine (impl_Deed_named.calls a0_0 a0_1 a0_2 true _ A4.out).mono ?_); rintro e w16 ⟨rfl, hb⟩; replace BK102:=zM (blk_below (g := gb102) (o := .cells #[.int .i64 a0_0, .int .i64 a0_1, .int .i64 a0_2] 25 (0, 0)) (zs5 BK102.out) hb); replace HB:=zM (below_step (zs4 HB.out GE102.out) hb); clear hb; have hcz17_0 := cz0 BK102.out; have hcz17_1 := cz1 BK102.out; have hcz17_2 := cz2 BK102.out; have hfz17_0 := blk_frozen BK102.out 0; have hfz17_1 := blk_frozen BK102.out 1; have hfz17_2 := blk_frozen BK102.out 2)))
      go_meet
      case rel => exact ⟨_, (true), zs6, H', ⟨zs7⟩, ⟨by (with_reducible repeat (first | refine blk_drewN ?_ _ | refine blk_drew ?_ | refine blk_alloc ?_ _)); exact BK102.out⟩, ⟨(zs4 HB.out GE102.out)⟩⟩
     ·rw [if_neg c14] at H
      have c14b0 := decide_eq_false c14
      clear c14
      have H':=zM H
      clear H
      have hcz18_0 := cz0 BK102.out
      have hcz18_1 := cz1 BK102.out
      have hcz18_2 := cz2 BK102.out
      have hfz18_0 := blk_frozen BK102.out 0
      have hfz18_1 := blk_frozen BK102.out 1
      have hfz18_2 := blk_frozen BK102.out 2
      go_wp2_with (first | (go_at_call 32; (with_reducible refine (impl_Deed_named.calls a0_0 a0_1 a0_2 true _ A4.out).mono ?_); rintro e w19 ⟨rfl, hb⟩; replace BK102:=zM (blk_below (g := gb102) (o := .cells #[.int .i64 a0_0, .int .i64 a0_1, .int .i64 a0_2] 25 (0, 0)) (zs5 BK102.out) hb); replace HB:=zM (below_step (zs4 HB.out GE102.out) hb); clear hb; have hcz20_0 := cz0 BK102.out; have hcz20_1 := cz1 BK102.out; have hcz20_2 := cz2 BK102.out; have hfz20_0 := blk_frozen BK102.out 0; have hfz20_1 := blk_frozen BK102.out 1; have hfz20_2 := blk_frozen BK102.out 2))
      repeat (go_quiet (first | (go_at_call 32; (with_reducible refine (impl_Deed_named.calls a0_0 a0_1 a0_2 true _ A4.out).mono ?_); rintro e w19 ⟨rfl, hb⟩; replace BK102:=zM (blk_below (g := gb102) (o := .cells #[.int .i64 a0_0, .int .i64 a0_1, .int .i64 a0_2] 25 (0, 0)) (zs5 BK102.out) hb); replace HB:=zM (below_step (zs4 HB.out GE102.out) hb); clear hb; have hcz20_0 := cz0 BK102.out; have hcz20_1 := cz1 BK102.out; have hcz20_2 := cz2 BK102.out; have hfz20_0 := blk_frozen BK102.out 0; have hfz20_1 := blk_frozen BK102.out 1; have hfz20_2 := blk_frozen BK102.out 2)); try go_wp2_with (first | (go_at_call 32; (with_reducible refine (impl_Deed_named.calls a0_0 a0_1 a0_2 true _ A4.out).mono ?_); rintro e w19 ⟨rfl, hb⟩; replace BK102:=zM (blk_below (g := gb102) (o := .cells #[.int .i64 a0_0, .int .i64 a0_1, .int .i64 a0_2] 25 (0, 0)) (zs5 BK102.out) hb); replace HB:=zM (below_step (zs4 HB.out GE102.out) hb); clear hb; have hcz20_0 := cz0 BK102.out; have hcz20_1 := cz1 BK102.out; have hcz20_2 := cz2 BK102.out; have hfz20_0 := blk_frozen BK102.out 0; have hfz20_1 := blk_frozen BK102.out 1; have hfz20_2 := blk_frozen BK102.out 2)))
      go_meet
      case rel => exact ⟨_, (decide (a0_2 > 99)), zs6, H', ⟨zs7⟩, ⟨by (with_reducible repeat (first | refine blk_drewN ?_ _ | refine blk_drew ?_ | refine blk_alloc ?_ _)); exact BK102.out⟩, ⟨(zs4 HB.out GE102.out)⟩⟩
  ·replace c5 := Bool.eq_false_iff.mpr c5
   subst c5
   have H1 : (impl_DeedText.j0 k true a0_0 a0_1 a0_2) = some r := by rw [if_neg (show ¬ (false = true) by decide)] at H; exact H
   clear H
   have H := H1
   clear H1
   have H':=zM H
   clear H
   have hcz21_0 := cz0 BK102.out
   have hcz21_1 := cz1 BK102.out
   have hcz21_2 := cz2 BK102.out
   have hfz21_0 := blk_frozen BK102.out 0
   have hfz21_1 := blk_frozen BK102.out 1
   have hfz21_2 := blk_frozen BK102.out 2
   go_wp2_with (first | (go_at_call 32; (with_reducible refine (impl_Deed_named.calls a0_0 a0_1 a0_2 false _ A4.out).mono ?_); rintro e w22 ⟨rfl, hb⟩; replace BK102:=zM (blk_below (g := gb102) (o := .cells #[.int .i64 a0_0, .int .i64 a0_1, .int .i64 a0_2] 25 (0, 0)) (zs5 BK102.out) hb); replace HB:=zM (below_step (zs4 HB.out GE102.out) hb); clear hb))
   repeat (go_quiet (first | (go_at_call 32; (with_reducible refine (impl_Deed_named.calls a0_0 a0_1 a0_2 false _ A4.out).mono ?_); rintro e w22 ⟨rfl, hb⟩; replace BK102:=zM (blk_below (g := gb102) (o := .cells #[.int .i64 a0_0, .int .i64 a0_1, .int .i64 a0_2] 25 (0, 0)) (zs5 BK102.out) hb); replace HB:=zM (below_step (zs4 HB.out GE102.out) hb); clear hb)); try go_wp2_with (first | (go_at_call 32; (with_reducible refine (impl_Deed_named.calls a0_0 a0_1 a0_2 false _ A4.out).mono ?_); rintro e w22 ⟨rfl, hb⟩; replace BK102:=zM (blk_below (g := gb102) (o := .cells #[.int .i64 a0_0, .int .i64 a0_1, .int .i64 a0_2] 25 (0, 0)) (zs5 BK102.out) hb); replace HB:=zM (below_step (zs4 HB.out GE102.out) hb); clear hb)))
   go_meet
   case rel => exact ⟨_, (true), zs6, H', ⟨zs7⟩, ⟨by (with_reducible repeat (first | refine blk_drewN ?_ _ | refine blk_drew ?_ | refine blk_alloc ?_ _)); exact BK102.out⟩, ⟨(zs4 HB.out GE102.out)⟩⟩
 case rest =>
  clear HC2
  try clear c1
  try clear p2
  try clear c5
  try clear c6
  try clear c6b0
  try clear c10
  try clear c10b0
  try clear c12
  try clear c14
  try clear c14b0
  try clear hcz11_0
  try clear hcz11_1
  try clear hcz11_2
  try clear hcz13_0
  try clear hcz13_1
  try clear hcz13_2
  try clear hcz15_0
  try clear hcz15_1
  try clear hcz15_2
  try clear hcz17_0
  try clear hcz17_1
  try clear hcz17_2
  try clear hcz18_0
  try clear hcz18_1
  try clear hcz18_2
  try clear hcz20_0
  try clear hcz20_1
  try clear hcz20_2
  try clear hcz21_0
  try clear hcz21_1
  try clear hcz21_2
  try clear hcz7_0
  try clear hcz7_1
  try clear hcz7_2
  try clear hcz9_0
  try clear hcz9_1
  try clear hcz9_2
  try clear hfz11_0
  try clear hfz11_1
  try clear hfz11_2
  try clear hfz13_0
  try clear hfz13_1
  try clear hfz13_2
  try clear hfz15_0
  try clear hfz15_1
  try clear hfz15_2
  try clear hfz17_0
  try clear hfz17_1
  try clear hfz17_2
  try clear hfz18_0
  try clear hfz18_1
  try clear hfz18_2
  try clear hfz20_0
  try clear hfz20_1
  try clear hfz20_2
  try clear hfz21_0
  try clear hfz21_1
  try clear hfz21_2
  try clear hfz7_0
  try clear hfz7_1
  try clear hfz7_2
  try clear hfz9_0
  try clear hfz9_1
  try clear hfz9_2
  obtain ⟨kq, x25_1, rfl, HA, HJ1, BK102, HB⟩ := hcut
  cases kq with
  | zero => exact absurd HA.out (by simp [impl_DeedText.j0])
  | succ kj1 =>
   have H := HA.out
   clear HA
   simp only [impl_DeedText.j0] at H
   by_cases c23 : x25_1 = true
   ·subst c23
    have H1 : (some (⟨#[]⟩ : ByteArray)) = some r := by rw [if_pos rfl] at H; exact H
    clear H
    have H := H1
    clear H1
    obtain rfl := Option.some.inj H
    go_wp2
    repeat (go_quiet (fail); try go_wp2)
    go_ret
    exact ⟨zs3, (zs4 HB.out GE102.out)⟩
   ·replace c23 := Bool.eq_false_iff.mpr c23
    subst c23
    have H1 : (if a0_0 = 0 then ((strconv_Itoa.f a0_1).bind fun t104 => (if 5 + t104.size ≤ 9223372036854775807 then (if ((⟨#[104, 101, 97, 100, 32]⟩ : ByteArray) ++ t104).size + 1 ≤ 9223372036854775807 then ((strconv_Itoa.f a0_2).bind fun t105 => (if (((⟨#[104, 101, 97, 100, 32]⟩ : ByteArray) ++ t104) ++ (⟨#[32]⟩ : ByteArray)).size + t105.size ≤ 9223372036854775807 then (some ((((⟨#[104, 101, 97, 100, 32]⟩ : ByteArray) ++ t104) ++ (⟨#[32]⟩ : ByteArray)) ++ t105)) else (none))) else (none)) else (none))) else (if a0_0 = 1 then ((strconv_Itoa.f a0_1).bind fun t106 => (if 4 + t106.size ≤ 9223372036854775807 then (some ((⟨#[97, 100, 100, 32]⟩ : ByteArray) ++ t106)) else (none))) else (wordOf a0_0))) = some r := by rw [if_neg (show ¬ (false = true) by decide)] at H; exact H
    clear H
    have H := H1
    clear H1
    by_cases c24 : a0_0 = 0
    ·rw [if_pos c24] at H
     have c24b0 := beq_iff_eq.mpr c24
     have c24b1 := bne_eq_false_iff_eq.mpr c24
     clear c24
     replace H := zb H; obtain ⟨t104, A25, H⟩ := H; try dsimp only at H
     by_cases c26 : 5 + t104.size ≤ 9223372036854775807
     ·rw [if_pos c26] at H
      have c26b0 := eq_true c26
      have c26b1 := decide_eq_true c26
      try have c26b2 : (9223372036854775807 < 5 + t104.size) = False := eq_false (Nat.not_lt.2 c26)
      by_cases c27 : ((⟨#[104, 101, 97, 100, 32]⟩ : ByteArray) ++ t104).size + 1 ≤ 9223372036854775807
      ·rw [if_pos c27] at H
       have c27b0 := eq_true c27
       have c27b1 := decide_eq_true c27
       try have c27b2 : (9223372036854775807 < ((⟨#[104, 101, 97, 100, 32]⟩ : ByteArray) ++ t104).size + 1) = False := eq_false (Nat.not_lt.2 c27)
       have c27z := c27
       (try simp only [ByteArray.size_append, show ((⟨#[104, 101, 97, 100, 32]⟩ : ByteArray)).size = 5 from rfl] at c27z)
       have c27y := eq_false (Nat.not_lt.2 c27z)
       replace H := zb H; obtain ⟨t105, A28, H⟩ := H; try dsimp only at H
       by_cases c29 : (((⟨#[104, 101, 97, 100, 32]⟩ : ByteArray) ++ t104) ++ (⟨#[32]⟩ : ByteArray)).size + t105.size ≤ 9223372036854775807
       ·rw [if_pos c29] at H
        have c29b0 := eq_true c29
        have c29b1 := decide_eq_true c29
        try have c29b2 : (9223372036854775807 < (((⟨#[104, 101, 97, 100, 32]⟩ : ByteArray) ++ t104) ++ (⟨#[32]⟩ : ByteArray)).size + t105.size) = False := eq_false (Nat.not_lt.2 c29)
        have c29z := c29
        (try simp only [ByteArray.size_append, show ((⟨#[104, 101, 97, 100, 32]⟩ : ByteArray)).size = 5 from rfl, show ((⟨#[32]⟩ : ByteArray)).size = 1 from rfl] at c29z)
        have c29y := eq_false (Nat.not_lt.2 c29z)
        obtain rfl := Option.some.inj H
        have hcz30_0 := cz0 BK102.out
        have hcz30_1 := cz1 BK102.out
        have hcz30_2 := cz2 BK102.out
        have hfz30_0 := blk_frozen BK102.out 0
        have hfz30_1 := blk_frozen BK102.out 1
        have hfz30_2 := blk_frozen BK102.out 2
        go_wp2_with (first | (go_at_call 33; (with_reducible refine (strconv_Itoa.calls a0_1 t104 _ A25.out).mono ?_); rintro e w' ⟨rfl, ⟨nd, rfl⟩⟩; (try first | exact ⟨rfl, _, World.drewN_drewN _ _ _⟩ | exact ⟨rfl, _, Eq.trans (World.drewN_drewN _ _ _) (congrArg (World.drewN _) (Nat.add_assoc _ _ _))⟩)) | (go_at_call 33; (with_reducible refine (strconv_Itoa.calls a0_2 t105 _ A28.out).mono ?_); rintro e w' ⟨rfl, ⟨nd, rfl⟩⟩; (try first | exact ⟨rfl, _, World.drewN_drewN _ _ _⟩ | exact ⟨rfl, _, Eq.trans (World.drewN_drewN _ _ _) (congrArg (World.drewN _) (Nat.add_assoc _ _ _))⟩)))
        repeat (go_quiet (first | (go_at_call 33; (with_reducible refine (strconv_Itoa.calls a0_1 t104 _ A25.out).mono ?_); rintro e w' ⟨rfl, ⟨nd, rfl⟩⟩; (try first | exact ⟨rfl, _, World.drewN_drewN _ _ _⟩ | exact ⟨rfl, _, Eq.trans (World.drewN_drewN _ _ _) (congrArg (World.drewN _) (Nat.add_assoc _ _ _))⟩)) | (go_at_call 33; (with_reducible refine (strconv_Itoa.calls a0_2 t105 _ A28.out).mono ?_); rintro e w' ⟨rfl, ⟨nd, rfl⟩⟩; (try first | exact ⟨rfl, _, World.drewN_drewN _ _ _⟩ | exact ⟨rfl, _, Eq.trans (World.drewN_drewN _ _ _) (congrArg (World.drewN _) (Nat.add_assoc _ _ _))⟩))); try go_wp2_with (first | (go_at_call 33; (with_reducible refine (strconv_Itoa.calls a0_1 t104 _ A25.out).mono ?_); rintro e w' ⟨rfl, ⟨nd, rfl⟩⟩; (try first | exact ⟨rfl, _, World.drewN_drewN _ _ _⟩ | exact ⟨rfl, _, Eq.trans (World.drewN_drewN _ _ _) (congrArg (World.drewN _) (Nat.add_assoc _ _ _))⟩)) | (go_at_call 33; (with_reducible refine (strconv_Itoa.calls a0_2 t105 _ A28.out).mono ?_); rintro e w' ⟨rfl, ⟨nd, rfl⟩⟩; (try first | exact ⟨rfl, _, World.drewN_drewN _ _ _⟩ | exact ⟨rfl, _, Eq.trans (World.drewN_drewN _ _ _) (congrArg (World.drewN _) (Nat.add_assoc _ _ _))⟩))))
        go_ret
        exact ⟨zs3, (zs4 HB.out GE102.out)⟩
       ·rw [if_neg c29] at H
        exact absurd H (by simp)
      ·rw [if_neg c27] at H
       exact absurd H (by simp)
     ·rw [if_neg c26] at H
      exact absurd H (by simp)
    ·rw [if_neg c24] at H
     have c24b0 := beq_eq_false_iff_ne.mpr c24
     have c24b1 := bne_iff_ne.mpr c24
     by_cases c31 : a0_0 = 1
     ·rw [if_pos c31] at H
      have c31b0 := beq_iff_eq.mpr c31
      have c31b1 := bne_eq_false_iff_eq.mpr c31
      clear c31
      replace H := zb H; obtain ⟨t106, A32, H⟩ := H; try dsimp only at H
      by_cases c33 : 4 + t106.size ≤ 9223372036854775807
      ·rw [if_pos c33] at H
       have c33b0 := eq_true c33
       have c33b1 := decide_eq_true c33
       try have c33b2 : (9223372036854775807 < 4 + t106.size) = False := eq_false (Nat.not_lt.2 c33)
       obtain rfl := Option.some.inj H
       have hcz34_0 := cz0 BK102.out
       have hcz34_1 := cz1 BK102.out
       have hcz34_2 := cz2 BK102.out
       have hfz34_0 := blk_frozen BK102.out 0
       have hfz34_1 := blk_frozen BK102.out 1
       have hfz34_2 := blk_frozen BK102.out 2
       go_wp2_with (first | (go_at_call 33; (with_reducible refine (strconv_Itoa.calls a0_1 t106 _ A32.out).mono ?_); rintro e w' ⟨rfl, ⟨nd, rfl⟩⟩; (try first | exact ⟨rfl, _, World.drewN_drewN _ _ _⟩ | exact ⟨rfl, _, Eq.trans (World.drewN_drewN _ _ _) (congrArg (World.drewN _) (Nat.add_assoc _ _ _))⟩)))
       repeat (go_quiet (first | (go_at_call 33; (with_reducible refine (strconv_Itoa.calls a0_1 t106 _ A32.out).mono ?_); rintro e w' ⟨rfl, ⟨nd, rfl⟩⟩; (try first | exact ⟨rfl, _, World.drewN_drewN _ _ _⟩ | exact ⟨rfl, _, Eq.trans (World.drewN_drewN _ _ _) (congrArg (World.drewN _) (Nat.add_assoc _ _ _))⟩))); try go_wp2_with (first | (go_at_call 33; (with_reducible refine (strconv_Itoa.calls a0_1 t106 _ A32.out).mono ?_); rintro e w' ⟨rfl, ⟨nd, rfl⟩⟩; (try first | exact ⟨rfl, _, World.drewN_drewN _ _ _⟩ | exact ⟨rfl, _, Eq.trans (World.drewN_drewN _ _ _) (congrArg (World.drewN _) (Nat.add_assoc _ _ _))⟩))))
       go_ret
       exact ⟨zs3, (zs4 HB.out GE102.out)⟩
      ·rw [if_neg c33] at H
       exact absurd H (by simp)
     ·rw [if_neg c31] at H
      have c31b0 := beq_eq_false_iff_ne.mpr c31
      have c31b1 := bne_iff_ne.mpr c31
      have HW := wordOf_cases H
      clear H
      have hcz35_0 := cz0 BK102.out
      have hcz35_1 := cz1 BK102.out
      have hcz35_2 := cz2 BK102.out
      have hfz35_0 := blk_frozen BK102.out 0
      have hfz35_1 := blk_frozen BK102.out 1
      have hfz35_2 := blk_frozen BK102.out 2
      obtain ⟨tb_, to_, tc_, hcap_, hg_, h0_, h1_, h2_, h3_, h4_, h5_⟩ := (TabR.below HT.out HB.out).1
      rcases HW with ⟨rfl, rfl⟩ | ⟨rfl, rfl⟩ | ⟨rfl, rfl⟩ | ⟨rfl, rfl⟩ <;> (
       go_wp2
       repeat (go_quiet (fail); try go_wp2)
       go_ret
       exact ⟨zs3, (zs4 HB.out GE102.out)⟩)

/-! ### impl_steps: function 55 -/
def impl_steps.l0 : Nat → List Int → Int → Int → Int → Option (Int)
 | 0, _, _, _, _ => none
 | k + 1, x0, x1, x7, x8 => if x8 < x7 then (if 0 ≤ (wrap64 (x1 - 1)) then (if (wrap64 (x1 - 1)) < (x0.length : Int) then (if (rd x0 (wrap64 (x1 - 1))) = 0 then (some x8) else (impl_steps.l0 k x0 (rd x0 (wrap64 (x1 - 1))) x7 (wrap64 (x8 + 1)))) else (none)) else (none)) else (some (-1))
def impl_steps.f (k : Nat) (l0 : List Int) (a1 : Int) : Option (Int) := impl_steps.l0 k l0 a1 (l0.length : Int) 0
theorem impl_steps.mono_l : ∀ k, (∀ y0 y1 y2 y3, LeO (impl_steps.l0 k y0 y1 y2 y3) (impl_steps.l0 (k + 1) y0 y1 y2 y3))
 | 0 => fun _ _ _ _ r h => by simp [impl_steps.l0] at h
 | k + 1 => by
  have ih0 := impl_steps.mono_l k
  ·intro y0 y1 y2 y3
   unfold impl_steps.l0
   exact zmono
theorem impl_steps.mono : ∀ a0 a1 k, LeO (impl_steps.f k a0 a1) (impl_steps.f (k + 1) a0 a1) := by
 intro a0 a1 k
 have ih0 := impl_steps.mono_l k
 unfold impl_steps.f
 exact zmono
set_option maxHeartbeats 8000000 in
set_option maxRecDepth 100000 in
theorem impl_steps.calls (k : Nat) (A0 : Option Addr) (c0 : Nat) (l0 : List Int) (a1 : Int) (r : Int) (w : World) (hr0 : Kd.C (Kd.int .i64) w A0 l0.length l0) (hc0 : l0.length ≤ c0) (h : impl_steps.f k l0 a1 = some r) :
  Calls Tryd.prog 55 #[.slice A0 l0.length c0, .int .i64 a1] w fun e w' => e = .returned (.int .i64 r) ∧ Drawn0 w w' := by
 have HR0:=zM hr0
 have HC0:=zM hc0
 clear hr0 hc0
 have H : (impl_steps.l0 k l0 a1 (l0.length : Int) 0) = some r := h
 clear h
 have H':=zM H
 clear H
 go_enter Tryd.func55, Tryd.ntmps55
 go_wp2
 go_loopg [1, 8] k (fun kq v1 v8 w' => ∃ (x1_1 : Int) (x8_1 : Int), v1 = .int .i64 x1_1 ∧ v8 = .int .i64 x8_1 ∧ Aside0 (impl_steps.l0 kq l0 x1_1 (l0.length : Int) x8_1 = some r) ∧ Aside0 (kq ≤ k) ∧ Drawn0 w w')
 case atStart => exact ⟨(a1), (0), zs6, zs6, H', ⟨Nat.le_refl _⟩, by repeat (first | exact Drawn0.refl _ | apply Drawn0.step)⟩
 case round =>
  clear H'
  try clear p2
  obtain ⟨x1_1, x8_1, rfl, rfl, HA, HK1, ⟨m1, rfl⟩⟩ := hrel
  cases gk with
  | zero => exact absurd HA.out (by simp [impl_steps.l0])
  | succ k1 =>
   have H := HA.out
   clear HA
   simp only [impl_steps.l0] at H
   by_cases c3 : x8_1 < (l0.length : Int)
   ·rw [if_pos c3] at H
    have c3b0 := decide_eq_true c3
    clear c3
    obtain ⟨ji4, hji4⟩ : ∃ j_ : Int, (wrap64 (x1_1 - 1)) = j_ := ⟨_, rfl⟩
    replace H : (if 0 ≤ (ji4) then (if (ji4) < (l0.length : Int) then (if (rd l0 (ji4)) = 0 then (some x8_1) else (impl_steps.l0 k1 l0 (rd l0 (ji4)) (l0.length : Int) (wrap64 (x8_1 + 1)))) else (none)) else (none)) = some r := by first | (rw [hji4] at H; exact H) | (simp only [hji4] at H ⊢; exact H)
    have hji4w : (IntKind.i64.wrap (x1_1 - 1)) = ji4 := (i64_w _).trans hji4
    by_cases c5 : 0 ≤ (ji4)
    ·rw [if_pos c5] at H
     have c5b0 := decide_eq_true c5
     clear c5
     by_cases c6 : (ji4) < (l0.length : Int)
     ·rw [if_pos c6] at H
      have c6b0 := decide_eq_true c6
      clear c6
      by_cases c7 : (rd l0 (ji4)) = 0
      ·rw [if_pos c7] at H
       have c7b0 := beq_iff_eq.mpr c7
       have c7b1 := bne_eq_false_iff_eq.mpr c7
       clear c7
       obtain rfl := Option.some.inj H
       have p107 : 0 ≤ ((ji4) : Int) := of_decide_eq_true zs8
       have q107 : (ji4) < (l0.length : Int) := of_decide_eq_true zs8
       obtain ⟨ad107, e107, hx107_0⟩ := Kd.at_int HR0.out (ji4) p107 q107
       cases e107
       replace p107 := eq_true p107
       replace q107 := eq_true q107
       go_wp2
       go_ret
       exact ⟨by first | rfl | (simp; done) | (simp only [← hji4] <;> (first | rfl | simp)) | (simp [*]; done), by repeat (first | exact Drawn0.refl _ | apply Drawn0.step)⟩
      ·rw [if_neg c7] at H
       have c7b0 := beq_eq_false_iff_ne.mpr c7
       have c7b1 := bne_iff_ne.mpr c7
       have H':=zM H
       clear H
       have p107 : 0 ≤ ((ji4) : Int) := of_decide_eq_true zs8
       have q107 : (ji4) < (l0.length : Int) := of_decide_eq_true zs8
       obtain ⟨ad107, e107, hx107_0⟩ := Kd.at_int HR0.out (ji4) p107 q107
       cases e107
       replace p107 := eq_true p107
       replace q107 := eq_true q107
       go_wp2
       go_roundg k1
       case measure => have := HK1.out; omega
       case rel => exact ⟨(rd l0 (ji4)), (wrap64 (x8_1 + 1)), (by first | rfl | (simp; done) | (simp only [← hji4] <;> (first | rfl | simp)) | (simp [*]; done)), zs6, H', ⟨by have := HK1.out; omega⟩, by repeat (first | exact Drawn0.refl _ | apply Drawn0.step)⟩
     ·rw [if_neg c6] at H
      exact absurd H (by simp)
    ·rw [if_neg c5] at H
     exact absurd H (by simp)
   ·rw [if_neg c3] at H
    have c3b0 := decide_eq_false c3
    clear c3
    obtain rfl := Option.some.inj H
    go_wp2
    go_ret
    exact ⟨by first | rfl | (simp; done) | (simp [*]; done), by repeat (first | exact Drawn0.refl _ | apply Drawn0.step)⟩

end Go.Proofs.YtopfhdhdpnenpaaDoor.LG
