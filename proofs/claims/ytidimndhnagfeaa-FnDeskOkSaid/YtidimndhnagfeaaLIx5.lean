/- Printed out of the translation (wip/lp); no conditions beyond those that each theorem names. -/
import Derived.Test.YtidimndhnagfeaaLIx0
import Derived.Test.YtidimndhnagfeaaLIx3
namespace Go.Proofs.Ytidimndhnagfeaa.LI
open Go.RowKit Go.Proofs.YtidimndhnagfeaaV.PrintWords Go.Proofs.YtidimndhnagfeaaV.PrintLast Go.Proofs.YtidimndhnagfeaaV.PrintMore
attribute [local go_sem] max2_int min2_int max_two min_two max_three min_three max_four min_four   -- for this text's walks alone
set_option linter.unusedVariables false
set_option linter.unusedSimpArgs false

/-! ### spec_l20Rd_pick: function 94 -/
def spec_l20Rd_pick.j0 : Nat → Int → Bool → List Int → Int → Option (Int × Int)
 | 0, _, _, _, _ => none
 | k + 1, x1, x24, x1000, x1001 => if x24 = true then (some (0, x1001)) else (if (wrap64 (x1001 - 1)) < (x1000.length : Int) then (if 0 ≤ (wrap64 (x1001 - 1)) then (if x1 = 0 then (none) else (some (Int.tmod (wrap64 (rd x1000 (wrap64 (x1001 - 1)))) x1, x1001))) else (none)) else (if (x1000.length : Int) = 0 then (none) else (if 0 ≤ (Int.tmod (wrap64 (x1001 - 1)) (x1000.length : Int)) then (if (Int.tmod (wrap64 (x1001 - 1)) (x1000.length : Int)) < (x1000.length : Int) then (if 0 ≤ (Int.tmod (wrap64 ((wrap64 ((wrap64 (x1001 - 1)) * 7)) + 3)) (x1000.length : Int)) then (if (Int.tmod (wrap64 ((wrap64 ((wrap64 (x1001 - 1)) * 7)) + 3)) (x1000.length : Int)) < (x1000.length : Int) then (if x1 = 0 then (none) else (some (Int.tmod (Go.bits .xor .i64 (wrap64 ((wrap64 ((wrap64 ((wrap64 ((wrap64 (rd x1000 (Int.tmod (wrap64 (x1001 - 1)) (x1000.length : Int)))) * 131)) + (wrap64 ((wrap64 (rd x1000 (Int.tmod (wrap64 ((wrap64 ((wrap64 (x1001 - 1)) * 7)) + 3)) (x1000.length : Int)))) * 1117)))) + (wrap64 ((wrap64 (x1001 - 1)) * 29)))) + (wrap64 ((wrap64 (Int.tdiv (wrap64 (x1001 - 1)) (x1000.length : Int))) * 53)))) (wrap64 (Int.tdiv (wrap64 ((wrap64 ((wrap64 ((wrap64 ((wrap64 (rd x1000 (Int.tmod (wrap64 (x1001 - 1)) (x1000.length : Int)))) * 131)) + (wrap64 ((wrap64 (rd x1000 (Int.tmod (wrap64 ((wrap64 ((wrap64 (x1001 - 1)) * 7)) + 3)) (x1000.length : Int)))) * 1117)))) + (wrap64 ((wrap64 (x1001 - 1)) * 29)))) + (wrap64 ((wrap64 (Int.tdiv (wrap64 (x1001 - 1)) (x1000.length : Int))) * 53)))) 64))) x1, x1001))) else (none)) else (none)) else (none)) else (none))))
def spec_l20Rd_pick.f (k : Nat) (s0_0 : List Int) (s0_1 : Int) (a1 : Int) : Option (Int × Int) := if a1 < 1 then (spec_l20Rd_pick.j0 k a1 true s0_0 (wrap64 (s0_1 + 1))) else (spec_l20Rd_pick.j0 k a1 ((s0_0.length : Int) == 0) s0_0 (wrap64 (s0_1 + 1)))
theorem spec_l20Rd_pick.mono_l : ∀ k, (∀ y0 y1 y2 y3, LeO (spec_l20Rd_pick.j0 k y0 y1 y2 y3) (spec_l20Rd_pick.j0 (k + 1) y0 y1 y2 y3))
 | 0 => fun _ _ _ _ r h => by simp [spec_l20Rd_pick.j0] at h
 | k + 1 => by
  have ih0 := spec_l20Rd_pick.mono_l k
  ·intro y0 y1 y2 y3
   unfold spec_l20Rd_pick.j0
   repeat' first
   | (with_reducible exact ih0 _ _ _ _)
   | (with_reducible exact LeO.refl _)
   | (with_reducible exact LeO.none _)
   | (with_reducible refine LeO.ite ?_ ?_)
   | (with_reducible refine LeO.bind ?_ (fun _ => ?_))
   | refine LeO.ite ?_ ?_
   | refine LeO.bind ?_ (fun _ => ?_)
theorem spec_l20Rd_pick.mono : ∀ a0 a1 a2 k, LeO (spec_l20Rd_pick.f k a0 a1 a2) (spec_l20Rd_pick.f (k + 1) a0 a1 a2) := by
 intro a0 a1 a2 k
 have ih0 := spec_l20Rd_pick.mono_l k
 unfold spec_l20Rd_pick.f
 repeat' first
   | (with_reducible exact ih0 _ _ _ _)
   | (with_reducible exact LeO.refl _)
   | (with_reducible exact LeO.none _)
   | (with_reducible refine LeO.ite ?_ ?_)
   | (with_reducible refine LeO.bind ?_ (fun _ => ?_))
   | refine LeO.ite ?_ ?_
   | refine LeO.bind ?_ (fun _ => ?_)
set_option maxHeartbeats 8000000 in
set_option maxRecDepth 100000 in
theorem spec_l20Rd_pick.calls (k : Nat) (g : Nat) (s0_0 : List Int) (s0_1 : Int) (a1 : Int) (r1 : Int) (r2 : Int) (w0 w : World) (hI : Z107 w0 w g s0_0 s0_1) (hB : Below w0.heap.size w0 w) (h : spec_l20Rd_pick.f k s0_0 s0_1 a1 = some (r1, r2)) :
  Calls Try.prog 94 #[.pointer (some ⟨g, 0, none⟩), .int .i64 a1] w fun e w' => e = .returned (.int .i64 r1) ∧ Z107 w0 w' g s0_0 r2 ∧ Below w0.heap.size w0 w' ∧ KeepBut w w' g none := by
 have HI0 := zM hI
 have HK := zM (KeepBut.refl w g none)
 have HL := zM hB.size
 clear hI
 have HW0 := zM hB.size
 have HB := zM hB
 clear hB
 have H : (if a1 < 1 then (spec_l20Rd_pick.j0 k a1 true s0_0 (wrap64 (s0_1 + 1))) else (spec_l20Rd_pick.j0 k a1 ((s0_0.length : Int) == 0) s0_0 (wrap64 (s0_1 + 1)))) = some (r1, r2) := h
 clear h
 have HC3 := zM H
 clear H
 obtain ⟨ASz4_0, cSz4_0, HGz4, hgz4, HSz4_0⟩ := HI0.out
 have hcz4_0 := cellS107_0 HGz4
 have hcz4_1 := cellS107_1 HGz4
 have hfz4_1 := blk_frozen HGz4 1
 clear HGz4 hgz4
 go_enter Try.func94, Try.ntmps94
 go_upto_region 2 with (fail)
 repeat (go_quiet (fail); go_upto_region 2 with (fail))
 go_cut [24] (fun v24 wc => ∃ (kq : Nat) (x24_2 : Bool), v24 = .bool x24_2 ∧ Aside0 (spec_l20Rd_pick.j0 kq a1 x24_2 s0_0 (wrap64 (s0_1 + 1)) = some (r1, r2)) ∧ Aside0 (kq ≤ k) ∧ Aside0 (Z107 w0 wc g s0_0 (wrap64 (s0_1 + 1))) ∧ Aside0 (KeepBut w wc g none) ∧ Aside0 (Below w0.heap.size w0 wc))
 case first =>
  have H := HC3.out
  clear HC3
  by_cases c5 : a1 < 1
  ·rw [if_pos c5] at H
   have c5b0 : decide (a1 < 1) = true := decide_eq_true c5
   clear c5
   (first | rw [c5b0] | (simp only [i64_w, i32_w]; rw [c5b0]) | skip)
   have H' := zM H
   clear H
   go_wp2
   repeat (go_quiet (fail); try go_wp2)
   go_meet
   case rel => exact ⟨_, (true), (by first | rfl | (simp; done) | (simp [*]; done)), H', ⟨by first | omega | exact Nat.le_refl _⟩, ⟨by repeat (first | (with_reducible first | exact HI0.out | apply Z107.alloc | apply Z107.drewN | apply Z107.drew | apply Z107.set_1) | exact HI0.out)⟩, ⟨by repeat (first | (with_reducible first | exact HK.out | apply zK | apply keep_drewN | apply keep_drew | apply keep_alloc) | exact HK.out)⟩, ⟨by repeat (first | (with_reducible first | exact HB.out | apply zB | apply zA | apply zC | refine zD ?_ (Z107.ge HI0.out)) | exact HB.out)⟩⟩
  ·rw [if_neg c5] at H
   have c5b0 : decide (a1 < 1) = false := decide_eq_false c5
   clear c5
   (first | rw [c5b0] | (simp only [i64_w, i32_w]; rw [c5b0]) | skip)
   have H' := zM H
   clear H
   obtain ⟨ASz6_0, cSz6_0, HGz6, hgz6, HSz6_0⟩ := HI0.out
   have hcz6_0 := cellS107_0 HGz6
   have hcz6_1 := cellS107_1 HGz6
   have hfz6_1 := blk_frozen HGz6 1
   clear HGz6 hgz6
   go_wp2
   repeat (go_quiet (fail); try go_wp2)
   go_meet
   case rel => exact ⟨_, (((s0_0.length : Int) == 0)), (by first | rfl | (simp; done) | (simp [*]; done)), H', ⟨by first | omega | exact Nat.le_refl _⟩, ⟨by repeat (first | (with_reducible first | exact HI0.out | apply Z107.alloc | apply Z107.drewN | apply Z107.drew | apply Z107.set_1) | exact HI0.out)⟩, ⟨by repeat (first | (with_reducible first | exact HK.out | apply zK | apply keep_drewN | apply keep_drew | apply keep_alloc) | exact HK.out)⟩, ⟨by repeat (first | (with_reducible first | exact HB.out | apply zB | apply zA | apply zC | refine zD ?_ (Z107.ge HI0.out)) | exact HB.out)⟩⟩
 case rest =>
  clear HC3
  try clear p2
  try clear c5
  try clear c5b0
  try clear p6
  try clear hcz4_0
  try clear hcz4_1
  try clear hcz6_0
  try clear hcz6_1
  try clear hfz4_1
  try clear hfz6_1
  obtain ⟨kq, x24_2, rfl, HA, HJ2, HI0, HK, HB⟩ := hcut
  cases kq with
  | zero => exact absurd HA.out (by simp [spec_l20Rd_pick.j0])
  | succ kj2 =>
   have H := HA.out
   clear HA
   simp only [spec_l20Rd_pick.j0] at H
   by_cases c7 : x24_2 = true
   ·subst c7
    have H1 : (some (0, (wrap64 (s0_1 + 1)))) = some (r1, r2) := by rw [if_pos rfl] at H; exact H
    clear H
    have H := H1
    clear H1
    simp only [Option.some.injEq, Prod.mk.injEq] at H
    obtain ⟨rfl, rfl⟩ := H
    go_wp2
    repeat (go_quiet (fail); try go_wp2)
    go_ret
    exact ⟨by first | rfl | (simp [errW_none, errW_some] <;> rfl) | (simp [*, errW_none, errW_some] <;> rfl), by repeat (first | (with_reducible first | exact HI0.out | apply Z107.alloc | apply Z107.drewN | apply Z107.drew | apply Z107.set_1) | exact HI0.out), by repeat (first | (with_reducible first | exact HB.out | apply zB | apply zA | apply zC | refine zD ?_ (Z107.ge HI0.out)) | exact HB.out), by repeat (first | (with_reducible first | exact HK.out | apply zK | apply keep_drewN | apply keep_drew | apply keep_alloc) | exact HK.out)⟩
   ·replace c7 := Bool.eq_false_iff.mpr c7
    subst c7
    have H1 : (if (wrap64 ((wrap64 (s0_1 + 1)) - 1)) < (s0_0.length : Int) then (if 0 ≤ (wrap64 ((wrap64 (s0_1 + 1)) - 1)) then (if a1 = 0 then (none) else (some (Int.tmod (wrap64 (rd s0_0 (wrap64 ((wrap64 (s0_1 + 1)) - 1)))) a1, (wrap64 (s0_1 + 1))))) else (none)) else (if (s0_0.length : Int) = 0 then (none) else (if 0 ≤ (Int.tmod (wrap64 ((wrap64 (s0_1 + 1)) - 1)) (s0_0.length : Int)) then (if (Int.tmod (wrap64 ((wrap64 (s0_1 + 1)) - 1)) (s0_0.length : Int)) < (s0_0.length : Int) then (if 0 ≤ (Int.tmod (wrap64 ((wrap64 ((wrap64 ((wrap64 (s0_1 + 1)) - 1)) * 7)) + 3)) (s0_0.length : Int)) then (if (Int.tmod (wrap64 ((wrap64 ((wrap64 ((wrap64 (s0_1 + 1)) - 1)) * 7)) + 3)) (s0_0.length : Int)) < (s0_0.length : Int) then (if a1 = 0 then (none) else (some (Int.tmod (Go.bits .xor .i64 (wrap64 ((wrap64 ((wrap64 ((wrap64 ((wrap64 (rd s0_0 (Int.tmod (wrap64 ((wrap64 (s0_1 + 1)) - 1)) (s0_0.length : Int)))) * 131)) + (wrap64 ((wrap64 (rd s0_0 (Int.tmod (wrap64 ((wrap64 ((wrap64 ((wrap64 (s0_1 + 1)) - 1)) * 7)) + 3)) (s0_0.length : Int)))) * 1117)))) + (wrap64 ((wrap64 ((wrap64 (s0_1 + 1)) - 1)) * 29)))) + (wrap64 ((wrap64 (Int.tdiv (wrap64 ((wrap64 (s0_1 + 1)) - 1)) (s0_0.length : Int))) * 53)))) (wrap64 (Int.tdiv (wrap64 ((wrap64 ((wrap64 ((wrap64 ((wrap64 (rd s0_0 (Int.tmod (wrap64 ((wrap64 (s0_1 + 1)) - 1)) (s0_0.length : Int)))) * 131)) + (wrap64 ((wrap64 (rd s0_0 (Int.tmod (wrap64 ((wrap64 ((wrap64 ((wrap64 (s0_1 + 1)) - 1)) * 7)) + 3)) (s0_0.length : Int)))) * 1117)))) + (wrap64 ((wrap64 ((wrap64 (s0_1 + 1)) - 1)) * 29)))) + (wrap64 ((wrap64 (Int.tdiv (wrap64 ((wrap64 (s0_1 + 1)) - 1)) (s0_0.length : Int))) * 53)))) 64))) a1, (wrap64 (s0_1 + 1))))) else (none)) else (none)) else (none)) else (none)))) = some (r1, r2) := by rw [if_neg (show ¬ (false = true) by decide)] at H; exact H
    clear H
    have H := H1
    clear H1
    by_cases c8 : (wrap64 ((wrap64 (s0_1 + 1)) - 1)) < (s0_0.length : Int)
    ·rw [if_pos c8] at H
     have c8b0 : decide ((wrap64 ((wrap64 (s0_1 + 1)) - 1)) < (s0_0.length : Int)) = true := decide_eq_true c8
     clear c8
     obtain ⟨ji9, hji9⟩ : ∃ j_ : Int, (wrap64 ((wrap64 (s0_1 + 1)) - 1)) = j_ := ⟨_, rfl⟩
     replace H : (if 0 ≤ (ji9) then (if a1 = 0 then (none) else (some (Int.tmod (wrap64 (rd s0_0 (ji9))) a1, (wrap64 (s0_1 + 1))))) else (none)) = some (r1, r2) := by first | (rw [hji9] at H; exact H) | (simp only [hji9] at H ⊢; exact H)
     (try rw [hji9] at c8b0)
     have hji9w : (IntKind.i64.wrap ((wrap64 (s0_1 + 1)) - 1)) = ji9 := (i64_w _).trans hji9
     by_cases c10 : 0 ≤ (ji9)
     ·rw [if_pos c10] at H
      have c10b0 : decide (0 ≤ (ji9)) = true := decide_eq_true c10
      clear c10
      by_cases c11 : a1 = 0
      ·rw [if_pos c11] at H
       exact absurd H (by simp)
      ·rw [if_neg c11] at H
       have c11b0 : (a1 == 0) = false := beq_eq_false_iff_ne.mpr c11
       have c11b1 : (a1 != 0) = true := bne_iff_ne.mpr c11
       simp only [Option.some.injEq, Prod.mk.injEq] at H
       obtain ⟨rfl, rfl⟩ := H
       obtain ⟨ASz12_0, cSz12_0, HGz12, hgz12, HSz12_0⟩ := HI0.out
       have hcz12_0 := cellS107_0 HGz12
       have hcz12_1 := cellS107_1 HGz12
       have hfz12_1 := blk_frozen HGz12 1
       clear HGz12 hgz12
       have p161 : 0 ≤ ((ji9) : Int) := of_decide_eq_true (by first | (with_reducible assumption) | assumption)
       have q161 : (ji9) < (s0_0.length : Int) := of_decide_eq_true (by first | (with_reducible assumption) | assumption)
       obtain ⟨ad161, e161, hx161_0⟩ := Kd.at_int HSz12_0 (ji9) p161 q161
       cases e161
       replace hx161_0 := pw_cell_below HB.out hx161_0
       replace p161 := eq_true p161
       replace q161 := eq_true q161
       go_wp2
       repeat (go_quiet (fail); try go_wp2)
       go_ret
       exact ⟨by first | rfl | (simp [errW_none, errW_some] <;> rfl) | (simp only [← hji9]; first | rfl | (simp [errW_none, errW_some] <;> rfl)) | (simp [*, errW_none, errW_some] <;> rfl), by repeat (first | (with_reducible first | exact HI0.out | apply Z107.alloc | apply Z107.drewN | apply Z107.drew | apply Z107.set_1) | exact HI0.out), by repeat (first | (with_reducible first | exact HB.out | apply zB | apply zA | apply zC | refine zD ?_ (Z107.ge HI0.out)) | exact HB.out), by repeat (first | (with_reducible first | exact HK.out | apply zK | apply keep_drewN | apply keep_drew | apply keep_alloc) | exact HK.out)⟩
     ·rw [if_neg c10] at H
      exact absurd H (by simp)
    ·rw [if_neg c8] at H
     have c8b0 : decide ((wrap64 ((wrap64 (s0_1 + 1)) - 1)) < (s0_0.length : Int)) = false := decide_eq_false c8
     clear c8
     by_cases c13 : (s0_0.length : Int) = 0
     ·rw [if_pos c13] at H
      exact absurd H (by simp)
     ·rw [if_neg c13] at H
      have c13b0 : ((s0_0.length : Int) == 0) = false := beq_eq_false_iff_ne.mpr c13
      have c13b1 : ((s0_0.length : Int) != 0) = true := bne_iff_ne.mpr c13
      have c13b2 : ¬ (s0_0 = []) := fun h_ => c13 (by rw [h_]; rfl)
      obtain ⟨ji14, hji14⟩ : ∃ j_ : Int, (Int.tmod (wrap64 ((wrap64 (s0_1 + 1)) - 1)) (s0_0.length : Int)) = j_ := ⟨_, rfl⟩
      replace H : (if 0 ≤ (ji14) then (if (ji14) < (s0_0.length : Int) then (if 0 ≤ (Int.tmod (wrap64 ((wrap64 ((wrap64 ((wrap64 (s0_1 + 1)) - 1)) * 7)) + 3)) (s0_0.length : Int)) then (if (Int.tmod (wrap64 ((wrap64 ((wrap64 ((wrap64 (s0_1 + 1)) - 1)) * 7)) + 3)) (s0_0.length : Int)) < (s0_0.length : Int) then (if a1 = 0 then (none) else (some (Int.tmod (Go.bits .xor .i64 (wrap64 ((wrap64 ((wrap64 ((wrap64 ((wrap64 (rd s0_0 (ji14))) * 131)) + (wrap64 ((wrap64 (rd s0_0 (Int.tmod (wrap64 ((wrap64 ((wrap64 ((wrap64 (s0_1 + 1)) - 1)) * 7)) + 3)) (s0_0.length : Int)))) * 1117)))) + (wrap64 ((wrap64 ((wrap64 (s0_1 + 1)) - 1)) * 29)))) + (wrap64 ((wrap64 (Int.tdiv (wrap64 ((wrap64 (s0_1 + 1)) - 1)) (s0_0.length : Int))) * 53)))) (wrap64 (Int.tdiv (wrap64 ((wrap64 ((wrap64 ((wrap64 ((wrap64 (rd s0_0 (ji14))) * 131)) + (wrap64 ((wrap64 (rd s0_0 (Int.tmod (wrap64 ((wrap64 ((wrap64 ((wrap64 (s0_1 + 1)) - 1)) * 7)) + 3)) (s0_0.length : Int)))) * 1117)))) + (wrap64 ((wrap64 ((wrap64 (s0_1 + 1)) - 1)) * 29)))) + (wrap64 ((wrap64 (Int.tdiv (wrap64 ((wrap64 (s0_1 + 1)) - 1)) (s0_0.length : Int))) * 53)))) 64))) a1, (wrap64 (s0_1 + 1))))) else (none)) else (none)) else (none)) else (none)) = some (r1, r2) := by first | (rw [hji14] at H; exact H) | (simp only [hji14] at H ⊢; exact H)
      by_cases c15 : 0 ≤ (ji14)
      ·rw [if_pos c15] at H
       have c15b0 : decide (0 ≤ (ji14)) = true := decide_eq_true c15
       clear c15
       by_cases c16 : (ji14) < (s0_0.length : Int)
       ·rw [if_pos c16] at H
        have c16b0 : decide ((ji14) < (s0_0.length : Int)) = true := decide_eq_true c16
        clear c16
        obtain ⟨ji17, hji17⟩ : ∃ j_ : Int, (Int.tmod (wrap64 ((wrap64 ((wrap64 ((wrap64 (s0_1 + 1)) - 1)) * 7)) + 3)) (s0_0.length : Int)) = j_ := ⟨_, rfl⟩
        replace H : (if 0 ≤ (ji17) then (if (ji17) < (s0_0.length : Int) then (if a1 = 0 then (none) else (some (Int.tmod (Go.bits .xor .i64 (wrap64 ((wrap64 ((wrap64 ((wrap64 ((wrap64 (rd s0_0 (ji14))) * 131)) + (wrap64 ((wrap64 (rd s0_0 (ji17))) * 1117)))) + (wrap64 ((wrap64 ((wrap64 (s0_1 + 1)) - 1)) * 29)))) + (wrap64 ((wrap64 (Int.tdiv (wrap64 ((wrap64 (s0_1 + 1)) - 1)) (s0_0.length : Int))) * 53)))) (wrap64 (Int.tdiv (wrap64 ((wrap64 ((wrap64 ((wrap64 ((wrap64 (rd s0_0 (ji14))) * 131)) + (wrap64 ((wrap64 (rd s0_0 (ji17))) * 1117)))) + (wrap64 ((wrap64 ((wrap64 (s0_1 + 1)) - 1)) * 29)))) + (wrap64 ((wrap64 (Int.tdiv (wrap64 ((wrap64 (s0_1 + 1)) - 1)) (s0_0.length : Int))) * 53)))) 64))) a1, (wrap64 (s0_1 + 1))))) else (none)) else (none)) = some (r1, r2) := by first | (rw [hji17] at H; exact H) | (simp only [hji17] at H ⊢; exact H)
        by_cases c18 : 0 ≤ (ji17)
        ·rw [if_pos c18] at H
         have c18b0 : decide (0 ≤ (ji17)) = true := decide_eq_true c18
         clear c18
         by_cases c19 : (ji17) < (s0_0.length : Int)
         ·rw [if_pos c19] at H
          have c19b0 : decide ((ji17) < (s0_0.length : Int)) = true := decide_eq_true c19
          clear c19
          by_cases c20 : a1 = 0
          ·rw [if_pos c20] at H
           exact absurd H (by simp)
          ·rw [if_neg c20] at H
           have c20b0 : (a1 == 0) = false := beq_eq_false_iff_ne.mpr c20
           have c20b1 : (a1 != 0) = true := bne_iff_ne.mpr c20
           simp only [Option.some.injEq, Prod.mk.injEq] at H
           obtain ⟨rfl, rfl⟩ := H
           obtain ⟨ASz21_0, cSz21_0, HGz21, hgz21, HSz21_0⟩ := HI0.out
           have hcz21_0 := cellS107_0 HGz21
           have hcz21_1 := cellS107_1 HGz21
           have hfz21_1 := blk_frozen HGz21 1
           clear HGz21 hgz21
           have p162 : 0 ≤ ((ji14) : Int) := of_decide_eq_true (by first | (with_reducible assumption) | assumption)
           have q162 : (ji14) < (s0_0.length : Int) := of_decide_eq_true (by first | (with_reducible assumption) | assumption)
           obtain ⟨ad162, e162, hx162_0⟩ := Kd.at_int HSz21_0 (ji14) p162 q162
           cases e162
           replace hx162_0 := pw_cell_below HB.out hx162_0
           replace p162 := eq_true p162
           replace q162 := eq_true q162
           have p163 : 0 ≤ ((ji17) : Int) := of_decide_eq_true (by first | (with_reducible assumption) | assumption)
           have q163 : (ji17) < (s0_0.length : Int) := of_decide_eq_true (by first | (with_reducible assumption) | assumption)
           obtain ⟨ad163, e163, hx163_0⟩ := Kd.at_int HSz21_0 (ji17) p163 q163
           obtain rfl : ad162 = ad163 := (by injection e163)
           replace hx163_0 := pw_cell_below HB.out hx163_0
           replace p163 := eq_true p163
           replace q163 := eq_true q163
           go_wp2
           repeat (go_quiet (fail); try go_wp2)
           go_ret
           exact ⟨by first | rfl | (simp [errW_none, errW_some] <;> rfl) | (simp only [← hji14, ← hji17]; first | rfl | (simp [errW_none, errW_some] <;> rfl)) | (simp [*, errW_none, errW_some] <;> rfl), by repeat (first | (with_reducible first | exact HI0.out | apply Z107.alloc | apply Z107.drewN | apply Z107.drew | apply Z107.set_1) | exact HI0.out), by repeat (first | (with_reducible first | exact HB.out | apply zB | apply zA | apply zC | refine zD ?_ (Z107.ge HI0.out)) | exact HB.out), by repeat (first | (with_reducible first | exact HK.out | apply zK | apply keep_drewN | apply keep_drew | apply keep_alloc) | exact HK.out)⟩
         ·rw [if_neg c19] at H
          exact absurd H (by simp)
        ·rw [if_neg c18] at H
         exact absurd H (by simp)
       ·rw [if_neg c16] at H
        exact absurd H (by simp)
      ·rw [if_neg c15] at H
       exact absurd H (by simp)

/-! ### spec_l20Order: function 99 -/
def spec_l20Order.l0 : Nat → Int → List Int → Int → Int → List Int → Int → Option (List Int × Int)
 | 0, _, _, _, _, _, _ => none
 | k + 1, x1, x5, x6, x7, x1000, x1001 => if x7 ≤ x1 then (if x6 = 0 then ((spec_l20Rd_pick.f k x1000 x1001 x7).bind fun bt169 => ((some (([] : List Int) : List Int)).bind fun y171 => (if 0 ≤ bt169.1 then (if bt169.1 ≤ (x5.length : Int) then ((some (x5.take (bt169.1 : Int).toNat : List Int)).bind fun y174 => (if y171.length + y174.length < 17592186044416 then ((some (y171 ++ y174 : List Int)).bind fun y178 => (if y178.length < 17592186044416 then ((some (y178 ++ [x7] : List Int)).bind fun y181 => ((some (x5.drop (bt169.1 : Int).toNat : List Int)).bind fun y184 => (if y181.length + y184.length < 17592186044416 then (spec_l20Order.l0 k x1 (y181 ++ y184) x6 (wrap64 (x7 + 1)) x1000 bt169.2) else (none)))) else (none))) else (none))) else (none)) else (none)))) else ((spec_l20Rd_pick.f k x1000 x1001 3).bind fun bt191 => (if bt191.1 = 0 then ((spec_l20Rd_pick.f k x1000 bt191.2 x7).bind fun bt193 => ((some (([] : List Int) : List Int)).bind fun y195 => (if 0 ≤ bt193.1 then (if bt193.1 ≤ (x5.length : Int) then ((some (x5.take (bt193.1 : Int).toNat : List Int)).bind fun y198 => (if y195.length + y198.length < 17592186044416 then ((some (y195 ++ y198 : List Int)).bind fun y202 => (if y202.length < 17592186044416 then ((some (y202 ++ [x7] : List Int)).bind fun y205 => ((some (x5.drop (bt193.1 : Int).toNat : List Int)).bind fun y208 => (if y205.length + y208.length < 17592186044416 then (spec_l20Order.l0 k x1 (y205 ++ y208) x6 (wrap64 (x7 + 1)) x1000 bt193.2) else (none)))) else (none))) else (none))) else (none)) else (none)))) else ((some (([] : List Int) : List Int)).bind fun y215 => (if 0 ≤ (x5.length : Int) then (if (x5.length : Int) ≤ (x5.length : Int) then ((some (x5.take ((x5.length : Int) : Int).toNat : List Int)).bind fun y218 => (if y215.length + y218.length < 17592186044416 then ((some (y215 ++ y218 : List Int)).bind fun y222 => (if y222.length < 17592186044416 then ((some (y222 ++ [x7] : List Int)).bind fun y225 => ((some (x5.drop ((x5.length : Int) : Int).toNat : List Int)).bind fun y228 => (if y225.length + y228.length < 17592186044416 then (spec_l20Order.l0 k x1 (y225 ++ y228) x6 (wrap64 (x7 + 1)) x1000 bt191.2) else (none)))) else (none))) else (none))) else (none)) else (none)))))) else (some (x5, x1001))
def spec_l20Order.f (k : Nat) (s0_0 : List Int) (s0_1 : Int) (a1 : Int) : Option (List Int × Int) := (spec_l20Rd_pick.f k s0_0 s0_1 2).bind fun bt167 => (spec_l20Order.l0 k a1 (([] : List Int)) bt167.1 1 s0_0 bt167.2)
theorem spec_l20Order.mono_l : ∀ k, (∀ y0 y1 y2 y3 y4 y5, LeO (spec_l20Order.l0 k y0 y1 y2 y3 y4 y5) (spec_l20Order.l0 (k + 1) y0 y1 y2 y3 y4 y5))
 | 0 => fun _ _ _ _ _ _ r h => by simp [spec_l20Order.l0] at h
 | k + 1 => by
  have ih0 := spec_l20Order.mono_l k
  ·intro y0 y1 y2 y3 y4 y5
   unfold spec_l20Order.l0
   repeat' first
   | (with_reducible exact ih0 _ _ _ _ _ _)
   | (with_reducible exact spec_l20Rd_pick.mono _ _ _ _)
   | (with_reducible exact LeO.refl _)
   | (with_reducible exact LeO.none _)
   | (with_reducible refine LeO.ite ?_ ?_)
   | (with_reducible refine LeO.bind ?_ (fun _ => ?_))
   | refine LeO.ite ?_ ?_
   | refine LeO.bind ?_ (fun _ => ?_)
theorem spec_l20Order.mono : ∀ a0 a1 a2 k, LeO (spec_l20Order.f k a0 a1 a2) (spec_l20Order.f (k + 1) a0 a1 a2) := by
 intro a0 a1 a2 k
 have ih0 := spec_l20Order.mono_l k
 unfold spec_l20Order.f
 repeat' first
   | (with_reducible exact ih0 _ _ _ _ _ _)
   | (with_reducible exact spec_l20Rd_pick.mono _ _ _ _)
   | (with_reducible exact LeO.refl _)
   | (with_reducible exact LeO.none _)
   | (with_reducible refine LeO.ite ?_ ?_)
   | (with_reducible refine LeO.bind ?_ (fun _ => ?_))
   | refine LeO.ite ?_ ?_
   | refine LeO.bind ?_ (fun _ => ?_)
set_option maxHeartbeats 8000000 in
set_option maxRecDepth 100000 in
theorem spec_l20Order.calls (k : Nat) (g : Nat) (s0_0 : List Int) (s0_1 : Int) (a1 : Int) (r1 : List Int) (r2 : Int) (w0 w : World) (hI : Z107 w0 w g s0_0 s0_1) (hB : Below w0.heap.size w0 w) (h : spec_l20Order.f k s0_0 s0_1 a1 = some (r1, r2)) :
  Calls Try.prog 99 #[.pointer (some ⟨g, 0, none⟩), .int .i64 a1] w fun e w' => ∃ v0_ : Value, e = .returned (v0_) ∧ Kd.R (Kd.int .i64) 3 w' w.heap.size (fun _ => True) v0_ r1 ∧ Z107 w0 w' g s0_0 r2 ∧ Below w0.heap.size w0 w' ∧ KeepBut w w' g none := by
 have HI0 := zM hI
 have HK := zM (KeepBut.refl w g none)
 have HL := zM hB.size
 clear hI
 have HW0 := zM hB.size
 have HB := zM hB
 clear hB
 have H : ((spec_l20Rd_pick.f k s0_0 s0_1 2).bind fun bt167 => (spec_l20Order.l0 k a1 (([] : List Int)) bt167.1 1 s0_0 bt167.2)) = some (r1, r2) := h
 clear h
 obtain ⟨y164, hy164⟩ : ∃ y_ : List Int, y_ = (([] : List Int)) := ⟨_, rfl⟩
 replace H : ((spec_l20Rd_pick.f k s0_0 s0_1 2).bind fun bt167 => (spec_l20Order.l0 k a1 y164 bt167.1 1 s0_0 bt167.2)) = some (r1, r2) := by first | (rw [hy164]; with_reducible exact H) | (have H2_ := (Option.bind_some _ _).symm.trans H; rw [hy164]; with_reducible exact H2_) | (have H2_ := (Option.bind_some _ _).symm.trans H; with_reducible exact H2_) | with_reducible exact H | (rw [hy164]; exact H) | exact H
 have Ny164 := zM hy164
 clear hy164
 replace H := Option.bind_eq_some_iff.mp H
 obtain ⟨⟨t167, t168⟩, A30, H⟩ := H
 replace H : (spec_l20Order.l0 k a1 y164 t167 1 s0_0 t168) = some (r1, r2) := H
 have A3 := zM A30
 clear A30
 have H' := zM H
 clear H
 go_enter Try.func99, Try.ntmps99
 go_wp2_with (first | ((with_reducible refine gate_dst (N := 10) rfl ?_); refine Kd.R_lit (Kd.int .i64) _ 3 ?hg (N := 10) ?hd (xs := ([] : List Int)) (inner := []) (ok := fun _ => True) (okp := fun _ => True) ?hr ?hp (fun _ hk => hk) trivial (Below.refl _ _) (Nat.le_refl _) (by simp) ?_; (case hd => rfl);(case hg => rfl);(case hr => first | (go_simp; done) | (go_simp; rfl)); (case hp => exact (Reps.none _ _)); intro v165 w4 ho5 hb hg_ hnew_; clear hg_ hnew_; (first | rw [← Ny164.out] at ho5 | (simp only [Int.reduceToNat] at ho5; rw [← Ny164.out] at ho5));have n0_:=zM (Kd.R_lower ho5 (keep_size (w := w) (g := g) (row := none) (by repeat (first | (with_reducible first | exact HK.out | apply zK | apply keep_drewN | apply keep_drew | apply keep_alloc) | exact HK.out))));have n1_:=zM (Z107.below (by repeat (first | (with_reducible first | exact HI0.out | apply Z107.alloc | apply Z107.drewN | apply Z107.drew | apply Z107.set_1) | exact HI0.out)) hb);have n2_:=zM (KeepBut.trans (by repeat (first | (with_reducible first | exact HK.out | apply zK | apply keep_drewN | apply keep_drew | apply keep_alloc) | exact HK.out)) (KeepBut.of_below hb g none) (.inl rfl));have n3_:=zM (below_step (by repeat (first | (with_reducible first | exact HB.out | apply zB | apply zA | apply zC | refine zD ?_ (Z107.ge HI0.out)) | exact HB.out)) hb);clear HI0; clear HK;clear HB; have HO166 := n0_; have HI0 := n1_; have HK := n2_; have HB := n3_; clear n0_ n1_ n2_ n3_; clear hb ho5) | ((with_reducible refine gate_callee (f := 94) rfl ?_); refine goesL_ (some 12) rfl rfl Try.func94 (by kernel_rfl) rfl #[.pointer (some ⟨g, 0, none⟩), .int .i64 2] rfl (by (try simp only [List.map_toArray, List.map_cons, List.map_nil]); first | done | rfl | (simp only [List.length_drop, List.length_take]; rfl)) ?_; (with_reducible refine (spec_l20Rd_pick.calls k g s0_0 s0_1 2 t167 t168 w0 _ ?side1 ?side2 A3.out).mono ?_); (case side1 => repeat (first | (with_reducible first | exact HI0.out | apply Z107.alloc | apply Z107.drewN | apply Z107.drew | apply Z107.set_1) | exact HI0.out)); (case side2 => repeat (first | (with_reducible first | exact HB.out | apply zB | apply zA | apply zC | refine zD ?_ (Z107.ge HI0.out)) | exact HB.out)); rintro e w6 ⟨rfl, hi, hb, hk⟩; refine ⟨_, rfl, ?_⟩;have n0_:=zM (Kd.R_mono (Kd.R_keep (Z107.apart (show Z107 w0 _ g s0_0 s0_1 from by repeat (first | (with_reducible first | exact HI0.out | apply Z107.alloc | apply Z107.drewN | apply Z107.drew | apply Z107.set_1) | exact HI0.out)) (by exact HO166.out) (by decide)) hk (fun _ h => h.2)) (fun _ h => h.1));have n1_:=zM (KeepBut.trans (by repeat (first | (with_reducible first | exact HK.out | apply zK | apply keep_drewN | apply keep_drew | apply keep_alloc) | exact HK.out)) hk (.inl rfl));have n2_:=zM (hb);have n3_:=zM (hi);clear HO166; clear HK;clear HB; clear HI0; have HO166 := n0_; have HK := n1_; have HB := n2_; have HI0 := n3_; clear n0_ n1_ n2_ n3_; (try clear hb); (try clear hb2); (try clear hk); (try clear hi)))
 go_loopg [5, 7] k (fun kq v5 v7 w' => ∃ (x5_1 : List Int) (x7_1 : Int) (x1001_1 : Int), v7 = .int .i64 x7_1 ∧ Aside0 (spec_l20Order.l0 kq a1 x5_1 t167 x7_1 s0_0 x1001_1 = some (r1, r2)) ∧ Aside0 (kq ≤ k) ∧ Aside0 (Kd.R (Kd.int .i64) 3 w' w.heap.size (fun _ => True) v5 x5_1) ∧ Aside0 (Z107 w0 w' g s0_0 x1001_1) ∧ Aside0 (KeepBut w w' g none) ∧ Aside0 (Below w0.heap.size w0 w'))
 case atStart => exact ⟨(y164), (1), (t168), (by first | rfl | (simp; done) | (simp [*]; done)), H', ⟨Nat.le_refl _⟩, ⟨by exact HO166.out⟩, ⟨by repeat (first | (with_reducible first | exact HI0.out | apply Z107.alloc | apply Z107.drewN | apply Z107.drew | apply Z107.set_1) | exact HI0.out)⟩, ⟨by repeat (first | (with_reducible first | exact HK.out | apply zK | apply keep_drewN | apply keep_drew | apply keep_alloc) | exact HK.out)⟩, ⟨by repeat (first | (with_reducible first | exact HB.out | apply zB | apply zA | apply zC | refine zD ?_ (Z107.ge HI0.out)) | exact HB.out)⟩⟩
 case round =>
  clear H'
  try clear p2
  obtain ⟨x5_1, x7_1, x1001_1, rfl, HA, HK1, HO_5, HI0, HK, HB⟩ := hrel
  cases gk with
  | zero => exact absurd HA.out (by simp [spec_l20Order.l0])
  | succ k1 =>
   have H := HA.out
   clear HA
   simp only [spec_l20Order.l0] at H
   by_cases c7 : x7_1 ≤ a1
   ·rw [if_pos c7] at H
    have c7b0 : decide (x7_1 ≤ a1) = true := decide_eq_true c7
    clear c7
    by_cases c8 : t167 = 0
    ·rw [if_pos c8] at H
     have c8b0 : (t167 == 0) = true := beq_iff_eq.mpr c8
     have c8b1 : (t167 != 0) = false := bne_eq_false_iff_eq.mpr c8
     clear c8
     replace H := Option.bind_eq_some_iff.mp H
     obtain ⟨⟨t169, t170⟩, A90, H⟩ := H
     replace H : ((some (([] : List Int) : List Int)).bind fun y171 => (if 0 ≤ t169 then (if t169 ≤ (x5_1.length : Int) then ((some (x5_1.take (t169 : Int).toNat : List Int)).bind fun y174 => (if y171.length + y174.length < 17592186044416 then ((some (y171 ++ y174 : List Int)).bind fun y178 => (if y178.length < 17592186044416 then ((some (y178 ++ [x7_1] : List Int)).bind fun y181 => ((some (x5_1.drop (t169 : Int).toNat : List Int)).bind fun y184 => (if y181.length + y184.length < 17592186044416 then (spec_l20Order.l0 k1 a1 (y181 ++ y184) t167 (wrap64 (x7_1 + 1)) s0_0 t170) else (none)))) else (none))) else (none))) else (none)) else (none))) = some (r1, r2) := H
     have A9 := zM A90
     clear A90
     obtain ⟨y171, hy171⟩ : ∃ y_ : List Int, y_ = (([] : List Int)) := ⟨_, rfl⟩
     replace H : (if 0 ≤ t169 then (if t169 ≤ (x5_1.length : Int) then ((some (x5_1.take (t169 : Int).toNat : List Int)).bind fun y174 => (if y171.length + y174.length < 17592186044416 then ((some (y171 ++ y174 : List Int)).bind fun y178 => (if y178.length < 17592186044416 then ((some (y178 ++ [x7_1] : List Int)).bind fun y181 => ((some (x5_1.drop (t169 : Int).toNat : List Int)).bind fun y184 => (if y181.length + y184.length < 17592186044416 then (spec_l20Order.l0 k1 a1 (y181 ++ y184) t167 (wrap64 (x7_1 + 1)) s0_0 t170) else (none)))) else (none))) else (none))) else (none)) else (none)) = some (r1, r2) := by first | (rw [hy171]; with_reducible exact H) | (have H2_ := (Option.bind_some _ _).symm.trans H; rw [hy171]; with_reducible exact H2_) | (have H2_ := (Option.bind_some _ _).symm.trans H; with_reducible exact H2_) | with_reducible exact H | (rw [hy171]; exact H) | exact H
     have Ny171 := zM hy171
     clear hy171
     by_cases c10 : 0 ≤ t169
     ·rw [if_pos c10] at H
      have c10b0 := eq_true c10
      have c10b1 : decide (0 ≤ t169) = true := decide_eq_true c10
      clear c10
      by_cases c11 : t169 ≤ (x5_1.length : Int)
      ·rw [if_pos c11] at H
       have c11b0 := eq_true c11
       have c11b1 : decide (t169 ≤ (x5_1.length : Int)) = true := decide_eq_true c11
       clear c11
       obtain ⟨y174, hy174⟩ : ∃ y_ : List Int, y_ = (x5_1.take (t169 : Int).toNat) := ⟨_, rfl⟩
       replace H : (if y171.length + y174.length < 17592186044416 then ((some (y171 ++ y174 : List Int)).bind fun y178 => (if y178.length < 17592186044416 then ((some (y178 ++ [x7_1] : List Int)).bind fun y181 => ((some (x5_1.drop (t169 : Int).toNat : List Int)).bind fun y184 => (if y181.length + y184.length < 17592186044416 then (spec_l20Order.l0 k1 a1 (y181 ++ y184) t167 (wrap64 (x7_1 + 1)) s0_0 t170) else (none)))) else (none))) else (none)) = some (r1, r2) := by first | (rw [hy174]; with_reducible exact H) | (have H2_ := (Option.bind_some _ _).symm.trans H; rw [hy174]; with_reducible exact H2_) | (have H2_ := (Option.bind_some _ _).symm.trans H; with_reducible exact H2_) | with_reducible exact H | (rw [hy174]; exact H) | exact H
       have Ny174 := zM hy174
       clear hy174
       by_cases c12 : y171.length + y174.length < 17592186044416
       ·rw [if_pos c12] at H
        have LMc12 := zM c12
        clear c12
        obtain ⟨y178, hy178⟩ : ∃ y_ : List Int, y_ = (y171 ++ y174) := ⟨_, rfl⟩
        replace H : (if y178.length < 17592186044416 then ((some (y178 ++ [x7_1] : List Int)).bind fun y181 => ((some (x5_1.drop (t169 : Int).toNat : List Int)).bind fun y184 => (if y181.length + y184.length < 17592186044416 then (spec_l20Order.l0 k1 a1 (y181 ++ y184) t167 (wrap64 (x7_1 + 1)) s0_0 t170) else (none)))) else (none)) = some (r1, r2) := by first | (rw [hy178]; with_reducible exact H) | (have H2_ := (Option.bind_some _ _).symm.trans H; rw [hy178]; with_reducible exact H2_) | (have H2_ := (Option.bind_some _ _).symm.trans H; with_reducible exact H2_) | with_reducible exact H | (rw [hy178]; exact H) | exact H
        have Ny178 := zM hy178
        clear hy178
        by_cases c13 : y178.length < 17592186044416
        ·rw [if_pos c13] at H
         have LMc13 := zM c13
         clear c13
         obtain ⟨y181, hy181⟩ : ∃ y_ : List Int, y_ = (y178 ++ [x7_1]) := ⟨_, rfl⟩
         replace H : ((some (x5_1.drop (t169 : Int).toNat : List Int)).bind fun y184 => (if y181.length + y184.length < 17592186044416 then (spec_l20Order.l0 k1 a1 (y181 ++ y184) t167 (wrap64 (x7_1 + 1)) s0_0 t170) else (none))) = some (r1, r2) := by first | (rw [hy181]; with_reducible exact H) | (have H2_ := (Option.bind_some _ _).symm.trans H; rw [hy181]; with_reducible exact H2_) | (have H2_ := (Option.bind_some _ _).symm.trans H; with_reducible exact H2_) | with_reducible exact H | (rw [hy181]; exact H) | exact H
         have Ny181 := zM hy181
         clear hy181
         have c14b0 := eq_true (of_decide_eq_true (by first | (with_reducible assumption) | assumption) : 0 ≤ t169)
         have c15b0 := eq_true (of_decide_eq_true (by first | (with_reducible assumption) | assumption) : t169 ≤ (x5_1.length : Int))
         obtain ⟨y184, hy184⟩ : ∃ y_ : List Int, y_ = (x5_1.drop (t169 : Int).toNat) := ⟨_, rfl⟩
         replace H : (if y181.length + y184.length < 17592186044416 then (spec_l20Order.l0 k1 a1 (y181 ++ y184) t167 (wrap64 (x7_1 + 1)) s0_0 t170) else (none)) = some (r1, r2) := by first | (rw [hy184]; with_reducible exact H) | (have H2_ := (Option.bind_some _ _).symm.trans H; rw [hy184]; with_reducible exact H2_) | (have H2_ := (Option.bind_some _ _).symm.trans H; with_reducible exact H2_) | with_reducible exact H | (rw [hy184]; exact H) | exact H
         have Ny184 := zM hy184
         clear hy184
         by_cases c16 : y181.length + y184.length < 17592186044416
         ·rw [if_pos c16] at H
          have LMc16 := zM c16
          clear c16
          obtain ⟨y188, hy188⟩ : ∃ y_ : List Int, y_ = (y181 ++ y184) := ⟨_, rfl⟩
          replace H : (spec_l20Order.l0 k1 a1 y188 t167 (wrap64 (x7_1 + 1)) s0_0 t170) = some (r1, r2) := by first | (rw [hy188]; with_reducible exact H) | (have H2_ := (Option.bind_some _ _).symm.trans H; rw [hy188]; with_reducible exact H2_) | (have H2_ := (Option.bind_some _ _).symm.trans H; with_reducible exact H2_) | with_reducible exact H | (rw [hy188]; exact H) | exact H
          have Ny188 := zM hy188
          clear hy188
          have H' := zM H
          clear H
          obtain ⟨Ao17, co17, eo17⟩ := Kd.R_slice HO_5.out
          subst eo17
          go_wp2_with (first | ((with_reducible refine gate_callee (f := 94) rfl ?_); refine goesL_ (some 29) rfl rfl Try.func94 (by kernel_rfl) rfl #[.pointer (some ⟨g, 0, none⟩), .int .i64 x7_1] rfl (by (try simp only [List.map_toArray, List.map_cons, List.map_nil]); first | done | rfl | (simp only [List.length_drop, List.length_take]; rfl)) ?_; (with_reducible refine (spec_l20Rd_pick.calls k1 g s0_0 x1001_1 x7_1 t169 t170 w0 _ ?side1 ?side2 A9.out).mono ?_); (case side1 => repeat (first | (with_reducible first | exact HI0.out | apply Z107.alloc | apply Z107.drewN | apply Z107.drew | apply Z107.set_1) | exact HI0.out)); (case side2 => repeat (first | (with_reducible first | exact HB.out | apply zB | apply zA | apply zC | refine zD ?_ (Z107.ge HI0.out)) | exact HB.out)); rintro e w18 ⟨rfl, hi, hb, hk⟩; refine ⟨_, rfl, ?_⟩;have n0_:=zM (Kd.R_mono (Kd.R_keep (Z107.apart (show Z107 w0 _ g s0_0 x1001_1 from by repeat (first | (with_reducible first | exact HI0.out | apply Z107.alloc | apply Z107.drewN | apply Z107.drew | apply Z107.set_1) | exact HI0.out)) (by exact HO_5.out) (by decide)) hk (fun _ h => h.2)) (fun _ h => h.1));have n1_:=zM (KeepBut.trans (by repeat (first | (with_reducible first | exact HK.out | apply zK | apply keep_drewN | apply keep_drew | apply keep_alloc) | exact HK.out)) hk (.inl rfl));have n2_:=zM (hb);have n3_:=zM (hi);clear HO_5; clear HK;clear HB; clear HI0; have HO_5 := n0_; have HK := n1_; have HB := n2_; have HI0 := n3_; clear n0_ n1_ n2_ n3_; (try clear hb); (try clear hb2); (try clear hk); (try clear hi)) | ((with_reducible refine gate_dst (N := 30) rfl ?_); refine Kd.R_lit (Kd.int .i64) _ 3 ?hg (N := 30) ?hd (xs := ([] : List Int)) (inner := []) (ok := fun _ => True) (okp := fun _ => True) ?hr ?hp (fun _ hk => hk) trivial (Below.refl _ _) (Nat.le_refl _) (by simp) ?_; (case hd => rfl);(case hg => rfl);(case hr => first | (go_simp; done) | (go_simp; rfl)); (case hp => exact (Reps.none _ _)); intro v172 w19 ho20 hb hg_ hnew_; clear hg_ hnew_; (first | rw [← Ny171.out] at ho20 | (simp only [Int.reduceToNat] at ho20; rw [← Ny171.out] at ho20));have n0_:=zM (Kd.R_elder' (by exact HO_5.out) (Kd.R_base ho20) hb);have n1_:=zM (Kd.R_lower (Kd.R_new' ho20 (Kd.R_lt (by exact HO_5.out))) (keep_size (w := w) (g := g) (row := none) (by repeat (first | (with_reducible first | exact HK.out | apply zK | apply keep_drewN | apply keep_drew | apply keep_alloc) | exact HK.out))));have n2_:=zM (Z107.below (by repeat (first | (with_reducible first | exact HI0.out | apply Z107.alloc | apply Z107.drewN | apply Z107.drew | apply Z107.set_1) | exact HI0.out)) hb);have n3_:=zM (KeepBut.trans (by repeat (first | (with_reducible first | exact HK.out | apply zK | apply keep_drewN | apply keep_drew | apply keep_alloc) | exact HK.out)) (KeepBut.of_below hb g none) (.inl rfl));have n4_:=zM (below_step (by repeat (first | (with_reducible first | exact HB.out | apply zB | apply zA | apply zC | refine zD ?_ (Z107.ge HI0.out)) | exact HB.out)) hb);clear HO_5; clear HI0;clear HK; clear HB; have HO_5 := n0_; have HO173 := n1_; have HI0 := n2_; have HK := n3_; have HB := n4_; clear n0_ n1_ n2_ n3_ n4_; clear hb ho20; have q21 : (t169 : Int) ≤ ((x5_1.length : Int) : Int) := of_decide_eq_true (by first | (with_reducible assumption) | assumption); obtain ⟨i021, hi021, _, hsz21, _⟩ := info_parts info3; have hroom21 : x5_1.length ≤ co17 := (Kd.R_reads' HO_5.out).2.1; have hC21 : Kd.C (Kd.int .i64) _ Ao17 x5_1.length x5_1 := (Kd.R_reads' HO_5.out).2.2; have hcut21 := cut_to (P := Try.prog) 23 3 .i64 Try.underlying23 hi021 Ao17 x5_1.length co17 t169 (of_decide_eq_true (by first | (with_reducible assumption) | assumption)) q21 hroom21; have hr21 := Kd.C_take (m := (t169 : Int).toNat) hC21 (by omega); have hy21 : y174.length = (t169 : Int).toNat := (by rw [Ny174.out, List.length_take]; omega); rw [← Ny174.out] at hr21; rw [← hy21] at hcut21; have HR177 := zM hr21; have HC177 := zM (show y174.length ≤ co17 from by omega); clear hr21 hC21 hroom21 hi021 hsz21; have KY21 := zM hy21;clear hy21; have KL21 := zM (show (t169 : Int).toNat ≤ x5_1.length from by omega); replace q21 := eq_true q21) | ((with_reducible refine gate_builtin (b := .append) (xs := #[.tmp 30, .tmp 33]) rfl ?_); at_builtin; refine Kd.R_append_rows (Kd.int .i64) w.heap.size rfl (.tmp 30) (.tmp 33) 23 3 (.int .i64 0) 8 rfl Try.underlying23 info3 rfl (by decide) (by omega) v172 y171 y174 _ _ _ (fun k_ => some k_ ≠ (.slice Ao17 x5_1.length co17 : Value).ownBlock) (fun _ => False) rfl rfl ?aO ?aR (fun _ _ h => h) (fun _ h => h.elim) ?aF (Below.refl _ _) ?aS ?aL ?_; (case aR => repeat (first | exact (by repeat (first | (with_reducible exact HR177.out) | (with_reducible refine Kd.C_alloc ?_ _) | (with_reducible refine Kd.C_drewN ?_ _) | (with_reducible refine Kd.C_drew ?_) | exact HR177.out)) | (with_reducible refine Kd.C_alloc ?_ _) | (with_reducible refine Kd.C_drewN ?_ _) | (with_reducible refine Kd.C_drew ?_))); (case aF => exact (fun k_ hk => Kd.fresh' (Kd.R_lt (by exact HO_5.out)) k_ hk)); (case aO => exact (by exact Kd.R_mono HO173.out (fun _ h=>h.2))); (case aS => exact (keep_size (w := w) (g := g) (row := none) (by repeat (first | (with_reducible first | exact HK.out | apply zK | apply keep_drewN | apply keep_drew | apply keep_alloc) | exact HK.out)))); (case aL => have := LMc12.out; omega); intro v179 w22 ho hb hg hat; rw [← Ny178.out] at ho;have n0_:=zM (Kd.R_after (ok := (fun _ => True)) (by exact HO_5.out) hg hat);have n1_:=zM (Z107.grown (by repeat (first | (with_reducible first | exact HI0.out | apply Z107.alloc | apply Z107.drewN | apply Z107.drew | apply Z107.set_1) | exact HI0.out)) hg (Z107.own_ne HI0.out HO173.out (by decide)));have n2_:=zM (below_weaken (by repeat (first | (with_reducible first | exact HB.out | apply zB | apply zA | apply zC | refine zD ?_ (Z107.ge HI0.out)) | exact HB.out)) HL.out hb);have n3_:=zM (KeepBut.trans (by repeat (first | (with_reducible first | exact HK.out | apply zK | apply keep_drewN | apply keep_drew | apply keep_alloc) | exact HK.out)) (KeepBut.of_grown hg g) (Kd.R_base2 HO173.out));have n4_:=zM ((show Kd.C (Kd.int .i64) w22 Ao17 y174.length y174 from by rw [Ny174.out]; exact Kd.C_take (m := (t169 : Int).toNat) ((Kd.R_reads' (Kd.R_after (ok := (fun _ => True)) (by exact HO_5.out) hg hat)).2.2) KL21.out));have n5_:=zM (ho);clear HO_5; clear HI0;clear HB; clear HK;clear HR177; clear HO173; have HO_5 := n0_; have HI0 := n1_; have HB := n2_; have HK := n3_; have HR177 := n4_; have HO180 := n5_; clear n0_ n1_ n2_ n3_ n4_ n5_; clear ho hb hg hat) | ((with_reducible refine gate_builtin (b := .append) (xs := #[.tmp 35, .tmp 37]) rfl ?_); at_builtin; refine Kd.R_append (Kd.int .i64) w.heap.size rfl (.tmp 35) (.tmp 37) 23 3 (.int .i64 0) 8 rfl Try.underlying23 info3 rfl (by decide) (by omega) v179 y178 x7_1 [.int .i64 x7_1] (fun k_ => some k_ ≠ (.slice Ao17 x5_1.length co17 : Value).ownBlock) (fun _ => False) rfl rfl ?aP (fun _ hk => hk.elim) ?aF ?aO (Below.refl _ _) ?aS ?aL ?_; (case aP => exact rfl); (case aF => exact (fun k_ hk => Kd.fresh' (Kd.R_lt (by exact HO_5.out)) k_ hk)); (case aO => exact (by exact HO180.out)); (case aS => exact (keep_size (w := w) (g := g) (row := none) (by repeat (first | (with_reducible first | exact HK.out | apply zK | apply keep_drewN | apply keep_drew | apply keep_alloc) | exact HK.out)))); (case aL => have := LMc13.out; omega); intro v182 w23 ho hb hg hat; rw [← Ny181.out] at ho;have n0_:=zM (Kd.R_after (ok := (fun _ => True)) (by exact HO_5.out) hg hat);have n1_:=zM (Z107.grown (by repeat (first | (with_reducible first | exact HI0.out | apply Z107.alloc | apply Z107.drewN | apply Z107.drew | apply Z107.set_1) | exact HI0.out)) hg (Z107.own_ne HI0.out HO180.out (by decide)));have n2_:=zM (below_weaken (by repeat (first | (with_reducible first | exact HB.out | apply zB | apply zA | apply zC | refine zD ?_ (Z107.ge HI0.out)) | exact HB.out)) HL.out hb);have n3_:=zM (KeepBut.trans (by repeat (first | (with_reducible first | exact HK.out | apply zK | apply keep_drewN | apply keep_drew | apply keep_alloc) | exact HK.out)) (KeepBut.of_grown hg g) (Kd.R_base2 HO180.out));have n4_:=zM ((show Kd.C (Kd.int .i64) w23 Ao17 y174.length y174 from by rw [Ny174.out]; exact Kd.C_take (m := (t169 : Int).toNat) ((Kd.R_reads' (Kd.R_after (ok := (fun _ => True)) (by exact HO_5.out) hg hat)).2.2) KL21.out));have n5_:=zM (ho);clear HO_5; clear HI0;clear HB; clear HK;clear HR177; clear HO180; have HO_5 := n0_; have HI0 := n1_; have HB := n2_; have HK := n3_; have HR177 := n4_; have HO183 := n5_; clear n0_ n1_ n2_ n3_ n4_ n5_; clear ho hb hg hat; have q24 : (t169 : Int) ≤ ((x5_1.length : Int) : Int) := of_decide_eq_true (by first | (with_reducible assumption) | assumption); obtain ⟨i024, hi024, _, hsz24, _⟩ := info_parts info3; have hroom24 : x5_1.length ≤ co17 := (Kd.R_reads' HO_5.out).2.1; have hC24 : Kd.C (Kd.int .i64) _ Ao17 x5_1.length x5_1 := (Kd.R_reads' HO_5.out).2.2; have q024 : (0 : Int) ≤ (t169 : Int) := of_decide_eq_true (by first | (with_reducible assumption) | assumption); have hcut24 := cut_from (P := Try.prog) 23 3 .i64 Try.underlying23 hi024 1 hsz24 Ao17 x5_1.length co17 t169 q024 q24; have hr24 := Kd.C_drop (m := (t169 : Int).toNat) (c := co17) hC24 (by omega) hroom24; obtain ⟨A24, hA24⟩ : ∃ A1, A1 = (if co17 = (t169 : Int).toNat then Ao17 else (Ao17 : Option Addr).map (·.add ((t169 : Int).toNat * 1))) := ⟨_, rfl⟩; obtain ⟨c24, hc24⟩ : ∃ c1, c1 = co17 - (t169 : Int).toNat := ⟨_, rfl⟩; have hy24 : y184.length = x5_1.length - (t169 : Int).toNat := (by rw [Ny184.out, List.length_drop] <;> omega); rw [show (x5_1).drop (t169 : Int).toNat = y184 from Ny184.out.symm] at hr24; replace hr24 : Kd.C (Kd.int .i64) _ A24 y184.length y184 := (by rw [hA24]; exact hr24); rw [← hy24, ← hA24, ← hc24] at hcut24; have HR187 := zM hr24; have HC187 := zM (show y184.length ≤ c24 from by rw [hy24, hc24]; exact Nat.sub_le_sub_right hroom24 _); clear hr24 hC24 hroom24 hi024 hsz24 hc24; have KY24 := zM hy24; have KA24 := zM hA24; clear hy24 hA24; have KL24 := zM (show (t169 : Int).toNat ≤ x5_1.length from by omega); replace q24 := eq_true q24) | ((with_reducible refine gate_builtin (b := .append) (xs := #[.tmp 39, .tmp 42]) rfl ?_); at_builtin; refine Kd.R_append_rows (Kd.int .i64) w.heap.size rfl (.tmp 39) (.tmp 42) 23 3 (.int .i64 0) 8 rfl Try.underlying23 info3 rfl (by decide) (by omega) v182 y181 y184 _ _ _ (fun k_ => some k_ ≠ (.slice Ao17 x5_1.length co17 : Value).ownBlock) (fun _ => False) rfl rfl ?aO ?aR (fun _ _ h => h) (fun _ h => h.elim) ?aF (Below.refl _ _) ?aS ?aL ?_; (case aR => repeat (first | exact (by repeat (first | (with_reducible exact HR187.out) | (with_reducible refine Kd.C_alloc ?_ _) | (with_reducible refine Kd.C_drewN ?_ _) | (with_reducible refine Kd.C_drew ?_) | exact HR187.out)) | (with_reducible refine Kd.C_alloc ?_ _) | (with_reducible refine Kd.C_drewN ?_ _) | (with_reducible refine Kd.C_drew ?_))); (case aF => exact (fun k_ hk => Kd.fresh' (Kd.R_lt (by exact HO_5.out)) k_ hk)); (case aO => exact (by exact HO183.out)); (case aS => exact (keep_size (w := w) (g := g) (row := none) (by repeat (first | (with_reducible first | exact HK.out | apply zK | apply keep_drewN | apply keep_drew | apply keep_alloc) | exact HK.out)))); (case aL => have := LMc16.out; omega); intro v189 w25 ho hb hg hat; rw [← Ny188.out] at ho;have n0_:=zM (Kd.R_after (ok := (fun _ => True)) (by exact HO_5.out) hg hat);have n1_:=zM (Z107.grown (by repeat (first | (with_reducible first | exact HI0.out | apply Z107.alloc | apply Z107.drewN | apply Z107.drew | apply Z107.set_1) | exact HI0.out)) hg (Z107.own_ne HI0.out HO183.out (by decide)));have n2_:=zM (below_weaken (by repeat (first | (with_reducible first | exact HB.out | apply zB | apply zA | apply zC | refine zD ?_ (Z107.ge HI0.out)) | exact HB.out)) HL.out hb);have n3_:=zM (KeepBut.trans (by repeat (first | (with_reducible first | exact HK.out | apply zK | apply keep_drewN | apply keep_drew | apply keep_alloc) | exact HK.out)) (KeepBut.of_grown hg g) (Kd.R_base2 HO183.out));have n4_:=zM ((show Kd.C (Kd.int .i64) w25 Ao17 y174.length y174 from by rw [Ny174.out]; exact Kd.C_take (m := (t169 : Int).toNat) ((Kd.R_reads' (Kd.R_after (ok := (fun _ => True)) (by exact HO_5.out) hg hat)).2.2) KL21.out));have n5_:=zM ((show Kd.C (Kd.int .i64) w25 A24 y184.length y184 from by rw [Ny184.out, KA24.out]; exact Kd.C_drop (m := (t169 : Int).toNat) (c := co17) ((Kd.R_reads' (Kd.R_after (ok := (fun _ => True)) (by exact HO_5.out) hg hat)).2.2) KL24.out ((Kd.R_reads' (Kd.R_after (ok := (fun _ => True)) (by exact HO_5.out) hg hat)).2.1)));have n6_:=zM (ho);clear HO_5; clear HI0;clear HB; clear HK;clear HR177; clear HR187;clear HO183; have HO_5 := n0_; have HI0 := n1_; have HB := n2_; have HK := n3_; have HR177 := n4_; have HR187 := n5_; have HO190 := n6_; clear n0_ n1_ n2_ n3_ n4_ n5_ n6_; clear ho hb hg hat))
          go_roundg k1
          case measure => have := HK1.out; omega
          case rel => exact ⟨(y188), (wrap64 (x7_1 + 1)), (t170), (by first | rfl | (simp; done) | (simp [*]; done)), H', ⟨by have := HK1.out; omega⟩, ⟨by exact Kd.R_mono HO190.out (fun _ hk => trivial)⟩, ⟨by repeat (first | (with_reducible first | exact HI0.out | apply Z107.alloc | apply Z107.drewN | apply Z107.drew | apply Z107.set_1) | exact HI0.out)⟩, ⟨by repeat (first | (with_reducible first | exact HK.out | apply zK | apply keep_drewN | apply keep_drew | apply keep_alloc) | exact HK.out)⟩, ⟨by repeat (first | (with_reducible first | exact HB.out | apply zB | apply zA | apply zC | refine zD ?_ (Z107.ge HI0.out)) | exact HB.out)⟩⟩
         ·rw [if_neg c16] at H
          exact absurd H (by simp)
        ·rw [if_neg c13] at H
         exact absurd H (by simp)
       ·rw [if_neg c12] at H
        exact absurd H (by simp)
      ·rw [if_neg c11] at H
       exact absurd H (by simp)
     ·rw [if_neg c10] at H
      exact absurd H (by simp)
    ·rw [if_neg c8] at H
     have c8b0 : (t167 == 0) = false := beq_eq_false_iff_ne.mpr c8
     have c8b1 : (t167 != 0) = true := bne_iff_ne.mpr c8
     replace H := Option.bind_eq_some_iff.mp H
     obtain ⟨⟨t191, t192⟩, A260, H⟩ := H
     replace H : (if t191 = 0 then ((spec_l20Rd_pick.f k1 s0_0 t192 x7_1).bind fun bt193 => ((some (([] : List Int) : List Int)).bind fun y195 => (if 0 ≤ bt193.1 then (if bt193.1 ≤ (x5_1.length : Int) then ((some (x5_1.take (bt193.1 : Int).toNat : List Int)).bind fun y198 => (if y195.length + y198.length < 17592186044416 then ((some (y195 ++ y198 : List Int)).bind fun y202 => (if y202.length < 17592186044416 then ((some (y202 ++ [x7_1] : List Int)).bind fun y205 => ((some (x5_1.drop (bt193.1 : Int).toNat : List Int)).bind fun y208 => (if y205.length + y208.length < 17592186044416 then (spec_l20Order.l0 k1 a1 (y205 ++ y208) t167 (wrap64 (x7_1 + 1)) s0_0 bt193.2) else (none)))) else (none))) else (none))) else (none)) else (none)))) else ((some (([] : List Int) : List Int)).bind fun y215 => (if 0 ≤ (x5_1.length : Int) then (if (x5_1.length : Int) ≤ (x5_1.length : Int) then ((some (x5_1.take ((x5_1.length : Int) : Int).toNat : List Int)).bind fun y218 => (if y215.length + y218.length < 17592186044416 then ((some (y215 ++ y218 : List Int)).bind fun y222 => (if y222.length < 17592186044416 then ((some (y222 ++ [x7_1] : List Int)).bind fun y225 => ((some (x5_1.drop ((x5_1.length : Int) : Int).toNat : List Int)).bind fun y228 => (if y225.length + y228.length < 17592186044416 then (spec_l20Order.l0 k1 a1 (y225 ++ y228) t167 (wrap64 (x7_1 + 1)) s0_0 t192) else (none)))) else (none))) else (none))) else (none)) else (none)))) = some (r1, r2) := H
     have A26 := zM A260
     clear A260
     by_cases c27 : t191 = 0
     ·rw [if_pos c27] at H
      have c27b0 : (t191 == 0) = true := beq_iff_eq.mpr c27
      have c27b1 : (t191 != 0) = false := bne_eq_false_iff_eq.mpr c27
      clear c27
      replace H := Option.bind_eq_some_iff.mp H
      obtain ⟨⟨t193, t194⟩, A280, H⟩ := H
      replace H : ((some (([] : List Int) : List Int)).bind fun y195 => (if 0 ≤ t193 then (if t193 ≤ (x5_1.length : Int) then ((some (x5_1.take (t193 : Int).toNat : List Int)).bind fun y198 => (if y195.length + y198.length < 17592186044416 then ((some (y195 ++ y198 : List Int)).bind fun y202 => (if y202.length < 17592186044416 then ((some (y202 ++ [x7_1] : List Int)).bind fun y205 => ((some (x5_1.drop (t193 : Int).toNat : List Int)).bind fun y208 => (if y205.length + y208.length < 17592186044416 then (spec_l20Order.l0 k1 a1 (y205 ++ y208) t167 (wrap64 (x7_1 + 1)) s0_0 t194) else (none)))) else (none))) else (none))) else (none)) else (none))) = some (r1, r2) := H
      have A28 := zM A280
      clear A280
      obtain ⟨y195, hy195⟩ : ∃ y_ : List Int, y_ = (([] : List Int)) := ⟨_, rfl⟩
      replace H : (if 0 ≤ t193 then (if t193 ≤ (x5_1.length : Int) then ((some (x5_1.take (t193 : Int).toNat : List Int)).bind fun y198 => (if y195.length + y198.length < 17592186044416 then ((some (y195 ++ y198 : List Int)).bind fun y202 => (if y202.length < 17592186044416 then ((some (y202 ++ [x7_1] : List Int)).bind fun y205 => ((some (x5_1.drop (t193 : Int).toNat : List Int)).bind fun y208 => (if y205.length + y208.length < 17592186044416 then (spec_l20Order.l0 k1 a1 (y205 ++ y208) t167 (wrap64 (x7_1 + 1)) s0_0 t194) else (none)))) else (none))) else (none))) else (none)) else (none)) = some (r1, r2) := by first | (rw [hy195]; with_reducible exact H) | (have H2_ := (Option.bind_some _ _).symm.trans H; rw [hy195]; with_reducible exact H2_) | (have H2_ := (Option.bind_some _ _).symm.trans H; with_reducible exact H2_) | with_reducible exact H | (rw [hy195]; exact H) | exact H
      have Ny195 := zM hy195
      clear hy195
      by_cases c29 : 0 ≤ t193
      ·rw [if_pos c29] at H
       have c29b0 := eq_true c29
       have c29b1 : decide (0 ≤ t193) = true := decide_eq_true c29
       clear c29
       by_cases c30 : t193 ≤ (x5_1.length : Int)
       ·rw [if_pos c30] at H
        have c30b0 := eq_true c30
        have c30b1 : decide (t193 ≤ (x5_1.length : Int)) = true := decide_eq_true c30
        clear c30
        obtain ⟨y198, hy198⟩ : ∃ y_ : List Int, y_ = (x5_1.take (t193 : Int).toNat) := ⟨_, rfl⟩
        replace H : (if y195.length + y198.length < 17592186044416 then ((some (y195 ++ y198 : List Int)).bind fun y202 => (if y202.length < 17592186044416 then ((some (y202 ++ [x7_1] : List Int)).bind fun y205 => ((some (x5_1.drop (t193 : Int).toNat : List Int)).bind fun y208 => (if y205.length + y208.length < 17592186044416 then (spec_l20Order.l0 k1 a1 (y205 ++ y208) t167 (wrap64 (x7_1 + 1)) s0_0 t194) else (none)))) else (none))) else (none)) = some (r1, r2) := by first | (rw [hy198]; with_reducible exact H) | (have H2_ := (Option.bind_some _ _).symm.trans H; rw [hy198]; with_reducible exact H2_) | (have H2_ := (Option.bind_some _ _).symm.trans H; with_reducible exact H2_) | with_reducible exact H | (rw [hy198]; exact H) | exact H
        have Ny198 := zM hy198
        clear hy198
        by_cases c31 : y195.length + y198.length < 17592186044416
        ·rw [if_pos c31] at H
         have LMc31 := zM c31
         clear c31
         obtain ⟨y202, hy202⟩ : ∃ y_ : List Int, y_ = (y195 ++ y198) := ⟨_, rfl⟩
         replace H : (if y202.length < 17592186044416 then ((some (y202 ++ [x7_1] : List Int)).bind fun y205 => ((some (x5_1.drop (t193 : Int).toNat : List Int)).bind fun y208 => (if y205.length + y208.length < 17592186044416 then (spec_l20Order.l0 k1 a1 (y205 ++ y208) t167 (wrap64 (x7_1 + 1)) s0_0 t194) else (none)))) else (none)) = some (r1, r2) := by first | (rw [hy202]; with_reducible exact H) | (have H2_ := (Option.bind_some _ _).symm.trans H; rw [hy202]; with_reducible exact H2_) | (have H2_ := (Option.bind_some _ _).symm.trans H; with_reducible exact H2_) | with_reducible exact H | (rw [hy202]; exact H) | exact H
         have Ny202 := zM hy202
         clear hy202
         by_cases c32 : y202.length < 17592186044416
         ·rw [if_pos c32] at H
          have LMc32 := zM c32
          clear c32
          obtain ⟨y205, hy205⟩ : ∃ y_ : List Int, y_ = (y202 ++ [x7_1]) := ⟨_, rfl⟩
          replace H : ((some (x5_1.drop (t193 : Int).toNat : List Int)).bind fun y208 => (if y205.length + y208.length < 17592186044416 then (spec_l20Order.l0 k1 a1 (y205 ++ y208) t167 (wrap64 (x7_1 + 1)) s0_0 t194) else (none))) = some (r1, r2) := by first | (rw [hy205]; with_reducible exact H) | (have H2_ := (Option.bind_some _ _).symm.trans H; rw [hy205]; with_reducible exact H2_) | (have H2_ := (Option.bind_some _ _).symm.trans H; with_reducible exact H2_) | with_reducible exact H | (rw [hy205]; exact H) | exact H
          have Ny205 := zM hy205
          clear hy205
          have c33b0 := eq_true (of_decide_eq_true (by first | (with_reducible assumption) | assumption) : 0 ≤ t193)
          have c34b0 := eq_true (of_decide_eq_true (by first | (with_reducible assumption) | assumption) : t193 ≤ (x5_1.length : Int))
          obtain ⟨y208, hy208⟩ : ∃ y_ : List Int, y_ = (x5_1.drop (t193 : Int).toNat) := ⟨_, rfl⟩
          replace H : (if y205.length + y208.length < 17592186044416 then (spec_l20Order.l0 k1 a1 (y205 ++ y208) t167 (wrap64 (x7_1 + 1)) s0_0 t194) else (none)) = some (r1, r2) := by first | (rw [hy208]; with_reducible exact H) | (have H2_ := (Option.bind_some _ _).symm.trans H; rw [hy208]; with_reducible exact H2_) | (have H2_ := (Option.bind_some _ _).symm.trans H; with_reducible exact H2_) | with_reducible exact H | (rw [hy208]; exact H) | exact H
          have Ny208 := zM hy208
          clear hy208
          by_cases c35 : y205.length + y208.length < 17592186044416
          ·rw [if_pos c35] at H
           have LMc35 := zM c35
           clear c35
           obtain ⟨y212, hy212⟩ : ∃ y_ : List Int, y_ = (y205 ++ y208) := ⟨_, rfl⟩
           replace H : (spec_l20Order.l0 k1 a1 y212 t167 (wrap64 (x7_1 + 1)) s0_0 t194) = some (r1, r2) := by first | (rw [hy212]; with_reducible exact H) | (have H2_ := (Option.bind_some _ _).symm.trans H; rw [hy212]; with_reducible exact H2_) | (have H2_ := (Option.bind_some _ _).symm.trans H; with_reducible exact H2_) | with_reducible exact H | (rw [hy212]; exact H) | exact H
           have Ny212 := zM hy212
           clear hy212
           have H' := zM H
           clear H
           obtain ⟨Ao36, co36, eo36⟩ := Kd.R_slice HO_5.out
           subst eo36
           go_wp2_with (first | (go_at_call 94; (with_reducible refine (spec_l20Rd_pick.calls k1 g s0_0 x1001_1 3 t191 t192 w0 _ ?side1 ?side2 A26.out).mono ?_); (case side1 => repeat (first | (with_reducible first | exact HI0.out | apply Z107.alloc | apply Z107.drewN | apply Z107.drew | apply Z107.set_1) | exact HI0.out)); (case side2 => repeat (first | (with_reducible first | exact HB.out | apply zB | apply zA | apply zC | refine zD ?_ (Z107.ge HI0.out)) | exact HB.out)); rintro e w37 ⟨rfl, hi, hb, hk⟩;have n0_:=zM (Kd.R_mono (Kd.R_keep (Z107.apart (show Z107 w0 _ g s0_0 x1001_1 from by repeat (first | (with_reducible first | exact HI0.out | apply Z107.alloc | apply Z107.drewN | apply Z107.drew | apply Z107.set_1) | exact HI0.out)) (by exact HO_5.out) (by decide)) hk (fun _ h => h.2)) (fun _ h => h.1));have n1_:=zM (KeepBut.trans (by repeat (first | (with_reducible first | exact HK.out | apply zK | apply keep_drewN | apply keep_drew | apply keep_alloc) | exact HK.out)) hk (.inl rfl));have n2_:=zM (hb);have n3_:=zM (hi);clear HO_5; clear HK;clear HB; clear HI0; have HO_5 := n0_; have HK := n1_; have HB := n2_; have HI0 := n3_; clear n0_ n1_ n2_ n3_; (try clear hb); (try clear hb2); (try clear hk); (try clear hi)) | ((with_reducible refine gate_callee (f := 94) rfl ?_); refine goesL_ (some 29) rfl rfl Try.func94 (by kernel_rfl) rfl #[.pointer (some ⟨g, 0, none⟩), .int .i64 x7_1] rfl (by (try simp only [List.map_toArray, List.map_cons, List.map_nil]); first | done | rfl | (simp only [List.length_drop, List.length_take]; rfl)) ?_; (with_reducible refine (spec_l20Rd_pick.calls k1 g s0_0 t192 x7_1 t193 t194 w0 _ ?side1 ?side2 A28.out).mono ?_); (case side1 => repeat (first | (with_reducible first | exact HI0.out | apply Z107.alloc | apply Z107.drewN | apply Z107.drew | apply Z107.set_1) | exact HI0.out)); (case side2 => repeat (first | (with_reducible first | exact HB.out | apply zB | apply zA | apply zC | refine zD ?_ (Z107.ge HI0.out)) | exact HB.out)); rintro e w38 ⟨rfl, hi, hb, hk⟩; refine ⟨_, rfl, ?_⟩;have n0_:=zM (Kd.R_mono (Kd.R_keep (Z107.apart (show Z107 w0 _ g s0_0 t192 from by repeat (first | (with_reducible first | exact HI0.out | apply Z107.alloc | apply Z107.drewN | apply Z107.drew | apply Z107.set_1) | exact HI0.out)) (by exact HO_5.out) (by decide)) hk (fun _ h => h.2)) (fun _ h => h.1));have n1_:=zM (KeepBut.trans (by repeat (first | (with_reducible first | exact HK.out | apply zK | apply keep_drewN | apply keep_drew | apply keep_alloc) | exact HK.out)) hk (.inl rfl));have n2_:=zM (hb);have n3_:=zM (hi);clear HO_5; clear HK;clear HB; clear HI0; have HO_5 := n0_; have HK := n1_; have HB := n2_; have HI0 := n3_; clear n0_ n1_ n2_ n3_; (try clear hb); (try clear hb2); (try clear hk); (try clear hi)) | ((with_reducible refine gate_dst (N := 30) rfl ?_); refine Kd.R_lit (Kd.int .i64) _ 3 ?hg (N := 30) ?hd (xs := ([] : List Int)) (inner := []) (ok := fun _ => True) (okp := fun _ => True) ?hr ?hp (fun _ hk => hk) trivial (Below.refl _ _) (Nat.le_refl _) (by simp) ?_; (case hd => rfl);(case hg => rfl);(case hr => first | (go_simp; done) | (go_simp; rfl)); (case hp => exact (Reps.none _ _)); intro v196 w39 ho40 hb hg_ hnew_; clear hg_ hnew_; (first | rw [← Ny195.out] at ho40 | (simp only [Int.reduceToNat] at ho40; rw [← Ny195.out] at ho40));have n0_:=zM (Kd.R_elder' (by exact HO_5.out) (Kd.R_base ho40) hb);have n1_:=zM (Kd.R_lower (Kd.R_new' ho40 (Kd.R_lt (by exact HO_5.out))) (keep_size (w := w) (g := g) (row := none) (by repeat (first | (with_reducible first | exact HK.out | apply zK | apply keep_drewN | apply keep_drew | apply keep_alloc) | exact HK.out))));have n2_:=zM (Z107.below (by repeat (first | (with_reducible first | exact HI0.out | apply Z107.alloc | apply Z107.drewN | apply Z107.drew | apply Z107.set_1) | exact HI0.out)) hb);have n3_:=zM (KeepBut.trans (by repeat (first | (with_reducible first | exact HK.out | apply zK | apply keep_drewN | apply keep_drew | apply keep_alloc) | exact HK.out)) (KeepBut.of_below hb g none) (.inl rfl));have n4_:=zM (below_step (by repeat (first | (with_reducible first | exact HB.out | apply zB | apply zA | apply zC | refine zD ?_ (Z107.ge HI0.out)) | exact HB.out)) hb);clear HO_5; clear HI0;clear HK; clear HB; have HO_5 := n0_; have HO197 := n1_; have HI0 := n2_; have HK := n3_; have HB := n4_; clear n0_ n1_ n2_ n3_ n4_; clear hb ho40; have q41 : (t193 : Int) ≤ ((x5_1.length : Int) : Int) := of_decide_eq_true (by first | (with_reducible assumption) | assumption); obtain ⟨i041, hi041, _, hsz41, _⟩ := info_parts info3; have hroom41 : x5_1.length ≤ co36 := (Kd.R_reads' HO_5.out).2.1; have hC41 : Kd.C (Kd.int .i64) _ Ao36 x5_1.length x5_1 := (Kd.R_reads' HO_5.out).2.2; have hcut41 := cut_to (P := Try.prog) 23 3 .i64 Try.underlying23 hi041 Ao36 x5_1.length co36 t193 (of_decide_eq_true (by first | (with_reducible assumption) | assumption)) q41 hroom41; have hr41 := Kd.C_take (m := (t193 : Int).toNat) hC41 (by omega); have hy41 : y198.length = (t193 : Int).toNat := (by rw [Ny198.out, List.length_take]; omega); rw [← Ny198.out] at hr41; rw [← hy41] at hcut41; have HR201 := zM hr41; have HC201 := zM (show y198.length ≤ co36 from by omega); clear hr41 hC41 hroom41 hi041 hsz41; have KY41 := zM hy41;clear hy41; have KL41 := zM (show (t193 : Int).toNat ≤ x5_1.length from by omega); replace q41 := eq_true q41) | ((with_reducible refine gate_builtin (b := .append) (xs := #[.tmp 30, .tmp 33]) rfl ?_); at_builtin; refine Kd.R_append_rows (Kd.int .i64) w.heap.size rfl (.tmp 30) (.tmp 33) 23 3 (.int .i64 0) 8 rfl Try.underlying23 info3 rfl (by decide) (by omega) v196 y195 y198 _ _ _ (fun k_ => some k_ ≠ (.slice Ao36 x5_1.length co36 : Value).ownBlock) (fun _ => False) rfl rfl ?aO ?aR (fun _ _ h => h) (fun _ h => h.elim) ?aF (Below.refl _ _) ?aS ?aL ?_; (case aR => repeat (first | exact (by repeat (first | (with_reducible exact HR201.out) | (with_reducible refine Kd.C_alloc ?_ _) | (with_reducible refine Kd.C_drewN ?_ _) | (with_reducible refine Kd.C_drew ?_) | exact HR201.out)) | (with_reducible refine Kd.C_alloc ?_ _) | (with_reducible refine Kd.C_drewN ?_ _) | (with_reducible refine Kd.C_drew ?_))); (case aF => exact (fun k_ hk => Kd.fresh' (Kd.R_lt (by exact HO_5.out)) k_ hk)); (case aO => exact (by exact Kd.R_mono HO197.out (fun _ h=>h.2))); (case aS => exact (keep_size (w := w) (g := g) (row := none) (by repeat (first | (with_reducible first | exact HK.out | apply zK | apply keep_drewN | apply keep_drew | apply keep_alloc) | exact HK.out)))); (case aL => have := LMc31.out; omega); intro v203 w42 ho hb hg hat; rw [← Ny202.out] at ho;have n0_:=zM (Kd.R_after (ok := (fun _ => True)) (by exact HO_5.out) hg hat);have n1_:=zM (Z107.grown (by repeat (first | (with_reducible first | exact HI0.out | apply Z107.alloc | apply Z107.drewN | apply Z107.drew | apply Z107.set_1) | exact HI0.out)) hg (Z107.own_ne HI0.out HO197.out (by decide)));have n2_:=zM (below_weaken (by repeat (first | (with_reducible first | exact HB.out | apply zB | apply zA | apply zC | refine zD ?_ (Z107.ge HI0.out)) | exact HB.out)) HL.out hb);have n3_:=zM (KeepBut.trans (by repeat (first | (with_reducible first | exact HK.out | apply zK | apply keep_drewN | apply keep_drew | apply keep_alloc) | exact HK.out)) (KeepBut.of_grown hg g) (Kd.R_base2 HO197.out));have n4_:=zM ((show Kd.C (Kd.int .i64) w42 Ao36 y198.length y198 from by rw [Ny198.out]; exact Kd.C_take (m := (t193 : Int).toNat) ((Kd.R_reads' (Kd.R_after (ok := (fun _ => True)) (by exact HO_5.out) hg hat)).2.2) KL41.out));have n5_:=zM (ho);clear HO_5; clear HI0;clear HB; clear HK;clear HR201; clear HO197; have HO_5 := n0_; have HI0 := n1_; have HB := n2_; have HK := n3_; have HR201 := n4_; have HO204 := n5_; clear n0_ n1_ n2_ n3_ n4_ n5_; clear ho hb hg hat) | ((with_reducible refine gate_builtin (b := .append) (xs := #[.tmp 35, .tmp 37]) rfl ?_); at_builtin; refine Kd.R_append (Kd.int .i64) w.heap.size rfl (.tmp 35) (.tmp 37) 23 3 (.int .i64 0) 8 rfl Try.underlying23 info3 rfl (by decide) (by omega) v203 y202 x7_1 [.int .i64 x7_1] (fun k_ => some k_ ≠ (.slice Ao36 x5_1.length co36 : Value).ownBlock) (fun _ => False) rfl rfl ?aP (fun _ hk => hk.elim) ?aF ?aO (Below.refl _ _) ?aS ?aL ?_; (case aP => exact rfl); (case aF => exact (fun k_ hk => Kd.fresh' (Kd.R_lt (by exact HO_5.out)) k_ hk)); (case aO => exact (by exact HO204.out)); (case aS => exact (keep_size (w := w) (g := g) (row := none) (by repeat (first | (with_reducible first | exact HK.out | apply zK | apply keep_drewN | apply keep_drew | apply keep_alloc) | exact HK.out)))); (case aL => have := LMc32.out; omega); intro v206 w43 ho hb hg hat; rw [← Ny205.out] at ho;have n0_:=zM (Kd.R_after (ok := (fun _ => True)) (by exact HO_5.out) hg hat);have n1_:=zM (Z107.grown (by repeat (first | (with_reducible first | exact HI0.out | apply Z107.alloc | apply Z107.drewN | apply Z107.drew | apply Z107.set_1) | exact HI0.out)) hg (Z107.own_ne HI0.out HO204.out (by decide)));have n2_:=zM (below_weaken (by repeat (first | (with_reducible first | exact HB.out | apply zB | apply zA | apply zC | refine zD ?_ (Z107.ge HI0.out)) | exact HB.out)) HL.out hb);have n3_:=zM (KeepBut.trans (by repeat (first | (with_reducible first | exact HK.out | apply zK | apply keep_drewN | apply keep_drew | apply keep_alloc) | exact HK.out)) (KeepBut.of_grown hg g) (Kd.R_base2 HO204.out));have n4_:=zM ((show Kd.C (Kd.int .i64) w43 Ao36 y198.length y198 from by rw [Ny198.out]; exact Kd.C_take (m := (t193 : Int).toNat) ((Kd.R_reads' (Kd.R_after (ok := (fun _ => True)) (by exact HO_5.out) hg hat)).2.2) KL41.out));have n5_:=zM (ho);clear HO_5; clear HI0;clear HB; clear HK;clear HR201; clear HO204; have HO_5 := n0_; have HI0 := n1_; have HB := n2_; have HK := n3_; have HR201 := n4_; have HO207 := n5_; clear n0_ n1_ n2_ n3_ n4_ n5_; clear ho hb hg hat; have q44 : (t193 : Int) ≤ ((x5_1.length : Int) : Int) := of_decide_eq_true (by first | (with_reducible assumption) | assumption); obtain ⟨i044, hi044, _, hsz44, _⟩ := info_parts info3; have hroom44 : x5_1.length ≤ co36 := (Kd.R_reads' HO_5.out).2.1; have hC44 : Kd.C (Kd.int .i64) _ Ao36 x5_1.length x5_1 := (Kd.R_reads' HO_5.out).2.2; have q044 : (0 : Int) ≤ (t193 : Int) := of_decide_eq_true (by first | (with_reducible assumption) | assumption); have hcut44 := cut_from (P := Try.prog) 23 3 .i64 Try.underlying23 hi044 1 hsz44 Ao36 x5_1.length co36 t193 q044 q44; have hr44 := Kd.C_drop (m := (t193 : Int).toNat) (c := co36) hC44 (by omega) hroom44; obtain ⟨A44, hA44⟩ : ∃ A1, A1 = (if co36 = (t193 : Int).toNat then Ao36 else (Ao36 : Option Addr).map (·.add ((t193 : Int).toNat * 1))) := ⟨_, rfl⟩; obtain ⟨c44, hc44⟩ : ∃ c1, c1 = co36 - (t193 : Int).toNat := ⟨_, rfl⟩; have hy44 : y208.length = x5_1.length - (t193 : Int).toNat := (by rw [Ny208.out, List.length_drop] <;> omega); rw [show (x5_1).drop (t193 : Int).toNat = y208 from Ny208.out.symm] at hr44; replace hr44 : Kd.C (Kd.int .i64) _ A44 y208.length y208 := (by rw [hA44]; exact hr44); rw [← hy44, ← hA44, ← hc44] at hcut44; have HR211 := zM hr44; have HC211 := zM (show y208.length ≤ c44 from by rw [hy44, hc44]; exact Nat.sub_le_sub_right hroom44 _); clear hr44 hC44 hroom44 hi044 hsz44 hc44; have KY44 := zM hy44; have KA44 := zM hA44; clear hy44 hA44; have KL44 := zM (show (t193 : Int).toNat ≤ x5_1.length from by omega); replace q44 := eq_true q44) | ((with_reducible refine gate_builtin (b := .append) (xs := #[.tmp 39, .tmp 42]) rfl ?_); at_builtin; refine Kd.R_append_rows (Kd.int .i64) w.heap.size rfl (.tmp 39) (.tmp 42) 23 3 (.int .i64 0) 8 rfl Try.underlying23 info3 rfl (by decide) (by omega) v206 y205 y208 _ _ _ (fun k_ => some k_ ≠ (.slice Ao36 x5_1.length co36 : Value).ownBlock) (fun _ => False) rfl rfl ?aO ?aR (fun _ _ h => h) (fun _ h => h.elim) ?aF (Below.refl _ _) ?aS ?aL ?_; (case aR => repeat (first | exact (by repeat (first | (with_reducible exact HR211.out) | (with_reducible refine Kd.C_alloc ?_ _) | (with_reducible refine Kd.C_drewN ?_ _) | (with_reducible refine Kd.C_drew ?_) | exact HR211.out)) | (with_reducible refine Kd.C_alloc ?_ _) | (with_reducible refine Kd.C_drewN ?_ _) | (with_reducible refine Kd.C_drew ?_))); (case aF => exact (fun k_ hk => Kd.fresh' (Kd.R_lt (by exact HO_5.out)) k_ hk)); (case aO => exact (by exact HO207.out)); (case aS => exact (keep_size (w := w) (g := g) (row := none) (by repeat (first | (with_reducible first | exact HK.out | apply zK | apply keep_drewN | apply keep_drew | apply keep_alloc) | exact HK.out)))); (case aL => have := LMc35.out; omega); intro v213 w45 ho hb hg hat; rw [← Ny212.out] at ho;have n0_:=zM (Kd.R_after (ok := (fun _ => True)) (by exact HO_5.out) hg hat);have n1_:=zM (Z107.grown (by repeat (first | (with_reducible first | exact HI0.out | apply Z107.alloc | apply Z107.drewN | apply Z107.drew | apply Z107.set_1) | exact HI0.out)) hg (Z107.own_ne HI0.out HO207.out (by decide)));have n2_:=zM (below_weaken (by repeat (first | (with_reducible first | exact HB.out | apply zB | apply zA | apply zC | refine zD ?_ (Z107.ge HI0.out)) | exact HB.out)) HL.out hb);have n3_:=zM (KeepBut.trans (by repeat (first | (with_reducible first | exact HK.out | apply zK | apply keep_drewN | apply keep_drew | apply keep_alloc) | exact HK.out)) (KeepBut.of_grown hg g) (Kd.R_base2 HO207.out));have n4_:=zM ((show Kd.C (Kd.int .i64) w45 Ao36 y198.length y198 from by rw [Ny198.out]; exact Kd.C_take (m := (t193 : Int).toNat) ((Kd.R_reads' (Kd.R_after (ok := (fun _ => True)) (by exact HO_5.out) hg hat)).2.2) KL41.out));have n5_:=zM ((show Kd.C (Kd.int .i64) w45 A44 y208.length y208 from by rw [Ny208.out, KA44.out]; exact Kd.C_drop (m := (t193 : Int).toNat) (c := co36) ((Kd.R_reads' (Kd.R_after (ok := (fun _ => True)) (by exact HO_5.out) hg hat)).2.2) KL44.out ((Kd.R_reads' (Kd.R_after (ok := (fun _ => True)) (by exact HO_5.out) hg hat)).2.1)));have n6_:=zM (ho);clear HO_5; clear HI0;clear HB; clear HK;clear HR201; clear HR211;clear HO207; have HO_5 := n0_; have HI0 := n1_; have HB := n2_; have HK := n3_; have HR201 := n4_; have HR211 := n5_; have HO214 := n6_; clear n0_ n1_ n2_ n3_ n4_ n5_ n6_; clear ho hb hg hat))
           go_roundg k1
           case measure => have := HK1.out; omega
           case rel => exact ⟨(y212), (wrap64 (x7_1 + 1)), (t194), (by first | rfl | (simp; done) | (simp [*]; done)), H', ⟨by have := HK1.out; omega⟩, ⟨by exact Kd.R_mono HO214.out (fun _ hk => trivial)⟩, ⟨by repeat (first | (with_reducible first | exact HI0.out | apply Z107.alloc | apply Z107.drewN | apply Z107.drew | apply Z107.set_1) | exact HI0.out)⟩, ⟨by repeat (first | (with_reducible first | exact HK.out | apply zK | apply keep_drewN | apply keep_drew | apply keep_alloc) | exact HK.out)⟩, ⟨by repeat (first | (with_reducible first | exact HB.out | apply zB | apply zA | apply zC | refine zD ?_ (Z107.ge HI0.out)) | exact HB.out)⟩⟩
          ·rw [if_neg c35] at H
           exact absurd H (by simp)
         ·rw [if_neg c32] at H
          exact absurd H (by simp)
        ·rw [if_neg c31] at H
         exact absurd H (by simp)
       ·rw [if_neg c30] at H
        exact absurd H (by simp)
      ·rw [if_neg c29] at H
       exact absurd H (by simp)
     ·rw [if_neg c27] at H
      have c27b0 : (t191 == 0) = false := beq_eq_false_iff_ne.mpr c27
      have c27b1 : (t191 != 0) = true := bne_iff_ne.mpr c27
      obtain ⟨y215, hy215⟩ : ∃ y_ : List Int, y_ = (([] : List Int)) := ⟨_, rfl⟩
      replace H : (if 0 ≤ (x5_1.length : Int) then (if (x5_1.length : Int) ≤ (x5_1.length : Int) then ((some (x5_1.take ((x5_1.length : Int) : Int).toNat : List Int)).bind fun y218 => (if y215.length + y218.length < 17592186044416 then ((some (y215 ++ y218 : List Int)).bind fun y222 => (if y222.length < 17592186044416 then ((some (y222 ++ [x7_1] : List Int)).bind fun y225 => ((some (x5_1.drop ((x5_1.length : Int) : Int).toNat : List Int)).bind fun y228 => (if y225.length + y228.length < 17592186044416 then (spec_l20Order.l0 k1 a1 (y225 ++ y228) t167 (wrap64 (x7_1 + 1)) s0_0 t192) else (none)))) else (none))) else (none))) else (none)) else (none)) = some (r1, r2) := by first | (rw [hy215]; with_reducible exact H) | (have H2_ := (Option.bind_some _ _).symm.trans H; rw [hy215]; with_reducible exact H2_) | (have H2_ := (Option.bind_some _ _).symm.trans H; with_reducible exact H2_) | with_reducible exact H | (rw [hy215]; exact H) | exact H
      have Ny215 := zM hy215
      clear hy215
      by_cases c46 : 0 ≤ (x5_1.length : Int)
      ·rw [if_pos c46] at H
       have c46b0 := eq_true c46
       have c46b1 : decide (0 ≤ (x5_1.length : Int)) = true := decide_eq_true c46
       clear c46
       by_cases c47 : (x5_1.length : Int) ≤ (x5_1.length : Int)
       ·rw [if_pos c47] at H
        have c47b0 := eq_true c47
        have c47b1 : decide ((x5_1.length : Int) ≤ (x5_1.length : Int)) = true := decide_eq_true c47
        clear c47
        obtain ⟨y218, hy218⟩ : ∃ y_ : List Int, y_ = (x5_1.take ((x5_1.length : Int) : Int).toNat) := ⟨_, rfl⟩
        replace H : (if y215.length + y218.length < 17592186044416 then ((some (y215 ++ y218 : List Int)).bind fun y222 => (if y222.length < 17592186044416 then ((some (y222 ++ [x7_1] : List Int)).bind fun y225 => ((some (x5_1.drop ((x5_1.length : Int) : Int).toNat : List Int)).bind fun y228 => (if y225.length + y228.length < 17592186044416 then (spec_l20Order.l0 k1 a1 (y225 ++ y228) t167 (wrap64 (x7_1 + 1)) s0_0 t192) else (none)))) else (none))) else (none)) = some (r1, r2) := by first | (rw [hy218]; with_reducible exact H) | (have H2_ := (Option.bind_some _ _).symm.trans H; rw [hy218]; with_reducible exact H2_) | (have H2_ := (Option.bind_some _ _).symm.trans H; with_reducible exact H2_) | with_reducible exact H | (rw [hy218]; exact H) | exact H
        have Ny218 := zM hy218
        clear hy218
        by_cases c48 : y215.length + y218.length < 17592186044416
        ·rw [if_pos c48] at H
         have LMc48 := zM c48
         clear c48
         obtain ⟨y222, hy222⟩ : ∃ y_ : List Int, y_ = (y215 ++ y218) := ⟨_, rfl⟩
         replace H : (if y222.length < 17592186044416 then ((some (y222 ++ [x7_1] : List Int)).bind fun y225 => ((some (x5_1.drop ((x5_1.length : Int) : Int).toNat : List Int)).bind fun y228 => (if y225.length + y228.length < 17592186044416 then (spec_l20Order.l0 k1 a1 (y225 ++ y228) t167 (wrap64 (x7_1 + 1)) s0_0 t192) else (none)))) else (none)) = some (r1, r2) := by first | (rw [hy222]; with_reducible exact H) | (have H2_ := (Option.bind_some _ _).symm.trans H; rw [hy222]; with_reducible exact H2_) | (have H2_ := (Option.bind_some _ _).symm.trans H; with_reducible exact H2_) | with_reducible exact H | (rw [hy222]; exact H) | exact H
         have Ny222 := zM hy222
         clear hy222
         by_cases c49 : y222.length < 17592186044416
         ·rw [if_pos c49] at H
          have LMc49 := zM c49
          clear c49
          obtain ⟨y225, hy225⟩ : ∃ y_ : List Int, y_ = (y222 ++ [x7_1]) := ⟨_, rfl⟩
          replace H : ((some (x5_1.drop ((x5_1.length : Int) : Int).toNat : List Int)).bind fun y228 => (if y225.length + y228.length < 17592186044416 then (spec_l20Order.l0 k1 a1 (y225 ++ y228) t167 (wrap64 (x7_1 + 1)) s0_0 t192) else (none))) = some (r1, r2) := by first | (rw [hy225]; with_reducible exact H) | (have H2_ := (Option.bind_some _ _).symm.trans H; rw [hy225]; with_reducible exact H2_) | (have H2_ := (Option.bind_some _ _).symm.trans H; with_reducible exact H2_) | with_reducible exact H | (rw [hy225]; exact H) | exact H
          have Ny225 := zM hy225
          clear hy225
          have c50b0 := eq_true (of_decide_eq_true (by first | (with_reducible assumption) | assumption) : 0 ≤ (x5_1.length : Int))
          have c51b0 := eq_true (of_decide_eq_true (by first | (with_reducible assumption) | assumption) : (x5_1.length : Int) ≤ (x5_1.length : Int))
          obtain ⟨y228, hy228⟩ : ∃ y_ : List Int, y_ = (x5_1.drop ((x5_1.length : Int) : Int).toNat) := ⟨_, rfl⟩
          replace H : (if y225.length + y228.length < 17592186044416 then (spec_l20Order.l0 k1 a1 (y225 ++ y228) t167 (wrap64 (x7_1 + 1)) s0_0 t192) else (none)) = some (r1, r2) := by first | (rw [hy228]; with_reducible exact H) | (have H2_ := (Option.bind_some _ _).symm.trans H; rw [hy228]; with_reducible exact H2_) | (have H2_ := (Option.bind_some _ _).symm.trans H; with_reducible exact H2_) | with_reducible exact H | (rw [hy228]; exact H) | exact H
          have Ny228 := zM hy228
          clear hy228
          by_cases c52 : y225.length + y228.length < 17592186044416
          ·rw [if_pos c52] at H
           have LMc52 := zM c52
           clear c52
           obtain ⟨y232, hy232⟩ : ∃ y_ : List Int, y_ = (y225 ++ y228) := ⟨_, rfl⟩
           replace H : (spec_l20Order.l0 k1 a1 y232 t167 (wrap64 (x7_1 + 1)) s0_0 t192) = some (r1, r2) := by first | (rw [hy232]; with_reducible exact H) | (have H2_ := (Option.bind_some _ _).symm.trans H; rw [hy232]; with_reducible exact H2_) | (have H2_ := (Option.bind_some _ _).symm.trans H; with_reducible exact H2_) | with_reducible exact H | (rw [hy232]; exact H) | exact H
           have Ny232 := zM hy232
           clear hy232
           have H' := zM H
           clear H
           obtain ⟨Ao53, co53, eo53⟩ := Kd.R_slice HO_5.out
           subst eo53
           go_wp2_with (first | (go_at_call 94; (with_reducible refine (spec_l20Rd_pick.calls k1 g s0_0 x1001_1 3 t191 t192 w0 _ ?side1 ?side2 A26.out).mono ?_); (case side1 => repeat (first | (with_reducible first | exact HI0.out | apply Z107.alloc | apply Z107.drewN | apply Z107.drew | apply Z107.set_1) | exact HI0.out)); (case side2 => repeat (first | (with_reducible first | exact HB.out | apply zB | apply zA | apply zC | refine zD ?_ (Z107.ge HI0.out)) | exact HB.out)); rintro e w54 ⟨rfl, hi, hb, hk⟩;have n0_:=zM (Kd.R_mono (Kd.R_keep (Z107.apart (show Z107 w0 _ g s0_0 x1001_1 from by repeat (first | (with_reducible first | exact HI0.out | apply Z107.alloc | apply Z107.drewN | apply Z107.drew | apply Z107.set_1) | exact HI0.out)) (by exact HO_5.out) (by decide)) hk (fun _ h => h.2)) (fun _ h => h.1));have n1_:=zM (KeepBut.trans (by repeat (first | (with_reducible first | exact HK.out | apply zK | apply keep_drewN | apply keep_drew | apply keep_alloc) | exact HK.out)) hk (.inl rfl));have n2_:=zM (hb);have n3_:=zM (hi);clear HO_5; clear HK;clear HB; clear HI0; have HO_5 := n0_; have HK := n1_; have HB := n2_; have HI0 := n3_; clear n0_ n1_ n2_ n3_; (try clear hb); (try clear hb2); (try clear hk); (try clear hi)) | ((with_reducible refine gate_dst (N := 30) rfl ?_); refine Kd.R_lit (Kd.int .i64) _ 3 ?hg (N := 30) ?hd (xs := ([] : List Int)) (inner := []) (ok := fun _ => True) (okp := fun _ => True) ?hr ?hp (fun _ hk => hk) trivial (Below.refl _ _) (Nat.le_refl _) (by simp) ?_; (case hd => rfl);(case hg => rfl);(case hr => first | (go_simp; done) | (go_simp; rfl)); (case hp => exact (Reps.none _ _)); intro v216 w55 ho56 hb hg_ hnew_; clear hg_ hnew_; (first | rw [← Ny215.out] at ho56 | (simp only [Int.reduceToNat] at ho56; rw [← Ny215.out] at ho56));have n0_:=zM (Kd.R_elder' (by exact HO_5.out) (Kd.R_base ho56) hb);have n1_:=zM (Kd.R_lower (Kd.R_new' ho56 (Kd.R_lt (by exact HO_5.out))) (keep_size (w := w) (g := g) (row := none) (by repeat (first | (with_reducible first | exact HK.out | apply zK | apply keep_drewN | apply keep_drew | apply keep_alloc) | exact HK.out))));have n2_:=zM (Z107.below (by repeat (first | (with_reducible first | exact HI0.out | apply Z107.alloc | apply Z107.drewN | apply Z107.drew | apply Z107.set_1) | exact HI0.out)) hb);have n3_:=zM (KeepBut.trans (by repeat (first | (with_reducible first | exact HK.out | apply zK | apply keep_drewN | apply keep_drew | apply keep_alloc) | exact HK.out)) (KeepBut.of_below hb g none) (.inl rfl));have n4_:=zM (below_step (by repeat (first | (with_reducible first | exact HB.out | apply zB | apply zA | apply zC | refine zD ?_ (Z107.ge HI0.out)) | exact HB.out)) hb);clear HO_5; clear HI0;clear HK; clear HB; have HO_5 := n0_; have HO217 := n1_; have HI0 := n2_; have HK := n3_; have HB := n4_; clear n0_ n1_ n2_ n3_ n4_; clear hb ho56; have q57 : ((x5_1.length : Int) : Int) ≤ ((x5_1.length : Int) : Int) := of_decide_eq_true (by first | (with_reducible assumption) | assumption); obtain ⟨i057, hi057, _, hsz57, _⟩ := info_parts info3; have hroom57 : x5_1.length ≤ co53 := (Kd.R_reads' HO_5.out).2.1; have hC57 : Kd.C (Kd.int .i64) _ Ao53 x5_1.length x5_1 := (Kd.R_reads' HO_5.out).2.2; have hcut57 := cut_to (P := Try.prog) 23 3 .i64 Try.underlying23 hi057 Ao53 x5_1.length co53 (x5_1.length : Int) (of_decide_eq_true (by first | (with_reducible assumption) | assumption)) q57 hroom57; have hr57 := Kd.C_take (m := ((x5_1.length : Int) : Int).toNat) hC57 (by omega); have hy57 : y218.length = ((x5_1.length : Int) : Int).toNat := (by rw [Ny218.out, List.length_take]; omega); rw [← Ny218.out] at hr57; rw [← hy57] at hcut57; have HR221 := zM hr57; have HC221 := zM (show y218.length ≤ co53 from by omega); clear hr57 hC57 hroom57 hi057 hsz57; have KY57 := zM hy57;clear hy57; have KL57 := zM (show ((x5_1.length : Int) : Int).toNat ≤ x5_1.length from by omega); replace q57 := eq_true q57) | ((with_reducible refine gate_builtin (b := .append) (xs := #[.tmp 30, .tmp 33]) rfl ?_); at_builtin; refine Kd.R_append_rows (Kd.int .i64) w.heap.size rfl (.tmp 30) (.tmp 33) 23 3 (.int .i64 0) 8 rfl Try.underlying23 info3 rfl (by decide) (by omega) v216 y215 y218 _ _ _ (fun k_ => some k_ ≠ (.slice Ao53 x5_1.length co53 : Value).ownBlock) (fun _ => False) rfl rfl ?aO ?aR (fun _ _ h => h) (fun _ h => h.elim) ?aF (Below.refl _ _) ?aS ?aL ?_; (case aR => repeat (first | exact (by repeat (first | (with_reducible exact HR221.out) | (with_reducible refine Kd.C_alloc ?_ _) | (with_reducible refine Kd.C_drewN ?_ _) | (with_reducible refine Kd.C_drew ?_) | exact HR221.out)) | (with_reducible refine Kd.C_alloc ?_ _) | (with_reducible refine Kd.C_drewN ?_ _) | (with_reducible refine Kd.C_drew ?_))); (case aF => exact (fun k_ hk => Kd.fresh' (Kd.R_lt (by exact HO_5.out)) k_ hk)); (case aO => exact (by exact Kd.R_mono HO217.out (fun _ h=>h.2))); (case aS => exact (keep_size (w := w) (g := g) (row := none) (by repeat (first | (with_reducible first | exact HK.out | apply zK | apply keep_drewN | apply keep_drew | apply keep_alloc) | exact HK.out)))); (case aL => have := LMc48.out; omega); intro v223 w58 ho hb hg hat; rw [← Ny222.out] at ho;have n0_:=zM (Kd.R_after (ok := (fun _ => True)) (by exact HO_5.out) hg hat);have n1_:=zM (Z107.grown (by repeat (first | (with_reducible first | exact HI0.out | apply Z107.alloc | apply Z107.drewN | apply Z107.drew | apply Z107.set_1) | exact HI0.out)) hg (Z107.own_ne HI0.out HO217.out (by decide)));have n2_:=zM (below_weaken (by repeat (first | (with_reducible first | exact HB.out | apply zB | apply zA | apply zC | refine zD ?_ (Z107.ge HI0.out)) | exact HB.out)) HL.out hb);have n3_:=zM (KeepBut.trans (by repeat (first | (with_reducible first | exact HK.out | apply zK | apply keep_drewN | apply keep_drew | apply keep_alloc) | exact HK.out)) (KeepBut.of_grown hg g) (Kd.R_base2 HO217.out));have n4_:=zM ((show Kd.C (Kd.int .i64) w58 Ao53 y218.length y218 from by rw [Ny218.out]; exact Kd.C_take (m := ((x5_1.length : Int) : Int).toNat) ((Kd.R_reads' (Kd.R_after (ok := (fun _ => True)) (by exact HO_5.out) hg hat)).2.2) KL57.out));have n5_:=zM (ho);clear HO_5; clear HI0;clear HB; clear HK;clear HR221; clear HO217; have HO_5 := n0_; have HI0 := n1_; have HB := n2_; have HK := n3_; have HR221 := n4_; have HO224 := n5_; clear n0_ n1_ n2_ n3_ n4_ n5_; clear ho hb hg hat) | ((with_reducible refine gate_builtin (b := .append) (xs := #[.tmp 35, .tmp 37]) rfl ?_); at_builtin; refine Kd.R_append (Kd.int .i64) w.heap.size rfl (.tmp 35) (.tmp 37) 23 3 (.int .i64 0) 8 rfl Try.underlying23 info3 rfl (by decide) (by omega) v223 y222 x7_1 [.int .i64 x7_1] (fun k_ => some k_ ≠ (.slice Ao53 x5_1.length co53 : Value).ownBlock) (fun _ => False) rfl rfl ?aP (fun _ hk => hk.elim) ?aF ?aO (Below.refl _ _) ?aS ?aL ?_; (case aP => exact rfl); (case aF => exact (fun k_ hk => Kd.fresh' (Kd.R_lt (by exact HO_5.out)) k_ hk)); (case aO => exact (by exact HO224.out)); (case aS => exact (keep_size (w := w) (g := g) (row := none) (by repeat (first | (with_reducible first | exact HK.out | apply zK | apply keep_drewN | apply keep_drew | apply keep_alloc) | exact HK.out)))); (case aL => have := LMc49.out; omega); intro v226 w59 ho hb hg hat; rw [← Ny225.out] at ho;have n0_:=zM (Kd.R_after (ok := (fun _ => True)) (by exact HO_5.out) hg hat);have n1_:=zM (Z107.grown (by repeat (first | (with_reducible first | exact HI0.out | apply Z107.alloc | apply Z107.drewN | apply Z107.drew | apply Z107.set_1) | exact HI0.out)) hg (Z107.own_ne HI0.out HO224.out (by decide)));have n2_:=zM (below_weaken (by repeat (first | (with_reducible first | exact HB.out | apply zB | apply zA | apply zC | refine zD ?_ (Z107.ge HI0.out)) | exact HB.out)) HL.out hb);have n3_:=zM (KeepBut.trans (by repeat (first | (with_reducible first | exact HK.out | apply zK | apply keep_drewN | apply keep_drew | apply keep_alloc) | exact HK.out)) (KeepBut.of_grown hg g) (Kd.R_base2 HO224.out));have n4_:=zM ((show Kd.C (Kd.int .i64) w59 Ao53 y218.length y218 from by rw [Ny218.out]; exact Kd.C_take (m := ((x5_1.length : Int) : Int).toNat) ((Kd.R_reads' (Kd.R_after (ok := (fun _ => True)) (by exact HO_5.out) hg hat)).2.2) KL57.out));have n5_:=zM (ho);clear HO_5; clear HI0;clear HB; clear HK;clear HR221; clear HO224; have HO_5 := n0_; have HI0 := n1_; have HB := n2_; have HK := n3_; have HR221 := n4_; have HO227 := n5_; clear n0_ n1_ n2_ n3_ n4_ n5_; clear ho hb hg hat; have q60 : ((x5_1.length : Int) : Int) ≤ ((x5_1.length : Int) : Int) := of_decide_eq_true (by first | (with_reducible assumption) | assumption); obtain ⟨i060, hi060, _, hsz60, _⟩ := info_parts info3; have hroom60 : x5_1.length ≤ co53 := (Kd.R_reads' HO_5.out).2.1; have hC60 : Kd.C (Kd.int .i64) _ Ao53 x5_1.length x5_1 := (Kd.R_reads' HO_5.out).2.2; have q060 : (0 : Int) ≤ ((x5_1.length : Int) : Int) := of_decide_eq_true (by first | (with_reducible assumption) | assumption); have hcut60 := cut_from (P := Try.prog) 23 3 .i64 Try.underlying23 hi060 1 hsz60 Ao53 x5_1.length co53 (x5_1.length : Int) q060 q60; have hr60 := Kd.C_drop (m := ((x5_1.length : Int) : Int).toNat) (c := co53) hC60 (by omega) hroom60; obtain ⟨A60, hA60⟩ : ∃ A1, A1 = (if co53 = ((x5_1.length : Int) : Int).toNat then Ao53 else (Ao53 : Option Addr).map (·.add (((x5_1.length : Int) : Int).toNat * 1))) := ⟨_, rfl⟩; obtain ⟨c60, hc60⟩ : ∃ c1, c1 = co53 - ((x5_1.length : Int) : Int).toNat := ⟨_, rfl⟩; have hy60 : y228.length = x5_1.length - ((x5_1.length : Int) : Int).toNat := (by rw [Ny228.out, List.length_drop] <;> omega); rw [show (x5_1).drop ((x5_1.length : Int) : Int).toNat = y228 from Ny228.out.symm] at hr60; replace hr60 : Kd.C (Kd.int .i64) _ A60 y228.length y228 := (by rw [hA60]; exact hr60); rw [← hy60, ← hA60, ← hc60] at hcut60; have HR231 := zM hr60; have HC231 := zM (show y228.length ≤ c60 from by rw [hy60, hc60]; exact Nat.sub_le_sub_right hroom60 _); clear hr60 hC60 hroom60 hi060 hsz60 hc60; have KY60 := zM hy60; have KA60 := zM hA60; clear hy60 hA60; have KL60 := zM (show ((x5_1.length : Int) : Int).toNat ≤ x5_1.length from by omega); replace q60 := eq_true q60) | ((with_reducible refine gate_builtin (b := .append) (xs := #[.tmp 39, .tmp 42]) rfl ?_); at_builtin; refine Kd.R_append_rows (Kd.int .i64) w.heap.size rfl (.tmp 39) (.tmp 42) 23 3 (.int .i64 0) 8 rfl Try.underlying23 info3 rfl (by decide) (by omega) v226 y225 y228 _ _ _ (fun k_ => some k_ ≠ (.slice Ao53 x5_1.length co53 : Value).ownBlock) (fun _ => False) rfl rfl ?aO ?aR (fun _ _ h => h) (fun _ h => h.elim) ?aF (Below.refl _ _) ?aS ?aL ?_; (case aR => repeat (first | exact (by repeat (first | (with_reducible exact HR231.out) | (with_reducible refine Kd.C_alloc ?_ _) | (with_reducible refine Kd.C_drewN ?_ _) | (with_reducible refine Kd.C_drew ?_) | exact HR231.out)) | (with_reducible refine Kd.C_alloc ?_ _) | (with_reducible refine Kd.C_drewN ?_ _) | (with_reducible refine Kd.C_drew ?_))); (case aF => exact (fun k_ hk => Kd.fresh' (Kd.R_lt (by exact HO_5.out)) k_ hk)); (case aO => exact (by exact HO227.out)); (case aS => exact (keep_size (w := w) (g := g) (row := none) (by repeat (first | (with_reducible first | exact HK.out | apply zK | apply keep_drewN | apply keep_drew | apply keep_alloc) | exact HK.out)))); (case aL => have := LMc52.out; omega); intro v233 w61 ho hb hg hat; rw [← Ny232.out] at ho;have n0_:=zM (Kd.R_after (ok := (fun _ => True)) (by exact HO_5.out) hg hat);have n1_:=zM (Z107.grown (by repeat (first | (with_reducible first | exact HI0.out | apply Z107.alloc | apply Z107.drewN | apply Z107.drew | apply Z107.set_1) | exact HI0.out)) hg (Z107.own_ne HI0.out HO227.out (by decide)));have n2_:=zM (below_weaken (by repeat (first | (with_reducible first | exact HB.out | apply zB | apply zA | apply zC | refine zD ?_ (Z107.ge HI0.out)) | exact HB.out)) HL.out hb);have n3_:=zM (KeepBut.trans (by repeat (first | (with_reducible first | exact HK.out | apply zK | apply keep_drewN | apply keep_drew | apply keep_alloc) | exact HK.out)) (KeepBut.of_grown hg g) (Kd.R_base2 HO227.out));have n4_:=zM ((show Kd.C (Kd.int .i64) w61 Ao53 y218.length y218 from by rw [Ny218.out]; exact Kd.C_take (m := ((x5_1.length : Int) : Int).toNat) ((Kd.R_reads' (Kd.R_after (ok := (fun _ => True)) (by exact HO_5.out) hg hat)).2.2) KL57.out));have n5_:=zM ((show Kd.C (Kd.int .i64) w61 A60 y228.length y228 from by rw [Ny228.out, KA60.out]; exact Kd.C_drop (m := ((x5_1.length : Int) : Int).toNat) (c := co53) ((Kd.R_reads' (Kd.R_after (ok := (fun _ => True)) (by exact HO_5.out) hg hat)).2.2) KL60.out ((Kd.R_reads' (Kd.R_after (ok := (fun _ => True)) (by exact HO_5.out) hg hat)).2.1)));have n6_:=zM (ho);clear HO_5; clear HI0;clear HB; clear HK;clear HR221; clear HR231;clear HO227; have HO_5 := n0_; have HI0 := n1_; have HB := n2_; have HK := n3_; have HR221 := n4_; have HR231 := n5_; have HO234 := n6_; clear n0_ n1_ n2_ n3_ n4_ n5_ n6_; clear ho hb hg hat))
           go_roundg k1
           case measure => have := HK1.out; omega
           case rel => exact ⟨(y232), (wrap64 (x7_1 + 1)), (t192), (by first | rfl | (simp; done) | (simp [*]; done)), H', ⟨by have := HK1.out; omega⟩, ⟨by exact Kd.R_mono HO234.out (fun _ hk => trivial)⟩, ⟨by repeat (first | (with_reducible first | exact HI0.out | apply Z107.alloc | apply Z107.drewN | apply Z107.drew | apply Z107.set_1) | exact HI0.out)⟩, ⟨by repeat (first | (with_reducible first | exact HK.out | apply zK | apply keep_drewN | apply keep_drew | apply keep_alloc) | exact HK.out)⟩, ⟨by repeat (first | (with_reducible first | exact HB.out | apply zB | apply zA | apply zC | refine zD ?_ (Z107.ge HI0.out)) | exact HB.out)⟩⟩
          ·rw [if_neg c52] at H
           exact absurd H (by simp)
         ·rw [if_neg c49] at H
          exact absurd H (by simp)
        ·rw [if_neg c48] at H
         exact absurd H (by simp)
       ·rw [if_neg c47] at H
        exact absurd H (by simp)
      ·rw [if_neg c46] at H
       exact absurd H (by simp)
   ·rw [if_neg c7] at H
    have c7b0 : decide (x7_1 ≤ a1) = false := decide_eq_false c7
    clear c7
    simp only [Option.some.injEq, Prod.mk.injEq] at H
    obtain ⟨rfl, rfl⟩ := H
    go_wp2
    go_ret
    exact ⟨_, by first | rfl | (simp [errW_none, errW_some] <;> rfl) | (simp [*, errW_none, errW_some] <;> rfl), by exact HO_5.out, by repeat (first | (with_reducible first | exact HI0.out | apply Z107.alloc | apply Z107.drewN | apply Z107.drew | apply Z107.set_1) | exact HI0.out), by repeat (first | (with_reducible first | exact HB.out | apply zB | apply zA | apply zC | refine zD ?_ (Z107.ge HI0.out)) | exact HB.out), by repeat (first | (with_reducible first | exact HK.out | apply zK | apply keep_drewN | apply keep_drew | apply keep_alloc) | exact HK.out)⟩

/-! ### spec_l20Rd_odd: function 100 -/
def spec_l20Rd_odd.f (k : Nat) (s0_0 : List Int) (s0_1 : Int) (a1 : Int) : Option (Bool × Int) := if a1 > 0 then ((spec_l20Rd_pick.f k s0_0 s0_1 a1).bind fun bt235 => (some ((bt235.1 == (wrap64 (a1 - 1))), bt235.2))) else (some (false, s0_1))
theorem spec_l20Rd_odd.mono : ∀ a0 a1 a2 k, LeO (spec_l20Rd_odd.f k a0 a1 a2) (spec_l20Rd_odd.f (k + 1) a0 a1 a2) := by
 intro a0 a1 a2 k
 unfold spec_l20Rd_odd.f
 repeat' first
   | (with_reducible exact spec_l20Rd_pick.mono _ _ _ _)
   | (with_reducible exact LeO.refl _)
   | (with_reducible exact LeO.none _)
   | (with_reducible refine LeO.ite ?_ ?_)
   | (with_reducible refine LeO.bind ?_ (fun _ => ?_))
   | refine LeO.ite ?_ ?_
   | refine LeO.bind ?_ (fun _ => ?_)
set_option maxHeartbeats 8000000 in
set_option maxRecDepth 100000 in
theorem spec_l20Rd_odd.calls (k : Nat) (g : Nat) (s0_0 : List Int) (s0_1 : Int) (a1 : Int) (r1 : Bool) (r2 : Int) (w0 w : World) (hI : Z107 w0 w g s0_0 s0_1) (hB : Below w0.heap.size w0 w) (h : spec_l20Rd_odd.f k s0_0 s0_1 a1 = some (r1, r2)) :
  Calls Try.prog 100 #[.pointer (some ⟨g, 0, none⟩), .int .i64 a1] w fun e w' => e = .returned (.bool r1) ∧ Z107 w0 w' g s0_0 r2 ∧ Below w0.heap.size w0 w' ∧ KeepBut w w' g none := by
 have HI0 := zM hI
 have HK := zM (KeepBut.refl w g none)
 have HL := zM hB.size
 clear hI
 have HW0 := zM hB.size
 have HB := zM hB
 clear hB
 have H : (if a1 > 0 then ((spec_l20Rd_pick.f k s0_0 s0_1 a1).bind fun bt235 => (some ((bt235.1 == (wrap64 (a1 - 1))), bt235.2))) else (some (false, s0_1))) = some (r1, r2) := h
 clear h
 by_cases c3 : a1 > 0
 ·rw [if_pos c3] at H
  have c3b0 : decide (0 < a1) = true := decide_eq_true c3
  clear c3
  replace H := Option.bind_eq_some_iff.mp H
  obtain ⟨⟨t235, t236⟩, A40, H⟩ := H
  replace H : (some ((t235 == (wrap64 (a1 - 1))), t236)) = some (r1, r2) := H
  have A4 := zM A40
  clear A40
  simp only [Option.some.injEq, Prod.mk.injEq] at H
  obtain ⟨rfl, rfl⟩ := H
  go_enter Try.func100, Try.ntmps100
  go_wp2_with (first | (go_at_call 94; (with_reducible refine (spec_l20Rd_pick.calls k g s0_0 s0_1 a1 t235 t236 w0 _ ?side1 ?side2 A4.out).mono ?_); (case side1 => repeat (first | (with_reducible first | exact HI0.out | apply Z107.alloc | apply Z107.drewN | apply Z107.drew | apply Z107.set_1) | exact HI0.out)); (case side2 => repeat (first | (with_reducible first | exact HB.out | apply zB | apply zA | apply zC | refine zD ?_ (Z107.ge HI0.out)) | exact HB.out)); rintro e w5 ⟨rfl, hi, hb, hk⟩;have n0_:=zM (KeepBut.trans (by repeat (first | (with_reducible first | exact HK.out | apply zK | apply keep_drewN | apply keep_drew | apply keep_alloc) | exact HK.out)) hk (.inl rfl));have n1_:=zM (hb);have n2_:=zM (hi);clear HK; clear HB;clear HI0; have HK := n0_; have HB := n1_; have HI0 := n2_; clear n0_ n1_ n2_; (try clear hb); (try clear hb2); (try clear hk); (try clear hi)))
  go_ret
  exact ⟨by first | rfl | (simp [errW_none, errW_some] <;> rfl) | (simp [*, errW_none, errW_some] <;> rfl), by repeat (first | (with_reducible first | exact HI0.out | apply Z107.alloc | apply Z107.drewN | apply Z107.drew | apply Z107.set_1) | exact HI0.out), by repeat (first | (with_reducible first | exact HB.out | apply zB | apply zA | apply zC | refine zD ?_ (Z107.ge HI0.out)) | exact HB.out), by repeat (first | (with_reducible first | exact HK.out | apply zK | apply keep_drewN | apply keep_drew | apply keep_alloc) | exact HK.out)⟩
 ·rw [if_neg c3] at H
  have c3b0 : decide (0 < a1) = false := decide_eq_false c3
  clear c3
  simp only [Option.some.injEq, Prod.mk.injEq] at H
  obtain ⟨rfl, rfl⟩ := H
  go_enter Try.func100, Try.ntmps100
  go_wp2
  go_ret
  exact ⟨by first | rfl | (simp [errW_none, errW_some] <;> rfl) | (simp [*, errW_none, errW_some] <;> rfl), by repeat (first | (with_reducible first | exact HI0.out | apply Z107.alloc | apply Z107.drewN | apply Z107.drew | apply Z107.set_1) | exact HI0.out), by repeat (first | (with_reducible first | exact HB.out | apply zB | apply zA | apply zC | refine zD ?_ (Z107.ge HI0.out)) | exact HB.out), by repeat (first | (with_reducible first | exact HK.out | apply zK | apply keep_drewN | apply keep_drew | apply keep_alloc) | exact HK.out)⟩

end Go.Proofs.Ytidimndhnagfeaa.LI
