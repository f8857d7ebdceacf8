/- Printed by a program of this session (wip/lp/lp.py) out of the translation: functions with the same answers as the Go code, and their contracts; no conditions beyond those that each theorem names. -/
import Derived.Test.YtopfhdhdpnenpaaDoorLHx0
import Derived.Test.YtopfhdhdpnenpaaDoorLHx5
namespace Go.Proofs.YtopfhdhdpnenpaaDoor.LH
open Go.RowKit Go.Proofs.YtopfhdhdpnenpaaDoorV.PrintWords Go.Proofs.YtopfhdhdpnenpaaDoorV.PrintLast Go.Proofs.YtopfhdhdpnenpaaDoorV.PrintMore
attribute [local go_sem] max2_int min2_int max_two min_two max_three min_three max_four min_four   -- for this text's walks alone
set_option linter.unusedVariables false
set_option linter.unusedSimpArgs false

/-! ### spec_l20Rd_pick: function 43 -/
def spec_l20Rd_pick.j0 : Nat → Int → Bool → List Int → Int → Option (Int × Int)
 | 0, _, _, _, _ => none
 | k + 1, x1, x24, x1000, x1001 => if x24 = true then (some (0, x1001)) else (if (wrap64 (x1001 - 1)) < (x1000.length : Int) then (if 0 ≤ (wrap64 (x1001 - 1)) then (if x1 = 0 then (none) else (some (Int.tmod (wrap64 (rd x1000 (wrap64 (x1001 - 1)))) x1, x1001))) else (none)) else (if (x1000.length : Int) = 0 then (none) else (if 0 ≤ (Int.tmod (wrap64 (x1001 - 1)) (x1000.length : Int)) then (if (Int.tmod (wrap64 (x1001 - 1)) (x1000.length : Int)) < (x1000.length : Int) then (if 0 ≤ (Int.tmod (wrap64 ((wrap64 ((wrap64 (x1001 - 1)) * 7)) + 3)) (x1000.length : Int)) then (if (Int.tmod (wrap64 ((wrap64 ((wrap64 (x1001 - 1)) * 7)) + 3)) (x1000.length : Int)) < (x1000.length : Int) then (if x1 = 0 then (none) else (some (Int.tmod (Go.bits .xor .i64 (wrap64 ((wrap64 ((wrap64 ((wrap64 ((wrap64 (rd x1000 (Int.tmod (wrap64 (x1001 - 1)) (x1000.length : Int)))) * 131)) + (wrap64 ((wrap64 (rd x1000 (Int.tmod (wrap64 ((wrap64 ((wrap64 (x1001 - 1)) * 7)) + 3)) (x1000.length : Int)))) * 1117)))) + (wrap64 ((wrap64 (x1001 - 1)) * 29)))) + (wrap64 ((wrap64 (Int.tdiv (wrap64 (x1001 - 1)) (x1000.length : Int))) * 53)))) (wrap64 (Int.tdiv (wrap64 ((wrap64 ((wrap64 ((wrap64 ((wrap64 (rd x1000 (Int.tmod (wrap64 (x1001 - 1)) (x1000.length : Int)))) * 131)) + (wrap64 ((wrap64 (rd x1000 (Int.tmod (wrap64 ((wrap64 ((wrap64 (x1001 - 1)) * 7)) + 3)) (x1000.length : Int)))) * 1117)))) + (wrap64 ((wrap64 (x1001 - 1)) * 29)))) + (wrap64 ((wrap64 (Int.tdiv (wrap64 (x1001 - 1)) (x1000.length : Int))) * 53)))) 64))) x1, x1001))) else (none)) else (none)) else (none)) else (none))))
def spec_l20Rd_pick.f (k : Nat) (s0_0 : List Int) (s0_1 : Int) (a1 : Int) : Option (Int × Int) := if a1 < 1 then (spec_l20Rd_pick.j0 k a1 true s0_0 (wrap64 (s0_1 + 1))) else (spec_l20Rd_pick.j0 k a1 ((s0_0.length : Int) == 0) s0_0 (wrap64 (s0_1 + 1)))
theorem spec_l20Rd_pick.mono_l : ∀ k, (∀ y0 y1 y2 y3, LeO (spec_l20Rd_pick.j0 k y0 y1 y2 y3) (spec_l20Rd_pick.j0 (k + 1) y0 y1 y2 y3))
 | 0 => fun _ _ _ _ r h => by simp [spec_l20Rd_pick.j0] at h
 | k + 1 => by
  have ih0 := spec_l20Rd_pick.mono_l k
  ·intro y0 y1 y2 y3
   unfold spec_l20Rd_pick.j0
   repeat' first
   | (with_reducible exact ih0 _ _ _ _)
   | (with_reducible exact LeO.refl _)
   | (with_reducible exact LeO.none _)
   | (with_reducible refine LeO.ite ?_ ?_)
   | (with_reducible refine LeO.bind ?_ (fun _ => ?_))
   | refine LeO.ite ?_ ?_
   | refine LeO.bind ?_ (fun _ => ?_)
theorem spec_l20Rd_pick.mono : ∀ a0 a1 a2 k, LeO (spec_l20Rd_pick.f k a0 a1 a2) (spec_l20Rd_pick.f (k + 1) a0 a1 a2) := by
 intro a0 a1 a2 k
 have ih0 := spec_l20Rd_pick.mono_l k
 unfold spec_l20Rd_pick.f
 repeat' first
   | (with_reducible exact ih0 _ _ _ _)
   | (with_reducible exact LeO.refl _)
   | (with_reducible exact LeO.none _)
   | (with_reducible refine LeO.ite ?_ ?_)
   | (with_reducible refine LeO.bind ?_ (fun _ => ?_))
   | refine LeO.ite ?_ ?_
   | refine LeO.bind ?_ (fun _ => ?_)
set_option maxHeartbeats 8000000 in
set_option maxRecDepth 100000 in
theorem spec_l20Rd_pick.calls (k : Nat) (g : Nat) (s0_0 : List Int) (s0_1 : Int) (a1 : Int) (r1 : Int) (r2 : Int) (w0 w : World) (hI : IsS73 w0 w g s0_0 s0_1) (hB : Below w0.heap.size w0 w) (h : spec_l20Rd_pick.f k s0_0 s0_1 a1 = some (r1, r2)) :
  Calls Tryd.prog 43 #[.pointer (some ⟨g, 0, none⟩), .int .i64 a1] w fun e w' => e = .returned (.int .i64 r1) ∧ IsS73 w0 w' g s0_0 r2 ∧ Below w0.heap.size w0 w' ∧ KeepBut w w' g none := by
 have HI0:=zM hI
 have HK:=zM (KeepBut.refl w g none)
 have HL:=zM hB.size
 clear hI
 have HW0:=zM hB.size
 have HB:=zM hB
 clear hB
 have H : (if a1 < 1 then (spec_l20Rd_pick.j0 k a1 true s0_0 (wrap64 (s0_1 + 1))) else (spec_l20Rd_pick.j0 k a1 ((s0_0.length : Int) == 0) s0_0 (wrap64 (s0_1 + 1)))) = some (r1, r2) := h
 clear h
 have HC3:=zM H
 clear H
 obtain ⟨ASz4_0, cSz4_0, HGz4, hgz4, HSz4_0⟩ := HI0.out
 have hcz4_0 := cellS73_0 HGz4
 have hcz4_1 := cellS73_1 HGz4
 have hfz4_1 := blk_frozen HGz4 1
 clear HGz4 hgz4
 go_enter Tryd.func43, Tryd.ntmps43
 go_upto_region 2 with (fail)
 repeat (go_quiet (fail); go_upto_region 2 with (fail))
 go_cut [24] (fun v24 wc => ∃ (kq : Nat) (x24_2 : Bool), v24 = .bool x24_2 ∧ Aside0 (spec_l20Rd_pick.j0 kq a1 x24_2 s0_0 (wrap64 (s0_1 + 1)) = some (r1, r2)) ∧ Aside0 (kq ≤ k) ∧ Aside0 (IsS73 w0 wc g s0_0 (wrap64 (s0_1 + 1))) ∧ Aside0 (KeepBut w wc g none) ∧ Aside0 (Below w0.heap.size w0 wc))
 case first =>
  have H := HC3.out
  clear HC3
  by_cases c5 : a1 < 1
  ·rw [if_pos c5] at H
   have c5b0 : decide (a1 < 1) = true := decide_eq_true c5
   clear c5
   (first | rw [c5b0] | (simp only [i64_w, i32_w]; rw [c5b0]) | skip)
   have H':=zM H
   clear H
   go_wp2
   repeat (go_quiet (fail); try go_wp2)
   go_meet
   case rel => exact ⟨_, (true), (by first | rfl | (simp; done) | (simp [*]; done)), H', ⟨by first | omega | exact Nat.le_refl _⟩, ⟨(q7 HI0.out)⟩, ⟨(q8 HK.out)⟩, ⟨(q9 HB.out HI0.out)⟩⟩
  ·rw [if_neg c5] at H
   have c5b0 : decide (a1 < 1) = false := decide_eq_false c5
   clear c5
   (first | rw [c5b0] | (simp only [i64_w, i32_w]; rw [c5b0]) | skip)
   have H':=zM H
   clear H
   obtain ⟨ASz6_0, cSz6_0, HGz6, hgz6, HSz6_0⟩ := HI0.out
   have hcz6_0 := cellS73_0 HGz6
   have hcz6_1 := cellS73_1 HGz6
   have hfz6_1 := blk_frozen HGz6 1
   clear HGz6 hgz6
   go_wp2
   repeat (go_quiet (fail); try go_wp2)
   go_meet
   case rel => exact ⟨_, (((s0_0.length : Int) == 0)), (by first | rfl | (simp; done) | (simp [*]; done)), H', ⟨by first | omega | exact Nat.le_refl _⟩, ⟨(q7 HI0.out)⟩, ⟨(q8 HK.out)⟩, ⟨(q9 HB.out HI0.out)⟩⟩
 case rest =>
  clear HC3
  try clear p2
  try clear c4
  try clear c5
  try clear c5b0
  try clear p6
  try clear hcz4_0
  try clear hcz4_1
  try clear hcz6_0
  try clear hcz6_1
  try clear hfz4_1
  try clear hfz6_1
  obtain ⟨kq, x24_2, rfl, HA, HJ2, HI0, HK, HB⟩ := hcut
  cases kq with
  | zero => exact absurd HA.out (by simp [spec_l20Rd_pick.j0])
  | succ kj2 =>
   have H := HA.out
   clear HA
   simp only [spec_l20Rd_pick.j0] at H
   by_cases c7 : x24_2 = true
   ·subst c7
    have H1 : (some (0, (wrap64 (s0_1 + 1)))) = some (r1, r2) := by rw [if_pos rfl] at H; exact H
    clear H
    have H := H1
    clear H1
    simp only [Option.some.injEq, Prod.mk.injEq] at H
    obtain ⟨rfl, rfl⟩ := H
    go_wp2
    repeat (go_quiet (fail); try go_wp2)
    go_ret
    exact ⟨by first | rfl | (simp [errW_none, errW_some] <;> rfl) | (simp [*, errW_none, errW_some] <;> rfl), (q7 HI0.out), (q9 HB.out HI0.out), (q8 HK.out)⟩
   ·replace c7 := Bool.eq_false_iff.mpr c7
    subst c7
    have H1 : (if (wrap64 ((wrap64 (s0_1 + 1)) - 1)) < (s0_0.length : Int) then (if 0 ≤ (wrap64 ((wrap64 (s0_1 + 1)) - 1)) then (if a1 = 0 then (none) else (some (Int.tmod (wrap64 (rd s0_0 (wrap64 ((wrap64 (s0_1 + 1)) - 1)))) a1, (wrap64 (s0_1 + 1))))) else (none)) else (if (s0_0.length : Int) = 0 then (none) else (if 0 ≤ (Int.tmod (wrap64 ((wrap64 (s0_1 + 1)) - 1)) (s0_0.length : Int)) then (if (Int.tmod (wrap64 ((wrap64 (s0_1 + 1)) - 1)) (s0_0.length : Int)) < (s0_0.length : Int) then (if 0 ≤ (Int.tmod (wrap64 ((wrap64 ((wrap64 ((wrap64 (s0_1 + 1)) - 1)) * 7)) + 3)) (s0_0.length : Int)) then (if (Int.tmod (wrap64 ((wrap64 ((wrap64 ((wrap64 (s0_1 + 1)) - 1)) * 7)) + 3)) (s0_0.length : Int)) < (s0_0.length : Int) then (if a1 = 0 then (none) else (some (Int.tmod (Go.bits .xor .i64 (wrap64 ((wrap64 ((wrap64 ((wrap64 ((wrap64 (rd s0_0 (Int.tmod (wrap64 ((wrap64 (s0_1 + 1)) - 1)) (s0_0.length : Int)))) * 131)) + (wrap64 ((wrap64 (rd s0_0 (Int.tmod (wrap64 ((wrap64 ((wrap64 ((wrap64 (s0_1 + 1)) - 1)) * 7)) + 3)) (s0_0.length : Int)))) * 1117)))) + (wrap64 ((wrap64 ((wrap64 (s0_1 + 1)) - 1)) * 29)))) + (wrap64 ((wrap64 (Int.tdiv (wrap64 ((wrap64 (s0_1 + 1)) - 1)) (s0_0.length : Int))) * 53)))) (wrap64 (Int.tdiv (wrap64 ((wrap64 ((wrap64 ((wrap64 ((wrap64 (rd s0_0 (Int.tmod (wrap64 ((wrap64 (s0_1 + 1)) - 1)) (s0_0.length : Int)))) * 131)) + (wrap64 ((wrap64 (rd s0_0 (Int.tmod (wrap64 ((wrap64 ((wrap64 ((wrap64 (s0_1 + 1)) - 1)) * 7)) + 3)) (s0_0.length : Int)))) * 1117)))) + (wrap64 ((wrap64 ((wrap64 (s0_1 + 1)) - 1)) * 29)))) + (wrap64 ((wrap64 (Int.tdiv (wrap64 ((wrap64 (s0_1 + 1)) - 1)) (s0_0.length : Int))) * 53)))) 64))) a1, (wrap64 (s0_1 + 1))))) else (none)) else (none)) else (none)) else (none)))) = some (r1, r2) := by rw [if_neg (show ¬ (false = true) by decide)] at H; exact H
    clear H
    have H := H1
    clear H1
    by_cases c8 : (wrap64 ((wrap64 (s0_1 + 1)) - 1)) < (s0_0.length : Int)
    ·rw [if_pos c8] at H
     have c8b0 : decide ((wrap64 ((wrap64 (s0_1 + 1)) - 1)) < (s0_0.length : Int)) = true := decide_eq_true c8
     clear c8
     obtain ⟨ji9, hji9⟩ : ∃ j_ : Int, (wrap64 ((wrap64 (s0_1 + 1)) - 1)) = j_ := ⟨_, rfl⟩
     replace H : (if 0 ≤ (ji9) then (if a1 = 0 then (none) else (some (Int.tmod (wrap64 (rd s0_0 (ji9))) a1, (wrap64 (s0_1 + 1))))) else (none)) = some (r1, r2) := by first | (rw [hji9] at H; exact H) | (simp only [hji9] at H ⊢; exact H)
     (try rw [hji9] at c8b0)
     have hji9w : (IntKind.i64.wrap ((wrap64 (s0_1 + 1)) - 1)) = ji9 := (i64_w _).trans hji9
     by_cases c10 : 0 ≤ (ji9)
     ·rw [if_pos c10] at H
      have c10b0 : decide (0 ≤ (ji9)) = true := decide_eq_true c10
      clear c10
      by_cases c11 : a1 = 0
      ·rw [if_pos c11] at H
       exact absurd H (by simp)
      ·rw [if_neg c11] at H
       have c11b0 : (a1 == 0) = false := beq_eq_false_iff_ne.mpr c11
       have c11b1 : (a1 != 0) = true := bne_iff_ne.mpr c11
       simp only [Option.some.injEq, Prod.mk.injEq] at H
       obtain ⟨rfl, rfl⟩ := H
       obtain ⟨ASz12_0, cSz12_0, HGz12, hgz12, HSz12_0⟩ := HI0.out
       have hcz12_0 := cellS73_0 HGz12
       have hcz12_1 := cellS73_1 HGz12
       have hfz12_1 := blk_frozen HGz12 1
       clear HGz12 hgz12
       have p142 : 0 ≤ ((ji9) : Int) := of_decide_eq_true (by first | (with_reducible assumption) | assumption)
       have q142 : (ji9) < (s0_0.length : Int) := of_decide_eq_true (by first | (with_reducible assumption) | assumption)
       obtain ⟨ad142, e142, hx142_0⟩ := Kd.at_int HSz12_0 (ji9) p142 q142
       cases e142
       replace hx142_0 := pw_cell_below HB.out hx142_0
       replace p142 := eq_true p142
       replace q142 := eq_true q142
       go_wp2
       repeat (go_quiet (fail); try go_wp2)
       go_ret
       exact ⟨by first | rfl | (simp [errW_none, errW_some] <;> rfl) | (simp only [← hji9]; first | rfl | (simp [errW_none, errW_some] <;> rfl)) | (simp [*, errW_none, errW_some] <;> rfl), (q7 HI0.out), (q9 HB.out HI0.out), (q8 HK.out)⟩
     ·rw [if_neg c10] at H
      exact absurd H (by simp)
    ·rw [if_neg c8] at H
     have c8b0 : decide ((wrap64 ((wrap64 (s0_1 + 1)) - 1)) < (s0_0.length : Int)) = false := decide_eq_false c8
     clear c8
     by_cases c13 : (s0_0.length : Int) = 0
     ·rw [if_pos c13] at H
      exact absurd H (by simp)
     ·rw [if_neg c13] at H
      have c13b0 : ((s0_0.length : Int) == 0) = false := beq_eq_false_iff_ne.mpr c13
      have c13b1 : ((s0_0.length : Int) != 0) = true := bne_iff_ne.mpr c13
      have c13b2 : ¬ (s0_0 = []) := fun h_ => c13 (by rw [h_]; rfl)
      obtain ⟨ji14, hji14⟩ : ∃ j_ : Int, (Int.tmod (wrap64 ((wrap64 (s0_1 + 1)) - 1)) (s0_0.length : Int)) = j_ := ⟨_, rfl⟩
      replace H : (if 0 ≤ (ji14) then (if (ji14) < (s0_0.length : Int) then (if 0 ≤ (Int.tmod (wrap64 ((wrap64 ((wrap64 ((wrap64 (s0_1 + 1)) - 1)) * 7)) + 3)) (s0_0.length : Int)) then (if (Int.tmod (wrap64 ((wrap64 ((wrap64 ((wrap64 (s0_1 + 1)) - 1)) * 7)) + 3)) (s0_0.length : Int)) < (s0_0.length : Int) then (if a1 = 0 then (none) else (some (Int.tmod (Go.bits .xor .i64 (wrap64 ((wrap64 ((wrap64 ((wrap64 ((wrap64 (rd s0_0 (ji14))) * 131)) + (wrap64 ((wrap64 (rd s0_0 (Int.tmod (wrap64 ((wrap64 ((wrap64 ((wrap64 (s0_1 + 1)) - 1)) * 7)) + 3)) (s0_0.length : Int)))) * 1117)))) + (wrap64 ((wrap64 ((wrap64 (s0_1 + 1)) - 1)) * 29)))) + (wrap64 ((wrap64 (Int.tdiv (wrap64 ((wrap64 (s0_1 + 1)) - 1)) (s0_0.length : Int))) * 53)))) (wrap64 (Int.tdiv (wrap64 ((wrap64 ((wrap64 ((wrap64 ((wrap64 (rd s0_0 (ji14))) * 131)) + (wrap64 ((wrap64 (rd s0_0 (Int.tmod (wrap64 ((wrap64 ((wrap64 ((wrap64 (s0_1 + 1)) - 1)) * 7)) + 3)) (s0_0.length : Int)))) * 1117)))) + (wrap64 ((wrap64 ((wrap64 (s0_1 + 1)) - 1)) * 29)))) + (wrap64 ((wrap64 (Int.tdiv (wrap64 ((wrap64 (s0_1 + 1)) - 1)) (s0_0.length : Int))) * 53)))) 64))) a1, (wrap64 (s0_1 + 1))))) else (none)) else (none)) else (none)) else (none)) = some (r1, r2) := by first | (rw [hji14] at H; exact H) | (simp only [hji14] at H ⊢; exact H)
      by_cases c15 : 0 ≤ (ji14)
      ·rw [if_pos c15] at H
       have c15b0 : decide (0 ≤ (ji14)) = true := decide_eq_true c15
       clear c15
       by_cases c16 : (ji14) < (s0_0.length : Int)
       ·rw [if_pos c16] at H
        have c16b0 : decide ((ji14) < (s0_0.length : Int)) = true := decide_eq_true c16
        clear c16
        obtain ⟨ji17, hji17⟩ : ∃ j_ : Int, (Int.tmod (wrap64 ((wrap64 ((wrap64 ((wrap64 (s0_1 + 1)) - 1)) * 7)) + 3)) (s0_0.length : Int)) = j_ := ⟨_, rfl⟩
        replace H : (if 0 ≤ (ji17) then (if (ji17) < (s0_0.length : Int) then (if a1 = 0 then (none) else (some (Int.tmod (Go.bits .xor .i64 (wrap64 ((wrap64 ((wrap64 ((wrap64 ((wrap64 (rd s0_0 (ji14))) * 131)) + (wrap64 ((wrap64 (rd s0_0 (ji17))) * 1117)))) + (wrap64 ((wrap64 ((wrap64 (s0_1 + 1)) - 1)) * 29)))) + (wrap64 ((wrap64 (Int.tdiv (wrap64 ((wrap64 (s0_1 + 1)) - 1)) (s0_0.length : Int))) * 53)))) (wrap64 (Int.tdiv (wrap64 ((wrap64 ((wrap64 ((wrap64 ((wrap64 (rd s0_0 (ji14))) * 131)) + (wrap64 ((wrap64 (rd s0_0 (ji17))) * 1117)))) + (wrap64 ((wrap64 ((wrap64 (s0_1 + 1)) - 1)) * 29)))) + (wrap64 ((wrap64 (Int.tdiv (wrap64 ((wrap64 (s0_1 + 1)) - 1)) (s0_0.length : Int))) * 53)))) 64))) a1, (wrap64 (s0_1 + 1))))) else (none)) else (none)) = some (r1, r2) := by first | (rw [hji17] at H; exact H) | (simp only [hji17] at H ⊢; exact H)
        by_cases c18 : 0 ≤ (ji17)
        ·rw [if_pos c18] at H
         have c18b0 : decide (0 ≤ (ji17)) = true := decide_eq_true c18
         clear c18
         by_cases c19 : (ji17) < (s0_0.length : Int)
         ·rw [if_pos c19] at H
          have c19b0 : decide ((ji17) < (s0_0.length : Int)) = true := decide_eq_true c19
          clear c19
          by_cases c20 : a1 = 0
          ·rw [if_pos c20] at H
           exact absurd H (by simp)
          ·rw [if_neg c20] at H
           have c20b0 : (a1 == 0) = false := beq_eq_false_iff_ne.mpr c20
           have c20b1 : (a1 != 0) = true := bne_iff_ne.mpr c20
           simp only [Option.some.injEq, Prod.mk.injEq] at H
           obtain ⟨rfl, rfl⟩ := H
           obtain ⟨ASz21_0, cSz21_0, HGz21, hgz21, HSz21_0⟩ := HI0.out
           have hcz21_0 := cellS73_0 HGz21
           have hcz21_1 := cellS73_1 HGz21
           have hfz21_1 := blk_frozen HGz21 1
           clear HGz21 hgz21
           have p143 : 0 ≤ ((ji14) : Int) := of_decide_eq_true (by first | (with_reducible assumption) | assumption)
           have q143 : (ji14) < (s0_0.length : Int) := of_decide_eq_true (by first | (with_reducible assumption) | assumption)
           obtain ⟨ad143, e143, hx143_0⟩ := Kd.at_int HSz21_0 (ji14) p143 q143
           cases e143
           replace hx143_0 := pw_cell_below HB.out hx143_0
           replace p143 := eq_true p143
           replace q143 := eq_true q143
           have p144 : 0 ≤ ((ji17) : Int) := of_decide_eq_true (by first | (with_reducible assumption) | assumption)
           have q144 : (ji17) < (s0_0.length : Int) := of_decide_eq_true (by first | (with_reducible assumption) | assumption)
           obtain ⟨ad144, e144, hx144_0⟩ := Kd.at_int HSz21_0 (ji17) p144 q144
           obtain rfl : ad143 = ad144 := (by injection e144)
           replace hx144_0 := pw_cell_below HB.out hx144_0
           replace p144 := eq_true p144
           replace q144 := eq_true q144
           go_wp2
           repeat (go_quiet (fail); try go_wp2)
           go_ret
           exact ⟨by first | rfl | (simp [errW_none, errW_some] <;> rfl) | (simp only [← hji14, ← hji17]; first | rfl | (simp [errW_none, errW_some] <;> rfl)) | (simp [*, errW_none, errW_some] <;> rfl), (q7 HI0.out), (q9 HB.out HI0.out), (q8 HK.out)⟩
         ·rw [if_neg c19] at H
          exact absurd H (by simp)
        ·rw [if_neg c18] at H
         exact absurd H (by simp)
       ·rw [if_neg c16] at H
        exact absurd H (by simp)
      ·rw [if_neg c15] at H
       exact absurd H (by simp)

/-! ### spec_l20Rd_odd: function 46 -/
def spec_l20Rd_odd.f (k : Nat) (s0_0 : List Int) (s0_1 : Int) (a1 : Int) : Option (Bool × Int) := if a1 > 0 then ((spec_l20Rd_pick.f k s0_0 s0_1 a1).bind fun bt145 => (some ((bt145.1 == (wrap64 (a1 - 1))), bt145.2))) else (some (false, s0_1))
theorem spec_l20Rd_odd.mono : ∀ a0 a1 a2 k, LeO (spec_l20Rd_odd.f k a0 a1 a2) (spec_l20Rd_odd.f (k + 1) a0 a1 a2) := by
 intro a0 a1 a2 k
 unfold spec_l20Rd_odd.f
 repeat' first
   | (with_reducible exact spec_l20Rd_pick.mono _ _ _ _)
   | (with_reducible exact LeO.refl _)
   | (with_reducible exact LeO.none _)
   | (with_reducible refine LeO.ite ?_ ?_)
   | (with_reducible refine LeO.bind ?_ (fun _ => ?_))
   | refine LeO.ite ?_ ?_
   | refine LeO.bind ?_ (fun _ => ?_)
set_option maxHeartbeats 8000000 in
set_option maxRecDepth 100000 in
theorem spec_l20Rd_odd.calls (k : Nat) (g : Nat) (s0_0 : List Int) (s0_1 : Int) (a1 : Int) (r1 : Bool) (r2 : Int) (w0 w : World) (hI : IsS73 w0 w g s0_0 s0_1) (hB : Below w0.heap.size w0 w) (h : spec_l20Rd_odd.f k s0_0 s0_1 a1 = some (r1, r2)) :
  Calls Tryd.prog 46 #[.pointer (some ⟨g, 0, none⟩), .int .i64 a1] w fun e w' => e = .returned (.bool r1) ∧ IsS73 w0 w' g s0_0 r2 ∧ Below w0.heap.size w0 w' ∧ KeepBut w w' g none := by
 have HI0:=zM hI
 have HK:=zM (KeepBut.refl w g none)
 have HL:=zM hB.size
 clear hI
 have HW0:=zM hB.size
 have HB:=zM hB
 clear hB
 have H : (if a1 > 0 then ((spec_l20Rd_pick.f k s0_0 s0_1 a1).bind fun bt145 => (some ((bt145.1 == (wrap64 (a1 - 1))), bt145.2))) else (some (false, s0_1))) = some (r1, r2) := h
 clear h
 by_cases c3 : a1 > 0
 ·rw [if_pos c3] at H
  have c3b0 : decide (0 < a1) = true := decide_eq_true c3
  clear c3
  obtain ⟨⟨t145, t146⟩, A4, H⟩ := zb H; try dsimp only at H
  simp only [Option.some.injEq, Prod.mk.injEq] at H
  obtain ⟨rfl, rfl⟩ := H
  go_enter Tryd.func46, Tryd.ntmps46
  go_wp2_with (first | (go_at_call 43; (with_reducible refine (spec_l20Rd_pick.calls k g s0_0 s0_1 a1 t145 t146 w0 _ ?side1 ?side2 A4.out).mono ?_); (case side1 => exact (q7 HI0.out)); (case side2 => exact (q9 HB.out HI0.out)); rintro e w5 ⟨rfl, hi, hb, hk⟩; replace HK:=zM (KeepBut.trans (q8 HK.out) hk (.inl rfl)); replace HB:=zM (hb); replace HI0:=zM (hi); (try clear hb); (try clear hb2); (try clear hk); (try clear hi)))
  go_ret
  exact ⟨by first | rfl | (simp [errW_none, errW_some] <;> rfl) | (simp [*, errW_none, errW_some] <;> rfl), (q7 HI0.out), (q9 HB.out HI0.out), (q8 HK.out)⟩
 ·rw [if_neg c3] at H
  have c3b0 : decide (0 < a1) = false := decide_eq_false c3
  clear c3
  simp only [Option.some.injEq, Prod.mk.injEq] at H
  obtain ⟨rfl, rfl⟩ := H
  go_enter Tryd.func46, Tryd.ntmps46
  go_wp2
  go_ret
  exact ⟨by first | rfl | (simp [errW_none, errW_some] <;> rfl) | (simp [*, errW_none, errW_some] <;> rfl), (q7 HI0.out), (q9 HB.out HI0.out), (q8 HK.out)⟩

/-! ### spec_l20Order: function 53 -/
def spec_l20Order.l0 : Nat → Int → List Int → Int → Int → List Int → Int → Option (List Int × Int)
 | 0, _, _, _, _, _, _ => none
 | k + 1, x1, x5, x6, x7, x1000, x1001 => if x7 ≤ x1 then (if x6 = 0 then ((spec_l20Rd_pick.f k x1000 x1001 x7).bind fun bt152 => ((some (([] : List Int) : List Int)).bind fun y154 => (if 0 ≤ bt152.1 then (if bt152.1 ≤ (x5.length : Int) then ((some (x5.take (bt152.1 : Int).toNat : List Int)).bind fun y157 => (if y154.length + y157.length < 17592186044416 then ((some (y154 ++ y157 : List Int)).bind fun y161 => (if y161.length < 17592186044416 then ((some (y161 ++ [x7] : List Int)).bind fun y164 => ((some (x5.drop (bt152.1 : Int).toNat : List Int)).bind fun y167 => (if y164.length + y167.length < 17592186044416 then (spec_l20Order.l0 k x1 (y164 ++ y167) x6 (wrap64 (x7 + 1)) x1000 bt152.2) else (none)))) else (none))) else (none))) else (none)) else (none)))) else ((spec_l20Rd_pick.f k x1000 x1001 3).bind fun bt174 => (if bt174.1 = 0 then ((spec_l20Rd_pick.f k x1000 bt174.2 x7).bind fun bt176 => ((some (([] : List Int) : List Int)).bind fun y178 => (if 0 ≤ bt176.1 then (if bt176.1 ≤ (x5.length : Int) then ((some (x5.take (bt176.1 : Int).toNat : List Int)).bind fun y181 => (if y178.length + y181.length < 17592186044416 then ((some (y178 ++ y181 : List Int)).bind fun y185 => (if y185.length < 17592186044416 then ((some (y185 ++ [x7] : List Int)).bind fun y188 => ((some (x5.drop (bt176.1 : Int).toNat : List Int)).bind fun y191 => (if y188.length + y191.length < 17592186044416 then (spec_l20Order.l0 k x1 (y188 ++ y191) x6 (wrap64 (x7 + 1)) x1000 bt176.2) else (none)))) else (none))) else (none))) else (none)) else (none)))) else ((some (([] : List Int) : List Int)).bind fun y198 => (if 0 ≤ (x5.length : Int) then (if (x5.length : Int) ≤ (x5.length : Int) then ((some (x5.take ((x5.length : Int) : Int).toNat : List Int)).bind fun y201 => (if y198.length + y201.length < 17592186044416 then ((some (y198 ++ y201 : List Int)).bind fun y205 => (if y205.length < 17592186044416 then ((some (y205 ++ [x7] : List Int)).bind fun y208 => ((some (x5.drop ((x5.length : Int) : Int).toNat : List Int)).bind fun y211 => (if y208.length + y211.length < 17592186044416 then (spec_l20Order.l0 k x1 (y208 ++ y211) x6 (wrap64 (x7 + 1)) x1000 bt174.2) else (none)))) else (none))) else (none))) else (none)) else (none)))))) else (some (x5, x1001))
def spec_l20Order.f (k : Nat) (s0_0 : List Int) (s0_1 : Int) (a1 : Int) : Option (List Int × Int) := (spec_l20Rd_pick.f k s0_0 s0_1 2).bind fun bt150 => (spec_l20Order.l0 k a1 (([] : List Int)) bt150.1 1 s0_0 bt150.2)
theorem spec_l20Order.mono_l : ∀ k, (∀ y0 y1 y2 y3 y4 y5, LeO (spec_l20Order.l0 k y0 y1 y2 y3 y4 y5) (spec_l20Order.l0 (k + 1) y0 y1 y2 y3 y4 y5))
 | 0 => fun _ _ _ _ _ _ r h => by simp [spec_l20Order.l0] at h
 | k + 1 => by
  have ih0 := spec_l20Order.mono_l k
  ·intro y0 y1 y2 y3 y4 y5
   unfold spec_l20Order.l0
   repeat' first
   | (with_reducible exact ih0 _ _ _ _ _ _)
   | (with_reducible exact spec_l20Rd_pick.mono _ _ _ _)
   | (with_reducible exact LeO.refl _)
   | (with_reducible exact LeO.none _)
   | (with_reducible refine LeO.ite ?_ ?_)
   | (with_reducible refine LeO.bind ?_ (fun _ => ?_))
   | refine LeO.ite ?_ ?_
   | refine LeO.bind ?_ (fun _ => ?_)
theorem spec_l20Order.mono : ∀ a0 a1 a2 k, LeO (spec_l20Order.f k a0 a1 a2) (spec_l20Order.f (k + 1) a0 a1 a2) := by
 intro a0 a1 a2 k
 have ih0 := spec_l20Order.mono_l k
 unfold spec_l20Order.f
 repeat' first
   | (with_reducible exact ih0 _ _ _ _ _ _)
   | (with_reducible exact spec_l20Rd_pick.mono _ _ _ _)
   | (with_reducible exact LeO.refl _)
   | (with_reducible exact LeO.none _)
   | (with_reducible refine LeO.ite ?_ ?_)
   | (with_reducible refine LeO.bind ?_ (fun _ => ?_))
   | refine LeO.ite ?_ ?_
   | refine LeO.bind ?_ (fun _ => ?_)
set_option maxHeartbeats 8000000 in
set_option maxRecDepth 100000 in
theorem spec_l20Order.calls (k : Nat) (g : Nat) (s0_0 : List Int) (s0_1 : Int) (a1 : Int) (r1 : List Int) (r2 : Int) (w0 w : World) (hI : IsS73 w0 w g s0_0 s0_1) (hB : Below w0.heap.size w0 w) (h : spec_l20Order.f k s0_0 s0_1 a1 = some (r1, r2)) :
  Calls Tryd.prog 53 #[.pointer (some ⟨g, 0, none⟩), .int .i64 a1] w fun e w' => ∃ v0_ : Value, e = .returned (v0_) ∧ Kd.R (Kd.int .i64) 3 w' w.heap.size (fun _ => True) v0_ r1 ∧ IsS73 w0 w' g s0_0 r2 ∧ Below w0.heap.size w0 w' ∧ KeepBut w w' g none := by
 have HI0:=zM hI
 have HK:=zM (KeepBut.refl w g none)
 have HL:=zM hB.size
 clear hI
 have HW0:=zM hB.size
 have HB:=zM hB
 clear hB
 have H : ((spec_l20Rd_pick.f k s0_0 s0_1 2).bind fun bt150 => (spec_l20Order.l0 k a1 (([] : List Int)) bt150.1 1 s0_0 bt150.2)) = some (r1, r2) := h
 clear h
 obtain ⟨y147, hy147⟩ : ∃ y_ : List Int, y_ = (([] : List Int)) := ⟨_, rfl⟩
 replace H : ((spec_l20Rd_pick.f k s0_0 s0_1 2).bind fun bt150 => (spec_l20Order.l0 k a1 y147 bt150.1 1 s0_0 bt150.2)) = some (r1, r2) := by first | (rw [hy147]; with_reducible exact H) | (have H2_ := (Option.bind_some _ _).symm.trans H; rw [hy147]; with_reducible exact H2_) | (have H2_ := (Option.bind_some _ _).symm.trans H; with_reducible exact H2_) | with_reducible exact H | (rw [hy147]; exact H) | exact H
 have Ny147:=zM hy147
 clear hy147
 obtain ⟨⟨t150, t151⟩, A3, H⟩ := zb H; try dsimp only at H
 have H':=zM H
 clear H
 go_enter Tryd.func53, Tryd.ntmps53
 go_wp2_with (first | ((with_reducible refine gate_dst (N := 10) rfl ?_); refine Kd.R_lit (Kd.int .i64) _ 3 q0 (N := 10) q0 (xs := ([] : List Int)) (inner := []) (ok := fun _ => True) (okp := fun _ => True) q1 ?hp (fun _ hk => hk) trivial (Below.refl _ _) (Nat.le_refl _) (by simp) ?_; (case hp => exact (Reps.none _ _)); intro v148 w4 ho5 hb hg_ hnew_; clear hg_ hnew_; (first | rw [← Ny147.out] at ho5 | (simp only [Int.reduceToNat] at ho5; rw [← Ny147.out] at ho5)); have HO149:=zM (Kd.R_lower ho5 (keep_size (w := w) (g := g) (row := none) (q8 HK.out))); replace HK:=zM (KeepBut.trans (q8 HK.out) (KeepBut.of_below hb g none) (.inl rfl)); replace HB:=zM (below_step (q9 HB.out HI0.out) hb); replace HI0:=zM (IsS73.below (q7 HI0.out) hb); clear hb ho5) | (refine zg 43 (some 12) Tryd.func43 #[.pointer (some ⟨g, 0, none⟩), .int .i64 2] ?_; (with_reducible refine (spec_l20Rd_pick.calls k g s0_0 s0_1 2 t150 t151 w0 _ ?side1 ?side2 A3.out).mono ?_); (case side1 => exact (q7 HI0.out)); (case side2 => exact (q9 HB.out HI0.out)); rintro e w6 ⟨rfl, hi, hb, hk⟩; refine ⟨_, rfl, ?_⟩; replace HO149:=zM (Kd.R_mono (Kd.R_keep (IsS73.apart (show IsS73 w0 _ g s0_0 s0_1 from (q7 HI0.out)) (q3 HO149.out) (by decide)) hk (fun _ h => h.2)) (fun _ h => h.1)); replace HK:=zM (KeepBut.trans (q8 HK.out) hk (.inl rfl)); replace HB:=zM (hb); replace HI0:=zM (hi); (try clear hb); (try clear hb2); (try clear hk); (try clear hi)))
 go_loopg [5, 7] k (fun kq v5 v7 w' => ∃ (x5_1 : List Int) (x7_1 : Int) (x1001_1 : Int), v7 = .int .i64 x7_1 ∧ Aside0 (spec_l20Order.l0 kq a1 x5_1 t150 x7_1 s0_0 x1001_1 = some (r1, r2)) ∧ Aside0 (kq ≤ k) ∧ Aside0 (Kd.R (Kd.int .i64) 3 w' w.heap.size (fun _ => True) v5 x5_1) ∧ Aside0 (IsS73 w0 w' g s0_0 x1001_1) ∧ Aside0 (KeepBut w w' g none) ∧ Aside0 (Below w0.heap.size w0 w'))
 case atStart => exact ⟨(y147), (1), (t151), (by first | rfl | (simp; done) | (simp [*]; done)), H', ⟨Nat.le_refl _⟩, ⟨by (with_reducible repeat (first | apply Kd.R_alloc | apply Kd.R_drewN | apply Kd.R_drew)); exact HO149.out⟩, ⟨(q7 HI0.out)⟩, ⟨(q8 HK.out)⟩, ⟨(q9 HB.out HI0.out)⟩⟩
 case round =>
  clear H'
  try clear p2
  try clear c4
  try clear c5
  obtain ⟨x5_1, x7_1, x1001_1, rfl, HA, HK1, HO_5, HI0, HK, HB⟩ := hrel
  cases gk with
  | zero => exact absurd HA.out (by simp [spec_l20Order.l0])
  | succ k1 =>
   have H := HA.out
   clear HA
   simp only [spec_l20Order.l0] at H
   by_cases c7 : x7_1 ≤ a1
   ·rw [if_pos c7] at H
    have c7b0 : decide (x7_1 ≤ a1) = true := decide_eq_true c7
    clear c7
    by_cases c8 : t150 = 0
    ·rw [if_pos c8] at H
     have c8b0 : (t150 == 0) = true := beq_iff_eq.mpr c8
     have c8b1 : (t150 != 0) = false := bne_eq_false_iff_eq.mpr c8
     clear c8
     obtain ⟨⟨t152, t153⟩, A9, H⟩ := zb H; try dsimp only at H
     obtain ⟨y154, hy154⟩ : ∃ y_ : List Int, y_ = (([] : List Int)) := ⟨_, rfl⟩
     replace H : (if 0 ≤ t152 then (if t152 ≤ (x5_1.length : Int) then ((some (x5_1.take (t152 : Int).toNat : List Int)).bind fun y157 => (if y154.length + y157.length < 17592186044416 then ((some (y154 ++ y157 : List Int)).bind fun y161 => (if y161.length < 17592186044416 then ((some (y161 ++ [x7_1] : List Int)).bind fun y164 => ((some (x5_1.drop (t152 : Int).toNat : List Int)).bind fun y167 => (if y164.length + y167.length < 17592186044416 then (spec_l20Order.l0 k1 a1 (y164 ++ y167) t150 (wrap64 (x7_1 + 1)) s0_0 t153) else (none)))) else (none))) else (none))) else (none)) else (none)) = some (r1, r2) := by first | (rw [hy154]; with_reducible exact H) | (have H2_ := (Option.bind_some _ _).symm.trans H; rw [hy154]; with_reducible exact H2_) | (have H2_ := (Option.bind_some _ _).symm.trans H; with_reducible exact H2_) | with_reducible exact H | (rw [hy154]; exact H) | exact H
     have Ny154:=zM hy154
     clear hy154
     by_cases c10 : 0 ≤ t152
     ·rw [if_pos c10] at H
      have c10b0 := eq_true c10
      have c10b1 : decide (0 ≤ t152) = true := decide_eq_true c10
      clear c10
      by_cases c11 : t152 ≤ (x5_1.length : Int)
      ·rw [if_pos c11] at H
       have c11b0 := eq_true c11
       have c11b1 : decide (t152 ≤ (x5_1.length : Int)) = true := decide_eq_true c11
       clear c11
       obtain ⟨y157, hy157⟩ : ∃ y_ : List Int, y_ = (x5_1.take (t152 : Int).toNat) := ⟨_, rfl⟩
       replace H : (if y154.length + y157.length < 17592186044416 then ((some (y154 ++ y157 : List Int)).bind fun y161 => (if y161.length < 17592186044416 then ((some (y161 ++ [x7_1] : List Int)).bind fun y164 => ((some (x5_1.drop (t152 : Int).toNat : List Int)).bind fun y167 => (if y164.length + y167.length < 17592186044416 then (spec_l20Order.l0 k1 a1 (y164 ++ y167) t150 (wrap64 (x7_1 + 1)) s0_0 t153) else (none)))) else (none))) else (none)) = some (r1, r2) := by first | (rw [hy157]; with_reducible exact H) | (have H2_ := (Option.bind_some _ _).symm.trans H; rw [hy157]; with_reducible exact H2_) | (have H2_ := (Option.bind_some _ _).symm.trans H; with_reducible exact H2_) | with_reducible exact H | (rw [hy157]; exact H) | exact H
       have Ny157:=zM hy157
       clear hy157
       by_cases c12 : y154.length + y157.length < 17592186044416
       ·rw [if_pos c12] at H
        have LMc12:=zM c12
        clear c12
        obtain ⟨y161, hy161⟩ : ∃ y_ : List Int, y_ = (y154 ++ y157) := ⟨_, rfl⟩
        replace H : (if y161.length < 17592186044416 then ((some (y161 ++ [x7_1] : List Int)).bind fun y164 => ((some (x5_1.drop (t152 : Int).toNat : List Int)).bind fun y167 => (if y164.length + y167.length < 17592186044416 then (spec_l20Order.l0 k1 a1 (y164 ++ y167) t150 (wrap64 (x7_1 + 1)) s0_0 t153) else (none)))) else (none)) = some (r1, r2) := by first | (rw [hy161]; with_reducible exact H) | (have H2_ := (Option.bind_some _ _).symm.trans H; rw [hy161]; with_reducible exact H2_) | (have H2_ := (Option.bind_some _ _).symm.trans H; with_reducible exact H2_) | with_reducible exact H | (rw [hy161]; exact H) | exact H
        have Ny161:=zM hy161
        clear hy161
        by_cases c13 : y161.length < 17592186044416
        ·rw [if_pos c13] at H
         have LMc13:=zM c13
         clear c13
         obtain ⟨y164, hy164⟩ : ∃ y_ : List Int, y_ = (y161 ++ [x7_1]) := ⟨_, rfl⟩
         replace H : ((some (x5_1.drop (t152 : Int).toNat : List Int)).bind fun y167 => (if y164.length + y167.length < 17592186044416 then (spec_l20Order.l0 k1 a1 (y164 ++ y167) t150 (wrap64 (x7_1 + 1)) s0_0 t153) else (none))) = some (r1, r2) := by first | (rw [hy164]; with_reducible exact H) | (have H2_ := (Option.bind_some _ _).symm.trans H; rw [hy164]; with_reducible exact H2_) | (have H2_ := (Option.bind_some _ _).symm.trans H; with_reducible exact H2_) | with_reducible exact H | (rw [hy164]; exact H) | exact H
         have Ny164:=zM hy164
         clear hy164
         have c14b0 := eq_true (of_decide_eq_true (by first | (with_reducible assumption) | assumption) : 0 ≤ t152)
         have c15b0 := eq_true (of_decide_eq_true (by first | (with_reducible assumption) | assumption) : t152 ≤ (x5_1.length : Int))
         obtain ⟨y167, hy167⟩ : ∃ y_ : List Int, y_ = (x5_1.drop (t152 : Int).toNat) := ⟨_, rfl⟩
         replace H : (if y164.length + y167.length < 17592186044416 then (spec_l20Order.l0 k1 a1 (y164 ++ y167) t150 (wrap64 (x7_1 + 1)) s0_0 t153) else (none)) = some (r1, r2) := by first | (rw [hy167]; with_reducible exact H) | (have H2_ := (Option.bind_some _ _).symm.trans H; rw [hy167]; with_reducible exact H2_) | (have H2_ := (Option.bind_some _ _).symm.trans H; with_reducible exact H2_) | with_reducible exact H | (rw [hy167]; exact H) | exact H
         have Ny167:=zM hy167
         clear hy167
         by_cases c16 : y164.length + y167.length < 17592186044416
         ·rw [if_pos c16] at H
          have LMc16:=zM c16
          clear c16
          obtain ⟨y171, hy171⟩ : ∃ y_ : List Int, y_ = (y164 ++ y167) := ⟨_, rfl⟩
          replace H : (spec_l20Order.l0 k1 a1 y171 t150 (wrap64 (x7_1 + 1)) s0_0 t153) = some (r1, r2) := by first | (rw [hy171]; with_reducible exact H) | (have H2_ := (Option.bind_some _ _).symm.trans H; rw [hy171]; with_reducible exact H2_) | (have H2_ := (Option.bind_some _ _).symm.trans H; with_reducible exact H2_) | with_reducible exact H | (rw [hy171]; exact H) | exact H
          have Ny171:=zM hy171
          clear hy171
          have H':=zM H
          clear H
          obtain ⟨Ao17, co17, eo17⟩ := Kd.R_slice HO_5.out
          subst eo17
          go_wp2_with (first | (refine zg 43 (some 29) Tryd.func43 #[.pointer (some ⟨g, 0, none⟩), .int .i64 x7_1] ?_; (with_reducible refine (spec_l20Rd_pick.calls k1 g s0_0 x1001_1 x7_1 t152 t153 w0 _ ?side1 ?side2 A9.out).mono ?_); (case side1 => exact (q7 HI0.out)); (case side2 => exact (q9 HB.out HI0.out)); rintro e w18 ⟨rfl, hi, hb, hk⟩; refine ⟨_, rfl, ?_⟩; replace HO_5:=zM (Kd.R_mono (Kd.R_keep (IsS73.apart (show IsS73 w0 _ g s0_0 x1001_1 from (q7 HI0.out)) (q3 HO_5.out) (by decide)) hk (fun _ h => h.2)) (fun _ h => h.1)); replace HK:=zM (KeepBut.trans (q8 HK.out) hk (.inl rfl)); replace HB:=zM (hb); replace HI0:=zM (hi); (try clear hb); (try clear hb2); (try clear hk); (try clear hi)) | ((with_reducible refine gate_dst (N := 30) rfl ?_); refine Kd.R_lit (Kd.int .i64) _ 3 q0 (N := 30) q0 (xs := ([] : List Int)) (inner := []) (ok := fun _ => True) (okp := fun _ => True) q1 ?hp (fun _ hk => hk) trivial (Below.refl _ _) (Nat.le_refl _) (by simp) ?_; (case hp => exact (Reps.none _ _)); intro v155 w19 ho20 hb hg_ hnew_; clear hg_ hnew_; (first | rw [← Ny154.out] at ho20 | (simp only [Int.reduceToNat] at ho20; rw [← Ny154.out] at ho20)); have HO156:=zM (Kd.R_lower (Kd.R_new' ho20 (Kd.R_lt (q3 HO_5.out))) (keep_size (w := w) (g := g) (row := none) (q8 HK.out))); replace HO_5:=zM (Kd.R_elder' (q3 HO_5.out) (Kd.R_base ho20) hb); replace HK:=zM (KeepBut.trans (q8 HK.out) (KeepBut.of_below hb g none) (.inl rfl)); replace HB:=zM (below_step (q9 HB.out HI0.out) hb); replace HI0:=zM (IsS73.below (q7 HI0.out) hb); clear hb ho20; have q21 : (t152 : Int) ≤ ((x5_1.length : Int) : Int) := of_decide_eq_true (by first | (with_reducible assumption) | assumption); obtain ⟨i021, hi021, _, hsz21, _⟩ := info_parts info3; have hroom21 : x5_1.length ≤ co17 := (Kd.R_reads' HO_5.out).2.1; have hC21 : Kd.C (Kd.int .i64) _ Ao17 x5_1.length x5_1 := (Kd.R_reads' HO_5.out).2.2; have hcut21 := cut_to (P := Tryd.prog) 54 3 .i64 Tryd.underlying54 hi021 Ao17 x5_1.length co17 t152 (of_decide_eq_true (by first | (with_reducible assumption) | assumption)) q21 hroom21; have hr21 := Kd.C_take (m := (t152 : Int).toNat) hC21 (by omega); have hy21 : y157.length = (t152 : Int).toNat := (by rw [Ny157.out, List.length_take]; omega); rw [← Ny157.out] at hr21; rw [← hy21] at hcut21; have HR160:=zM hr21; have HC160:=zM (show y157.length ≤ co17 from by omega); clear hr21 hC21 hroom21 hi021 hsz21; have KY21:=zM hy21; clear hy21; have KL21:=zM (show (t152 : Int).toNat ≤ x5_1.length from by omega); replace q21 := eq_true q21) | ((with_reducible refine gate_builtin (b := .append) (xs := #[.tmp 30, .tmp 33]) rfl ?_); at_builtin; refine Kd.R_append_rows (Kd.int .i64) w.heap.size rfl (.tmp 30) (.tmp 33) 54 3 (.int .i64 0) 8 rfl Tryd.underlying54 info3 rfl (by decide) (by omega) v155 y154 y157 _ _ _ (fun k_ => some k_ ≠ (.slice Ao17 x5_1.length co17 : Value).ownBlock) (fun _ => False) rfl rfl ?aO ?aR (fun _ _ h => h) (fun _ h => h.elim) ?aF (Below.refl _ _) ?aS ?aL ?_; (case aR => repeat (first | exact (by repeat (first | (with_reducible exact HR160.out) | (with_reducible refine Kd.C_alloc ?_ _) | (with_reducible refine Kd.C_drewN ?_ _) | (with_reducible refine Kd.C_drew ?_) | exact HR160.out)) | (with_reducible refine Kd.C_alloc ?_ _) | (with_reducible refine Kd.C_drewN ?_ _) | (with_reducible refine Kd.C_drew ?_))); (case aF => exact (fun k_ hk => Kd.fresh' (Kd.R_lt (q3 HO_5.out)) k_ hk)); (case aO => exact (by (with_reducible repeat (first | apply Kd.R_alloc | apply Kd.R_drewN | apply Kd.R_drew)); exact Kd.R_mono HO156.out (fun _ hk => hk.2))); (case aS => exact (keep_size (w := w) (g := g) (row := none) (q8 HK.out))); (case aL => have := LMc12.out; omega); intro v162 w22 ho hb hg hat; rw [← Ny161.out] at ho; replace HB:=zM (below_weaken (q9 HB.out HI0.out) HL.out hb); replace HI0:=zM (IsS73.grown (q7 HI0.out) hg (IsS73.own_ne HI0.out HO156.out (by decide))); replace HK:=zM (KeepBut.trans (q8 HK.out) (KeepBut.of_grown hg g) (Kd.R_base2 HO156.out)); replace HR160:=zM ((show Kd.C (Kd.int .i64) w22 Ao17 y157.length y157 from by rw [Ny157.out]; exact Kd.C_take (m := (t152 : Int).toNat) ((Kd.R_reads' (Kd.R_after (ok := (fun _ => True)) (q3 HO_5.out) hg hat)).2.2) KL21.out)); replace HO_5:=zM (Kd.R_after (ok := (fun _ => True)) (q3 HO_5.out) hg hat); have HO163:=zM (ho); clear HO156; clear ho hb hg hat) | ((with_reducible refine gate_builtin (b := .append) (xs := #[.tmp 35, .tmp 37]) rfl ?_); at_builtin; refine Kd.R_append (Kd.int .i64) w.heap.size rfl (.tmp 35) (.tmp 37) 54 3 (.int .i64 0) 8 rfl Tryd.underlying54 info3 rfl (by decide) (by omega) v162 y161 x7_1 [.int .i64 x7_1] (fun k_ => some k_ ≠ (.slice Ao17 x5_1.length co17 : Value).ownBlock) (fun _ => False) rfl rfl ?aP (fun _ hk => hk.elim) ?aF ?aO (Below.refl _ _) ?aS ?aL ?_; (case aP => exact rfl); (case aF => exact (fun k_ hk => Kd.fresh' (Kd.R_lt (q3 HO_5.out)) k_ hk)); (case aO => exact (q3 HO163.out)); (case aS => exact (keep_size (w := w) (g := g) (row := none) (q8 HK.out))); (case aL => have := LMc13.out; omega); intro v165 w23 ho hb hg hat; rw [← Ny164.out] at ho; replace HB:=zM (below_weaken (q9 HB.out HI0.out) HL.out hb); replace HI0:=zM (IsS73.grown (q7 HI0.out) hg (IsS73.own_ne HI0.out HO163.out (by decide))); replace HK:=zM (KeepBut.trans (q8 HK.out) (KeepBut.of_grown hg g) (Kd.R_base2 HO163.out)); replace HR160:=zM ((show Kd.C (Kd.int .i64) w23 Ao17 y157.length y157 from by rw [Ny157.out]; exact Kd.C_take (m := (t152 : Int).toNat) ((Kd.R_reads' (Kd.R_after (ok := (fun _ => True)) (q3 HO_5.out) hg hat)).2.2) KL21.out)); replace HO_5:=zM (Kd.R_after (ok := (fun _ => True)) (q3 HO_5.out) hg hat); have HO166:=zM (ho); clear HO163; clear ho hb hg hat; have q24 : (t152 : Int) ≤ ((x5_1.length : Int) : Int) := of_decide_eq_true (by first | (with_reducible assumption) | assumption); obtain ⟨i024, hi024, _, hsz24, _⟩ := info_parts info3; have hroom24 : x5_1.length ≤ co17 := (Kd.R_reads' HO_5.out).2.1; have hC24 : Kd.C (Kd.int .i64) _ Ao17 x5_1.length x5_1 := (Kd.R_reads' HO_5.out).2.2; have q024 : (0 : Int) ≤ (t152 : Int) := of_decide_eq_true (by first | (with_reducible assumption) | assumption); have hcut24 := cut_from (P := Tryd.prog) 54 3 .i64 Tryd.underlying54 hi024 1 hsz24 Ao17 x5_1.length co17 t152 q024 q24; have hr24 := Kd.C_drop (m := (t152 : Int).toNat) (c := co17) hC24 (by omega) hroom24; obtain ⟨A24, hA24⟩ : ∃ A1, A1 = (if co17 = (t152 : Int).toNat then Ao17 else (Ao17 : Option Addr).map (·.add ((t152 : Int).toNat * 1))) := ⟨_, rfl⟩; obtain ⟨c24, hc24⟩ : ∃ c1, c1 = co17 - (t152 : Int).toNat := ⟨_, rfl⟩; have hy24 : y167.length = x5_1.length - (t152 : Int).toNat := (by rw [Ny167.out, List.length_drop] <;> omega); rw [show (x5_1).drop (t152 : Int).toNat = y167 from Ny167.out.symm] at hr24; replace hr24 : Kd.C (Kd.int .i64) _ A24 y167.length y167 := (by rw [hA24]; exact hr24); rw [← hy24, ← hA24, ← hc24] at hcut24; have HR170:=zM hr24; have HC170:=zM (show y167.length ≤ c24 from by rw [hy24, hc24]; exact Nat.sub_le_sub_right hroom24 _); clear hr24 hC24 hroom24 hi024 hsz24 hc24; have KY24:=zM hy24; have KA24:=zM hA24; clear hy24 hA24; have KL24:=zM (show (t152 : Int).toNat ≤ x5_1.length from by omega); replace q24 := eq_true q24) | ((with_reducible refine gate_builtin (b := .append) (xs := #[.tmp 39, .tmp 42]) rfl ?_); at_builtin; refine Kd.R_append_rows (Kd.int .i64) w.heap.size rfl (.tmp 39) (.tmp 42) 54 3 (.int .i64 0) 8 rfl Tryd.underlying54 info3 rfl (by decide) (by omega) v165 y164 y167 _ _ _ (fun k_ => some k_ ≠ (.slice Ao17 x5_1.length co17 : Value).ownBlock) (fun _ => False) rfl rfl ?aO ?aR (fun _ _ h => h) (fun _ h => h.elim) ?aF (Below.refl _ _) ?aS ?aL ?_; (case aR => repeat (first | exact (by repeat (first | (with_reducible exact HR170.out) | (with_reducible refine Kd.C_alloc ?_ _) | (with_reducible refine Kd.C_drewN ?_ _) | (with_reducible refine Kd.C_drew ?_) | exact HR170.out)) | (with_reducible refine Kd.C_alloc ?_ _) | (with_reducible refine Kd.C_drewN ?_ _) | (with_reducible refine Kd.C_drew ?_))); (case aF => exact (fun k_ hk => Kd.fresh' (Kd.R_lt (q3 HO_5.out)) k_ hk)); (case aO => exact (q3 HO166.out)); (case aS => exact (keep_size (w := w) (g := g) (row := none) (q8 HK.out))); (case aL => have := LMc16.out; omega); intro v172 w25 ho hb hg hat; rw [← Ny171.out] at ho; replace HB:=zM (below_weaken (q9 HB.out HI0.out) HL.out hb); replace HI0:=zM (IsS73.grown (q7 HI0.out) hg (IsS73.own_ne HI0.out HO166.out (by decide))); replace HK:=zM (KeepBut.trans (q8 HK.out) (KeepBut.of_grown hg g) (Kd.R_base2 HO166.out)); replace HR160:=zM ((show Kd.C (Kd.int .i64) w25 Ao17 y157.length y157 from by rw [Ny157.out]; exact Kd.C_take (m := (t152 : Int).toNat) ((Kd.R_reads' (Kd.R_after (ok := (fun _ => True)) (q3 HO_5.out) hg hat)).2.2) KL21.out)); replace HR170:=zM ((show Kd.C (Kd.int .i64) w25 A24 y167.length y167 from by rw [Ny167.out, KA24.out]; exact Kd.C_drop (m := (t152 : Int).toNat) (c := co17) ((Kd.R_reads' (Kd.R_after (ok := (fun _ => True)) (q3 HO_5.out) hg hat)).2.2) KL24.out ((Kd.R_reads' (Kd.R_after (ok := (fun _ => True)) (q3 HO_5.out) hg hat)).2.1))); replace HO_5:=zM (Kd.R_after (ok := (fun _ => True)) (q3 HO_5.out) hg hat); have HO173:=zM (ho); clear HO166; clear ho hb hg hat))
          go_roundg k1
          case measure => have := HK1.out; omega
          case rel => exact ⟨(y171), (wrap64 (x7_1 + 1)), (t153), (by first | rfl | (simp; done) | (simp [*]; done)), H', ⟨by have := HK1.out; omega⟩, ⟨by (with_reducible repeat (first | apply Kd.R_alloc | apply Kd.R_drewN | apply Kd.R_drew)); exact Kd.R_mono HO173.out (fun _ hk => trivial)⟩, ⟨(q7 HI0.out)⟩, ⟨(q8 HK.out)⟩, ⟨(q9 HB.out HI0.out)⟩⟩
         ·rw [if_neg c16] at H
          exact absurd H (by simp)
        ·rw [if_neg c13] at H
         exact absurd H (by simp)
       ·rw [if_neg c12] at H
        exact absurd H (by simp)
      ·rw [if_neg c11] at H
       exact absurd H (by simp)
     ·rw [if_neg c10] at H
      exact absurd H (by simp)
    ·rw [if_neg c8] at H
     have c8b0 : (t150 == 0) = false := beq_eq_false_iff_ne.mpr c8
     have c8b1 : (t150 != 0) = true := bne_iff_ne.mpr c8
     obtain ⟨⟨t174, t175⟩, A26, H⟩ := zb H; try dsimp only at H
     by_cases c27 : t174 = 0
     ·rw [if_pos c27] at H
      have c27b0 : (t174 == 0) = true := beq_iff_eq.mpr c27
      have c27b1 : (t174 != 0) = false := bne_eq_false_iff_eq.mpr c27
      clear c27
      obtain ⟨⟨t176, t177⟩, A28, H⟩ := zb H; try dsimp only at H
      obtain ⟨y178, hy178⟩ : ∃ y_ : List Int, y_ = (([] : List Int)) := ⟨_, rfl⟩
      replace H : (if 0 ≤ t176 then (if t176 ≤ (x5_1.length : Int) then ((some (x5_1.take (t176 : Int).toNat : List Int)).bind fun y181 => (if y178.length + y181.length < 17592186044416 then ((some (y178 ++ y181 : List Int)).bind fun y185 => (if y185.length < 17592186044416 then ((some (y185 ++ [x7_1] : List Int)).bind fun y188 => ((some (x5_1.drop (t176 : Int).toNat : List Int)).bind fun y191 => (if y188.length + y191.length < 17592186044416 then (spec_l20Order.l0 k1 a1 (y188 ++ y191) t150 (wrap64 (x7_1 + 1)) s0_0 t177) else (none)))) else (none))) else (none))) else (none)) else (none)) = some (r1, r2) := by first | (rw [hy178]; with_reducible exact H) | (have H2_ := (Option.bind_some _ _).symm.trans H; rw [hy178]; with_reducible exact H2_) | (have H2_ := (Option.bind_some _ _).symm.trans H; with_reducible exact H2_) | with_reducible exact H | (rw [hy178]; exact H) | exact H
      have Ny178:=zM hy178
      clear hy178
      by_cases c29 : 0 ≤ t176
      ·rw [if_pos c29] at H
       have c29b0 := eq_true c29
       have c29b1 : decide (0 ≤ t176) = true := decide_eq_true c29
       clear c29
       by_cases c30 : t176 ≤ (x5_1.length : Int)
       ·rw [if_pos c30] at H
        have c30b0 := eq_true c30
        have c30b1 : decide (t176 ≤ (x5_1.length : Int)) = true := decide_eq_true c30
        clear c30
        obtain ⟨y181, hy181⟩ : ∃ y_ : List Int, y_ = (x5_1.take (t176 : Int).toNat) := ⟨_, rfl⟩
        replace H : (if y178.length + y181.length < 17592186044416 then ((some (y178 ++ y181 : List Int)).bind fun y185 => (if y185.length < 17592186044416 then ((some (y185 ++ [x7_1] : List Int)).bind fun y188 => ((some (x5_1.drop (t176 : Int).toNat : List Int)).bind fun y191 => (if y188.length + y191.length < 17592186044416 then (spec_l20Order.l0 k1 a1 (y188 ++ y191) t150 (wrap64 (x7_1 + 1)) s0_0 t177) else (none)))) else (none))) else (none)) = some (r1, r2) := by first | (rw [hy181]; with_reducible exact H) | (have H2_ := (Option.bind_some _ _).symm.trans H; rw [hy181]; with_reducible exact H2_) | (have H2_ := (Option.bind_some _ _).symm.trans H; with_reducible exact H2_) | with_reducible exact H | (rw [hy181]; exact H) | exact H
        have Ny181:=zM hy181
        clear hy181
        by_cases c31 : y178.length + y181.length < 17592186044416
        ·rw [if_pos c31] at H
         have LMc31:=zM c31
         clear c31
         obtain ⟨y185, hy185⟩ : ∃ y_ : List Int, y_ = (y178 ++ y181) := ⟨_, rfl⟩
         replace H : (if y185.length < 17592186044416 then ((some (y185 ++ [x7_1] : List Int)).bind fun y188 => ((some (x5_1.drop (t176 : Int).toNat : List Int)).bind fun y191 => (if y188.length + y191.length < 17592186044416 then (spec_l20Order.l0 k1 a1 (y188 ++ y191) t150 (wrap64 (x7_1 + 1)) s0_0 t177) else (none)))) else (none)) = some (r1, r2) := by first | (rw [hy185]; with_reducible exact H) | (have H2_ := (Option.bind_some _ _).symm.trans H; rw [hy185]; with_reducible exact H2_) | (have H2_ := (Option.bind_some _ _).symm.trans H; with_reducible exact H2_) | with_reducible exact H | (rw [hy185]; exact H) | exact H
         have Ny185:=zM hy185
         clear hy185
         by_cases c32 : y185.length < 17592186044416
         ·rw [if_pos c32] at H
          have LMc32:=zM c32
          clear c32
          obtain ⟨y188, hy188⟩ : ∃ y_ : List Int, y_ = (y185 ++ [x7_1]) := ⟨_, rfl⟩
          replace H : ((some (x5_1.drop (t176 : Int).toNat : List Int)).bind fun y191 => (if y188.length + y191.length < 17592186044416 then (spec_l20Order.l0 k1 a1 (y188 ++ y191) t150 (wrap64 (x7_1 + 1)) s0_0 t177) else (none))) = some (r1, r2) := by first | (rw [hy188]; with_reducible exact H) | (have H2_ := (Option.bind_some _ _).symm.trans H; rw [hy188]; with_reducible exact H2_) | (have H2_ := (Option.bind_some _ _).symm.trans H; with_reducible exact H2_) | with_reducible exact H | (rw [hy188]; exact H) | exact H
          have Ny188:=zM hy188
          clear hy188
          have c33b0 := eq_true (of_decide_eq_true (by first | (with_reducible assumption) | assumption) : 0 ≤ t176)
          have c34b0 := eq_true (of_decide_eq_true (by first | (with_reducible assumption) | assumption) : t176 ≤ (x5_1.length : Int))
          obtain ⟨y191, hy191⟩ : ∃ y_ : List Int, y_ = (x5_1.drop (t176 : Int).toNat) := ⟨_, rfl⟩
          replace H : (if y188.length + y191.length < 17592186044416 then (spec_l20Order.l0 k1 a1 (y188 ++ y191) t150 (wrap64 (x7_1 + 1)) s0_0 t177) else (none)) = some (r1, r2) := by first | (rw [hy191]; with_reducible exact H) | (have H2_ := (Option.bind_some _ _).symm.trans H; rw [hy191]; with_reducible exact H2_) | (have H2_ := (Option.bind_some _ _).symm.trans H; with_reducible exact H2_) | with_reducible exact H | (rw [hy191]; exact H) | exact H
          have Ny191:=zM hy191
          clear hy191
          by_cases c35 : y188.length + y191.length < 17592186044416
          ·rw [if_pos c35] at H
           have LMc35:=zM c35
           clear c35
           obtain ⟨y195, hy195⟩ : ∃ y_ : List Int, y_ = (y188 ++ y191) := ⟨_, rfl⟩
           replace H : (spec_l20Order.l0 k1 a1 y195 t150 (wrap64 (x7_1 + 1)) s0_0 t177) = some (r1, r2) := by first | (rw [hy195]; with_reducible exact H) | (have H2_ := (Option.bind_some _ _).symm.trans H; rw [hy195]; with_reducible exact H2_) | (have H2_ := (Option.bind_some _ _).symm.trans H; with_reducible exact H2_) | with_reducible exact H | (rw [hy195]; exact H) | exact H
           have Ny195:=zM hy195
           clear hy195
           have H':=zM H
           clear H
           obtain ⟨Ao36, co36, eo36⟩ := Kd.R_slice HO_5.out
           subst eo36
           go_wp2_with (first | (go_at_call 43; (with_reducible refine (spec_l20Rd_pick.calls k1 g s0_0 x1001_1 3 t174 t175 w0 _ ?side1 ?side2 A26.out).mono ?_); (case side1 => exact (q7 HI0.out)); (case side2 => exact (q9 HB.out HI0.out)); rintro e w37 ⟨rfl, hi, hb, hk⟩; replace HO_5:=zM (Kd.R_mono (Kd.R_keep (IsS73.apart (show IsS73 w0 _ g s0_0 x1001_1 from (q7 HI0.out)) (q3 HO_5.out) (by decide)) hk (fun _ h => h.2)) (fun _ h => h.1)); replace HK:=zM (KeepBut.trans (q8 HK.out) hk (.inl rfl)); replace HB:=zM (hb); replace HI0:=zM (hi); (try clear hb); (try clear hb2); (try clear hk); (try clear hi)) | (refine zg 43 (some 29) Tryd.func43 #[.pointer (some ⟨g, 0, none⟩), .int .i64 x7_1] ?_; (with_reducible refine (spec_l20Rd_pick.calls k1 g s0_0 t175 x7_1 t176 t177 w0 _ ?side1 ?side2 A28.out).mono ?_); (case side1 => exact (q7 HI0.out)); (case side2 => exact (q9 HB.out HI0.out)); rintro e w38 ⟨rfl, hi, hb, hk⟩; refine ⟨_, rfl, ?_⟩; replace HO_5:=zM (Kd.R_mono (Kd.R_keep (IsS73.apart (show IsS73 w0 _ g s0_0 t175 from (q7 HI0.out)) (q3 HO_5.out) (by decide)) hk (fun _ h => h.2)) (fun _ h => h.1)); replace HK:=zM (KeepBut.trans (q8 HK.out) hk (.inl rfl)); replace HB:=zM (hb); replace HI0:=zM (hi); (try clear hb); (try clear hb2); (try clear hk); (try clear hi)) | ((with_reducible refine gate_dst (N := 30) rfl ?_); refine Kd.R_lit (Kd.int .i64) _ 3 q0 (N := 30) q0 (xs := ([] : List Int)) (inner := []) (ok := fun _ => True) (okp := fun _ => True) q1 ?hp (fun _ hk => hk) trivial (Below.refl _ _) (Nat.le_refl _) (by simp) ?_; (case hp => exact (Reps.none _ _)); intro v179 w39 ho40 hb hg_ hnew_; clear hg_ hnew_; (first | rw [← Ny178.out] at ho40 | (simp only [Int.reduceToNat] at ho40; rw [← Ny178.out] at ho40)); have HO180:=zM (Kd.R_lower (Kd.R_new' ho40 (Kd.R_lt (q3 HO_5.out))) (keep_size (w := w) (g := g) (row := none) (q8 HK.out))); replace HO_5:=zM (Kd.R_elder' (q3 HO_5.out) (Kd.R_base ho40) hb); replace HK:=zM (KeepBut.trans (q8 HK.out) (KeepBut.of_below hb g none) (.inl rfl)); replace HB:=zM (below_step (q9 HB.out HI0.out) hb); replace HI0:=zM (IsS73.below (q7 HI0.out) hb); clear hb ho40; have q41 : (t176 : Int) ≤ ((x5_1.length : Int) : Int) := of_decide_eq_true (by first | (with_reducible assumption) | assumption); obtain ⟨i041, hi041, _, hsz41, _⟩ := info_parts info3; have hroom41 : x5_1.length ≤ co36 := (Kd.R_reads' HO_5.out).2.1; have hC41 : Kd.C (Kd.int .i64) _ Ao36 x5_1.length x5_1 := (Kd.R_reads' HO_5.out).2.2; have hcut41 := cut_to (P := Tryd.prog) 54 3 .i64 Tryd.underlying54 hi041 Ao36 x5_1.length co36 t176 (of_decide_eq_true (by first | (with_reducible assumption) | assumption)) q41 hroom41; have hr41 := Kd.C_take (m := (t176 : Int).toNat) hC41 (by omega); have hy41 : y181.length = (t176 : Int).toNat := (by rw [Ny181.out, List.length_take]; omega); rw [← Ny181.out] at hr41; rw [← hy41] at hcut41; have HR184:=zM hr41; have HC184:=zM (show y181.length ≤ co36 from by omega); clear hr41 hC41 hroom41 hi041 hsz41; have KY41:=zM hy41; clear hy41; have KL41:=zM (show (t176 : Int).toNat ≤ x5_1.length from by omega); replace q41 := eq_true q41) | ((with_reducible refine gate_builtin (b := .append) (xs := #[.tmp 30, .tmp 33]) rfl ?_); at_builtin; refine Kd.R_append_rows (Kd.int .i64) w.heap.size rfl (.tmp 30) (.tmp 33) 54 3 (.int .i64 0) 8 rfl Tryd.underlying54 info3 rfl (by decide) (by omega) v179 y178 y181 _ _ _ (fun k_ => some k_ ≠ (.slice Ao36 x5_1.length co36 : Value).ownBlock) (fun _ => False) rfl rfl ?aO ?aR (fun _ _ h => h) (fun _ h => h.elim) ?aF (Below.refl _ _) ?aS ?aL ?_; (case aR => repeat (first | exact (by repeat (first | (with_reducible exact HR184.out) | (with_reducible refine Kd.C_alloc ?_ _) | (with_reducible refine Kd.C_drewN ?_ _) | (with_reducible refine Kd.C_drew ?_) | exact HR184.out)) | (with_reducible refine Kd.C_alloc ?_ _) | (with_reducible refine Kd.C_drewN ?_ _) | (with_reducible refine Kd.C_drew ?_))); (case aF => exact (fun k_ hk => Kd.fresh' (Kd.R_lt (q3 HO_5.out)) k_ hk)); (case aO => exact (by (with_reducible repeat (first | apply Kd.R_alloc | apply Kd.R_drewN | apply Kd.R_drew)); exact Kd.R_mono HO180.out (fun _ hk => hk.2))); (case aS => exact (keep_size (w := w) (g := g) (row := none) (q8 HK.out))); (case aL => have := LMc31.out; omega); intro v186 w42 ho hb hg hat; rw [← Ny185.out] at ho; replace HB:=zM (below_weaken (q9 HB.out HI0.out) HL.out hb); replace HI0:=zM (IsS73.grown (q7 HI0.out) hg (IsS73.own_ne HI0.out HO180.out (by decide))); replace HK:=zM (KeepBut.trans (q8 HK.out) (KeepBut.of_grown hg g) (Kd.R_base2 HO180.out)); replace HR184:=zM ((show Kd.C (Kd.int .i64) w42 Ao36 y181.length y181 from by rw [Ny181.out]; exact Kd.C_take (m := (t176 : Int).toNat) ((Kd.R_reads' (Kd.R_after (ok := (fun _ => True)) (q3 HO_5.out) hg hat)).2.2) KL41.out)); replace HO_5:=zM (Kd.R_after (ok := (fun _ => True)) (q3 HO_5.out) hg hat); have HO187:=zM (ho); clear HO180; clear ho hb hg hat) | ((with_reducible refine gate_builtin (b := .append) (xs := #[.tmp 35, .tmp 37]) rfl ?_); at_builtin; refine Kd.R_append (Kd.int .i64) w.heap.size rfl (.tmp 35) (.tmp 37) 54 3 (.int .i64 0) 8 rfl Tryd.underlying54 info3 rfl (by decide) (by omega) v186 y185 x7_1 [.int .i64 x7_1] (fun k_ => some k_ ≠ (.slice Ao36 x5_1.length co36 : Value).ownBlock) (fun _ => False) rfl rfl ?aP (fun _ hk => hk.elim) ?aF ?aO (Below.refl _ _) ?aS ?aL ?_; (case aP => exact rfl); (case aF => exact (fun k_ hk => Kd.fresh' (Kd.R_lt (q3 HO_5.out)) k_ hk)); (case aO => exact (q3 HO187.out)); (case aS => exact (keep_size (w := w) (g := g) (row := none) (q8 HK.out))); (case aL => have := LMc32.out; omega); intro v189 w43 ho hb hg hat; rw [← Ny188.out] at ho; replace HB:=zM (below_weaken (q9 HB.out HI0.out) HL.out hb); replace HI0:=zM (IsS73.grown (q7 HI0.out) hg (IsS73.own_ne HI0.out HO187.out (by decide))); replace HK:=zM (KeepBut.trans (q8 HK.out) (KeepBut.of_grown hg g) (Kd.R_base2 HO187.out)); replace HR184:=zM ((show Kd.C (Kd.int .i64) w43 Ao36 y181.length y181 from by rw [Ny181.out]; exact Kd.C_take (m := (t176 : Int).toNat) ((Kd.R_reads' (Kd.R_after (ok := (fun _ => True)) (q3 HO_5.out) hg hat)).2.2) KL41.out)); replace HO_5:=zM (Kd.R_after (ok := (fun _ => True)) (q3 HO_5.out) hg hat); have HO190:=zM (ho); clear HO187; clear ho hb hg hat; have q44 : (t176 : Int) ≤ ((x5_1.length : Int) : Int) := of_decide_eq_true (by first | (with_reducible assumption) | assumption); obtain ⟨i044, hi044, _, hsz44, _⟩ := info_parts info3; have hroom44 : x5_1.length ≤ co36 := (Kd.R_reads' HO_5.out).2.1; have hC44 : Kd.C (Kd.int .i64) _ Ao36 x5_1.length x5_1 := (Kd.R_reads' HO_5.out).2.2; have q044 : (0 : Int) ≤ (t176 : Int) := of_decide_eq_true (by first | (with_reducible assumption) | assumption); have hcut44 := cut_from (P := Tryd.prog) 54 3 .i64 Tryd.underlying54 hi044 1 hsz44 Ao36 x5_1.length co36 t176 q044 q44; have hr44 := Kd.C_drop (m := (t176 : Int).toNat) (c := co36) hC44 (by omega) hroom44; obtain ⟨A44, hA44⟩ : ∃ A1, A1 = (if co36 = (t176 : Int).toNat then Ao36 else (Ao36 : Option Addr).map (·.add ((t176 : Int).toNat * 1))) := ⟨_, rfl⟩; obtain ⟨c44, hc44⟩ : ∃ c1, c1 = co36 - (t176 : Int).toNat := ⟨_, rfl⟩; have hy44 : y191.length = x5_1.length - (t176 : Int).toNat := (by rw [Ny191.out, List.length_drop] <;> omega); rw [show (x5_1).drop (t176 : Int).toNat = y191 from Ny191.out.symm] at hr44; replace hr44 : Kd.C (Kd.int .i64) _ A44 y191.length y191 := (by rw [hA44]; exact hr44); rw [← hy44, ← hA44, ← hc44] at hcut44; have HR194:=zM hr44; have HC194:=zM (show y191.length ≤ c44 from by rw [hy44, hc44]; exact Nat.sub_le_sub_right hroom44 _); clear hr44 hC44 hroom44 hi044 hsz44 hc44; have KY44:=zM hy44; have KA44:=zM hA44; clear hy44 hA44; have KL44:=zM (show (t176 : Int).toNat ≤ x5_1.length from by omega); replace q44 := eq_true q44) | ((with_reducible refine gate_builtin (b := .append) (xs := #[.tmp 39, .tmp 42]) rfl ?_); at_builtin; refine Kd.R_append_rows (Kd.int .i64) w.heap.size rfl (.tmp 39) (.tmp 42) 54 3 (.int .i64 0) 8 rfl Tryd.underlying54 info3 rfl (by decide) (by omega) v189 y188 y191 _ _ _ (fun k_ => some k_ ≠ (.slice Ao36 x5_1.length co36 : Value).ownBlock) (fun _ => False) rfl rfl ?aO ?aR (fun _ _ h => h) (fun _ h => h.elim) ?aF (Below.refl _ _) ?aS ?aL ?_; (case aR => repeat (first | exact (by repeat (first | (with_reducible exact HR194.out) | (with_reducible refine Kd.C_alloc ?_ _) | (with_reducible refine Kd.C_drewN ?_ _) | (with_reducible refine Kd.C_drew ?_) | exact HR194.out)) | (with_reducible refine Kd.C_alloc ?_ _) | (with_reducible refine Kd.C_drewN ?_ _) | (with_reducible refine Kd.C_drew ?_))); (case aF => exact (fun k_ hk => Kd.fresh' (Kd.R_lt (q3 HO_5.out)) k_ hk)); (case aO => exact (q3 HO190.out)); (case aS => exact (keep_size (w := w) (g := g) (row := none) (q8 HK.out))); (case aL => have := LMc35.out; omega); intro v196 w45 ho hb hg hat; rw [← Ny195.out] at ho; replace HB:=zM (below_weaken (q9 HB.out HI0.out) HL.out hb); replace HI0:=zM (IsS73.grown (q7 HI0.out) hg (IsS73.own_ne HI0.out HO190.out (by decide))); replace HK:=zM (KeepBut.trans (q8 HK.out) (KeepBut.of_grown hg g) (Kd.R_base2 HO190.out)); replace HR184:=zM ((show Kd.C (Kd.int .i64) w45 Ao36 y181.length y181 from by rw [Ny181.out]; exact Kd.C_take (m := (t176 : Int).toNat) ((Kd.R_reads' (Kd.R_after (ok := (fun _ => True)) (q3 HO_5.out) hg hat)).2.2) KL41.out)); replace HR194:=zM ((show Kd.C (Kd.int .i64) w45 A44 y191.length y191 from by rw [Ny191.out, KA44.out]; exact Kd.C_drop (m := (t176 : Int).toNat) (c := co36) ((Kd.R_reads' (Kd.R_after (ok := (fun _ => True)) (q3 HO_5.out) hg hat)).2.2) KL44.out ((Kd.R_reads' (Kd.R_after (ok := (fun _ => True)) (q3 HO_5.out) hg hat)).2.1))); replace HO_5:=zM (Kd.R_after (ok := (fun _ => True)) (q3 HO_5.out) hg hat); have HO197:=zM (ho); clear HO190; clear ho hb hg hat))
           go_roundg k1
           case measure => have := HK1.out; omega
           case rel => exact ⟨(y195), (wrap64 (x7_1 + 1)), (t177), (by first | rfl | (simp; done) | (simp [*]; done)), H', ⟨by have := HK1.out; omega⟩, ⟨by (with_reducible repeat (first | apply Kd.R_alloc | apply Kd.R_drewN | apply Kd.R_drew)); exact Kd.R_mono HO197.out (fun _ hk => trivial)⟩, ⟨(q7 HI0.out)⟩, ⟨(q8 HK.out)⟩, ⟨(q9 HB.out HI0.out)⟩⟩
          ·rw [if_neg c35] at H
           exact absurd H (by simp)
         ·rw [if_neg c32] at H
          exact absurd H (by simp)
        ·rw [if_neg c31] at H
         exact absurd H (by simp)
       ·rw [if_neg c30] at H
        exact absurd H (by simp)
      ·rw [if_neg c29] at H
       exact absurd H (by simp)
     ·rw [if_neg c27] at H
      have c27b0 : (t174 == 0) = false := beq_eq_false_iff_ne.mpr c27
      have c27b1 : (t174 != 0) = true := bne_iff_ne.mpr c27
      obtain ⟨y198, hy198⟩ : ∃ y_ : List Int, y_ = (([] : List Int)) := ⟨_, rfl⟩
      replace H : (if 0 ≤ (x5_1.length : Int) then (if (x5_1.length : Int) ≤ (x5_1.length : Int) then ((some (x5_1.take ((x5_1.length : Int) : Int).toNat : List Int)).bind fun y201 => (if y198.length + y201.length < 17592186044416 then ((some (y198 ++ y201 : List Int)).bind fun y205 => (if y205.length < 17592186044416 then ((some (y205 ++ [x7_1] : List Int)).bind fun y208 => ((some (x5_1.drop ((x5_1.length : Int) : Int).toNat : List Int)).bind fun y211 => (if y208.length + y211.length < 17592186044416 then (spec_l20Order.l0 k1 a1 (y208 ++ y211) t150 (wrap64 (x7_1 + 1)) s0_0 t175) else (none)))) else (none))) else (none))) else (none)) else (none)) = some (r1, r2) := by first | (rw [hy198]; with_reducible exact H) | (have H2_ := (Option.bind_some _ _).symm.trans H; rw [hy198]; with_reducible exact H2_) | (have H2_ := (Option.bind_some _ _).symm.trans H; with_reducible exact H2_) | with_reducible exact H | (rw [hy198]; exact H) | exact H
      have Ny198:=zM hy198
      clear hy198
      by_cases c46 : 0 ≤ (x5_1.length : Int)
      ·rw [if_pos c46] at H
       have c46b0 := eq_true c46
       have c46b1 : decide (0 ≤ (x5_1.length : Int)) = true := decide_eq_true c46
       clear c46
       by_cases c47 : (x5_1.length : Int) ≤ (x5_1.length : Int)
       ·rw [if_pos c47] at H
        have c47b0 := eq_true c47
        have c47b1 : decide ((x5_1.length : Int) ≤ (x5_1.length : Int)) = true := decide_eq_true c47
        clear c47
        obtain ⟨y201, hy201⟩ : ∃ y_ : List Int, y_ = (x5_1.take ((x5_1.length : Int) : Int).toNat) := ⟨_, rfl⟩
        replace H : (if y198.length + y201.length < 17592186044416 then ((some (y198 ++ y201 : List Int)).bind fun y205 => (if y205.length < 17592186044416 then ((some (y205 ++ [x7_1] : List Int)).bind fun y208 => ((some (x5_1.drop ((x5_1.length : Int) : Int).toNat : List Int)).bind fun y211 => (if y208.length + y211.length < 17592186044416 then (spec_l20Order.l0 k1 a1 (y208 ++ y211) t150 (wrap64 (x7_1 + 1)) s0_0 t175) else (none)))) else (none))) else (none)) = some (r1, r2) := by first | (rw [hy201]; with_reducible exact H) | (have H2_ := (Option.bind_some _ _).symm.trans H; rw [hy201]; with_reducible exact H2_) | (have H2_ := (Option.bind_some _ _).symm.trans H; with_reducible exact H2_) | with_reducible exact H | (rw [hy201]; exact H) | exact H
        have Ny201:=zM hy201
        clear hy201
        by_cases c48 : y198.length + y201.length < 17592186044416
        ·rw [if_pos c48] at H
         have LMc48:=zM c48
         clear c48
         obtain ⟨y205, hy205⟩ : ∃ y_ : List Int, y_ = (y198 ++ y201) := ⟨_, rfl⟩
         replace H : (if y205.length < 17592186044416 then ((some (y205 ++ [x7_1] : List Int)).bind fun y208 => ((some (x5_1.drop ((x5_1.length : Int) : Int).toNat : List Int)).bind fun y211 => (if y208.length + y211.length < 17592186044416 then (spec_l20Order.l0 k1 a1 (y208 ++ y211) t150 (wrap64 (x7_1 + 1)) s0_0 t175) else (none)))) else (none)) = some (r1, r2) := by first | (rw [hy205]; with_reducible exact H) | (have H2_ := (Option.bind_some _ _).symm.trans H; rw [hy205]; with_reducible exact H2_) | (have H2_ := (Option.bind_some _ _).symm.trans H; with_reducible exact H2_) | with_reducible exact H | (rw [hy205]; exact H) | exact H
         have Ny205:=zM hy205
         clear hy205
         by_cases c49 : y205.length < 17592186044416
         ·rw [if_pos c49] at H
          have LMc49:=zM c49
          clear c49
          obtain ⟨y208, hy208⟩ : ∃ y_ : List Int, y_ = (y205 ++ [x7_1]) := ⟨_, rfl⟩
          replace H : ((some (x5_1.drop ((x5_1.length : Int) : Int).toNat : List Int)).bind fun y211 => (if y208.length + y211.length < 17592186044416 then (spec_l20Order.l0 k1 a1 (y208 ++ y211) t150 (wrap64 (x7_1 + 1)) s0_0 t175) else (none))) = some (r1, r2) := by first | (rw [hy208]; with_reducible exact H) | (have H2_ := (Option.bind_some _ _).symm.trans H; rw [hy208]; with_reducible exact H2_) | (have H2_ := (Option.bind_some _ _).symm.trans H; with_reducible exact H2_) | with_reducible exact H | (rw [hy208]; exact H) | exact H
          have Ny208:=zM hy208
          clear hy208
          have c50b0 := eq_true (of_decide_eq_true (by first | (with_reducible assumption) | assumption) : 0 ≤ (x5_1.length : Int))
          have c51b0 := eq_true (of_decide_eq_true (by first | (with_reducible assumption) | assumption) : (x5_1.length : Int) ≤ (x5_1.length : Int))
          obtain ⟨y211, hy211⟩ : ∃ y_ : List Int, y_ = (x5_1.drop ((x5_1.length : Int) : Int).toNat) := ⟨_, rfl⟩
          replace H : (if y208.length + y211.length < 17592186044416 then (spec_l20Order.l0 k1 a1 (y208 ++ y211) t150 (wrap64 (x7_1 + 1)) s0_0 t175) else (none)) = some (r1, r2) := by first | (rw [hy211]; with_reducible exact H) | (have H2_ := (Option.bind_some _ _).symm.trans H; rw [hy211]; with_reducible exact H2_) | (have H2_ := (Option.bind_some _ _).symm.trans H; with_reducible exact H2_) | with_reducible exact H | (rw [hy211]; exact H) | exact H
          have Ny211:=zM hy211
          clear hy211
          by_cases c52 : y208.length + y211.length < 17592186044416
          ·rw [if_pos c52] at H
           have LMc52:=zM c52
           clear c52
           obtain ⟨y215, hy215⟩ : ∃ y_ : List Int, y_ = (y208 ++ y211) := ⟨_, rfl⟩
           replace H : (spec_l20Order.l0 k1 a1 y215 t150 (wrap64 (x7_1 + 1)) s0_0 t175) = some (r1, r2) := by first | (rw [hy215]; with_reducible exact H) | (have H2_ := (Option.bind_some _ _).symm.trans H; rw [hy215]; with_reducible exact H2_) | (have H2_ := (Option.bind_some _ _).symm.trans H; with_reducible exact H2_) | with_reducible exact H | (rw [hy215]; exact H) | exact H
           have Ny215:=zM hy215
           clear hy215
           have H':=zM H
           clear H
           obtain ⟨Ao53, co53, eo53⟩ := Kd.R_slice HO_5.out
           subst eo53
           go_wp2_with (first | (go_at_call 43; (with_reducible refine (spec_l20Rd_pick.calls k1 g s0_0 x1001_1 3 t174 t175 w0 _ ?side1 ?side2 A26.out).mono ?_); (case side1 => exact (q7 HI0.out)); (case side2 => exact (q9 HB.out HI0.out)); rintro e w54 ⟨rfl, hi, hb, hk⟩; replace HO_5:=zM (Kd.R_mono (Kd.R_keep (IsS73.apart (show IsS73 w0 _ g s0_0 x1001_1 from (q7 HI0.out)) (q3 HO_5.out) (by decide)) hk (fun _ h => h.2)) (fun _ h => h.1)); replace HK:=zM (KeepBut.trans (q8 HK.out) hk (.inl rfl)); replace HB:=zM (hb); replace HI0:=zM (hi); (try clear hb); (try clear hb2); (try clear hk); (try clear hi)) | ((with_reducible refine gate_dst (N := 30) rfl ?_); refine Kd.R_lit (Kd.int .i64) _ 3 q0 (N := 30) q0 (xs := ([] : List Int)) (inner := []) (ok := fun _ => True) (okp := fun _ => True) q1 ?hp (fun _ hk => hk) trivial (Below.refl _ _) (Nat.le_refl _) (by simp) ?_; (case hp => exact (Reps.none _ _)); intro v199 w55 ho56 hb hg_ hnew_; clear hg_ hnew_; (first | rw [← Ny198.out] at ho56 | (simp only [Int.reduceToNat] at ho56; rw [← Ny198.out] at ho56)); have HO200:=zM (Kd.R_lower (Kd.R_new' ho56 (Kd.R_lt (q3 HO_5.out))) (keep_size (w := w) (g := g) (row := none) (q8 HK.out))); replace HO_5:=zM (Kd.R_elder' (q3 HO_5.out) (Kd.R_base ho56) hb); replace HK:=zM (KeepBut.trans (q8 HK.out) (KeepBut.of_below hb g none) (.inl rfl)); replace HB:=zM (below_step (q9 HB.out HI0.out) hb); replace HI0:=zM (IsS73.below (q7 HI0.out) hb); clear hb ho56; have q57 : ((x5_1.length : Int) : Int) ≤ ((x5_1.length : Int) : Int) := of_decide_eq_true (by first | (with_reducible assumption) | assumption); obtain ⟨i057, hi057, _, hsz57, _⟩ := info_parts info3; have hroom57 : x5_1.length ≤ co53 := (Kd.R_reads' HO_5.out).2.1; have hC57 : Kd.C (Kd.int .i64) _ Ao53 x5_1.length x5_1 := (Kd.R_reads' HO_5.out).2.2; have hcut57 := cut_to (P := Tryd.prog) 54 3 .i64 Tryd.underlying54 hi057 Ao53 x5_1.length co53 (x5_1.length : Int) (of_decide_eq_true (by first | (with_reducible assumption) | assumption)) q57 hroom57; have hr57 := Kd.C_take (m := ((x5_1.length : Int) : Int).toNat) hC57 (by omega); have hy57 : y201.length = ((x5_1.length : Int) : Int).toNat := (by rw [Ny201.out, List.length_take]; omega); rw [← Ny201.out] at hr57; rw [← hy57] at hcut57; have HR204:=zM hr57; have HC204:=zM (show y201.length ≤ co53 from by omega); clear hr57 hC57 hroom57 hi057 hsz57; have KY57:=zM hy57; clear hy57; have KL57:=zM (show ((x5_1.length : Int) : Int).toNat ≤ x5_1.length from by omega); replace q57 := eq_true q57) | ((with_reducible refine gate_builtin (b := .append) (xs := #[.tmp 30, .tmp 33]) rfl ?_); at_builtin; refine Kd.R_append_rows (Kd.int .i64) w.heap.size rfl (.tmp 30) (.tmp 33) 54 3 (.int .i64 0) 8 rfl Tryd.underlying54 info3 rfl (by decide) (by omega) v199 y198 y201 _ _ _ (fun k_ => some k_ ≠ (.slice Ao53 x5_1.length co53 : Value).ownBlock) (fun _ => False) rfl rfl ?aO ?aR (fun _ _ h => h) (fun _ h => h.elim) ?aF (Below.refl _ _) ?aS ?aL ?_; (case aR => repeat (first | exact (by repeat (first | (with_reducible exact HR204.out) | (with_reducible refine Kd.C_alloc ?_ _) | (with_reducible refine Kd.C_drewN ?_ _) | (with_reducible refine Kd.C_drew ?_) | exact HR204.out)) | (with_reducible refine Kd.C_alloc ?_ _) | (with_reducible refine Kd.C_drewN ?_ _) | (with_reducible refine Kd.C_drew ?_))); (case aF => exact (fun k_ hk => Kd.fresh' (Kd.R_lt (q3 HO_5.out)) k_ hk)); (case aO => exact (by (with_reducible repeat (first | apply Kd.R_alloc | apply Kd.R_drewN | apply Kd.R_drew)); exact Kd.R_mono HO200.out (fun _ hk => hk.2))); (case aS => exact (keep_size (w := w) (g := g) (row := none) (q8 HK.out))); (case aL => have := LMc48.out; omega); intro v206 w58 ho hb hg hat; rw [← Ny205.out] at ho; replace HB:=zM (below_weaken (q9 HB.out HI0.out) HL.out hb); replace HI0:=zM (IsS73.grown (q7 HI0.out) hg (IsS73.own_ne HI0.out HO200.out (by decide))); replace HK:=zM (KeepBut.trans (q8 HK.out) (KeepBut.of_grown hg g) (Kd.R_base2 HO200.out)); replace HR204:=zM ((show Kd.C (Kd.int .i64) w58 Ao53 y201.length y201 from by rw [Ny201.out]; exact Kd.C_take (m := ((x5_1.length : Int) : Int).toNat) ((Kd.R_reads' (Kd.R_after (ok := (fun _ => True)) (q3 HO_5.out) hg hat)).2.2) KL57.out)); replace HO_5:=zM (Kd.R_after (ok := (fun _ => True)) (q3 HO_5.out) hg hat); have HO207:=zM (ho); clear HO200; clear ho hb hg hat) | ((with_reducible refine gate_builtin (b := .append) (xs := #[.tmp 35, .tmp 37]) rfl ?_); at_builtin; refine Kd.R_append (Kd.int .i64) w.heap.size rfl (.tmp 35) (.tmp 37) 54 3 (.int .i64 0) 8 rfl Tryd.underlying54 info3 rfl (by decide) (by omega) v206 y205 x7_1 [.int .i64 x7_1] (fun k_ => some k_ ≠ (.slice Ao53 x5_1.length co53 : Value).ownBlock) (fun _ => False) rfl rfl ?aP (fun _ hk => hk.elim) ?aF ?aO (Below.refl _ _) ?aS ?aL ?_; (case aP => exact rfl); (case aF => exact (fun k_ hk => Kd.fresh' (Kd.R_lt (q3 HO_5.out)) k_ hk)); (case aO => exact (q3 HO207.out)); (case aS => exact (keep_size (w := w) (g := g) (row := none) (q8 HK.out))); (case aL => have := LMc49.out; omega); intro v209 w59 ho hb hg hat; rw [← Ny208.out] at ho; replace HB:=zM (below_weaken (q9 HB.out HI0.out) HL.out hb); replace HI0:=zM (IsS73.grown (q7 HI0.out) hg (IsS73.own_ne HI0.out HO207.out (by decide))); replace HK:=zM (KeepBut.trans (q8 HK.out) (KeepBut.of_grown hg g) (Kd.R_base2 HO207.out)); replace HR204:=zM ((show Kd.C (Kd.int .i64) w59 Ao53 y201.length y201 from by rw [Ny201.out]; exact Kd.C_take (m := ((x5_1.length : Int) : Int).toNat) ((Kd.R_reads' (Kd.R_after (ok := (fun _ => True)) (q3 HO_5.out) hg hat)).2.2) KL57.out)); replace HO_5:=zM (Kd.R_after (ok := (fun _ => True)) (q3 HO_5.out) hg hat); have HO210:=zM (ho); clear HO207; clear ho hb hg hat; have q60 : ((x5_1.length : Int) : Int) ≤ ((x5_1.length : Int) : Int) := of_decide_eq_true (by first | (with_reducible assumption) | assumption); obtain ⟨i060, hi060, _, hsz60, _⟩ := info_parts info3; have hroom60 : x5_1.length ≤ co53 := (Kd.R_reads' HO_5.out).2.1; have hC60 : Kd.C (Kd.int .i64) _ Ao53 x5_1.length x5_1 := (Kd.R_reads' HO_5.out).2.2; have q060 : (0 : Int) ≤ ((x5_1.length : Int) : Int) := of_decide_eq_true (by first | (with_reducible assumption) | assumption); have hcut60 := cut_from (P := Tryd.prog) 54 3 .i64 Tryd.underlying54 hi060 1 hsz60 Ao53 x5_1.length co53 (x5_1.length : Int) q060 q60; have hr60 := Kd.C_drop (m := ((x5_1.length : Int) : Int).toNat) (c := co53) hC60 (by omega) hroom60; obtain ⟨A60, hA60⟩ : ∃ A1, A1 = (if co53 = ((x5_1.length : Int) : Int).toNat then Ao53 else (Ao53 : Option Addr).map (·.add (((x5_1.length : Int) : Int).toNat * 1))) := ⟨_, rfl⟩; obtain ⟨c60, hc60⟩ : ∃ c1, c1 = co53 - ((x5_1.length : Int) : Int).toNat := ⟨_, rfl⟩; have hy60 : y211.length = x5_1.length - ((x5_1.length : Int) : Int).toNat := (by rw [Ny211.out, List.length_drop] <;> omega); rw [show (x5_1).drop ((x5_1.length : Int) : Int).toNat = y211 from Ny211.out.symm] at hr60; replace hr60 : Kd.C (Kd.int .i64) _ A60 y211.length y211 := (by rw [hA60]; exact hr60); rw [← hy60, ← hA60, ← hc60] at hcut60; have HR214:=zM hr60; have HC214:=zM (show y211.length ≤ c60 from by rw [hy60, hc60]; exact Nat.sub_le_sub_right hroom60 _); clear hr60 hC60 hroom60 hi060 hsz60 hc60; have KY60:=zM hy60; have KA60:=zM hA60; clear hy60 hA60; have KL60:=zM (show ((x5_1.length : Int) : Int).toNat ≤ x5_1.length from by omega); replace q60 := eq_true q60) | ((with_reducible refine gate_builtin (b := .append) (xs := #[.tmp 39, .tmp 42]) rfl ?_); at_builtin; refine Kd.R_append_rows (Kd.int .i64) w.heap.size rfl (.tmp 39) (.tmp 42) 54 3 (.int .i64 0) 8 rfl Tryd.underlying54 info3 rfl (by decide) (by omega) v209 y208 y211 _ _ _ (fun k_ => some k_ ≠ (.slice Ao53 x5_1.length co53 : Value).ownBlock) (fun _ => False) rfl rfl ?aO ?aR (fun _ _ h => h) (fun _ h => h.elim) ?aF (Below.refl _ _) ?aS ?aL ?_; (case aR => repeat (first | exact (by repeat (first | (with_reducible exact HR214.out) | (with_reducible refine Kd.C_alloc ?_ _) | (with_reducible refine Kd.C_drewN ?_ _) | (with_reducible refine Kd.C_drew ?_) | exact HR214.out)) | (with_reducible refine Kd.C_alloc ?_ _) | (with_reducible refine Kd.C_drewN ?_ _) | (with_reducible refine Kd.C_drew ?_))); (case aF => exact (fun k_ hk => Kd.fresh' (Kd.R_lt (q3 HO_5.out)) k_ hk)); (case aO => exact (q3 HO210.out)); (case aS => exact (keep_size (w := w) (g := g) (row := none) (q8 HK.out))); (case aL => have := LMc52.out; omega); intro v216 w61 ho hb hg hat; rw [← Ny215.out] at ho; replace HB:=zM (below_weaken (q9 HB.out HI0.out) HL.out hb); replace HI0:=zM (IsS73.grown (q7 HI0.out) hg (IsS73.own_ne HI0.out HO210.out (by decide))); replace HK:=zM (KeepBut.trans (q8 HK.out) (KeepBut.of_grown hg g) (Kd.R_base2 HO210.out)); replace HR204:=zM ((show Kd.C (Kd.int .i64) w61 Ao53 y201.length y201 from by rw [Ny201.out]; exact Kd.C_take (m := ((x5_1.length : Int) : Int).toNat) ((Kd.R_reads' (Kd.R_after (ok := (fun _ => True)) (q3 HO_5.out) hg hat)).2.2) KL57.out)); replace HR214:=zM ((show Kd.C (Kd.int .i64) w61 A60 y211.length y211 from by rw [Ny211.out, KA60.out]; exact Kd.C_drop (m := ((x5_1.length : Int) : Int).toNat) (c := co53) ((Kd.R_reads' (Kd.R_after (ok := (fun _ => True)) (q3 HO_5.out) hg hat)).2.2) KL60.out ((Kd.R_reads' (Kd.R_after (ok := (fun _ => True)) (q3 HO_5.out) hg hat)).2.1))); replace HO_5:=zM (Kd.R_after (ok := (fun _ => True)) (q3 HO_5.out) hg hat); have HO217:=zM (ho); clear HO210; clear ho hb hg hat))
           go_roundg k1
           case measure => have := HK1.out; omega
           case rel => exact ⟨(y215), (wrap64 (x7_1 + 1)), (t175), (by first | rfl | (simp; done) | (simp [*]; done)), H', ⟨by have := HK1.out; omega⟩, ⟨by (with_reducible repeat (first | apply Kd.R_alloc | apply Kd.R_drewN | apply Kd.R_drew)); exact Kd.R_mono HO217.out (fun _ hk => trivial)⟩, ⟨(q7 HI0.out)⟩, ⟨(q8 HK.out)⟩, ⟨(q9 HB.out HI0.out)⟩⟩
          ·rw [if_neg c52] at H
           exact absurd H (by simp)
         ·rw [if_neg c49] at H
          exact absurd H (by simp)
        ·rw [if_neg c48] at H
         exact absurd H (by simp)
       ·rw [if_neg c47] at H
        exact absurd H (by simp)
      ·rw [if_neg c46] at H
       exact absurd H (by simp)
   ·rw [if_neg c7] at H
    have c7b0 : decide (x7_1 ≤ a1) = false := decide_eq_false c7
    clear c7
    simp only [Option.some.injEq, Prod.mk.injEq] at H
    obtain ⟨rfl, rfl⟩ := H
    go_wp2
    go_ret
    exact ⟨_, by first | rfl | (simp [errW_none, errW_some] <;> rfl) | (simp [*, errW_none, errW_some] <;> rfl), by (with_reducible repeat (first | apply Kd.R_alloc | apply Kd.R_drewN | apply Kd.R_drew)); exact HO_5.out, (q7 HI0.out), (q9 HB.out HI0.out), (q8 HK.out)⟩

end Go.Proofs.YtopfhdhdpnenpaaDoor.LH
