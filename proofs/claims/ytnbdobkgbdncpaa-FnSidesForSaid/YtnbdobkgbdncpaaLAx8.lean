/- Printed by a program of this session (wip/lp/lp.py) out of the translation: functions with the same answers as the Go code, and their contracts; no conditions beyond those that each theorem names. -/
import Derived.Test.YtnbdobkgbdncpaaLAx0
import Derived.Test.YtnbdobkgbdncpaaLAx7
namespace Go.Proofs.Ytnbdobkgbdncpaa.LA
open Go.RowKit Go.Proofs.YtnbdobkgbdncpaaV.PrintWords Go.Proofs.YtnbdobkgbdncpaaV.PrintLast Go.Proofs.YtnbdobkgbdncpaaV.PrintMore
attribute [local go_sem] max2_int min2_int max_two min_two max_three min_three max_four min_four   -- for this text's walks alone
set_option linter.unusedVariables false
set_option linter.unusedSimpArgs false

/-! ### spec_l11Sides: function 18 -/
mutual
def spec_l11Sides.l0 : Nat → List (List Int) → List Int → Int → Option (List Int × Bool)
 | 0, _, _, _ => none
 | k + 1, x0, x4, x5 => if x5 < (x0.length : Int) then (if x4.length < 17592186044416 then (spec_l11Sides.l0 k x0 (x4 ++ [(-1)]) (wrap64 (x5 + 1))) else (none)) else (spec_l11Sides.l1 k x0 x4 0)
def spec_l11Sides.l1 : Nat → List (List Int) → List Int → Int → Option (List Int × Bool)
 | 0, _, _, _ => none
 | k + 1, x0, x4, x6 => if x6 < (x0.length : Int) then (if 0 ≤ x6 then (if x6 < (x4.length : Int) then (if (rd x4 x6) ≥ 0 then (spec_l11Sides.l1 k x0 x4 (wrap64 (x6 + 1))) else (spec_l11Sides.l2 k x0 (x4.set (x6 : Int).toNat 0) x6 (([x6] : List Int)))) else (none)) else (none)) else (some (x4, true))
def spec_l11Sides.l2 : Nat → List (List Int) → List Int → Int → List Int → Option (List Int × Bool)
 | 0, _, _, _, _ => none
 | k + 1, x0, x4, x6, x7 => if (x7.length : Int) > 0 then (if 0 < (x7.length : Int) then (if 1 ≤ (x7.length : Int) then (spec_l11Sides.l3 k x0 x4 x6 (x7.drop (1 : Int).toNat) (rd x7 0) 0) else (none)) else (none)) else (spec_l11Sides.l1 k x0 x4 (wrap64 (x6 + 1)))
def spec_l11Sides.l3 : Nat → List (List Int) → List Int → Int → List Int → Int → Int → Option (List Int × Bool)
 | 0, _, _, _, _, _, _ => none
 | k + 1, x0, x4, x6, x7, x8, x9 => if x9 < (x0.length : Int) then (if 0 ≤ x8 then (if x8 < (x0.length : Int) then (if 0 < ((rd_L2 x0 x8).length : Int) then (if 1 < ((rd_L2 x0 x8).length : Int) then (if 0 ≤ x9 then (if 0 < ((rd_L2 x0 x9).length : Int) then (if 1 < ((rd_L2 x0 x9).length : Int) then ((spec_CrossOk.f (rd (rd_L2 x0 x8) 0) (rd (rd_L2 x0 x8) 1) (rd (rd_L2 x0 x9) 0) (rd (rd_L2 x0 x9) 1)).bind fun t345 => (if t345 = true then (if x9 < (x4.length : Int) then (if x8 < (x4.length : Int) then (if (rd x4 x9) = (rd x4 x8) then (some ((([] : List Int)), false)) else (if (rd x4 x9) < 0 then (if x7.length < 17592186044416 then (spec_l11Sides.l3 k x0 (x4.set (x9 : Int).toNat (wrap64 (1 - (rd x4 x8)))) x6 (x7 ++ [x9]) x8 (wrap64 (x9 + 1))) else (none)) else (spec_l11Sides.l3 k x0 x4 x6 x7 x8 (wrap64 (x9 + 1))))) else (none)) else (none)) else (spec_l11Sides.l3 k x0 x4 x6 x7 x8 (wrap64 (x9 + 1))))) else (none)) else (none)) else (none)) else (none)) else (none)) else (none)) else (none)) else (spec_l11Sides.l2 k x0 x4 x6 x7)
end
def spec_l11Sides.f (k : Nat) (l0 : List (List Int)) : Option (List Int × Bool) := spec_l11Sides.l0 k l0 (([] : List Int)) 0
theorem spec_l11Sides.mono_l : ∀ k, (∀ y0 y1 y2, LeO (spec_l11Sides.l0 k y0 y1 y2) (spec_l11Sides.l0 (k + 1) y0 y1 y2)) ∧ (∀ y0 y1 y2, LeO (spec_l11Sides.l1 k y0 y1 y2) (spec_l11Sides.l1 (k + 1) y0 y1 y2)) ∧ (∀ y0 y1 y2 y3, LeO (spec_l11Sides.l2 k y0 y1 y2 y3) (spec_l11Sides.l2 (k + 1) y0 y1 y2 y3)) ∧ (∀ y0 y1 y2 y3 y4 y5, LeO (spec_l11Sides.l3 k y0 y1 y2 y3 y4 y5) (spec_l11Sides.l3 (k + 1) y0 y1 y2 y3 y4 y5))
 | 0 => ⟨fun _ _ _ r h => by simp [spec_l11Sides.l0] at h, fun _ _ _ r h => by simp [spec_l11Sides.l1] at h, fun _ _ _ _ r h => by simp [spec_l11Sides.l2] at h, fun _ _ _ _ _ _ r h => by simp [spec_l11Sides.l3] at h⟩
 | k + 1 => by
  obtain ⟨ih0, ih1, ih2, ih3⟩ := spec_l11Sides.mono_l k
  refine ⟨?_, ?_, ?_, ?_⟩
  ·intro y0 y1 y2
   unfold spec_l11Sides.l0
   repeat' first
   | (with_reducible exact ih0 _ _ _)
   | (with_reducible exact ih1 _ _ _)
   | (with_reducible exact ih2 _ _ _ _)
   | (with_reducible exact ih3 _ _ _ _ _ _)
   | (with_reducible exact LeO.refl _)
   | (with_reducible exact LeO.none _)
   | (with_reducible refine LeO.ite ?_ ?_)
   | (with_reducible refine LeO.bind ?_ (fun _ => ?_))
   | refine LeO.ite ?_ ?_
   | refine LeO.bind ?_ (fun _ => ?_)
  ·intro y0 y1 y2
   unfold spec_l11Sides.l1
   repeat' first
   | (with_reducible exact ih0 _ _ _)
   | (with_reducible exact ih1 _ _ _)
   | (with_reducible exact ih2 _ _ _ _)
   | (with_reducible exact ih3 _ _ _ _ _ _)
   | (with_reducible exact LeO.refl _)
   | (with_reducible exact LeO.none _)
   | (with_reducible refine LeO.ite ?_ ?_)
   | (with_reducible refine LeO.bind ?_ (fun _ => ?_))
   | refine LeO.ite ?_ ?_
   | refine LeO.bind ?_ (fun _ => ?_)
  ·intro y0 y1 y2 y3
   unfold spec_l11Sides.l2
   repeat' first
   | (with_reducible exact ih0 _ _ _)
   | (with_reducible exact ih1 _ _ _)
   | (with_reducible exact ih2 _ _ _ _)
   | (with_reducible exact ih3 _ _ _ _ _ _)
   | (with_reducible exact LeO.refl _)
   | (with_reducible exact LeO.none _)
   | (with_reducible refine LeO.ite ?_ ?_)
   | (with_reducible refine LeO.bind ?_ (fun _ => ?_))
   | refine LeO.ite ?_ ?_
   | refine LeO.bind ?_ (fun _ => ?_)
  ·intro y0 y1 y2 y3 y4 y5
   unfold spec_l11Sides.l3
   repeat' first
   | (with_reducible exact ih0 _ _ _)
   | (with_reducible exact ih1 _ _ _)
   | (with_reducible exact ih2 _ _ _ _)
   | (with_reducible exact ih3 _ _ _ _ _ _)
   | (with_reducible exact LeO.refl _)
   | (with_reducible exact LeO.none _)
   | (with_reducible refine LeO.ite ?_ ?_)
   | (with_reducible refine LeO.bind ?_ (fun _ => ?_))
   | refine LeO.ite ?_ ?_
   | refine LeO.bind ?_ (fun _ => ?_)
theorem spec_l11Sides.mono : ∀ a0 k, LeO (spec_l11Sides.f k a0) (spec_l11Sides.f (k + 1) a0) := by
 intro a0 k
 obtain ⟨ih0, ih1, ih2, ih3⟩ := spec_l11Sides.mono_l k
 unfold spec_l11Sides.f
 repeat' first
   | (with_reducible exact ih0 _ _ _)
   | (with_reducible exact ih1 _ _ _)
   | (with_reducible exact ih2 _ _ _ _)
   | (with_reducible exact ih3 _ _ _ _ _ _)
   | (with_reducible exact LeO.refl _)
   | (with_reducible exact LeO.none _)
   | (with_reducible refine LeO.ite ?_ ?_)
   | (with_reducible refine LeO.bind ?_ (fun _ => ?_))
   | refine LeO.ite ?_ ?_
   | refine LeO.bind ?_ (fun _ => ?_)
def spec_l11Sides.T18 : Bool × List (List Nat × List Nat) := (true, [([], []), ([], []), ([0, 1], [0, 1]), ([2], [2]), ([3], [3]), ([4], [4]), ([], []), ([], []), ([6, 7], [6, 7]), ([8], [8]), ([9], [9]), ([10], [10]), ([], []), ([], []), ([12, 13], [12, 13]), ([14], [14]), ([15], [15]), ([16], [16]), ([], []), ([], []), ([18, 19], [18, 19]), ([20], [20]), ([21], [21]), ([22], [22]), ([5, 11, 17, 23], [5, 11, 17, 23]), ([24], [24])])
def spec_l11Sides.B18 : List Nat := [0, 0, 3, 7, 15, 31, 0, 0, 192, 448, 960, 1984, 0, 0, 12288, 28672, 61440, 126976, 0, 0, 786432, 1835008, 3932160, 8126464, 16777215, 33554431]
theorem spec_l11Sides.tab18 : rtab .any (opsOf Try.f18 18) = spec_l11Sides.T18 := by kernel_rfl
theorem spec_l11Sides.bits18 : waitsOk spec_l11Sides.T18.2 spec_l11Sides.B18 = true := by kernel_rfl
def spec_l11Sides.T19 : Bool × List (List Nat × List Nat) := (true, [([], []), ([], []), ([0, 1], [0, 1]), ([2], [2]), ([], []), ([], []), ([4, 5], [4, 5]), ([6], [6]), ([3, 7], [3, 7])])
def spec_l11Sides.B19 : List Nat := [0, 0, 3, 7, 0, 0, 48, 112, 255]
theorem spec_l11Sides.tab19 : rtab .any (opsOf Try.f18 19) = spec_l11Sides.T19 := by kernel_rfl
theorem spec_l11Sides.bits19 : waitsOk spec_l11Sides.T19.2 spec_l11Sides.B19 = true := by kernel_rfl
set_option maxHeartbeats 8000000 in
set_option maxRecDepth 100000 in
theorem spec_l11Sides.calls (k : Nat) (A0 : Option Addr) (c0 : Nat) (l0 : List (List Int)) (r1 : List Int) (r2 : Bool) (w : World) (hr0 : Kd.C (Kd.slice 3 (Kd.int .i64)) w A0 l0.length l0) (hc0 : l0.length ≤ c0) (h : spec_l11Sides.f k l0 = some (r1, r2)) :
  Calls Try.prog 18 #[.slice A0 l0.length c0] w fun e w' => ∃ v0_ : Value, e = .returned (.tuple #[v0_, .bool r2]) ∧ Kd.R (Kd.int .i64) 3 w' w.heap.size (fun _ => True) v0_ r1 ∧ Below w.heap.size w w' := by
 have HR0 := zM hr0
 have HC0 := zM hc0
 clear hr0 hc0
 have HB := zM (Below.refl w.heap.size w)
 have H : (spec_l11Sides.l0 k l0 (([] : List Int)) 0) = some (r1, r2) := h
 clear h
 obtain ⟨y322, hy322⟩ : ∃ y_ : List Int, y_ = (([] : List Int)) := ⟨_, rfl⟩
 replace H : (spec_l11Sides.l0 k l0 y322 0) = some (r1, r2) := by first | (rw [hy322]; with_reducible exact H) | (have H2_ := (Option.bind_some _ _).symm.trans H; rw [hy322]; with_reducible exact H2_) | (have H2_ := (Option.bind_some _ _).symm.trans H; with_reducible exact H2_) | with_reducible exact H | (rw [hy322]; exact H) | exact H
 have Ny322 := zM hy322
 clear hy322
 have H' := zM H
 clear H
 go_enter Try.func18, Try.ntmps18
 go_wp2_with (first | ((with_reducible refine gate_dst (N := 10) rfl ?_); refine Kd.R_lit (Kd.int .i64) _ 3 ?hg (N := 10) ?hd (xs := ([] : List Int)) (inner := []) (ok := fun _ => True) (okp := fun _ => True) ?hr ?hp (fun _ hk => hk) trivial (Below.refl _ _) (Nat.le_refl _) (by simp) ?_; (case hd => rfl); (case hg => rfl); (case hr => first | (go_simp; done) | (go_simp; rfl)); (case hp => exact (Reps.none _ _)); intro v323 w2 ho3 hb hg_ hnew_; clear hg_ hnew_; (first | rw [← Ny322.out] at ho3 | (simp only [Int.reduceToNat] at ho3; rw [← Ny322.out] at ho3)); have n0_ := zM (Kd.R_lower ho3 (below_size (by repeat (first | (with_reducible first | exact HB.out | apply zB | apply zA | apply zC) | exact HB.out)))); have n1_ := zM (below_step (by repeat (first | (with_reducible first | exact HB.out | apply zB | apply zA | apply zC) | exact HB.out)) hb); clear HB; have HO324 := n0_; have HB := n1_; clear n0_ n1_; clear hb ho3))
 go_loopg [4, 5] k (fun kq v4 v5 w' => ∃ (x4_1 : List Int) (x5_1 : Int), v5 = .int .i64 x5_1 ∧ Aside0 (spec_l11Sides.l0 kq l0 x4_1 x5_1 = some (r1, r2)) ∧ Aside0 (kq ≤ k) ∧ Aside0 (Kd.R (Kd.int .i64) 3 w' w.heap.size (fun _ => True) v4 x4_1) ∧ Aside0 (Below w.heap.size w w'))
 case atStart => exact ⟨(y322), (0), (by first | rfl | (simp; done) | (simp [*]; done)), H', ⟨Nat.le_refl _⟩, ⟨by exact HO324.out⟩, ⟨by repeat (first | (with_reducible first | exact HB.out | apply zB | apply zA | apply zC) | exact HB.out)⟩⟩
 case round =>
  clear H'
  try clear c1
  try clear p2
  obtain ⟨x4_1, x5_1, rfl, HA, HK1, HO_4, HB⟩ := hrel
  cases gk with
  | zero => exact absurd HA.out (by simp [spec_l11Sides.l0])
  | succ k1 =>
   have H := HA.out
   clear HA
   simp only [spec_l11Sides.l0] at H
   by_cases c4 : x5_1 < (l0.length : Int)
   ·rw [if_pos c4] at H
    have c4b0 : decide (x5_1 < (l0.length : Int)) = true := decide_eq_true c4
    clear c4
    by_cases c5 : x4_1.length < 17592186044416
    ·rw [if_pos c5] at H
     have LMc5 := zM c5
     clear c5
     obtain ⟨y325, hy325⟩ : ∃ y_ : List Int, y_ = (x4_1 ++ [(-1)]) := ⟨_, rfl⟩
     replace H : (spec_l11Sides.l0 k1 l0 y325 (wrap64 (x5_1 + 1))) = some (r1, r2) := by first | (rw [hy325]; with_reducible exact H) | (have H2_ := (Option.bind_some _ _).symm.trans H; rw [hy325]; with_reducible exact H2_) | (have H2_ := (Option.bind_some _ _).symm.trans H; with_reducible exact H2_) | with_reducible exact H | (rw [hy325]; exact H) | exact H
     have Ny325 := zM hy325
     clear hy325
     have H' := zM H
     clear H
     go_wp2_with (first | ((with_reducible refine gate_builtin (b := .append) (xs := #[.tmp 17, .tmp 18]) rfl ?_); at_builtin; refine Kd.R_append (Kd.int .i64) (w0 := w) w.heap.size rfl (.tmp 17) (.tmp 18) 23 3 (.int .i64 0) 8 rfl Try.underlying23 info3 rfl (by decide) (by omega) u4 x4_1 (-1) [.int .i64 (-1)] (fun _ => True) (fun _ => False) rfl rfl ?aP (fun _ hk => hk.elim) ?aF ?aO ?aB ?aS ?aL ?_; (case aP => exact rfl); (case aB => exact (by repeat (first | (with_reducible first | exact HB.out | apply zB | apply zA | apply zC) | exact HB.out))); (case aF => exact (fun _ _ => trivial)); (case aO => exact (by exact HO_4.out)); (case aS => exact (below_size (by repeat (first | (with_reducible first | exact HB.out | apply zB | apply zA | apply zC) | exact HB.out)))); (case aL => have := LMc5.out; omega); intro v326 w6 ho hb hg hat; rw [← Ny325.out] at ho; have n0_ := zM (hb); have n1_ := zM (ho); clear HB; clear HO_4; have HB := n0_; have HO327 := n1_; clear n0_ n1_; clear ho hb hg hat))
     go_roundg k1
     case measure => have := HK1.out; omega
     case rel => exact ⟨(y325), (wrap64 (x5_1 + 1)), (by first | rfl | (simp; done) | (simp [*]; done)), H', ⟨by have := HK1.out; omega⟩, ⟨by exact HO327.out⟩, ⟨by repeat (first | (with_reducible first | exact HB.out | apply zB | apply zA | apply zC) | exact HB.out)⟩⟩
    ·rw [if_neg c5] at H
     exact absurd H (by simp)
   ·rw [if_neg c4] at H
    have c4b0 : decide (x5_1 < (l0.length : Int)) = false := decide_eq_false c4
    clear c4
    have H' := zM H
    clear H
    go_wp2
    go_loopg [6] k1 (fun kq v6 w' => ∃ (x4_2 : List Int) (x6_2 : Int), v6 = .int .i64 x6_2 ∧ Aside0 (spec_l11Sides.l1 kq l0 x4_2 x6_2 = some (r1, r2)) ∧ Aside0 (kq ≤ k1) ∧ Aside0 (Kd.R (Kd.int .i64) 3 w' w.heap.size (fun _ => True) u4 x4_2) ∧ Aside0 (Below w.heap.size w w'))
    case atStart => exact ⟨(x4_1), (0), (by first | rfl | (simp; done) | (simp [*]; done)), H', ⟨Nat.le_refl _⟩, ⟨by exact HO_4.out⟩, ⟨by repeat (first | (with_reducible first | exact HB.out | apply zB | apply zA | apply zC) | exact HB.out)⟩⟩
    case round =>
     clear H'
     try clear c1
     try clear p2
     try clear c4
     try clear c4b0
     try clear c5
     try clear p6
     try clear p2
     obtain ⟨x4_2, x6_2, rfl, HA, HK2, HO_4, HB⟩ := hrel
     cases gk with
     | zero => exact absurd HA.out (by simp [spec_l11Sides.l1])
     | succ k2 =>
      have H := HA.out
      clear HA
      simp only [spec_l11Sides.l1] at H
      by_cases c7 : x6_2 < (l0.length : Int)
      ·rw [if_pos c7] at H
       have c7b0 : decide (x6_2 < (l0.length : Int)) = true := decide_eq_true c7
       clear c7
       by_cases c8 : 0 ≤ x6_2
       ·rw [if_pos c8] at H
        have c8b0 : decide (0 ≤ x6_2) = true := decide_eq_true c8
        clear c8
        by_cases c9 : x6_2 < (x4_2.length : Int)
        ·rw [if_pos c9] at H
         have c9b0 : decide (x6_2 < (x4_2.length : Int)) = true := decide_eq_true c9
         clear c9
         by_cases c10 : (rd x4_2 x6_2) ≥ 0
         ·rw [if_pos c10] at H
          have c10b0 : decide (0 ≤ (rd x4_2 x6_2)) = true := decide_eq_true c10
          clear c10
          have H' := zM H
          clear H
          obtain ⟨Ao11, co11, eo11⟩ := Kd.R_slice HO_4.out
          subst eo11
          have p328 : 0 ≤ (x6_2 : Int) := of_decide_eq_true (by first | (with_reducible assumption) | assumption)
          have q328 : x6_2 < (x4_2.length : Int) := of_decide_eq_true (by first | (with_reducible assumption) | assumption)
          obtain ⟨ad328, e328, hx328_0⟩ := Kd.at_int (Kd.R_reads' HO_4.out).2.2 x6_2 p328 q328
          cases e328
          replace p328 := eq_true p328
          replace q328 := eq_true q328
          go_wp2
          go_roundg k2
          case measure => have := HK1.out; have := HK2.out; omega
          case rel => exact ⟨(x4_2), (wrap64 (x6_2 + 1)), (by first | rfl | (simp; done) | (simp [*]; done)), H', ⟨by have := HK1.out; have := HK2.out; omega⟩, ⟨by exact HO_4.out⟩, ⟨by repeat (first | (with_reducible first | exact HB.out | apply zB | apply zA | apply zC) | exact HB.out)⟩⟩
         ·rw [if_neg c10] at H
          have c10b0 : decide (0 ≤ (rd x4_2 x6_2)) = false := decide_eq_false c10
          clear c10
          obtain ⟨y329, hy329⟩ : ∃ y_ : List Int, y_ = (x4_2.set (x6_2 : Int).toNat 0) := ⟨_, rfl⟩
          replace H : (spec_l11Sides.l2 k2 l0 y329 x6_2 (([x6_2] : List Int))) = some (r1, r2) := by first | (rw [hy329]; with_reducible exact H) | (have H2_ := (Option.bind_some _ _).symm.trans H; rw [hy329]; with_reducible exact H2_) | (have H2_ := (Option.bind_some _ _).symm.trans H; with_reducible exact H2_) | with_reducible exact H | (rw [hy329]; exact H) | exact H
          have Ny329 := zM hy329
          clear hy329
          obtain ⟨y330, hy330⟩ : ∃ y_ : List Int, y_ = (([x6_2] : List Int)) := ⟨_, rfl⟩
          replace H : (spec_l11Sides.l2 k2 l0 y329 x6_2 y330) = some (r1, r2) := by first | (rw [hy330]; with_reducible exact H) | (have H2_ := (Option.bind_some _ _).symm.trans H; rw [hy330]; with_reducible exact H2_) | (have H2_ := (Option.bind_some _ _).symm.trans H; with_reducible exact H2_) | with_reducible exact H | (rw [hy330]; exact H) | exact H
          have Ny330 := zM hy330
          clear hy330
          have H' := zM H
          clear H
          obtain ⟨Ao13, co13, eo13⟩ := Kd.R_slice HO_4.out
          subst eo13
          have p328 : 0 ≤ (x6_2 : Int) := of_decide_eq_true (by first | (with_reducible assumption) | assumption)
          have q328 : x6_2 < (x4_2.length : Int) := of_decide_eq_true (by first | (with_reducible assumption) | assumption)
          obtain ⟨ad328, e328, hx328_0⟩ := Kd.at_int (Kd.R_reads' HO_4.out).2.2 x6_2 p328 q328
          cases e328
          replace p328 := eq_true p328
          replace q328 := eq_true q328
          have p12 : 0 ≤ (x6_2 : Int) := of_decide_eq_true (by first | (with_reducible assumption) | assumption)
          have q12 : (x6_2 : Int) < ((x4_2.length : Int) : Int) := of_decide_eq_true (by first | (with_reducible assumption) | assumption)
          obtain ⟨go12, co12, eo12, gb12, gl12, cl12, HG12⟩ := Kd.R_form HO_4.out (by omega)
          (first | cases eo12 | (injection eo12 with ea_ en_ ec_; (first | subst ea_ | (injection ea_ with ea_; subst ea_)); subst ec_; clear en_))
          have GB12 := zM gb12
          have GG12 := zM HG12
          clear gb12 gl12 HG12
          (first | simp only [add_plain] at hx328_0 | skip)
          obtain ⟨hx12_0, hf12_0⟩ := Kd.R_celln 0 HO_4.out (x6_2 : Int) p12 q12
          replace p12 := eq_true p12
          replace q12 := eq_true q12
          have HP14 := Kd.R_putg HO_4.out (x6_2 : Int) 0
          go_wp2_with (first | ((with_reducible refine gate_store (t := 3) (p := 33) rfl ?_); refine store_event (t := 3) (p := 33) (v := ?vo_w15) (w1 := (wr.setCell ⟨go12, (x6_2 : Int).toNat, none⟩ (.int .i64 0))) ?hg ?ho ?hn ?hr ?_; (case ho => rfl); (case hg => rfl); (case hn => rfl); (case hr => first | (go_simp; done) | (go_simp; rfl)); intro w15 hw; have hg : wr.grownBy w15 (some go12) := (by rw [hw]; exact HP14.2); have hp_ : Kd.R (Kd.int .i64) 3 w15 w.heap.size (fun _ => True) (.slice (some ⟨go12, 0, none⟩) x4_2.length co13) y329 := (by rw [hw, Ny329.out]; exact HP14.1); clear HP14; have n0_ := zM (hp_); have n1_ := zM ((by rw [hw]; exact zD (HB.out) GB12.out : Below w.heap.size w w15)); clear HO_4; clear HB; have HO_4 := n0_; have HB := n1_; clear n0_ n1_; clear hg hw hp_) | ((with_reducible refine gate_dst (N := 35) rfl ?_); refine Kd.R_lit (Kd.int .i64) _ 3 ?hg (N := 35) ?hd (xs := ([x6_2] : List Int)) (inner := [.int .i64 x6_2]) (ok := fun _ => True) (okp := fun _ => True) ?hr ?hp (fun _ hk => hk) trivial (Below.refl _ _) (Nat.le_refl _) (by simp) ?_; (case hd => rfl); (case hg => rfl); (case hr => first | (go_simp; done) | (go_simp; rfl)); (case hp => exact (Reps.one (show Kd.M (Kd.int .i64) _ _ _ x6_2 [.int .i64 x6_2] from rfl) (Reps.none _ _))); intro v331 w16 ho17 hb hg_ hnew_; clear hg_ hnew_; (first | rw [← Ny330.out] at ho17 | (simp only [Int.reduceToNat] at ho17; rw [← Ny330.out] at ho17)); have n0_ := zM (Kd.R_elder' (by exact HO_4.out) (Kd.R_base ho17) hb); have n1_ := zM (Kd.R_lower (Kd.R_new' ho17 (Kd.R_lt (by exact HO_4.out))) (below_size (by repeat (first | (with_reducible first | exact HB.out | apply zB | apply zA | apply zC) | exact HB.out)))); have n2_ := zM (below_step (by repeat (first | (with_reducible first | exact HB.out | apply zB | apply zA | apply zC) | exact HB.out)) hb); clear HO_4; clear HB; have HO_4 := n0_; have HO332 := n1_; have HB := n2_; clear n0_ n1_ n2_; clear hb ho17))
          go_loopg [7] k2 (fun kq v7 w' => ∃ (x4_3 : List Int) (x7_3 : List Int), Aside0 (spec_l11Sides.l2 kq l0 x4_3 x6_2 x7_3 = some (r1, r2)) ∧ Aside0 (kq ≤ k2) ∧ Aside0 (Kd.R (Kd.int .i64) 3 w' w.heap.size (fun k_ => some k_ ≠ (v7 : Value).ownBlock) (.slice (some ⟨go12, 0, none⟩) x4_2.length co13) x4_3) ∧ Aside0 (Kd.Q (Kd.int .i64) 3 w' w.heap.size (fun k_ => some k_ ≠ ((.slice (some ⟨go12, 0, none⟩) x4_2.length co13) : Value).ownBlock) v7 x7_3) ∧ Aside0 (Below w.heap.size w w'))
          case atStart => exact ⟨(y329), (y330), H', ⟨Nat.le_refl _⟩, ⟨by exact Kd.R_mono HO_4.out (fun _ hk => hk.2)⟩, ⟨Kd.Q_of_R (by exact Kd.R_mono HO332.out (fun _ hk => hk.2))⟩, ⟨by repeat (first | (with_reducible first | exact HB.out | apply zB | apply zA | apply zC) | exact HB.out)⟩⟩
          case round =>
           clear H'
           try clear c1
           try clear p1
           try clear q1
           try clear hx1
           try clear hf1
           try clear p2
           try clear p3
           try clear q3
           try clear hx3
           try clear c4
           try clear c4b0
           try clear c5
           try clear p6
           try clear c7
           try clear c7b0
           try clear c8
           try clear c8b0
           try clear c9
           try clear c9b0
           try clear c10
           try clear c10b0
           try clear p12
           try clear q12
           try clear hx12
           try clear hf12
           try clear hx12_0
           try clear hx328_0
           try clear p12
           try clear p2
           try clear p328
           try clear p6
           try clear q12
           try clear q328
           obtain ⟨x4_3, x7_3, HA, HK3, HO_4, HO_7, HB⟩ := hrel
           have hl4_3 := (Kd.R_reads' HO_4.out).1
           rw [hl4_3] at HO_4
           (try simp only [hl4_3])
           (try simp only [hl4_3] at HO_7)
           cases gk with
           | zero => exact absurd HA.out (by simp [spec_l11Sides.l2])
           | succ k3 =>
            have H := HA.out
            clear HA
            simp only [spec_l11Sides.l2] at H
            by_cases c18 : (x7_3.length : Int) > 0
            ·rw [if_pos c18] at H
             have c18b0 : decide (0 < (x7_3.length : Int)) = true := decide_eq_true c18
             have c18b1 : decide (0 < x7_3.length) = true := decide_eq_true (by omega)
             clear c18
             by_cases c19 : 0 < (x7_3.length : Int)
             ·rw [if_pos c19] at H
              have c19b0 : decide (0 < (x7_3.length : Int)) = true := decide_eq_true c19
              have c19b1 : decide (0 < x7_3.length) = true := decide_eq_true (by omega)
              clear c19
              by_cases c20 : 1 ≤ (x7_3.length : Int)
              ·rw [if_pos c20] at H
               have c20b0 := eq_true c20
               have c20b1 : decide (1 ≤ (x7_3.length : Int)) = true := decide_eq_true c20
               clear c20
               obtain ⟨y334, hy334⟩ : ∃ y_ : List Int, y_ = (x7_3.drop (1 : Int).toNat) := ⟨_, rfl⟩
               replace H : (spec_l11Sides.l3 k3 l0 x4_3 x6_2 y334 (rd x7_3 0) 0) = some (r1, r2) := by first | (rw [hy334]; with_reducible exact H) | (have H2_ := (Option.bind_some _ _).symm.trans H; rw [hy334]; with_reducible exact H2_) | (have H2_ := (Option.bind_some _ _).symm.trans H; with_reducible exact H2_) | with_reducible exact H | (rw [hy334]; exact H) | exact H
               have Ny334 := zM hy334
               clear hy334
               have H' := zM H
               clear H
               obtain ⟨Ao21, co21, eo21, _⟩ := Kd.Q_slice HO_7.out
               subst eo21
               have p333 : 0 ≤ (0 : Int) := (by omega)
               have q333 : 0 < (x7_3.length : Int) := of_decide_eq_true (by first | (with_reducible assumption) | assumption)
               obtain ⟨ad333, e333, hx333_0⟩ := Kd.at_int (Kd.Q_reads' HO_7.out).2.2 0 p333 q333
               cases e333
               have qi333 : (0 < x7_3.length) = True := eq_true (by omega)
               (try rw [show ((0 : Int)).toNat = 0 from rfl] at hx333_0)
               (try rw [Addr.add_zero'] at hx333_0)
               replace p333 := eq_true p333
               replace q333 := eq_true q333
               have q22 : (1 : Int) ≤ ((x7_3.length : Int) : Int) := of_decide_eq_true (by first | (with_reducible assumption) | assumption)
               obtain ⟨i022, hi022, _, hsz22, _⟩ := info_parts info3
               have hcut22 := cut_from (P := Try.prog) 23 3 .i64 Try.underlying23 hi022 1 hsz22 (some ad333) x7_3.length co21 1 (by omega) q22
               have hr22 := Kd.Q_drop (k := (1 : Int).toNat) HO_7.out (by omega)
               obtain ⟨A22, hA22⟩ : ∃ A1, A1 = (if co21 = (1 : Int).toNat then (some ad333) else ((some ad333) : Option Addr).map (·.add ((1 : Int).toNat * 1))) := ⟨_, rfl⟩
               obtain ⟨c22, hc22⟩ : ∃ c1, c1 = co21 - (1 : Int).toNat := ⟨_, rfl⟩
               have hy22 : y334.length = x7_3.length - (1 : Int).toNat := (by rw [Ny334.out, List.length_drop])
               rw [← Ny334.out] at hr22
               rw [← hy22, ← hA22, ← hc22] at hcut22
               replace hr22 : Kd.Q (Kd.int .i64) 3 wr w.heap.size (fun k_ => some k_ ≠ (.slice (some ⟨go12, 0, none⟩) x4_3.length co13 : Value).ownBlock) (.slice A22 y334.length c22) y334 := (by rw [hA22, hc22, hy22]; exact hr22)
               have HE22 : Aside0 ((Value.slice A22 y334.length c22).ownBlock = (.slice (some ad333) x7_3.length co21 : Value).ownBlock) := ⟨by rw [hA22]; split <;> (cases ((some ad333) : Option Addr) <;> rfl)⟩
               clear hy22 hi022 hsz22 HO_7 hA22 hc22
               have HO336 := zM hr22
               clear hr22
               replace q22 := eq_true q22
               have n_ := zM (Kd.R_mono (ok' := fun k_ => some k_ ≠ (.slice A22 y334.length c22 : Value).ownBlock) HO_4.out (fun k_ hk => (by rw [HE22.out]; exact hk)))
               clear HO_4
               have HO_4 := n_
               clear n_
               go_wp2
               go_loopg [7, 9] k3 (fun kq v7 v9 w' => ∃ (x4_4 : List Int) (x7_4 : List Int) (x9_4 : Int), v9 = .int .i64 x9_4 ∧ Aside0 (spec_l11Sides.l3 kq l0 x4_4 x6_2 x7_4 (rd x7_3 0) x9_4 = some (r1, r2)) ∧ Aside0 (kq ≤ k3) ∧ Aside0 (Kd.R (Kd.int .i64) 3 w' w.heap.size (fun k_ => some k_ ≠ (v7 : Value).ownBlock) (.slice (some ⟨go12, 0, none⟩) x4_3.length co13) x4_4) ∧ Aside0 (Kd.Q (Kd.int .i64) 3 w' w.heap.size (fun k_ => some k_ ≠ ((.slice (some ⟨go12, 0, none⟩) x4_3.length co13) : Value).ownBlock) v7 x7_4) ∧ Aside0 (Below w.heap.size w w'))
               case atStart => exact ⟨(x4_3), (y334), (0), (by first | rfl | (simp; done) | (simp [*]; done)), H', ⟨Nat.le_refl _⟩, ⟨by (try simp only [hl4_3]); (with_reducible repeat (first | apply Kd.R_alloc | apply Kd.R_drewN | apply Kd.R_drew)); exact HO_4.out⟩, ⟨by (try simp only [hl4_3]); (with_reducible repeat (first | apply Kd.Q_alloc | apply Kd.Q_drewN | apply Kd.Q_drew)); exact HO336.out⟩, ⟨by repeat (first | (with_reducible first | exact HB.out | apply zB | apply zA | apply zC) | exact HB.out)⟩⟩
               case round =>
                clear H'
                try clear c1
                try clear p1
                try clear q1
                try clear hx1
                try clear hf1
                try clear c2
                try clear p2
                try clear q2
                try clear p3
                try clear q3
                try clear hx3
                try clear qi3
                try clear c4
                try clear c4b0
                try clear c5
                try clear p6
                try clear c7
                try clear c7b0
                try clear c8
                try clear c8b0
                try clear c9
                try clear c9b0
                try clear c10
                try clear c10b0
                try clear p12
                try clear q12
                try clear hx12
                try clear hf12
                try clear c18
                try clear c18b0
                try clear c18b1
                try clear c19
                try clear c19b0
                try clear c19b1
                try clear c20
                try clear c20b0
                try clear c20b1
                try clear c22
                try clear q22
                try clear hx12_0
                try clear hx328_0
                try clear hx333_0
                try clear p1
                try clear p12
                try clear p2
                try clear p3
                try clear p328
                try clear p333
                try clear p6
                try clear q1
                try clear q12
                try clear q22
                try clear q3
                try clear q328
                try clear q333
                obtain ⟨x4_4, x7_4, x9_4, rfl, HA, HK4, HO_4, HO_7, HB⟩ := hrel
                have hl4_4 := (Kd.R_reads' HO_4.out).1
                rw [hl4_4] at HO_4
                (try simp only [hl4_4])
                (try simp only [hl4_4] at HO_7)
                cases gk with
                | zero => exact absurd HA.out (by simp [spec_l11Sides.l3])
                | succ k4 =>
                 have H := HA.out
                 clear HA
                 simp only [spec_l11Sides.l3] at H
                 by_cases c23 : x9_4 < (l0.length : Int)
                 ·rw [if_pos c23] at H
                  have c23b0 : decide (x9_4 < (l0.length : Int)) = true := decide_eq_true c23
                  clear c23
                  by_cases c24 : 0 ≤ (rd x7_3 0)
                  ·rw [if_pos c24] at H
                   have c24b0 : decide (0 ≤ (rd x7_3 0)) = true := decide_eq_true c24
                   clear c24
                   by_cases c25 : (rd x7_3 0) < (l0.length : Int)
                   ·rw [if_pos c25] at H
                    have c25b0 : decide ((rd x7_3 0) < (l0.length : Int)) = true := decide_eq_true c25
                    clear c25
                    by_cases c26 : 0 < ((rd_L2 l0 (rd x7_3 0)).length : Int)
                    ·rw [if_pos c26] at H
                     have c26b0 : decide (0 < ((rd_L2 l0 (rd x7_3 0)).length : Int)) = true := decide_eq_true c26
                     have c26b1 : decide (0 < (rd_L2 l0 (rd x7_3 0)).length) = true := decide_eq_true (by omega)
                     clear c26
                     by_cases c27 : 1 < ((rd_L2 l0 (rd x7_3 0)).length : Int)
                     ·rw [if_pos c27] at H
                      have c27b0 : decide (1 < ((rd_L2 l0 (rd x7_3 0)).length : Int)) = true := decide_eq_true c27
                      have c27b1 : decide (1 < (rd_L2 l0 (rd x7_3 0)).length) = true := decide_eq_true (by omega)
                      clear c27
                      by_cases c28 : 0 ≤ x9_4
                      ·rw [if_pos c28] at H
                       have c28b0 : decide (0 ≤ x9_4) = true := decide_eq_true c28
                       clear c28
                       by_cases c29 : 0 < ((rd_L2 l0 x9_4).length : Int)
                       ·rw [if_pos c29] at H
                        have c29b0 : decide (0 < ((rd_L2 l0 x9_4).length : Int)) = true := decide_eq_true c29
                        have c29b1 : decide (0 < (rd_L2 l0 x9_4).length) = true := decide_eq_true (by omega)
                        clear c29
                        by_cases c30 : 1 < ((rd_L2 l0 x9_4).length : Int)
                        ·rw [if_pos c30] at H
                         have c30b0 : decide (1 < ((rd_L2 l0 x9_4).length : Int)) = true := decide_eq_true c30
                         have c30b1 : decide (1 < (rd_L2 l0 x9_4).length) = true := decide_eq_true (by omega)
                         clear c30
                         replace H := Option.bind_eq_some_iff.mp H
                         obtain ⟨t345, A310, H⟩ := H
                         replace H : (if t345 = true then (if x9_4 < (x4_4.length : Int) then (if (rd x7_3 0) < (x4_4.length : Int) then (if (rd x4_4 x9_4) = (rd x4_4 (rd x7_3 0)) then (some ((([] : List Int)), false)) else (if (rd x4_4 x9_4) < 0 then (if x7_4.length < 17592186044416 then (spec_l11Sides.l3 k4 l0 (x4_4.set (x9_4 : Int).toNat (wrap64 (1 - (rd x4_4 (rd x7_3 0))))) x6_2 (x7_4 ++ [x9_4]) (rd x7_3 0) (wrap64 (x9_4 + 1))) else (none)) else (spec_l11Sides.l3 k4 l0 x4_4 x6_2 x7_4 (rd x7_3 0) (wrap64 (x9_4 + 1))))) else (none)) else (none)) else (spec_l11Sides.l3 k4 l0 x4_4 x6_2 x7_4 (rd x7_3 0) (wrap64 (x9_4 + 1)))) = some (r1, r2) := H
                         have A31 := zM A310
                         clear A310
                         by_cases c32 : t345 = true
                         ·subst c32
                          have H1 : (if x9_4 < (x4_4.length : Int) then (if (rd x7_3 0) < (x4_4.length : Int) then (if (rd x4_4 x9_4) = (rd x4_4 (rd x7_3 0)) then (some ((([] : List Int)), false)) else (if (rd x4_4 x9_4) < 0 then (if x7_4.length < 17592186044416 then (spec_l11Sides.l3 k4 l0 (x4_4.set (x9_4 : Int).toNat (wrap64 (1 - (rd x4_4 (rd x7_3 0))))) x6_2 (x7_4 ++ [x9_4]) (rd x7_3 0) (wrap64 (x9_4 + 1))) else (none)) else (spec_l11Sides.l3 k4 l0 x4_4 x6_2 x7_4 (rd x7_3 0) (wrap64 (x9_4 + 1))))) else (none)) else (none)) = some (r1, r2) := by rw [if_pos rfl] at H; exact H
                          clear H
                          have H := H1
                          clear H1
                          by_cases c33 : x9_4 < (x4_4.length : Int)
                          ·rw [if_pos c33] at H
                           have c33b0 : decide (x9_4 < (x4_4.length : Int)) = true := decide_eq_true c33
                           clear c33
                           by_cases c34 : (rd x7_3 0) < (x4_4.length : Int)
                           ·rw [if_pos c34] at H
                            have c34b0 : decide ((rd x7_3 0) < (x4_4.length : Int)) = true := decide_eq_true c34
                            clear c34
                            by_cases c35 : (rd x4_4 x9_4) = (rd x4_4 (rd x7_3 0))
                            ·rw [if_pos c35] at H
                             have c35b0 : ((rd x4_4 x9_4) == (rd x4_4 (rd x7_3 0))) = true := beq_iff_eq.mpr c35
                             have c35b1 : ((rd x4_4 x9_4) != (rd x4_4 (rd x7_3 0))) = false := bne_eq_false_iff_eq.mpr c35
                             clear c35
                             obtain ⟨y348, hy348⟩ : ∃ y_ : List Int, y_ = (([] : List Int)) := ⟨_, rfl⟩
                             replace H : (some (y348, false)) = some (r1, r2) := by first | (rw [hy348]; with_reducible exact H) | (have H2_ := (Option.bind_some _ _).symm.trans H; rw [hy348]; with_reducible exact H2_) | (have H2_ := (Option.bind_some _ _).symm.trans H; with_reducible exact H2_) | with_reducible exact H | (rw [hy348]; exact H) | exact H
                             have Ny348 := zM hy348
                             clear hy348
                             simp only [Option.some.injEq, Prod.mk.injEq] at H
                             obtain ⟨rfl, rfl⟩ := H
                             try go_wp2
                             have n0_ := zM (Kd.R_drew HO_4.out)
                             have n1_ := zM (Kd.Q_drew HO_7.out)
                             have n2_ := zM (zC HB.out)
                             clear HO_4
                             clear HO_7
                             clear HB
                             have HO_4 := n0_
                             have HO_7 := n1_
                             have HB := n2_
                             clear n0_ n1_ n2_
                             have p337 : 0 ≤ ((rd x7_3 0) : Int) := of_decide_eq_true (by first | (with_reducible assumption) | assumption)
                             have q337 : (rd x7_3 0) < (l0.length : Int) := of_decide_eq_true (by first | (with_reducible assumption) | assumption)
                             obtain ⟨ad337, A337_0, c337_0, e337, hx337_0, hl337_0, hi337_0⟩ := at_L2 HR0.out (rd x7_3 0) p337 q337
                             have hw337_0 := hx337_0
                             cases e337
                             replace hx337_0 := (HB.out.cell (World.block_lt_of_cell? w _ hx337_0)).trans hx337_0
                             have HR337_0 := zM hi337_0
                             have HC337_0 := zM hl337_0
                             clear hi337_0 hl337_0
                             replace p337 := eq_true p337
                             replace q337 := eq_true q337
                             have p338 : 0 ≤ (0 : Int) := (by omega)
                             have q338 : 0 < ((rd_L2 l0 (rd x7_3 0)).length : Int) := of_decide_eq_true (by first | (with_reducible assumption) | assumption)
                             obtain ⟨ad338, e338, hx338_0⟩ := Kd.at_int HR337_0.out 0 p338 q338
                             have hw338_0 := hx338_0
                             (try rw [show ((0 : Int)).toNat = 0 from rfl] at hw338_0)
                             (try rw [show 0 * 1 = 0 from rfl] at hw338_0)
                             (try rw [Addr.add_zero'] at hw338_0)
                             cases e338
                             have qi338 : (0 < (rd_L2 l0 (rd x7_3 0)).length) = True := eq_true (by omega)
                             (try rw [show ((0 : Int)).toNat = 0 from rfl] at hx338_0)
                             (try rw [Addr.add_zero'] at hx338_0)
                             replace hx338_0 := (HB.out.cell (World.block_lt_of_cell? w _ hx338_0)).trans hx338_0
                             replace p338 := eq_true p338
                             replace q338 := eq_true q338
                             have p339 : 0 ≤ ((rd x7_3 0) : Int) := of_decide_eq_true (by first | (with_reducible assumption) | assumption)
                             have q339 : (rd x7_3 0) < (l0.length : Int) := of_decide_eq_true (by first | (with_reducible assumption) | assumption)
                             obtain ⟨ad339, A339_0, c339_0, e339, hx339_0, hl339_0, hi339_0⟩ := at_L2 HR0.out (rd x7_3 0) p339 q339
                             have hw339_0 := hx339_0
                             obtain rfl : ad337 = ad339 := (by injection e339)
                             replace hx339_0 := (HB.out.cell (World.block_lt_of_cell? w _ hx339_0)).trans hx339_0
                             have HR339_0 := zM hi339_0
                             have HC339_0 := zM hl339_0
                             clear hi339_0 hl339_0
                             replace p339 := eq_true p339
                             replace q339 := eq_true q339
                             have ea_ := Option.some.inj (hx337_0.symm.trans hx339_0)
                             injection ea_ with ea_ en_ ec_
                             subst ea_
                             subst ec_
                             clear en_
                             have p340 : 0 ≤ (1 : Int) := (by omega)
                             have q340 : 1 < ((rd_L2 l0 (rd x7_3 0)).length : Int) := of_decide_eq_true (by first | (with_reducible assumption) | assumption)
                             obtain ⟨ad340, e340, hx340_0⟩ := Kd.at_int HR339_0.out 1 p340 q340
                             have hw340_0 := hx340_0
                             (try rw [show ((1 : Int)).toNat = 1 from rfl] at hw340_0)
                             (try rw [show 1 * 1 = 1 from rfl] at hw340_0)
                             (try simp only [Nat.reduceMul, Nat.reduceEqDiff, Go.Addr.add, ↓reduceIte] at hw340_0)
                             cases e340
                             (try simp only [show (1 : Int).toNat = 1 from rfl, Nat.reduceMul, Nat.reduceEqDiff, Go.Addr.add, ↓reduceIte] at hx340_0)
                             have qi340 : (1 < (rd_L2 l0 (rd x7_3 0)).length) = True := eq_true (by omega)
                             (try rw [show ((1 : Int)).toNat = 1 from rfl] at hx340_0)
                             replace hx340_0 := (HB.out.cell (World.block_lt_of_cell? w _ hx340_0)).trans hx340_0
                             replace p340 := eq_true p340
                             replace q340 := eq_true q340
                             have p341 : 0 ≤ (x9_4 : Int) := of_decide_eq_true (by first | (with_reducible assumption) | assumption)
                             have q341 : x9_4 < (l0.length : Int) := of_decide_eq_true (by first | (with_reducible assumption) | assumption)
                             obtain ⟨ad341, A341_0, c341_0, e341, hx341_0, hl341_0, hi341_0⟩ := at_L2 HR0.out x9_4 p341 q341
                             have hw341_0 := hx341_0
                             obtain rfl : ad337 = ad341 := (by injection e341)
                             replace hx341_0 := (HB.out.cell (World.block_lt_of_cell? w _ hx341_0)).trans hx341_0
                             have HR341_0 := zM hi341_0
                             have HC341_0 := zM hl341_0
                             clear hi341_0 hl341_0
                             replace p341 := eq_true p341
                             replace q341 := eq_true q341
                             have p342 : 0 ≤ (0 : Int) := (by omega)
                             have q342 : 0 < ((rd_L2 l0 x9_4).length : Int) := of_decide_eq_true (by first | (with_reducible assumption) | assumption)
                             obtain ⟨ad342, e342, hx342_0⟩ := Kd.at_int HR341_0.out 0 p342 q342
                             have hw342_0 := hx342_0
                             (try rw [show ((0 : Int)).toNat = 0 from rfl] at hw342_0)
                             (try rw [show 0 * 1 = 0 from rfl] at hw342_0)
                             (try rw [Addr.add_zero'] at hw342_0)
                             cases e342
                             have qi342 : (0 < (rd_L2 l0 x9_4).length) = True := eq_true (by omega)
                             (try rw [show ((0 : Int)).toNat = 0 from rfl] at hx342_0)
                             (try rw [Addr.add_zero'] at hx342_0)
                             replace hx342_0 := (HB.out.cell (World.block_lt_of_cell? w _ hx342_0)).trans hx342_0
                             replace p342 := eq_true p342
                             replace q342 := eq_true q342
                             have p343 : 0 ≤ (x9_4 : Int) := of_decide_eq_true (by first | (with_reducible assumption) | assumption)
                             have q343 : x9_4 < (l0.length : Int) := of_decide_eq_true (by first | (with_reducible assumption) | assumption)
                             obtain ⟨ad343, A343_0, c343_0, e343, hx343_0, hl343_0, hi343_0⟩ := at_L2 HR0.out x9_4 p343 q343
                             have hw343_0 := hx343_0
                             obtain rfl : ad337 = ad343 := (by injection e343)
                             replace hx343_0 := (HB.out.cell (World.block_lt_of_cell? w _ hx343_0)).trans hx343_0
                             have HR343_0 := zM hi343_0
                             have HC343_0 := zM hl343_0
                             clear hi343_0 hl343_0
                             replace p343 := eq_true p343
                             replace q343 := eq_true q343
                             have ea_ := Option.some.inj (hx341_0.symm.trans hx343_0)
                             injection ea_ with ea_ en_ ec_
                             subst ea_
                             subst ec_
                             clear en_
                             have p344 : 0 ≤ (1 : Int) := (by omega)
                             have q344 : 1 < ((rd_L2 l0 x9_4).length : Int) := of_decide_eq_true (by first | (with_reducible assumption) | assumption)
                             obtain ⟨ad344, e344, hx344_0⟩ := Kd.at_int HR343_0.out 1 p344 q344
                             have hw344_0 := hx344_0
                             (try rw [show ((1 : Int)).toNat = 1 from rfl] at hw344_0)
                             (try rw [show 1 * 1 = 1 from rfl] at hw344_0)
                             (try simp only [Nat.reduceMul, Nat.reduceEqDiff, Go.Addr.add, ↓reduceIte] at hw344_0)
                             cases e344
                             (try simp only [show (1 : Int).toNat = 1 from rfl, Nat.reduceMul, Nat.reduceEqDiff, Go.Addr.add, ↓reduceIte] at hx344_0)
                             have qi344 : (1 < (rd_L2 l0 x9_4).length) = True := eq_true (by omega)
                             (try rw [show ((1 : Int)).toNat = 1 from rfl] at hx344_0)
                             replace hx344_0 := (HB.out.cell (World.block_lt_of_cell? w _ hx344_0)).trans hx344_0
                             replace p344 := eq_true p344
                             replace q344 := eq_true q344
                             refine start_ (n := 26) (S := fun w' => w'.cell? (ad337.add ((rd x7_3 0)).toNat) = some (.slice (some ad338) (rd_L2 l0 (rd x7_3 0)).length c337_0) ∧ w'.cell? ad338 = some (.int .i64 (rd (rd_L2 l0 (rd x7_3 0)) 0)) ∧ w'.cell? (ad337.add ((rd x7_3 0)).toNat) = some (.slice (some ad338) (rd_L2 l0 (rd x7_3 0)).length c337_0) ∧ w'.cell? ⟨ad338.block, ad338.off + 1, none⟩ = some (.int .i64 (rd (rd_L2 l0 (rd x7_3 0)) 1)) ∧ w'.cell? (ad337.add (x9_4).toNat) = some (.slice (some ad342) (rd_L2 l0 x9_4).length c341_0) ∧ w'.cell? ad342 = some (.int .i64 (rd (rd_L2 l0 x9_4) 0)) ∧ w'.cell? (ad337.add (x9_4).toNat) = some (.slice (some ad342) (rd_L2 l0 x9_4).length c341_0) ∧ w'.cell? ⟨ad342.block, ad342.off + 1, none⟩ = some (.int .i64 (rd (rd_L2 l0 x9_4) 1))) (ds := []) #[false, false, false, false, false, false, false, false, false, false, false, false, false, false, false, false, false, false, false, false, false, false, false, false, false, false] (by kernel_rfl) rfl rfl ⟨((HB.out.cell (World.block_lt_of_cell? w _ hw337_0)).trans hw337_0), ((HB.out.cell (World.block_lt_of_cell? w _ hw338_0)).trans hw338_0), ((HB.out.cell (World.block_lt_of_cell? w _ hw339_0)).trans hw339_0), ((HB.out.cell (World.block_lt_of_cell? w _ hw340_0)).trans hw340_0), ((HB.out.cell (World.block_lt_of_cell? w _ hw341_0)).trans hw341_0), ((HB.out.cell (World.block_lt_of_cell? w _ hw342_0)).trans hw342_0), ((HB.out.cell (World.block_lt_of_cell? w _ hw343_0)).trans hw343_0), ((HB.out.cell (World.block_lt_of_cell? w _ hw344_0)).trans hw344_0)⟩ (fun hHeld => ?_); refine with_tabW spec_l11Sides.tab18 spec_l11Sides.bits18 (fun HT_ HW_ => ?_)
                             generalize wr.drew = w36 at HO_4 HO_7 HB HR337_0 HR339_0 HR341_0 HR343_0 hx337_0 hx338_0 hx339_0 hx340_0 hx341_0 hx342_0 hx343_0 hx344_0 hHeld ⊢
                             refine pure_ (i := 0) (N := some 50) (v := ?_) (a' := ?_) #[true, false, false, false, false, false, false, false, false, false, false, false, false, false, false, false, false, false, false, false, false, false, false, false, false, false] rfl rfl (any_of HT_.out (by kernel_rfl)) (fun _ _ _ h => h) (Or.inl ⟨by rfl, ?_⟩) ?_ ?_
                             rotate_left
                             ·intro w'
                              go_simp
                              with_reducible rfl
                             rotate_left
                             ·simp only [Act.put, zE, zF, zG, i64_w, i32_w]
                              rfl
                             refine pure_ (i := 1) (N := some 51) (v := ?_) (a' := ?_) #[true, true, false, false, false, false, false, false, false, false, false, false, false, false, false, false, false, false, false, false, false, false, false, false, false, false] rfl rfl (any_of HT_.out (by kernel_rfl)) (fun _ _ _ h => h) (Or.inl ⟨by rfl, ?_⟩) ?_ ?_
                             rotate_left
                             ·intro w'
                              go_simp
                              with_reducible rfl
                             rotate_left
                             ·simp only [Act.put, zE, zF, zG, i64_w, i32_w]
                              rfl
                             refine pure_ (i := 2) (N := some 52) (v := ?_) (a' := ?_) #[true, true, true, false, false, false, false, false, false, false, false, false, false, false, false, false, false, false, false, false, false, false, false, false, false, false] rfl rfl (any_of HT_.out (by kernel_rfl)) (fun _ _ _ h => h) (Or.inl ⟨by rfl, ?_⟩) ?_ ?_
                             rotate_left
                             ·intro w'
                              go_simp
                              with_reducible rfl
                             rotate_left
                             ·simp only [Act.put, zE, zF, zG, i64_w, i32_w]
                              rfl
                             refine pure_ (i := 6) (N := some 56) (v := ?_) (a' := ?_) #[true, true, true, false, false, false, true, false, false, false, false, false, false, false, false, false, false, false, false, false, false, false, false, false, false, false] rfl rfl (any_of HT_.out (by kernel_rfl)) (fun _ _ _ h => h) (Or.inl ⟨by rfl, ?_⟩) ?_ ?_
                             rotate_left
                             ·intro w'
                              go_simp
                              with_reducible rfl
                             rotate_left
                             ·simp only [Act.put, zE, zF, zG, i64_w, i32_w]
                              rfl
                             refine pure_ (i := 7) (N := some 57) (v := ?_) (a' := ?_) #[true, true, true, false, false, false, true, true, false, false, false, false, false, false, false, false, false, false, false, false, false, false, false, false, false, false] rfl rfl (any_of HT_.out (by kernel_rfl)) (fun _ _ _ h => h) (Or.inl ⟨by rfl, ?_⟩) ?_ ?_
                             rotate_left
                             ·intro w'
                              go_simp
                              with_reducible rfl
                             rotate_left
                             ·simp only [Act.put, zE, zF, zG, i64_w, i32_w]
                              rfl
                             refine pure_ (i := 8) (N := some 58) (v := ?_) (a' := ?_) #[true, true, true, false, false, false, true, true, true, false, false, false, false, false, false, false, false, false, false, false, false, false, false, false, false, false] rfl rfl (any_of HT_.out (by kernel_rfl)) (fun _ _ _ h => h) (Or.inl ⟨by rfl, ?_⟩) ?_ ?_
                             rotate_left
                             ·intro w'
                              go_simp
                              with_reducible rfl
                             rotate_left
                             ·simp only [Act.put, zE, zF, zG, i64_w, i32_w]
                              rfl
                             refine pure_ (i := 12) (N := some 62) (v := ?_) (a' := ?_) #[true, true, true, false, false, false, true, true, true, false, false, false, true, false, false, false, false, false, false, false, false, false, false, false, false, false] rfl rfl (any_of HT_.out (by kernel_rfl)) (fun _ _ _ h => h) (Or.inl ⟨by rfl, ?_⟩) ?_ ?_
                             rotate_left
                             ·intro w'
                              go_simp
                              with_reducible rfl
                             rotate_left
                             ·simp only [Act.put, zE, zF, zG, i64_w, i32_w]
                              rfl
                             refine pure_ (i := 13) (N := some 63) (v := ?_) (a' := ?_) #[true, true, true, false, false, false, true, true, true, false, false, false, true, true, false, false, false, false, false, false, false, false, false, false, false, false] rfl rfl (any_of HT_.out (by kernel_rfl)) (fun _ _ _ h => h) (Or.inl ⟨by rfl, ?_⟩) ?_ ?_
                             rotate_left
                             ·intro w'
                              go_simp
                              with_reducible rfl
                             rotate_left
                             ·simp only [Act.put, zE, zF, zG, i64_w, i32_w]
                              rfl
                             refine pure_ (i := 14) (N := some 64) (v := ?_) (a' := ?_) #[true, true, true, false, false, false, true, true, true, false, false, false, true, true, true, false, false, false, false, false, false, false, false, false, false, false] rfl rfl (any_of HT_.out (by kernel_rfl)) (fun _ _ _ h => h) (Or.inl ⟨by rfl, ?_⟩) ?_ ?_
                             rotate_left
                             ·intro w'
                              go_simp
                              with_reducible rfl
                             rotate_left
                             ·simp only [Act.put, zE, zF, zG, i64_w, i32_w]
                              rfl
                             refine pure_ (i := 18) (N := some 68) (v := ?_) (a' := ?_) #[true, true, true, false, false, false, true, true, true, false, false, false, true, true, true, false, false, false, true, false, false, false, false, false, false, false] rfl rfl (any_of HT_.out (by kernel_rfl)) (fun _ _ _ h => h) (Or.inl ⟨by rfl, ?_⟩) ?_ ?_
                             rotate_left
                             ·intro w'
                              go_simp
                              with_reducible rfl
                             rotate_left
                             ·simp only [Act.put, zE, zF, zG, i64_w, i32_w]
                              rfl
                             refine pure_ (i := 19) (N := some 69) (v := ?_) (a' := ?_) #[true, true, true, false, false, false, true, true, true, false, false, false, true, true, true, false, false, false, true, true, false, false, false, false, false, false] rfl rfl (any_of HT_.out (by kernel_rfl)) (fun _ _ _ h => h) (Or.inl ⟨by rfl, ?_⟩) ?_ ?_
                             rotate_left
                             ·intro w'
                              go_simp
                              with_reducible rfl
                             rotate_left
                             ·simp only [Act.put, zE, zF, zG, i64_w, i32_w]
                              rfl
                             refine pure_ (i := 20) (N := some 70) (v := ?_) (a' := ?_) #[true, true, true, false, false, false, true, true, true, false, false, false, true, true, true, false, false, false, true, true, true, false, false, false, false, false] rfl rfl (any_of HT_.out (by kernel_rfl)) (fun _ _ _ h => h) (Or.inl ⟨by rfl, ?_⟩) ?_ ?_
                             rotate_left
                             ·intro w'
                              go_simp
                              with_reducible rfl
                             rotate_left
                             ·simp only [Act.put, zE, zF, zG, i64_w, i32_w]
                              rfl
                             refine take_ (i := 3) (N := some 53) (v := ?_) (a' := ?_) #[true, true, true, true, false, false, true, true, true, false, false, false, true, true, true, false, false, false, true, true, true, false, false, false, false, false] rfl rfl (take_ofW HT_.out HW_.out (by kernel_rfl)) (fun _ _ _ h => h) (Or.inl ⟨by rfl, ?_⟩) hHeld ?_ ?_
                             rotate_left
                             ·rintro w' ⟨s0, s1, s2, s3, s4, s5, s6, s7⟩
                              go_simp
                              with_reducible rfl
                             rotate_left
                             ·simp only [Act.put, zE, zF, zG, i64_w, i32_w]
                              rfl
                             refine pure_ (i := 4) (N := some 54) (v := ?_) (a' := ?_) #[true, true, true, true, true, false, true, true, true, false, false, false, true, true, true, false, false, false, true, true, true, false, false, false, false, false] rfl rfl (any_of HT_.out (by kernel_rfl)) (fun _ _ _ h => h) (Or.inl ⟨by rfl, ?_⟩) ?_ ?_
                             rotate_left
                             ·intro w'
                              go_simp
                              with_reducible rfl
                             rotate_left
                             ·simp only [Act.put, zE, zF, zG, i64_w, i32_w]
                              rfl
                             refine take_ (i := 5) (N := some 55) (v := ?_) (a' := ?_) #[true, true, true, true, true, true, true, true, true, false, false, false, true, true, true, false, false, false, true, true, true, false, false, false, false, false] rfl rfl (take_ofW HT_.out HW_.out (by kernel_rfl)) (fun _ _ _ h => h) (Or.inl ⟨by rfl, ?_⟩) hHeld ?_ ?_
                             rotate_left
                             ·rintro w' ⟨s0, s1, s2, s3, s4, s5, s6, s7⟩
                              go_simp
                              with_reducible rfl
                             rotate_left
                             ·simp only [Act.put, zE, zF, zG, i64_w, i32_w]
                              rfl
                             refine take_ (i := 9) (N := some 59) (v := ?_) (a' := ?_) #[true, true, true, true, true, true, true, true, true, true, false, false, true, true, true, false, false, false, true, true, true, false, false, false, false, false] rfl rfl (take_ofW HT_.out HW_.out (by kernel_rfl)) (fun _ _ _ h => h) (Or.inl ⟨by rfl, ?_⟩) hHeld ?_ ?_
                             rotate_left
                             ·rintro w' ⟨s0, s1, s2, s3, s4, s5, s6, s7⟩
                              go_simp
                              with_reducible rfl
                             rotate_left
                             ·simp only [Act.put, zE, zF, zG, i64_w, i32_w]
                              rfl
                             refine pure_ (i := 10) (N := some 60) (v := ?_) (a' := ?_) #[true, true, true, true, true, true, true, true, true, true, true, false, true, true, true, false, false, false, true, true, true, false, false, false, false, false] rfl rfl (any_of HT_.out (by kernel_rfl)) (fun _ _ _ h => h) (Or.inl ⟨by rfl, ?_⟩) ?_ ?_
                             rotate_left
                             ·intro w'
                              go_simp
                              with_reducible rfl
                             rotate_left
                             ·simp only [Act.put, zE, zF, zG, i64_w, i32_w]
                              rfl
                             refine take_ (i := 11) (N := some 61) (v := ?_) (a' := ?_) #[true, true, true, true, true, true, true, true, true, true, true, true, true, true, true, false, false, false, true, true, true, false, false, false, false, false] rfl rfl (take_ofW HT_.out HW_.out (by kernel_rfl)) (fun _ _ _ h => h) (Or.inl ⟨by rfl, ?_⟩) hHeld ?_ ?_
                             rotate_left
                             ·rintro w' ⟨s0, s1, s2, s3, s4, s5, s6, s7⟩
                              go_simp
                              with_reducible rfl
                             rotate_left
                             ·simp only [Act.put, zE, zF, zG, i64_w, i32_w]
                              rfl
                             refine take_ (i := 15) (N := some 65) (v := ?_) (a' := ?_) #[true, true, true, true, true, true, true, true, true, true, true, true, true, true, true, true, false, false, true, true, true, false, false, false, false, false] rfl rfl (take_ofW HT_.out HW_.out (by kernel_rfl)) (fun _ _ _ h => h) (Or.inl ⟨by rfl, ?_⟩) hHeld ?_ ?_
                             rotate_left
                             ·rintro w' ⟨s0, s1, s2, s3, s4, s5, s6, s7⟩
                              go_simp
                              with_reducible rfl
                             rotate_left
                             ·simp only [Act.put, zE, zF, zG, i64_w, i32_w]
                              rfl
                             refine pure_ (i := 16) (N := some 66) (v := ?_) (a' := ?_) #[true, true, true, true, true, true, true, true, true, true, true, true, true, true, true, true, true, false, true, true, true, false, false, false, false, false] rfl rfl (any_of HT_.out (by kernel_rfl)) (fun _ _ _ h => h) (Or.inl ⟨by rfl, ?_⟩) ?_ ?_
                             rotate_left
                             ·intro w'
                              go_simp
                              with_reducible rfl
                             rotate_left
                             ·simp only [Act.put, zE, zF, zG, i64_w, i32_w]
                              rfl
                             refine take_ (i := 17) (N := some 67) (v := ?_) (a' := ?_) #[true, true, true, true, true, true, true, true, true, true, true, true, true, true, true, true, true, true, true, true, true, false, false, false, false, false] rfl rfl (take_ofW HT_.out HW_.out (by kernel_rfl)) (fun _ _ _ h => h) (Or.inl ⟨by rfl, ?_⟩) hHeld ?_ ?_
                             rotate_left
                             ·rintro w' ⟨s0, s1, s2, s3, s4, s5, s6, s7⟩
                              go_simp
                              with_reducible rfl
                             rotate_left
                             ·simp only [Act.put, zE, zF, zG, i64_w, i32_w]
                              rfl
                             refine take_ (i := 21) (N := some 71) (v := ?_) (a' := ?_) #[true, true, true, true, true, true, true, true, true, true, true, true, true, true, true, true, true, true, true, true, true, true, false, false, false, false] rfl rfl (take_ofW HT_.out HW_.out (by kernel_rfl)) (fun _ _ _ h => h) (Or.inl ⟨by rfl, ?_⟩) hHeld ?_ ?_
                             rotate_left
                             ·rintro w' ⟨s0, s1, s2, s3, s4, s5, s6, s7⟩
                              go_simp
                              with_reducible rfl
                             rotate_left
                             ·simp only [Act.put, zE, zF, zG, i64_w, i32_w]
                              rfl
                             refine pure_ (i := 22) (N := some 72) (v := ?_) (a' := ?_) #[true, true, true, true, true, true, true, true, true, true, true, true, true, true, true, true, true, true, true, true, true, true, true, false, false, false] rfl rfl (any_of HT_.out (by kernel_rfl)) (fun _ _ _ h => h) (Or.inl ⟨by rfl, ?_⟩) ?_ ?_
                             rotate_left
                             ·intro w'
                              go_simp
                              with_reducible rfl
                             rotate_left
                             ·simp only [Act.put, zE, zF, zG, i64_w, i32_w]
                              rfl
                             refine take_ (i := 23) (N := some 73) (v := ?_) (a' := ?_) #[true, true, true, true, true, true, true, true, true, true, true, true, true, true, true, true, true, true, true, true, true, true, true, true, false, false] rfl rfl (take_ofW HT_.out HW_.out (by kernel_rfl)) (fun _ _ _ h => h) (Or.inl ⟨by rfl, ?_⟩) hHeld ?_ ?_
                             rotate_left
                             ·rintro w' ⟨s0, s1, s2, s3, s4, s5, s6, s7⟩
                              go_simp
                              with_reducible rfl
                             rotate_left
                             ·simp only [Act.put, zE, zF, zG, i64_w, i32_w]
                              rfl
                             refine one_ (i := 24) (N := some 74) #[true, true, true, true, true, true, true, true, true, true, true, true, true, true, true, true, true, true, true, true, true, true, true, true, true, false] rfl rfl (one_of HT_.out (by kernel_rfl)) (by decide) (fun K hK => ?_)
                             refine goes_ Try.func29 (by kernel_rfl) rfl #[.int .i64 (rd (rd_L2 l0 (rd x7_3 0)) 0), .int .i64 (rd (rd_L2 l0 (rd x7_3 0)) 1), .int .i64 (rd (rd_L2 l0 x9_4) 0), .int .i64 (rd (rd_L2 l0 x9_4) 1)] (by rfl) rfl rfl (by (try simp only [List.map_toArray, List.map_cons, List.map_nil]); first | done | rfl | (simp only [List.length_drop, List.length_take]; rfl)) ?_
                             with_reducible refine (spec_CrossOk.calls (rd (rd_L2 l0 (rd x7_3 0)) 0) (rd (rd_L2 l0 (rd x7_3 0)) 1) (rd (rd_L2 l0 x9_4) 0) (rd (rd_L2 l0 x9_4) 1) true _ A31.out).mono ?_
                             rintro e w37 ⟨rfl, hb⟩
                             refine ⟨_, rfl, ?_⟩
                             have n0_ := zM (Kd.R_below (by exact HO_4.out) hb)
                             have n1_ := zM (Kd.Q_below (by exact HO_7.out) hb)
                             have n2_ := zM (below_step (by repeat (first | (with_reducible first | exact HB.out | apply zB | apply zA | apply zC) | exact HB.out)) hb)
                             clear HO_4
                             clear HO_7
                             clear HB
                             have HO_4 := n0_
                             have HO_7 := n1_
                             have HB := n2_
                             clear n0_ n1_ n2_
                             (try clear hb)
                             (try clear hb2)
                             (try clear hk)
                             (try clear hi)
                             refine hK.out _ _ ⟨((HB.out.cell (World.block_lt_of_cell? w _ hw337_0)).trans hw337_0), ((HB.out.cell (World.block_lt_of_cell? w _ hw338_0)).trans hw338_0), ((HB.out.cell (World.block_lt_of_cell? w _ hw339_0)).trans hw339_0), ((HB.out.cell (World.block_lt_of_cell? w _ hw340_0)).trans hw340_0), ((HB.out.cell (World.block_lt_of_cell? w _ hw341_0)).trans hw341_0), ((HB.out.cell (World.block_lt_of_cell? w _ hw342_0)).trans hw342_0), ((HB.out.cell (World.block_lt_of_cell? w _ hw343_0)).trans hw343_0), ((HB.out.cell (World.block_lt_of_cell? w _ hw344_0)).trans hw344_0)⟩ (fun hHeld => ?_)
                             clear hK K
                             refine norm_ (a' := ?_) ?_ ?_
                             rotate_left
                             ·show Act.put _ (some 74) _ = _
                              simp only [Act.put, zE, zF, zG, i64_w, i32_w]
                              rfl
                             refine pure_ (i := 25) (N := some 75) (v := ?_) (a' := ?_) #[true, true, true, true, true, true, true, true, true, true, true, true, true, true, true, true, true, true, true, true, true, true, true, true, true, true] rfl rfl (any_of HT_.out (by kernel_rfl)) (fun _ _ _ h => h) (Or.inl ⟨by rfl, ?_⟩) ?_ ?_
                             rotate_left
                             ·intro w'
                              go_simp
                              with_reducible rfl
                             rotate_left
                             ·simp only [Act.put, zE, zF, zG, i64_w, i32_w]
                              rfl
                             refine done_ (done_of HT_.out (by kernel_rfl)) ?_
                             try go_wp2
                             have n0_ := zM (Kd.R_drew HO_4.out)
                             have n1_ := zM (Kd.Q_drew HO_7.out)
                             have n2_ := zM (zC HB.out)
                             clear HO_4
                             clear HO_7
                             clear HB
                             have HO_4 := n0_
                             have HO_7 := n1_
                             have HB := n2_
                             clear n0_ n1_ n2_
                             have p346 : 0 ≤ (x9_4 : Int) := of_decide_eq_true (by first | (with_reducible assumption) | assumption)
                             have q346 : x9_4 < (x4_4.length : Int) := of_decide_eq_true (by first | (with_reducible assumption) | assumption)
                             obtain ⟨ad346, e346, hx346_0⟩ := Kd.at_int (Kd.R_reads' HO_4.out).2.2 x9_4 p346 q346
                             obtain rfl : (⟨go12, 0, none⟩ : Addr) = ad346 := (by injection e346)
                             (first | simp only [add_plain] at hx346_0 | simp only [add_at] at hx346_0 | simp only [Addr.add, Nat.zero_add] at hx346_0 | skip)
                             replace p346 := eq_true p346
                             replace q346 := eq_true q346
                             have p347 : 0 ≤ ((rd x7_3 0) : Int) := of_decide_eq_true (by first | (with_reducible assumption) | assumption)
                             have q347 : (rd x7_3 0) < (x4_4.length : Int) := of_decide_eq_true (by first | (with_reducible assumption) | assumption)
                             obtain ⟨ad347, e347, hx347_0⟩ := Kd.at_int (Kd.R_reads' HO_4.out).2.2 (rd x7_3 0) p347 q347
                             obtain rfl : (⟨go12, 0, none⟩ : Addr) = ad347 := (by injection e347)
                             (first | simp only [add_plain] at hx347_0 | simp only [add_at] at hx347_0 | simp only [Addr.add, Nat.zero_add] at hx347_0 | skip)
                             replace p347 := eq_true p347
                             replace q347 := eq_true q347
                             refine start_ (n := 9) (S := fun w' => w'.cell? ⟨go12, (x9_4).toNat, none⟩ = some (.int .i64 (rd x4_4 x9_4)) ∧ w'.cell? ⟨go12, ((rd x7_3 0)).toNat, none⟩ = some (.int .i64 (rd x4_4 (rd x7_3 0)))) (ds := []) #[false, false, false, false, false, false, false, false, false] (by kernel_rfl) rfl rfl ⟨hx346_0, hx347_0⟩ (fun hHeld => ?_); refine with_tabW spec_l11Sides.tab19 spec_l11Sides.bits19 (fun HT_ HW_ => ?_)
                             generalize w37.drew = w38 at HO_4 HO_7 HB hx346_0 hx347_0 hHeld ⊢
                             refine pure_ (i := 0) (N := some 76) (v := ?_) (a' := ?_) #[true, false, false, false, false, false, false, false, false] rfl rfl (any_of HT_.out (by kernel_rfl)) (fun _ _ _ h => h) (Or.inl ⟨by rfl, ?_⟩) ?_ ?_
                             rotate_left
                             ·intro w'
                              go_simp
                              with_reducible rfl
                             rotate_left
                             ·simp only [Act.put, zE, zF, zG, i64_w, i32_w]
                              rfl
                             refine pure_ (i := 1) (N := some 77) (v := ?_) (a' := ?_) #[true, true, false, false, false, false, false, false, false] rfl rfl (any_of HT_.out (by kernel_rfl)) (fun _ _ _ h => h) (Or.inl ⟨by rfl, ?_⟩) ?_ ?_
                             rotate_left
                             ·intro w'
                              go_simp
                              with_reducible rfl
                             rotate_left
                             ·simp only [Act.put, zE, zF, zG, i64_w, i32_w]
                              rfl
                             refine pure_ (i := 2) (N := some 78) (v := ?_) (a' := ?_) #[true, true, true, false, false, false, false, false, false] rfl rfl (any_of HT_.out (by kernel_rfl)) (fun _ _ _ h => h) (Or.inl ⟨by rfl, ?_⟩) ?_ ?_
                             rotate_left
                             ·intro w'
                              go_simp
                              with_reducible rfl
                             rotate_left
                             ·simp only [Act.put, zE, zF, zG, i64_w, i32_w]
                              rfl
                             refine pure_ (i := 4) (N := some 80) (v := ?_) (a' := ?_) #[true, true, true, false, true, false, false, false, false] rfl rfl (any_of HT_.out (by kernel_rfl)) (fun _ _ _ h => h) (Or.inl ⟨by rfl, ?_⟩) ?_ ?_
                             rotate_left
                             ·intro w'
                              go_simp
                              with_reducible rfl
                             rotate_left
                             ·simp only [Act.put, zE, zF, zG, i64_w, i32_w]
                              rfl
                             refine pure_ (i := 5) (N := some 81) (v := ?_) (a' := ?_) #[true, true, true, false, true, true, false, false, false] rfl rfl (any_of HT_.out (by kernel_rfl)) (fun _ _ _ h => h) (Or.inl ⟨by rfl, ?_⟩) ?_ ?_
                             rotate_left
                             ·intro w'
                              go_simp
                              with_reducible rfl
                             rotate_left
                             ·simp only [Act.put, zE, zF, zG, i64_w, i32_w]
                              rfl
                             refine pure_ (i := 6) (N := some 82) (v := ?_) (a' := ?_) #[true, true, true, false, true, true, true, false, false] rfl rfl (any_of HT_.out (by kernel_rfl)) (fun _ _ _ h => h) (Or.inl ⟨by rfl, ?_⟩) ?_ ?_
                             rotate_left
                             ·intro w'
                              go_simp
                              with_reducible rfl
                             rotate_left
                             ·simp only [Act.put, zE, zF, zG, i64_w, i32_w]
                              rfl
                             refine take_ (i := 3) (N := some 79) (v := ?_) (a' := ?_) #[true, true, true, true, true, true, true, false, false] rfl rfl (take_ofW HT_.out HW_.out (by kernel_rfl)) (fun _ _ _ h => h) (Or.inl ⟨by rfl, ?_⟩) hHeld ?_ ?_
                             rotate_left
                             ·rintro w' ⟨s0, s1⟩
                              go_simp
                              with_reducible rfl
                             rotate_left
                             ·simp only [Act.put, zE, zF, zG, i64_w, i32_w]
                              rfl
                             refine take_ (i := 7) (N := some 83) (v := ?_) (a' := ?_) #[true, true, true, true, true, true, true, true, false] rfl rfl (take_ofW HT_.out HW_.out (by kernel_rfl)) (fun _ _ _ h => h) (Or.inl ⟨by rfl, ?_⟩) hHeld ?_ ?_
                             rotate_left
                             ·rintro w' ⟨s0, s1⟩
                              go_simp
                              with_reducible rfl
                             rotate_left
                             ·simp only [Act.put, zE, zF, zG, i64_w, i32_w]
                              rfl
                             refine pure_ (i := 8) (N := some 84) (v := ?_) (a' := ?_) #[true, true, true, true, true, true, true, true, true] rfl rfl (any_of HT_.out (by kernel_rfl)) (fun _ _ _ h => h) (Or.inl ⟨by rfl, ?_⟩) ?_ ?_
                             rotate_left
                             ·intro w'
                              go_simp
                              with_reducible rfl
                             rotate_left
                             ·simp only [Act.put, zE, zF, zG, i64_w, i32_w]
                              rfl
                             refine done_ (done_of HT_.out (by kernel_rfl)) ?_
                             try go_wp2_with (first | ((with_reducible refine gate_dst (N := 85) rfl ?_); refine Kd.R_lit (Kd.int .i64) _ 3 ?hg (N := 85) ?hd (xs := ([] : List Int)) (inner := []) (ok := fun _ => True) (okp := fun _ => True) ?hr ?hp (fun _ hk => hk) trivial (Below.refl _ _) (Nat.le_refl _) (by simp) ?_; (case hd => rfl); (case hg => rfl); (case hr => first | (go_simp; done) | (go_simp; rfl)); (case hp => exact (Reps.none _ _)); intro v349 w39 ho40 hb hg_ hnew_; clear hg_ hnew_; (first | rw [← Ny348.out] at ho40 | (simp only [Int.reduceToNat] at ho40; rw [← Ny348.out] at ho40)); have n0_ := zM (Kd.R_elder' (by exact HO_4.out) (Kd.R_base ho40) hb); have n1_ := zM (Kd.Q_elder' (by exact HO_7.out) (Kd.R_base ho40) hb); have n2_ := zM (Kd.R_lower (Kd.R_new' (Kd.R_new' ho40 (Kd.R_lt (by exact HO_4.out))) (Kd.Q_lt (by exact HO_7.out))) (below_size (by repeat (first | (with_reducible first | exact HB.out | apply zB | apply zA | apply zC) | exact HB.out)))); have n3_ := zM (below_step (by repeat (first | (with_reducible first | exact HB.out | apply zB | apply zA | apply zC) | exact HB.out)) hb); clear HO_4; clear HO_7; clear HB; have HO_4 := n0_; have HO_7 := n1_; have HO350 := n2_; have HB := n3_; clear n0_ n1_ n2_ n3_; clear hb ho40))
                             go_ret2
                             exact ⟨_, by first | rfl | (simp [errW_none, errW_some] <;> rfl) | (simp [*, errW_none, errW_some] <;> rfl), by exact Kd.R_mono HO350.out (fun _ hk => trivial), by repeat (first | (with_reducible first | exact HB.out | apply zB | apply zA | apply zC) | exact HB.out)⟩
                            ·rw [if_neg c35] at H
                             have c35b0 : ((rd x4_4 x9_4) == (rd x4_4 (rd x7_3 0))) = false := beq_eq_false_iff_ne.mpr c35
                             have c35b1 : ((rd x4_4 x9_4) != (rd x4_4 (rd x7_3 0))) = true := bne_iff_ne.mpr c35
                             by_cases c41 : (rd x4_4 x9_4) < 0
                             ·rw [if_pos c41] at H
                              have c41b0 : decide ((rd x4_4 x9_4) < 0) = true := decide_eq_true c41
                              clear c41
                              obtain ⟨y353, hy353⟩ : ∃ y_ : List Int, y_ = (x4_4.set (x9_4 : Int).toNat (wrap64 (1 - (rd x4_4 (rd x7_3 0))))) := ⟨_, rfl⟩
                              replace H : (if x7_4.length < 17592186044416 then (spec_l11Sides.l3 k4 l0 y353 x6_2 (x7_4 ++ [x9_4]) (rd x7_3 0) (wrap64 (x9_4 + 1))) else (none)) = some (r1, r2) := by first | (rw [hy353]; with_reducible exact H) | (have H2_ := (Option.bind_some _ _).symm.trans H; rw [hy353]; with_reducible exact H2_) | (have H2_ := (Option.bind_some _ _).symm.trans H; with_reducible exact H2_) | with_reducible exact H | (rw [hy353]; exact H) | exact H
                              have Ny353 := zM hy353
                              clear hy353
                              by_cases c43 : x7_4.length < 17592186044416
                              ·rw [if_pos c43] at H
                               have LMc43 := zM c43
                               clear c43
                               obtain ⟨y354, hy354⟩ : ∃ y_ : List Int, y_ = (x7_4 ++ [x9_4]) := ⟨_, rfl⟩
                               replace H : (spec_l11Sides.l3 k4 l0 y353 x6_2 y354 (rd x7_3 0) (wrap64 (x9_4 + 1))) = some (r1, r2) := by first | (rw [hy354]; with_reducible exact H) | (have H2_ := (Option.bind_some _ _).symm.trans H; rw [hy354]; with_reducible exact H2_) | (have H2_ := (Option.bind_some _ _).symm.trans H; with_reducible exact H2_) | with_reducible exact H | (rw [hy354]; exact H) | exact H
                               have Ny354 := zM hy354
                               clear hy354
                               have H' := zM H
                               clear H
                               try go_wp2
                               have n0_ := zM (Kd.R_drew HO_4.out)
                               have n1_ := zM (Kd.Q_drew HO_7.out)
                               have n2_ := zM (zC HB.out)
                               clear HO_4
                               clear HO_7
                               clear HB
                               have HO_4 := n0_
                               have HO_7 := n1_
                               have HB := n2_
                               clear n0_ n1_ n2_
                               have p337 : 0 ≤ ((rd x7_3 0) : Int) := of_decide_eq_true (by first | (with_reducible assumption) | assumption)
                               have q337 : (rd x7_3 0) < (l0.length : Int) := of_decide_eq_true (by first | (with_reducible assumption) | assumption)
                               obtain ⟨ad337, A337_0, c337_0, e337, hx337_0, hl337_0, hi337_0⟩ := at_L2 HR0.out (rd x7_3 0) p337 q337
                               have hw337_0 := hx337_0
                               cases e337
                               replace hx337_0 := (HB.out.cell (World.block_lt_of_cell? w _ hx337_0)).trans hx337_0
                               have HR337_0 := zM hi337_0
                               have HC337_0 := zM hl337_0
                               clear hi337_0 hl337_0
                               replace p337 := eq_true p337
                               replace q337 := eq_true q337
                               have p338 : 0 ≤ (0 : Int) := (by omega)
                               have q338 : 0 < ((rd_L2 l0 (rd x7_3 0)).length : Int) := of_decide_eq_true (by first | (with_reducible assumption) | assumption)
                               obtain ⟨ad338, e338, hx338_0⟩ := Kd.at_int HR337_0.out 0 p338 q338
                               have hw338_0 := hx338_0
                               (try rw [show ((0 : Int)).toNat = 0 from rfl] at hw338_0)
                               (try rw [show 0 * 1 = 0 from rfl] at hw338_0)
                               (try rw [Addr.add_zero'] at hw338_0)
                               cases e338
                               have qi338 : (0 < (rd_L2 l0 (rd x7_3 0)).length) = True := eq_true (by omega)
                               (try rw [show ((0 : Int)).toNat = 0 from rfl] at hx338_0)
                               (try rw [Addr.add_zero'] at hx338_0)
                               replace hx338_0 := (HB.out.cell (World.block_lt_of_cell? w _ hx338_0)).trans hx338_0
                               replace p338 := eq_true p338
                               replace q338 := eq_true q338
                               have p339 : 0 ≤ ((rd x7_3 0) : Int) := of_decide_eq_true (by first | (with_reducible assumption) | assumption)
                               have q339 : (rd x7_3 0) < (l0.length : Int) := of_decide_eq_true (by first | (with_reducible assumption) | assumption)
                               obtain ⟨ad339, A339_0, c339_0, e339, hx339_0, hl339_0, hi339_0⟩ := at_L2 HR0.out (rd x7_3 0) p339 q339
                               have hw339_0 := hx339_0
                               obtain rfl : ad337 = ad339 := (by injection e339)
                               replace hx339_0 := (HB.out.cell (World.block_lt_of_cell? w _ hx339_0)).trans hx339_0
                               have HR339_0 := zM hi339_0
                               have HC339_0 := zM hl339_0
                               clear hi339_0 hl339_0
                               replace p339 := eq_true p339
                               replace q339 := eq_true q339
                               have ea_ := Option.some.inj (hx337_0.symm.trans hx339_0)
                               injection ea_ with ea_ en_ ec_
                               subst ea_
                               subst ec_
                               clear en_
                               have p340 : 0 ≤ (1 : Int) := (by omega)
                               have q340 : 1 < ((rd_L2 l0 (rd x7_3 0)).length : Int) := of_decide_eq_true (by first | (with_reducible assumption) | assumption)
                               obtain ⟨ad340, e340, hx340_0⟩ := Kd.at_int HR339_0.out 1 p340 q340
                               have hw340_0 := hx340_0
                               (try rw [show ((1 : Int)).toNat = 1 from rfl] at hw340_0)
                               (try rw [show 1 * 1 = 1 from rfl] at hw340_0)
                               (try simp only [Nat.reduceMul, Nat.reduceEqDiff, Go.Addr.add, ↓reduceIte] at hw340_0)
                               cases e340
                               (try simp only [show (1 : Int).toNat = 1 from rfl, Nat.reduceMul, Nat.reduceEqDiff, Go.Addr.add, ↓reduceIte] at hx340_0)
                               have qi340 : (1 < (rd_L2 l0 (rd x7_3 0)).length) = True := eq_true (by omega)
                               (try rw [show ((1 : Int)).toNat = 1 from rfl] at hx340_0)
                               replace hx340_0 := (HB.out.cell (World.block_lt_of_cell? w _ hx340_0)).trans hx340_0
                               replace p340 := eq_true p340
                               replace q340 := eq_true q340
                               have p341 : 0 ≤ (x9_4 : Int) := of_decide_eq_true (by first | (with_reducible assumption) | assumption)
                               have q341 : x9_4 < (l0.length : Int) := of_decide_eq_true (by first | (with_reducible assumption) | assumption)
                               obtain ⟨ad341, A341_0, c341_0, e341, hx341_0, hl341_0, hi341_0⟩ := at_L2 HR0.out x9_4 p341 q341
                               have hw341_0 := hx341_0
                               obtain rfl : ad337 = ad341 := (by injection e341)
                               replace hx341_0 := (HB.out.cell (World.block_lt_of_cell? w _ hx341_0)).trans hx341_0
                               have HR341_0 := zM hi341_0
                               have HC341_0 := zM hl341_0
                               clear hi341_0 hl341_0
                               replace p341 := eq_true p341
                               replace q341 := eq_true q341
                               have p342 : 0 ≤ (0 : Int) := (by omega)
                               have q342 : 0 < ((rd_L2 l0 x9_4).length : Int) := of_decide_eq_true (by first | (with_reducible assumption) | assumption)
                               obtain ⟨ad342, e342, hx342_0⟩ := Kd.at_int HR341_0.out 0 p342 q342
                               have hw342_0 := hx342_0
                               (try rw [show ((0 : Int)).toNat = 0 from rfl] at hw342_0)
                               (try rw [show 0 * 1 = 0 from rfl] at hw342_0)
                               (try rw [Addr.add_zero'] at hw342_0)
                               cases e342
                               have qi342 : (0 < (rd_L2 l0 x9_4).length) = True := eq_true (by omega)
                               (try rw [show ((0 : Int)).toNat = 0 from rfl] at hx342_0)
                               (try rw [Addr.add_zero'] at hx342_0)
                               replace hx342_0 := (HB.out.cell (World.block_lt_of_cell? w _ hx342_0)).trans hx342_0
                               replace p342 := eq_true p342
                               replace q342 := eq_true q342
                               have p343 : 0 ≤ (x9_4 : Int) := of_decide_eq_true (by first | (with_reducible assumption) | assumption)
                               have q343 : x9_4 < (l0.length : Int) := of_decide_eq_true (by first | (with_reducible assumption) | assumption)
                               obtain ⟨ad343, A343_0, c343_0, e343, hx343_0, hl343_0, hi343_0⟩ := at_L2 HR0.out x9_4 p343 q343
                               have hw343_0 := hx343_0
                               obtain rfl : ad337 = ad343 := (by injection e343)
                               replace hx343_0 := (HB.out.cell (World.block_lt_of_cell? w _ hx343_0)).trans hx343_0
                               have HR343_0 := zM hi343_0
                               have HC343_0 := zM hl343_0
                               clear hi343_0 hl343_0
                               replace p343 := eq_true p343
                               replace q343 := eq_true q343
                               have ea_ := Option.some.inj (hx341_0.symm.trans hx343_0)
                               injection ea_ with ea_ en_ ec_
                               subst ea_
                               subst ec_
                               clear en_
                               have p344 : 0 ≤ (1 : Int) := (by omega)
                               have q344 : 1 < ((rd_L2 l0 x9_4).length : Int) := of_decide_eq_true (by first | (with_reducible assumption) | assumption)
                               obtain ⟨ad344, e344, hx344_0⟩ := Kd.at_int HR343_0.out 1 p344 q344
                               have hw344_0 := hx344_0
                               (try rw [show ((1 : Int)).toNat = 1 from rfl] at hw344_0)
                               (try rw [show 1 * 1 = 1 from rfl] at hw344_0)
                               (try simp only [Nat.reduceMul, Nat.reduceEqDiff, Go.Addr.add, ↓reduceIte] at hw344_0)
                               cases e344
                               (try simp only [show (1 : Int).toNat = 1 from rfl, Nat.reduceMul, Nat.reduceEqDiff, Go.Addr.add, ↓reduceIte] at hx344_0)
                               have qi344 : (1 < (rd_L2 l0 x9_4).length) = True := eq_true (by omega)
                               (try rw [show ((1 : Int)).toNat = 1 from rfl] at hx344_0)
                               replace hx344_0 := (HB.out.cell (World.block_lt_of_cell? w _ hx344_0)).trans hx344_0
                               replace p344 := eq_true p344
                               replace q344 := eq_true q344
                               refine start_ (n := 26) (S := fun w' => w'.cell? (ad337.add ((rd x7_3 0)).toNat) = some (.slice (some ad338) (rd_L2 l0 (rd x7_3 0)).length c337_0) ∧ w'.cell? ad338 = some (.int .i64 (rd (rd_L2 l0 (rd x7_3 0)) 0)) ∧ w'.cell? (ad337.add ((rd x7_3 0)).toNat) = some (.slice (some ad338) (rd_L2 l0 (rd x7_3 0)).length c337_0) ∧ w'.cell? ⟨ad338.block, ad338.off + 1, none⟩ = some (.int .i64 (rd (rd_L2 l0 (rd x7_3 0)) 1)) ∧ w'.cell? (ad337.add (x9_4).toNat) = some (.slice (some ad342) (rd_L2 l0 x9_4).length c341_0) ∧ w'.cell? ad342 = some (.int .i64 (rd (rd_L2 l0 x9_4) 0)) ∧ w'.cell? (ad337.add (x9_4).toNat) = some (.slice (some ad342) (rd_L2 l0 x9_4).length c341_0) ∧ w'.cell? ⟨ad342.block, ad342.off + 1, none⟩ = some (.int .i64 (rd (rd_L2 l0 x9_4) 1))) (ds := []) #[false, false, false, false, false, false, false, false, false, false, false, false, false, false, false, false, false, false, false, false, false, false, false, false, false, false] (by kernel_rfl) rfl rfl ⟨((HB.out.cell (World.block_lt_of_cell? w _ hw337_0)).trans hw337_0), ((HB.out.cell (World.block_lt_of_cell? w _ hw338_0)).trans hw338_0), ((HB.out.cell (World.block_lt_of_cell? w _ hw339_0)).trans hw339_0), ((HB.out.cell (World.block_lt_of_cell? w _ hw340_0)).trans hw340_0), ((HB.out.cell (World.block_lt_of_cell? w _ hw341_0)).trans hw341_0), ((HB.out.cell (World.block_lt_of_cell? w _ hw342_0)).trans hw342_0), ((HB.out.cell (World.block_lt_of_cell? w _ hw343_0)).trans hw343_0), ((HB.out.cell (World.block_lt_of_cell? w _ hw344_0)).trans hw344_0)⟩ (fun hHeld => ?_); refine with_tabW spec_l11Sides.tab18 spec_l11Sides.bits18 (fun HT_ HW_ => ?_)
                               generalize wr.drew = w44 at HO_4 HO_7 HB HR337_0 HR339_0 HR341_0 HR343_0 hx337_0 hx338_0 hx339_0 hx340_0 hx341_0 hx342_0 hx343_0 hx344_0 hHeld ⊢
                               refine pure_ (i := 0) (N := some 50) (v := ?_) (a' := ?_) #[true, false, false, false, false, false, false, false, false, false, false, false, false, false, false, false, false, false, false, false, false, false, false, false, false, false] rfl rfl (any_of HT_.out (by kernel_rfl)) (fun _ _ _ h => h) (Or.inl ⟨by rfl, ?_⟩) ?_ ?_
                               rotate_left
                               ·intro w'
                                go_simp
                                with_reducible rfl
                               rotate_left
                               ·simp only [Act.put, zE, zF, zG, i64_w, i32_w]
                                rfl
                               refine pure_ (i := 1) (N := some 51) (v := ?_) (a' := ?_) #[true, true, false, false, false, false, false, false, false, false, false, false, false, false, false, false, false, false, false, false, false, false, false, false, false, false] rfl rfl (any_of HT_.out (by kernel_rfl)) (fun _ _ _ h => h) (Or.inl ⟨by rfl, ?_⟩) ?_ ?_
                               rotate_left
                               ·intro w'
                                go_simp
                                with_reducible rfl
                               rotate_left
                               ·simp only [Act.put, zE, zF, zG, i64_w, i32_w]
                                rfl
                               refine pure_ (i := 2) (N := some 52) (v := ?_) (a' := ?_) #[true, true, true, false, false, false, false, false, false, false, false, false, false, false, false, false, false, false, false, false, false, false, false, false, false, false] rfl rfl (any_of HT_.out (by kernel_rfl)) (fun _ _ _ h => h) (Or.inl ⟨by rfl, ?_⟩) ?_ ?_
                               rotate_left
                               ·intro w'
                                go_simp
                                with_reducible rfl
                               rotate_left
                               ·simp only [Act.put, zE, zF, zG, i64_w, i32_w]
                                rfl
                               refine pure_ (i := 6) (N := some 56) (v := ?_) (a' := ?_) #[true, true, true, false, false, false, true, false, false, false, false, false, false, false, false, false, false, false, false, false, false, false, false, false, false, false] rfl rfl (any_of HT_.out (by kernel_rfl)) (fun _ _ _ h => h) (Or.inl ⟨by rfl, ?_⟩) ?_ ?_
                               rotate_left
                               ·intro w'
                                go_simp
                                with_reducible rfl
                               rotate_left
                               ·simp only [Act.put, zE, zF, zG, i64_w, i32_w]
                                rfl
                               refine pure_ (i := 7) (N := some 57) (v := ?_) (a' := ?_) #[true, true, true, false, false, false, true, true, false, false, false, false, false, false, false, false, false, false, false, false, false, false, false, false, false, false] rfl rfl (any_of HT_.out (by kernel_rfl)) (fun _ _ _ h => h) (Or.inl ⟨by rfl, ?_⟩) ?_ ?_
                               rotate_left
                               ·intro w'
                                go_simp
                                with_reducible rfl
                               rotate_left
                               ·simp only [Act.put, zE, zF, zG, i64_w, i32_w]
                                rfl
                               refine pure_ (i := 8) (N := some 58) (v := ?_) (a' := ?_) #[true, true, true, false, false, false, true, true, true, false, false, false, false, false, false, false, false, false, false, false, false, false, false, false, false, false] rfl rfl (any_of HT_.out (by kernel_rfl)) (fun _ _ _ h => h) (Or.inl ⟨by rfl, ?_⟩) ?_ ?_
                               rotate_left
                               ·intro w'
                                go_simp
                                with_reducible rfl
                               rotate_left
                               ·simp only [Act.put, zE, zF, zG, i64_w, i32_w]
                                rfl
                               refine pure_ (i := 12) (N := some 62) (v := ?_) (a' := ?_) #[true, true, true, false, false, false, true, true, true, false, false, false, true, false, false, false, false, false, false, false, false, false, false, false, false, false] rfl rfl (any_of HT_.out (by kernel_rfl)) (fun _ _ _ h => h) (Or.inl ⟨by rfl, ?_⟩) ?_ ?_
                               rotate_left
                               ·intro w'
                                go_simp
                                with_reducible rfl
                               rotate_left
                               ·simp only [Act.put, zE, zF, zG, i64_w, i32_w]
                                rfl
                               refine pure_ (i := 13) (N := some 63) (v := ?_) (a' := ?_) #[true, true, true, false, false, false, true, true, true, false, false, false, true, true, false, false, false, false, false, false, false, false, false, false, false, false] rfl rfl (any_of HT_.out (by kernel_rfl)) (fun _ _ _ h => h) (Or.inl ⟨by rfl, ?_⟩) ?_ ?_
                               rotate_left
                               ·intro w'
                                go_simp
                                with_reducible rfl
                               rotate_left
                               ·simp only [Act.put, zE, zF, zG, i64_w, i32_w]
                                rfl
                               refine pure_ (i := 14) (N := some 64) (v := ?_) (a' := ?_) #[true, true, true, false, false, false, true, true, true, false, false, false, true, true, true, false, false, false, false, false, false, false, false, false, false, false] rfl rfl (any_of HT_.out (by kernel_rfl)) (fun _ _ _ h => h) (Or.inl ⟨by rfl, ?_⟩) ?_ ?_
                               rotate_left
                               ·intro w'
                                go_simp
                                with_reducible rfl
                               rotate_left
                               ·simp only [Act.put, zE, zF, zG, i64_w, i32_w]
                                rfl
                               refine pure_ (i := 18) (N := some 68) (v := ?_) (a' := ?_) #[true, true, true, false, false, false, true, true, true, false, false, false, true, true, true, false, false, false, true, false, false, false, false, false, false, false] rfl rfl (any_of HT_.out (by kernel_rfl)) (fun _ _ _ h => h) (Or.inl ⟨by rfl, ?_⟩) ?_ ?_
                               rotate_left
                               ·intro w'
                                go_simp
                                with_reducible rfl
                               rotate_left
                               ·simp only [Act.put, zE, zF, zG, i64_w, i32_w]
                                rfl
                               refine pure_ (i := 19) (N := some 69) (v := ?_) (a' := ?_) #[true, true, true, false, false, false, true, true, true, false, false, false, true, true, true, false, false, false, true, true, false, false, false, false, false, false] rfl rfl (any_of HT_.out (by kernel_rfl)) (fun _ _ _ h => h) (Or.inl ⟨by rfl, ?_⟩) ?_ ?_
                               rotate_left
                               ·intro w'
                                go_simp
                                with_reducible rfl
                               rotate_left
                               ·simp only [Act.put, zE, zF, zG, i64_w, i32_w]
                                rfl
                               refine pure_ (i := 20) (N := some 70) (v := ?_) (a' := ?_) #[true, true, true, false, false, false, true, true, true, false, false, false, true, true, true, false, false, false, true, true, true, false, false, false, false, false] rfl rfl (any_of HT_.out (by kernel_rfl)) (fun _ _ _ h => h) (Or.inl ⟨by rfl, ?_⟩) ?_ ?_
                               rotate_left
                               ·intro w'
                                go_simp
                                with_reducible rfl
                               rotate_left
                               ·simp only [Act.put, zE, zF, zG, i64_w, i32_w]
                                rfl
                               refine take_ (i := 3) (N := some 53) (v := ?_) (a' := ?_) #[true, true, true, true, false, false, true, true, true, false, false, false, true, true, true, false, false, false, true, true, true, false, false, false, false, false] rfl rfl (take_ofW HT_.out HW_.out (by kernel_rfl)) (fun _ _ _ h => h) (Or.inl ⟨by rfl, ?_⟩) hHeld ?_ ?_
                               rotate_left
                               ·rintro w' ⟨s0, s1, s2, s3, s4, s5, s6, s7⟩
                                go_simp
                                with_reducible rfl
                               rotate_left
                               ·simp only [Act.put, zE, zF, zG, i64_w, i32_w]
                                rfl
                               refine pure_ (i := 4) (N := some 54) (v := ?_) (a' := ?_) #[true, true, true, true, true, false, true, true, true, false, false, false, true, true, true, false, false, false, true, true, true, false, false, false, false, false] rfl rfl (any_of HT_.out (by kernel_rfl)) (fun _ _ _ h => h) (Or.inl ⟨by rfl, ?_⟩) ?_ ?_
                               rotate_left
                               ·intro w'
                                go_simp
                                with_reducible rfl
                               rotate_left
                               ·simp only [Act.put, zE, zF, zG, i64_w, i32_w]
                                rfl
                               refine take_ (i := 5) (N := some 55) (v := ?_) (a' := ?_) #[true, true, true, true, true, true, true, true, true, false, false, false, true, true, true, false, false, false, true, true, true, false, false, false, false, false] rfl rfl (take_ofW HT_.out HW_.out (by kernel_rfl)) (fun _ _ _ h => h) (Or.inl ⟨by rfl, ?_⟩) hHeld ?_ ?_
                               rotate_left
                               ·rintro w' ⟨s0, s1, s2, s3, s4, s5, s6, s7⟩
                                go_simp
                                with_reducible rfl
                               rotate_left
                               ·simp only [Act.put, zE, zF, zG, i64_w, i32_w]
                                rfl
                               refine take_ (i := 9) (N := some 59) (v := ?_) (a' := ?_) #[true, true, true, true, true, true, true, true, true, true, false, false, true, true, true, false, false, false, true, true, true, false, false, false, false, false] rfl rfl (take_ofW HT_.out HW_.out (by kernel_rfl)) (fun _ _ _ h => h) (Or.inl ⟨by rfl, ?_⟩) hHeld ?_ ?_
                               rotate_left
                               ·rintro w' ⟨s0, s1, s2, s3, s4, s5, s6, s7⟩
                                go_simp
                                with_reducible rfl
                               rotate_left
                               ·simp only [Act.put, zE, zF, zG, i64_w, i32_w]
                                rfl
                               refine pure_ (i := 10) (N := some 60) (v := ?_) (a' := ?_) #[true, true, true, true, true, true, true, true, true, true, true, false, true, true, true, false, false, false, true, true, true, false, false, false, false, false] rfl rfl (any_of HT_.out (by kernel_rfl)) (fun _ _ _ h => h) (Or.inl ⟨by rfl, ?_⟩) ?_ ?_
                               rotate_left
                               ·intro w'
                                go_simp
                                with_reducible rfl
                               rotate_left
                               ·simp only [Act.put, zE, zF, zG, i64_w, i32_w]
                                rfl
                               refine take_ (i := 11) (N := some 61) (v := ?_) (a' := ?_) #[true, true, true, true, true, true, true, true, true, true, true, true, true, true, true, false, false, false, true, true, true, false, false, false, false, false] rfl rfl (take_ofW HT_.out HW_.out (by kernel_rfl)) (fun _ _ _ h => h) (Or.inl ⟨by rfl, ?_⟩) hHeld ?_ ?_
                               rotate_left
                               ·rintro w' ⟨s0, s1, s2, s3, s4, s5, s6, s7⟩
                                go_simp
                                with_reducible rfl
                               rotate_left
                               ·simp only [Act.put, zE, zF, zG, i64_w, i32_w]
                                rfl
                               refine take_ (i := 15) (N := some 65) (v := ?_) (a' := ?_) #[true, true, true, true, true, true, true, true, true, true, true, true, true, true, true, true, false, false, true, true, true, false, false, false, false, false] rfl rfl (take_ofW HT_.out HW_.out (by kernel_rfl)) (fun _ _ _ h => h) (Or.inl ⟨by rfl, ?_⟩) hHeld ?_ ?_
                               rotate_left
                               ·rintro w' ⟨s0, s1, s2, s3, s4, s5, s6, s7⟩
                                go_simp
                                with_reducible rfl
                               rotate_left
                               ·simp only [Act.put, zE, zF, zG, i64_w, i32_w]
                                rfl
                               refine pure_ (i := 16) (N := some 66) (v := ?_) (a' := ?_) #[true, true, true, true, true, true, true, true, true, true, true, true, true, true, true, true, true, false, true, true, true, false, false, false, false, false] rfl rfl (any_of HT_.out (by kernel_rfl)) (fun _ _ _ h => h) (Or.inl ⟨by rfl, ?_⟩) ?_ ?_
                               rotate_left
                               ·intro w'
                                go_simp
                                with_reducible rfl
                               rotate_left
                               ·simp only [Act.put, zE, zF, zG, i64_w, i32_w]
                                rfl
                               refine take_ (i := 17) (N := some 67) (v := ?_) (a' := ?_) #[true, true, true, true, true, true, true, true, true, true, true, true, true, true, true, true, true, true, true, true, true, false, false, false, false, false] rfl rfl (take_ofW HT_.out HW_.out (by kernel_rfl)) (fun _ _ _ h => h) (Or.inl ⟨by rfl, ?_⟩) hHeld ?_ ?_
                               rotate_left
                               ·rintro w' ⟨s0, s1, s2, s3, s4, s5, s6, s7⟩
                                go_simp
                                with_reducible rfl
                               rotate_left
                               ·simp only [Act.put, zE, zF, zG, i64_w, i32_w]
                                rfl
                               refine take_ (i := 21) (N := some 71) (v := ?_) (a' := ?_) #[true, true, true, true, true, true, true, true, true, true, true, true, true, true, true, true, true, true, true, true, true, true, false, false, false, false] rfl rfl (take_ofW HT_.out HW_.out (by kernel_rfl)) (fun _ _ _ h => h) (Or.inl ⟨by rfl, ?_⟩) hHeld ?_ ?_
                               rotate_left
                               ·rintro w' ⟨s0, s1, s2, s3, s4, s5, s6, s7⟩
                                go_simp
                                with_reducible rfl
                               rotate_left
                               ·simp only [Act.put, zE, zF, zG, i64_w, i32_w]
                                rfl
                               refine pure_ (i := 22) (N := some 72) (v := ?_) (a' := ?_) #[true, true, true, true, true, true, true, true, true, true, true, true, true, true, true, true, true, true, true, true, true, true, true, false, false, false] rfl rfl (any_of HT_.out (by kernel_rfl)) (fun _ _ _ h => h) (Or.inl ⟨by rfl, ?_⟩) ?_ ?_
                               rotate_left
                               ·intro w'
                                go_simp
                                with_reducible rfl
                               rotate_left
                               ·simp only [Act.put, zE, zF, zG, i64_w, i32_w]
                                rfl
                               refine take_ (i := 23) (N := some 73) (v := ?_) (a' := ?_) #[true, true, true, true, true, true, true, true, true, true, true, true, true, true, true, true, true, true, true, true, true, true, true, true, false, false] rfl rfl (take_ofW HT_.out HW_.out (by kernel_rfl)) (fun _ _ _ h => h) (Or.inl ⟨by rfl, ?_⟩) hHeld ?_ ?_
                               rotate_left
                               ·rintro w' ⟨s0, s1, s2, s3, s4, s5, s6, s7⟩
                                go_simp
                                with_reducible rfl
                               rotate_left
                               ·simp only [Act.put, zE, zF, zG, i64_w, i32_w]
                                rfl
                               refine one_ (i := 24) (N := some 74) #[true, true, true, true, true, true, true, true, true, true, true, true, true, true, true, true, true, true, true, true, true, true, true, true, true, false] rfl rfl (one_of HT_.out (by kernel_rfl)) (by decide) (fun K hK => ?_)
                               refine goes_ Try.func29 (by kernel_rfl) rfl #[.int .i64 (rd (rd_L2 l0 (rd x7_3 0)) 0), .int .i64 (rd (rd_L2 l0 (rd x7_3 0)) 1), .int .i64 (rd (rd_L2 l0 x9_4) 0), .int .i64 (rd (rd_L2 l0 x9_4) 1)] (by rfl) rfl rfl (by (try simp only [List.map_toArray, List.map_cons, List.map_nil]); first | done | rfl | (simp only [List.length_drop, List.length_take]; rfl)) ?_
                               with_reducible refine (spec_CrossOk.calls (rd (rd_L2 l0 (rd x7_3 0)) 0) (rd (rd_L2 l0 (rd x7_3 0)) 1) (rd (rd_L2 l0 x9_4) 0) (rd (rd_L2 l0 x9_4) 1) true _ A31.out).mono ?_
                               rintro e w45 ⟨rfl, hb⟩
                               refine ⟨_, rfl, ?_⟩
                               have n0_ := zM (Kd.R_below (by exact HO_4.out) hb)
                               have n1_ := zM (Kd.Q_below (by exact HO_7.out) hb)
                               have n2_ := zM (below_step (by repeat (first | (with_reducible first | exact HB.out | apply zB | apply zA | apply zC) | exact HB.out)) hb)
                               clear HO_4
                               clear HO_7
                               clear HB
                               have HO_4 := n0_
                               have HO_7 := n1_
                               have HB := n2_
                               clear n0_ n1_ n2_
                               (try clear hb)
                               (try clear hb2)
                               (try clear hk)
                               (try clear hi)
                               refine hK.out _ _ ⟨((HB.out.cell (World.block_lt_of_cell? w _ hw337_0)).trans hw337_0), ((HB.out.cell (World.block_lt_of_cell? w _ hw338_0)).trans hw338_0), ((HB.out.cell (World.block_lt_of_cell? w _ hw339_0)).trans hw339_0), ((HB.out.cell (World.block_lt_of_cell? w _ hw340_0)).trans hw340_0), ((HB.out.cell (World.block_lt_of_cell? w _ hw341_0)).trans hw341_0), ((HB.out.cell (World.block_lt_of_cell? w _ hw342_0)).trans hw342_0), ((HB.out.cell (World.block_lt_of_cell? w _ hw343_0)).trans hw343_0), ((HB.out.cell (World.block_lt_of_cell? w _ hw344_0)).trans hw344_0)⟩ (fun hHeld => ?_)
                               clear hK K
                               refine norm_ (a' := ?_) ?_ ?_
                               rotate_left
                               ·show Act.put _ (some 74) _ = _
                                simp only [Act.put, zE, zF, zG, i64_w, i32_w]
                                rfl
                               refine pure_ (i := 25) (N := some 75) (v := ?_) (a' := ?_) #[true, true, true, true, true, true, true, true, true, true, true, true, true, true, true, true, true, true, true, true, true, true, true, true, true, true] rfl rfl (any_of HT_.out (by kernel_rfl)) (fun _ _ _ h => h) (Or.inl ⟨by rfl, ?_⟩) ?_ ?_
                               rotate_left
                               ·intro w'
                                go_simp
                                with_reducible rfl
                               rotate_left
                               ·simp only [Act.put, zE, zF, zG, i64_w, i32_w]
                                rfl
                               refine done_ (done_of HT_.out (by kernel_rfl)) ?_
                               try go_wp2
                               have n0_ := zM (Kd.R_drew HO_4.out)
                               have n1_ := zM (Kd.Q_drew HO_7.out)
                               have n2_ := zM (zC HB.out)
                               clear HO_4
                               clear HO_7
                               clear HB
                               have HO_4 := n0_
                               have HO_7 := n1_
                               have HB := n2_
                               clear n0_ n1_ n2_
                               have p346 : 0 ≤ (x9_4 : Int) := of_decide_eq_true (by first | (with_reducible assumption) | assumption)
                               have q346 : x9_4 < (x4_4.length : Int) := of_decide_eq_true (by first | (with_reducible assumption) | assumption)
                               obtain ⟨ad346, e346, hx346_0⟩ := Kd.at_int (Kd.R_reads' HO_4.out).2.2 x9_4 p346 q346
                               obtain rfl : (⟨go12, 0, none⟩ : Addr) = ad346 := (by injection e346)
                               (first | simp only [add_plain] at hx346_0 | simp only [add_at] at hx346_0 | simp only [Addr.add, Nat.zero_add] at hx346_0 | skip)
                               replace p346 := eq_true p346
                               replace q346 := eq_true q346
                               have p347 : 0 ≤ ((rd x7_3 0) : Int) := of_decide_eq_true (by first | (with_reducible assumption) | assumption)
                               have q347 : (rd x7_3 0) < (x4_4.length : Int) := of_decide_eq_true (by first | (with_reducible assumption) | assumption)
                               obtain ⟨ad347, e347, hx347_0⟩ := Kd.at_int (Kd.R_reads' HO_4.out).2.2 (rd x7_3 0) p347 q347
                               obtain rfl : (⟨go12, 0, none⟩ : Addr) = ad347 := (by injection e347)
                               (first | simp only [add_plain] at hx347_0 | simp only [add_at] at hx347_0 | simp only [Addr.add, Nat.zero_add] at hx347_0 | skip)
                               replace p347 := eq_true p347
                               replace q347 := eq_true q347
                               refine start_ (n := 9) (S := fun w' => w'.cell? ⟨go12, (x9_4).toNat, none⟩ = some (.int .i64 (rd x4_4 x9_4)) ∧ w'.cell? ⟨go12, ((rd x7_3 0)).toNat, none⟩ = some (.int .i64 (rd x4_4 (rd x7_3 0)))) (ds := []) #[false, false, false, false, false, false, false, false, false] (by kernel_rfl) rfl rfl ⟨hx346_0, hx347_0⟩ (fun hHeld => ?_); refine with_tabW spec_l11Sides.tab19 spec_l11Sides.bits19 (fun HT_ HW_ => ?_)
                               generalize w45.drew = w46 at HO_4 HO_7 HB hx346_0 hx347_0 hHeld ⊢
                               refine pure_ (i := 0) (N := some 76) (v := ?_) (a' := ?_) #[true, false, false, false, false, false, false, false, false] rfl rfl (any_of HT_.out (by kernel_rfl)) (fun _ _ _ h => h) (Or.inl ⟨by rfl, ?_⟩) ?_ ?_
                               rotate_left
                               ·intro w'
                                go_simp
                                with_reducible rfl
                               rotate_left
                               ·simp only [Act.put, zE, zF, zG, i64_w, i32_w]
                                rfl
                               refine pure_ (i := 1) (N := some 77) (v := ?_) (a' := ?_) #[true, true, false, false, false, false, false, false, false] rfl rfl (any_of HT_.out (by kernel_rfl)) (fun _ _ _ h => h) (Or.inl ⟨by rfl, ?_⟩) ?_ ?_
                               rotate_left
                               ·intro w'
                                go_simp
                                with_reducible rfl
                               rotate_left
                               ·simp only [Act.put, zE, zF, zG, i64_w, i32_w]
                                rfl
                               refine pure_ (i := 2) (N := some 78) (v := ?_) (a' := ?_) #[true, true, true, false, false, false, false, false, false] rfl rfl (any_of HT_.out (by kernel_rfl)) (fun _ _ _ h => h) (Or.inl ⟨by rfl, ?_⟩) ?_ ?_
                               rotate_left
                               ·intro w'
                                go_simp
                                with_reducible rfl
                               rotate_left
                               ·simp only [Act.put, zE, zF, zG, i64_w, i32_w]
                                rfl
                               refine pure_ (i := 4) (N := some 80) (v := ?_) (a' := ?_) #[true, true, true, false, true, false, false, false, false] rfl rfl (any_of HT_.out (by kernel_rfl)) (fun _ _ _ h => h) (Or.inl ⟨by rfl, ?_⟩) ?_ ?_
                               rotate_left
                               ·intro w'
                                go_simp
                                with_reducible rfl
                               rotate_left
                               ·simp only [Act.put, zE, zF, zG, i64_w, i32_w]
                                rfl
                               refine pure_ (i := 5) (N := some 81) (v := ?_) (a' := ?_) #[true, true, true, false, true, true, false, false, false] rfl rfl (any_of HT_.out (by kernel_rfl)) (fun _ _ _ h => h) (Or.inl ⟨by rfl, ?_⟩) ?_ ?_
                               rotate_left
                               ·intro w'
                                go_simp
                                with_reducible rfl
                               rotate_left
                               ·simp only [Act.put, zE, zF, zG, i64_w, i32_w]
                                rfl
                               refine pure_ (i := 6) (N := some 82) (v := ?_) (a' := ?_) #[true, true, true, false, true, true, true, false, false] rfl rfl (any_of HT_.out (by kernel_rfl)) (fun _ _ _ h => h) (Or.inl ⟨by rfl, ?_⟩) ?_ ?_
                               rotate_left
                               ·intro w'
                                go_simp
                                with_reducible rfl
                               rotate_left
                               ·simp only [Act.put, zE, zF, zG, i64_w, i32_w]
                                rfl
                               refine take_ (i := 3) (N := some 79) (v := ?_) (a' := ?_) #[true, true, true, true, true, true, true, false, false] rfl rfl (take_ofW HT_.out HW_.out (by kernel_rfl)) (fun _ _ _ h => h) (Or.inl ⟨by rfl, ?_⟩) hHeld ?_ ?_
                               rotate_left
                               ·rintro w' ⟨s0, s1⟩
                                go_simp
                                with_reducible rfl
                               rotate_left
                               ·simp only [Act.put, zE, zF, zG, i64_w, i32_w]
                                rfl
                               refine take_ (i := 7) (N := some 83) (v := ?_) (a' := ?_) #[true, true, true, true, true, true, true, true, false] rfl rfl (take_ofW HT_.out HW_.out (by kernel_rfl)) (fun _ _ _ h => h) (Or.inl ⟨by rfl, ?_⟩) hHeld ?_ ?_
                               rotate_left
                               ·rintro w' ⟨s0, s1⟩
                                go_simp
                                with_reducible rfl
                               rotate_left
                               ·simp only [Act.put, zE, zF, zG, i64_w, i32_w]
                                rfl
                               refine pure_ (i := 8) (N := some 84) (v := ?_) (a' := ?_) #[true, true, true, true, true, true, true, true, true] rfl rfl (any_of HT_.out (by kernel_rfl)) (fun _ _ _ h => h) (Or.inl ⟨by rfl, ?_⟩) ?_ ?_
                               rotate_left
                               ·intro w'
                                go_simp
                                with_reducible rfl
                               rotate_left
                               ·simp only [Act.put, zE, zF, zG, i64_w, i32_w]
                                rfl
                               refine done_ (done_of HT_.out (by kernel_rfl)) ?_
                               have p351 : 0 ≤ (x9_4 : Int) := of_decide_eq_true (by first | (with_reducible assumption) | assumption)
                               have q351 : x9_4 < (x4_4.length : Int) := of_decide_eq_true (by first | (with_reducible assumption) | assumption)
                               obtain ⟨ad351, e351, hx351_0⟩ := Kd.at_int (Kd.R_reads' HO_4.out).2.2 x9_4 p351 q351
                               obtain rfl : (⟨go12, 0, none⟩ : Addr) = ad351 := (by injection e351)
                               (first | simp only [add_plain] at hx351_0 | simp only [add_at] at hx351_0 | simp only [Addr.add, Nat.zero_add] at hx351_0 | skip)
                               replace p351 := eq_true p351
                               replace q351 := eq_true q351
                               have p352 : 0 ≤ ((rd x7_3 0) : Int) := of_decide_eq_true (by first | (with_reducible assumption) | assumption)
                               have q352 : (rd x7_3 0) < (x4_4.length : Int) := of_decide_eq_true (by first | (with_reducible assumption) | assumption)
                               obtain ⟨ad352, e352, hx352_0⟩ := Kd.at_int (Kd.R_reads' HO_4.out).2.2 (rd x7_3 0) p352 q352
                               obtain rfl : (⟨go12, 0, none⟩ : Addr) = ad352 := (by injection e352)
                               (first | simp only [add_plain] at hx352_0 | simp only [add_at] at hx352_0 | simp only [Addr.add, Nat.zero_add] at hx352_0 | skip)
                               replace p352 := eq_true p352
                               replace q352 := eq_true q352
                               have p42 : 0 ≤ (x9_4 : Int) := of_decide_eq_true (by first | (with_reducible assumption) | assumption)
                               have q42 : (x9_4 : Int) < ((x4_4.length : Int) : Int) := of_decide_eq_true (by first | (with_reducible assumption) | assumption)
                               obtain ⟨hx42_0, hf42_0⟩ := Kd.R_celln 0 HO_4.out (x9_4 : Int) p42 q42
                               replace p42 := eq_true p42
                               replace q42 := eq_true q42
                               obtain ⟨hy47_, hz47_⟩ := Kd.R_celln 0 HO_4.out (x9_4 : Int) (of_decide_eq_true (by first | (with_reducible assumption) | assumption)) (of_decide_eq_true (by first | (with_reducible assumption) | assumption))
                               have HP47 := Kd.R_putg HO_4.out (x9_4 : Int) (wrap64 (1 - (rd x4_4 (rd x7_3 0))))
                               try go_wp2_with (first | ((with_reducible refine gate_store (t := 3) (p := 98) rfl ?_); refine store_event (t := 3) (p := 98) (v := ?vo_w48) (w1 := (w46.setCell ⟨go12, (x9_4 : Int).toNat, none⟩ (.int .i64 (wrap64 (1 - (rd x4_4 (rd x7_3 0))))))) ?hg ?ho ?hn ?hr ?_; (case ho => rfl); (case hg => rfl); (case hn => rfl); (case hr => first | (go_simp; done) | (go_simp; rfl)); intro w48 hw; have hg : w46.grownBy w48 (some go12) := (by rw [hw]; exact HP47.2); have hp_ : Kd.R (Kd.int .i64) 3 w48 w.heap.size (fun k_ => some k_ ≠ (u7 : Value).ownBlock) (.slice (some ⟨go12, 0, none⟩) x4_4.length co13) y353 := (by rw [hw, Ny353.out]; exact HP47.1); clear HP47; have n0_ := zM (hp_); have n1_ := zM (Kd.Q_after (v := (.slice (some ⟨go12, 0, none⟩) x4_4.length co13)) (v1 := (.slice (some ⟨go12, 0, none⟩) x4_4.length co13)) (ok := (fun _ => True)) (by exact Kd.Q_mono HO_7.out (fun _ hk => ⟨trivial, hk⟩)) hg (.inl rfl)); have n2_ := zM ((by rw [hw]; exact zD (HB.out) GB12.out : Below w.heap.size w w48)); clear HO_4; clear HO_7; clear HB; have HO_4 := n0_; have HO_7 := n1_; have HB := n2_; clear n0_ n1_ n2_; clear hg hw hp_) | ((with_reducible refine gate_builtin (b := .append) (xs := #[.tmp 99, .tmp 101]) rfl ?_); at_builtin; refine Kd.Q_append (Kd.int .i64) (w0 := w) w.heap.size rfl (.tmp 99) (.tmp 101) 23 3 (.int .i64 0) 8 rfl Try.underlying23 info3 rfl (by decide) (by omega) u7 x7_4 x9_4 [.int .i64 x9_4] (fun k_ => some k_ ≠ (.slice (some ⟨go12, 0, none⟩) x4_4.length co13 : Value).ownBlock) (fun _ => False) rfl rfl ?aP (fun _ hk => hk.elim) ?aF ?aO ?aB ?aS ?aL ?_; (case aP => exact rfl); (case aB => exact (by repeat (first | (with_reducible first | exact HB.out | apply zB | apply zA | apply zC) | exact HB.out))); (case aF => exact (fun k_ hk => Kd.fresh' (Kd.R_lt (by exact HO_4.out)) k_ hk)); (case aO => exact (by exact Kd.Q_mono HO_7.out (fun _ hk => hk.2))); (case aS => exact (below_size (by repeat (first | (with_reducible first | exact HB.out | apply zB | apply zA | apply zC) | exact HB.out)))); (case aL => have := LMc43.out; omega); intro v355 w49 ho hb hg hat; rw [← Ny354.out] at ho; have n0_ := zM (Kd.R_after (ok := (fun _ => True)) (by exact Kd.R_mono HO_4.out (fun _ hk => ⟨trivial, hk⟩)) hg hat); have n1_ := zM (hb); have n2_ := zM (ho); clear HO_4; clear HB; clear HO_7; have HO_4 := n0_; have HB := n1_; have HO356 := n2_; clear n0_ n1_ n2_; clear ho hb hg hat))
                               (try simp only [← hl4_4])
                               go_roundg k4
                               case measure => have := HK1.out; have := HK2.out; have := HK3.out; have := HK4.out; omega
                               case rel => exact ⟨(y353), (y354), (wrap64 (x9_4 + 1)), (by first | rfl | (simp; done) | (simp [*]; done)), H', ⟨by have := HK1.out; have := HK2.out; have := HK3.out; have := HK4.out; omega⟩, ⟨by (try simp only [hl4_3]); (try simp only [hl4_4]); (with_reducible repeat (first | apply Kd.R_alloc | apply Kd.R_drewN | apply Kd.R_drew)); exact Kd.R_mono HO_4.out (fun _ hk => hk.2)⟩, ⟨by (try simp only [hl4_3]); (try simp only [hl4_4]); (with_reducible repeat (first | apply Kd.Q_alloc | apply Kd.Q_drewN | apply Kd.Q_drew)); exact HO356.out⟩, ⟨by repeat (first | (with_reducible first | exact HB.out | apply zB | apply zA | apply zC) | exact HB.out)⟩⟩
                              ·rw [if_neg c43] at H
                               exact absurd H (by simp)
                             ·rw [if_neg c41] at H
                              have c41b0 : decide ((rd x4_4 x9_4) < 0) = false := decide_eq_false c41
                              clear c41
                              have H' := zM H
                              clear H
                              try go_wp2
                              have n0_ := zM (Kd.R_drew HO_4.out)
                              have n1_ := zM (Kd.Q_drew HO_7.out)
                              have n2_ := zM (zC HB.out)
                              clear HO_4
                              clear HO_7
                              clear HB
                              have HO_4 := n0_
                              have HO_7 := n1_
                              have HB := n2_
                              clear n0_ n1_ n2_
                              have p337 : 0 ≤ ((rd x7_3 0) : Int) := of_decide_eq_true (by first | (with_reducible assumption) | assumption)
                              have q337 : (rd x7_3 0) < (l0.length : Int) := of_decide_eq_true (by first | (with_reducible assumption) | assumption)
                              obtain ⟨ad337, A337_0, c337_0, e337, hx337_0, hl337_0, hi337_0⟩ := at_L2 HR0.out (rd x7_3 0) p337 q337
                              have hw337_0 := hx337_0
                              cases e337
                              replace hx337_0 := (HB.out.cell (World.block_lt_of_cell? w _ hx337_0)).trans hx337_0
                              have HR337_0 := zM hi337_0
                              have HC337_0 := zM hl337_0
                              clear hi337_0 hl337_0
                              replace p337 := eq_true p337
                              replace q337 := eq_true q337
                              have p338 : 0 ≤ (0 : Int) := (by omega)
                              have q338 : 0 < ((rd_L2 l0 (rd x7_3 0)).length : Int) := of_decide_eq_true (by first | (with_reducible assumption) | assumption)
                              obtain ⟨ad338, e338, hx338_0⟩ := Kd.at_int HR337_0.out 0 p338 q338
                              have hw338_0 := hx338_0
                              (try rw [show ((0 : Int)).toNat = 0 from rfl] at hw338_0)
                              (try rw [show 0 * 1 = 0 from rfl] at hw338_0)
                              (try rw [Addr.add_zero'] at hw338_0)
                              cases e338
                              have qi338 : (0 < (rd_L2 l0 (rd x7_3 0)).length) = True := eq_true (by omega)
                              (try rw [show ((0 : Int)).toNat = 0 from rfl] at hx338_0)
                              (try rw [Addr.add_zero'] at hx338_0)
                              replace hx338_0 := (HB.out.cell (World.block_lt_of_cell? w _ hx338_0)).trans hx338_0
                              replace p338 := eq_true p338
                              replace q338 := eq_true q338
                              have p339 : 0 ≤ ((rd x7_3 0) : Int) := of_decide_eq_true (by first | (with_reducible assumption) | assumption)
                              have q339 : (rd x7_3 0) < (l0.length : Int) := of_decide_eq_true (by first | (with_reducible assumption) | assumption)
                              obtain ⟨ad339, A339_0, c339_0, e339, hx339_0, hl339_0, hi339_0⟩ := at_L2 HR0.out (rd x7_3 0) p339 q339
                              have hw339_0 := hx339_0
                              obtain rfl : ad337 = ad339 := (by injection e339)
                              replace hx339_0 := (HB.out.cell (World.block_lt_of_cell? w _ hx339_0)).trans hx339_0
                              have HR339_0 := zM hi339_0
                              have HC339_0 := zM hl339_0
                              clear hi339_0 hl339_0
                              replace p339 := eq_true p339
                              replace q339 := eq_true q339
                              have ea_ := Option.some.inj (hx337_0.symm.trans hx339_0)
                              injection ea_ with ea_ en_ ec_
                              subst ea_
                              subst ec_
                              clear en_
                              have p340 : 0 ≤ (1 : Int) := (by omega)
                              have q340 : 1 < ((rd_L2 l0 (rd x7_3 0)).length : Int) := of_decide_eq_true (by first | (with_reducible assumption) | assumption)
                              obtain ⟨ad340, e340, hx340_0⟩ := Kd.at_int HR339_0.out 1 p340 q340
                              have hw340_0 := hx340_0
                              (try rw [show ((1 : Int)).toNat = 1 from rfl] at hw340_0)
                              (try rw [show 1 * 1 = 1 from rfl] at hw340_0)
                              (try simp only [Nat.reduceMul, Nat.reduceEqDiff, Go.Addr.add, ↓reduceIte] at hw340_0)
                              cases e340
                              (try simp only [show (1 : Int).toNat = 1 from rfl, Nat.reduceMul, Nat.reduceEqDiff, Go.Addr.add, ↓reduceIte] at hx340_0)
                              have qi340 : (1 < (rd_L2 l0 (rd x7_3 0)).length) = True := eq_true (by omega)
                              (try rw [show ((1 : Int)).toNat = 1 from rfl] at hx340_0)
                              replace hx340_0 := (HB.out.cell (World.block_lt_of_cell? w _ hx340_0)).trans hx340_0
                              replace p340 := eq_true p340
                              replace q340 := eq_true q340
                              have p341 : 0 ≤ (x9_4 : Int) := of_decide_eq_true (by first | (with_reducible assumption) | assumption)
                              have q341 : x9_4 < (l0.length : Int) := of_decide_eq_true (by first | (with_reducible assumption) | assumption)
                              obtain ⟨ad341, A341_0, c341_0, e341, hx341_0, hl341_0, hi341_0⟩ := at_L2 HR0.out x9_4 p341 q341
                              have hw341_0 := hx341_0
                              obtain rfl : ad337 = ad341 := (by injection e341)
                              replace hx341_0 := (HB.out.cell (World.block_lt_of_cell? w _ hx341_0)).trans hx341_0
                              have HR341_0 := zM hi341_0
                              have HC341_0 := zM hl341_0
                              clear hi341_0 hl341_0
                              replace p341 := eq_true p341
                              replace q341 := eq_true q341
                              have p342 : 0 ≤ (0 : Int) := (by omega)
                              have q342 : 0 < ((rd_L2 l0 x9_4).length : Int) := of_decide_eq_true (by first | (with_reducible assumption) | assumption)
                              obtain ⟨ad342, e342, hx342_0⟩ := Kd.at_int HR341_0.out 0 p342 q342
                              have hw342_0 := hx342_0
                              (try rw [show ((0 : Int)).toNat = 0 from rfl] at hw342_0)
                              (try rw [show 0 * 1 = 0 from rfl] at hw342_0)
                              (try rw [Addr.add_zero'] at hw342_0)
                              cases e342
                              have qi342 : (0 < (rd_L2 l0 x9_4).length) = True := eq_true (by omega)
                              (try rw [show ((0 : Int)).toNat = 0 from rfl] at hx342_0)
                              (try rw [Addr.add_zero'] at hx342_0)
                              replace hx342_0 := (HB.out.cell (World.block_lt_of_cell? w _ hx342_0)).trans hx342_0
                              replace p342 := eq_true p342
                              replace q342 := eq_true q342
                              have p343 : 0 ≤ (x9_4 : Int) := of_decide_eq_true (by first | (with_reducible assumption) | assumption)
                              have q343 : x9_4 < (l0.length : Int) := of_decide_eq_true (by first | (with_reducible assumption) | assumption)
                              obtain ⟨ad343, A343_0, c343_0, e343, hx343_0, hl343_0, hi343_0⟩ := at_L2 HR0.out x9_4 p343 q343
                              have hw343_0 := hx343_0
                              obtain rfl : ad337 = ad343 := (by injection e343)
                              replace hx343_0 := (HB.out.cell (World.block_lt_of_cell? w _ hx343_0)).trans hx343_0
                              have HR343_0 := zM hi343_0
                              have HC343_0 := zM hl343_0
                              clear hi343_0 hl343_0
                              replace p343 := eq_true p343
                              replace q343 := eq_true q343
                              have ea_ := Option.some.inj (hx341_0.symm.trans hx343_0)
                              injection ea_ with ea_ en_ ec_
                              subst ea_
                              subst ec_
                              clear en_
                              have p344 : 0 ≤ (1 : Int) := (by omega)
                              have q344 : 1 < ((rd_L2 l0 x9_4).length : Int) := of_decide_eq_true (by first | (with_reducible assumption) | assumption)
                              obtain ⟨ad344, e344, hx344_0⟩ := Kd.at_int HR343_0.out 1 p344 q344
                              have hw344_0 := hx344_0
                              (try rw [show ((1 : Int)).toNat = 1 from rfl] at hw344_0)
                              (try rw [show 1 * 1 = 1 from rfl] at hw344_0)
                              (try simp only [Nat.reduceMul, Nat.reduceEqDiff, Go.Addr.add, ↓reduceIte] at hw344_0)
                              cases e344
                              (try simp only [show (1 : Int).toNat = 1 from rfl, Nat.reduceMul, Nat.reduceEqDiff, Go.Addr.add, ↓reduceIte] at hx344_0)
                              have qi344 : (1 < (rd_L2 l0 x9_4).length) = True := eq_true (by omega)
                              (try rw [show ((1 : Int)).toNat = 1 from rfl] at hx344_0)
                              replace hx344_0 := (HB.out.cell (World.block_lt_of_cell? w _ hx344_0)).trans hx344_0
                              replace p344 := eq_true p344
                              replace q344 := eq_true q344
                              refine start_ (n := 26) (S := fun w' => w'.cell? (ad337.add ((rd x7_3 0)).toNat) = some (.slice (some ad338) (rd_L2 l0 (rd x7_3 0)).length c337_0) ∧ w'.cell? ad338 = some (.int .i64 (rd (rd_L2 l0 (rd x7_3 0)) 0)) ∧ w'.cell? (ad337.add ((rd x7_3 0)).toNat) = some (.slice (some ad338) (rd_L2 l0 (rd x7_3 0)).length c337_0) ∧ w'.cell? ⟨ad338.block, ad338.off + 1, none⟩ = some (.int .i64 (rd (rd_L2 l0 (rd x7_3 0)) 1)) ∧ w'.cell? (ad337.add (x9_4).toNat) = some (.slice (some ad342) (rd_L2 l0 x9_4).length c341_0) ∧ w'.cell? ad342 = some (.int .i64 (rd (rd_L2 l0 x9_4) 0)) ∧ w'.cell? (ad337.add (x9_4).toNat) = some (.slice (some ad342) (rd_L2 l0 x9_4).length c341_0) ∧ w'.cell? ⟨ad342.block, ad342.off + 1, none⟩ = some (.int .i64 (rd (rd_L2 l0 x9_4) 1))) (ds := []) #[false, false, false, false, false, false, false, false, false, false, false, false, false, false, false, false, false, false, false, false, false, false, false, false, false, false] (by kernel_rfl) rfl rfl ⟨((HB.out.cell (World.block_lt_of_cell? w _ hw337_0)).trans hw337_0), ((HB.out.cell (World.block_lt_of_cell? w _ hw338_0)).trans hw338_0), ((HB.out.cell (World.block_lt_of_cell? w _ hw339_0)).trans hw339_0), ((HB.out.cell (World.block_lt_of_cell? w _ hw340_0)).trans hw340_0), ((HB.out.cell (World.block_lt_of_cell? w _ hw341_0)).trans hw341_0), ((HB.out.cell (World.block_lt_of_cell? w _ hw342_0)).trans hw342_0), ((HB.out.cell (World.block_lt_of_cell? w _ hw343_0)).trans hw343_0), ((HB.out.cell (World.block_lt_of_cell? w _ hw344_0)).trans hw344_0)⟩ (fun hHeld => ?_); refine with_tabW spec_l11Sides.tab18 spec_l11Sides.bits18 (fun HT_ HW_ => ?_)
                              generalize wr.drew = w50 at HO_4 HO_7 HB HR337_0 HR339_0 HR341_0 HR343_0 hx337_0 hx338_0 hx339_0 hx340_0 hx341_0 hx342_0 hx343_0 hx344_0 hHeld ⊢
                              refine pure_ (i := 0) (N := some 50) (v := ?_) (a' := ?_) #[true, false, false, false, false, false, false, false, false, false, false, false, false, false, false, false, false, false, false, false, false, false, false, false, false, false] rfl rfl (any_of HT_.out (by kernel_rfl)) (fun _ _ _ h => h) (Or.inl ⟨by rfl, ?_⟩) ?_ ?_
                              rotate_left
                              ·intro w'
                               go_simp
                               with_reducible rfl
                              rotate_left
                              ·simp only [Act.put, zE, zF, zG, i64_w, i32_w]
                               rfl
                              refine pure_ (i := 1) (N := some 51) (v := ?_) (a' := ?_) #[true, true, false, false, false, false, false, false, false, false, false, false, false, false, false, false, false, false, false, false, false, false, false, false, false, false] rfl rfl (any_of HT_.out (by kernel_rfl)) (fun _ _ _ h => h) (Or.inl ⟨by rfl, ?_⟩) ?_ ?_
                              rotate_left
                              ·intro w'
                               go_simp
                               with_reducible rfl
                              rotate_left
                              ·simp only [Act.put, zE, zF, zG, i64_w, i32_w]
                               rfl
                              refine pure_ (i := 2) (N := some 52) (v := ?_) (a' := ?_) #[true, true, true, false, false, false, false, false, false, false, false, false, false, false, false, false, false, false, false, false, false, false, false, false, false, false] rfl rfl (any_of HT_.out (by kernel_rfl)) (fun _ _ _ h => h) (Or.inl ⟨by rfl, ?_⟩) ?_ ?_
                              rotate_left
                              ·intro w'
                               go_simp
                               with_reducible rfl
                              rotate_left
                              ·simp only [Act.put, zE, zF, zG, i64_w, i32_w]
                               rfl
                              refine pure_ (i := 6) (N := some 56) (v := ?_) (a' := ?_) #[true, true, true, false, false, false, true, false, false, false, false, false, false, false, false, false, false, false, false, false, false, false, false, false, false, false] rfl rfl (any_of HT_.out (by kernel_rfl)) (fun _ _ _ h => h) (Or.inl ⟨by rfl, ?_⟩) ?_ ?_
                              rotate_left
                              ·intro w'
                               go_simp
                               with_reducible rfl
                              rotate_left
                              ·simp only [Act.put, zE, zF, zG, i64_w, i32_w]
                               rfl
                              refine pure_ (i := 7) (N := some 57) (v := ?_) (a' := ?_) #[true, true, true, false, false, false, true, true, false, false, false, false, false, false, false, false, false, false, false, false, false, false, false, false, false, false] rfl rfl (any_of HT_.out (by kernel_rfl)) (fun _ _ _ h => h) (Or.inl ⟨by rfl, ?_⟩) ?_ ?_
                              rotate_left
                              ·intro w'
                               go_simp
                               with_reducible rfl
                              rotate_left
                              ·simp only [Act.put, zE, zF, zG, i64_w, i32_w]
                               rfl
                              refine pure_ (i := 8) (N := some 58) (v := ?_) (a' := ?_) #[true, true, true, false, false, false, true, true, true, false, false, false, false, false, false, false, false, false, false, false, false, false, false, false, false, false] rfl rfl (any_of HT_.out (by kernel_rfl)) (fun _ _ _ h => h) (Or.inl ⟨by rfl, ?_⟩) ?_ ?_
                              rotate_left
                              ·intro w'
                               go_simp
                               with_reducible rfl
                              rotate_left
                              ·simp only [Act.put, zE, zF, zG, i64_w, i32_w]
                               rfl
                              refine pure_ (i := 12) (N := some 62) (v := ?_) (a' := ?_) #[true, true, true, false, false, false, true, true, true, false, false, false, true, false, false, false, false, false, false, false, false, false, false, false, false, false] rfl rfl (any_of HT_.out (by kernel_rfl)) (fun _ _ _ h => h) (Or.inl ⟨by rfl, ?_⟩) ?_ ?_
                              rotate_left
                              ·intro w'
                               go_simp
                               with_reducible rfl
                              rotate_left
                              ·simp only [Act.put, zE, zF, zG, i64_w, i32_w]
                               rfl
                              refine pure_ (i := 13) (N := some 63) (v := ?_) (a' := ?_) #[true, true, true, false, false, false, true, true, true, false, false, false, true, true, false, false, false, false, false, false, false, false, false, false, false, false] rfl rfl (any_of HT_.out (by kernel_rfl)) (fun _ _ _ h => h) (Or.inl ⟨by rfl, ?_⟩) ?_ ?_
                              rotate_left
                              ·intro w'
                               go_simp
                               with_reducible rfl
                              rotate_left
                              ·simp only [Act.put, zE, zF, zG, i64_w, i32_w]
                               rfl
                              refine pure_ (i := 14) (N := some 64) (v := ?_) (a' := ?_) #[true, true, true, false, false, false, true, true, true, false, false, false, true, true, true, false, false, false, false, false, false, false, false, false, false, false] rfl rfl (any_of HT_.out (by kernel_rfl)) (fun _ _ _ h => h) (Or.inl ⟨by rfl, ?_⟩) ?_ ?_
                              rotate_left
                              ·intro w'
                               go_simp
                               with_reducible rfl
                              rotate_left
                              ·simp only [Act.put, zE, zF, zG, i64_w, i32_w]
                               rfl
                              refine pure_ (i := 18) (N := some 68) (v := ?_) (a' := ?_) #[true, true, true, false, false, false, true, true, true, false, false, false, true, true, true, false, false, false, true, false, false, false, false, false, false, false] rfl rfl (any_of HT_.out (by kernel_rfl)) (fun _ _ _ h => h) (Or.inl ⟨by rfl, ?_⟩) ?_ ?_
                              rotate_left
                              ·intro w'
                               go_simp
                               with_reducible rfl
                              rotate_left
                              ·simp only [Act.put, zE, zF, zG, i64_w, i32_w]
                               rfl
                              refine pure_ (i := 19) (N := some 69) (v := ?_) (a' := ?_) #[true, true, true, false, false, false, true, true, true, false, false, false, true, true, true, false, false, false, true, true, false, false, false, false, false, false] rfl rfl (any_of HT_.out (by kernel_rfl)) (fun _ _ _ h => h) (Or.inl ⟨by rfl, ?_⟩) ?_ ?_
                              rotate_left
                              ·intro w'
                               go_simp
                               with_reducible rfl
                              rotate_left
                              ·simp only [Act.put, zE, zF, zG, i64_w, i32_w]
                               rfl
                              refine pure_ (i := 20) (N := some 70) (v := ?_) (a' := ?_) #[true, true, true, false, false, false, true, true, true, false, false, false, true, true, true, false, false, false, true, true, true, false, false, false, false, false] rfl rfl (any_of HT_.out (by kernel_rfl)) (fun _ _ _ h => h) (Or.inl ⟨by rfl, ?_⟩) ?_ ?_
                              rotate_left
                              ·intro w'
                               go_simp
                               with_reducible rfl
                              rotate_left
                              ·simp only [Act.put, zE, zF, zG, i64_w, i32_w]
                               rfl
                              refine take_ (i := 3) (N := some 53) (v := ?_) (a' := ?_) #[true, true, true, true, false, false, true, true, true, false, false, false, true, true, true, false, false, false, true, true, true, false, false, false, false, false] rfl rfl (take_ofW HT_.out HW_.out (by kernel_rfl)) (fun _ _ _ h => h) (Or.inl ⟨by rfl, ?_⟩) hHeld ?_ ?_
                              rotate_left
                              ·rintro w' ⟨s0, s1, s2, s3, s4, s5, s6, s7⟩
                               go_simp
                               with_reducible rfl
                              rotate_left
                              ·simp only [Act.put, zE, zF, zG, i64_w, i32_w]
                               rfl
                              refine pure_ (i := 4) (N := some 54) (v := ?_) (a' := ?_) #[true, true, true, true, true, false, true, true, true, false, false, false, true, true, true, false, false, false, true, true, true, false, false, false, false, false] rfl rfl (any_of HT_.out (by kernel_rfl)) (fun _ _ _ h => h) (Or.inl ⟨by rfl, ?_⟩) ?_ ?_
                              rotate_left
                              ·intro w'
                               go_simp
                               with_reducible rfl
                              rotate_left
                              ·simp only [Act.put, zE, zF, zG, i64_w, i32_w]
                               rfl
                              refine take_ (i := 5) (N := some 55) (v := ?_) (a' := ?_) #[true, true, true, true, true, true, true, true, true, false, false, false, true, true, true, false, false, false, true, true, true, false, false, false, false, false] rfl rfl (take_ofW HT_.out HW_.out (by kernel_rfl)) (fun _ _ _ h => h) (Or.inl ⟨by rfl, ?_⟩) hHeld ?_ ?_
                              rotate_left
                              ·rintro w' ⟨s0, s1, s2, s3, s4, s5, s6, s7⟩
                               go_simp
                               with_reducible rfl
                              rotate_left
                              ·simp only [Act.put, zE, zF, zG, i64_w, i32_w]
                               rfl
                              refine take_ (i := 9) (N := some 59) (v := ?_) (a' := ?_) #[true, true, true, true, true, true, true, true, true, true, false, false, true, true, true, false, false, false, true, true, true, false, false, false, false, false] rfl rfl (take_ofW HT_.out HW_.out (by kernel_rfl)) (fun _ _ _ h => h) (Or.inl ⟨by rfl, ?_⟩) hHeld ?_ ?_
                              rotate_left
                              ·rintro w' ⟨s0, s1, s2, s3, s4, s5, s6, s7⟩
                               go_simp
                               with_reducible rfl
                              rotate_left
                              ·simp only [Act.put, zE, zF, zG, i64_w, i32_w]
                               rfl
                              refine pure_ (i := 10) (N := some 60) (v := ?_) (a' := ?_) #[true, true, true, true, true, true, true, true, true, true, true, false, true, true, true, false, false, false, true, true, true, false, false, false, false, false] rfl rfl (any_of HT_.out (by kernel_rfl)) (fun _ _ _ h => h) (Or.inl ⟨by rfl, ?_⟩) ?_ ?_
                              rotate_left
                              ·intro w'
                               go_simp
                               with_reducible rfl
                              rotate_left
                              ·simp only [Act.put, zE, zF, zG, i64_w, i32_w]
                               rfl
                              refine take_ (i := 11) (N := some 61) (v := ?_) (a' := ?_) #[true, true, true, true, true, true, true, true, true, true, true, true, true, true, true, false, false, false, true, true, true, false, false, false, false, false] rfl rfl (take_ofW HT_.out HW_.out (by kernel_rfl)) (fun _ _ _ h => h) (Or.inl ⟨by rfl, ?_⟩) hHeld ?_ ?_
                              rotate_left
                              ·rintro w' ⟨s0, s1, s2, s3, s4, s5, s6, s7⟩
                               go_simp
                               with_reducible rfl
                              rotate_left
                              ·simp only [Act.put, zE, zF, zG, i64_w, i32_w]
                               rfl
                              refine take_ (i := 15) (N := some 65) (v := ?_) (a' := ?_) #[true, true, true, true, true, true, true, true, true, true, true, true, true, true, true, true, false, false, true, true, true, false, false, false, false, false] rfl rfl (take_ofW HT_.out HW_.out (by kernel_rfl)) (fun _ _ _ h => h) (Or.inl ⟨by rfl, ?_⟩) hHeld ?_ ?_
                              rotate_left
                              ·rintro w' ⟨s0, s1, s2, s3, s4, s5, s6, s7⟩
                               go_simp
                               with_reducible rfl
                              rotate_left
                              ·simp only [Act.put, zE, zF, zG, i64_w, i32_w]
                               rfl
                              refine pure_ (i := 16) (N := some 66) (v := ?_) (a' := ?_) #[true, true, true, true, true, true, true, true, true, true, true, true, true, true, true, true, true, false, true, true, true, false, false, false, false, false] rfl rfl (any_of HT_.out (by kernel_rfl)) (fun _ _ _ h => h) (Or.inl ⟨by rfl, ?_⟩) ?_ ?_
                              rotate_left
                              ·intro w'
                               go_simp
                               with_reducible rfl
                              rotate_left
                              ·simp only [Act.put, zE, zF, zG, i64_w, i32_w]
                               rfl
                              refine take_ (i := 17) (N := some 67) (v := ?_) (a' := ?_) #[true, true, true, true, true, true, true, true, true, true, true, true, true, true, true, true, true, true, true, true, true, false, false, false, false, false] rfl rfl (take_ofW HT_.out HW_.out (by kernel_rfl)) (fun _ _ _ h => h) (Or.inl ⟨by rfl, ?_⟩) hHeld ?_ ?_
                              rotate_left
                              ·rintro w' ⟨s0, s1, s2, s3, s4, s5, s6, s7⟩
                               go_simp
                               with_reducible rfl
                              rotate_left
                              ·simp only [Act.put, zE, zF, zG, i64_w, i32_w]
                               rfl
                              refine take_ (i := 21) (N := some 71) (v := ?_) (a' := ?_) #[true, true, true, true, true, true, true, true, true, true, true, true, true, true, true, true, true, true, true, true, true, true, false, false, false, false] rfl rfl (take_ofW HT_.out HW_.out (by kernel_rfl)) (fun _ _ _ h => h) (Or.inl ⟨by rfl, ?_⟩) hHeld ?_ ?_
                              rotate_left
                              ·rintro w' ⟨s0, s1, s2, s3, s4, s5, s6, s7⟩
                               go_simp
                               with_reducible rfl
                              rotate_left
                              ·simp only [Act.put, zE, zF, zG, i64_w, i32_w]
                               rfl
                              refine pure_ (i := 22) (N := some 72) (v := ?_) (a' := ?_) #[true, true, true, true, true, true, true, true, true, true, true, true, true, true, true, true, true, true, true, true, true, true, true, false, false, false] rfl rfl (any_of HT_.out (by kernel_rfl)) (fun _ _ _ h => h) (Or.inl ⟨by rfl, ?_⟩) ?_ ?_
                              rotate_left
                              ·intro w'
                               go_simp
                               with_reducible rfl
                              rotate_left
                              ·simp only [Act.put, zE, zF, zG, i64_w, i32_w]
                               rfl
                              refine take_ (i := 23) (N := some 73) (v := ?_) (a' := ?_) #[true, true, true, true, true, true, true, true, true, true, true, true, true, true, true, true, true, true, true, true, true, true, true, true, false, false] rfl rfl (take_ofW HT_.out HW_.out (by kernel_rfl)) (fun _ _ _ h => h) (Or.inl ⟨by rfl, ?_⟩) hHeld ?_ ?_
                              rotate_left
                              ·rintro w' ⟨s0, s1, s2, s3, s4, s5, s6, s7⟩
                               go_simp
                               with_reducible rfl
                              rotate_left
                              ·simp only [Act.put, zE, zF, zG, i64_w, i32_w]
                               rfl
                              refine one_ (i := 24) (N := some 74) #[true, true, true, true, true, true, true, true, true, true, true, true, true, true, true, true, true, true, true, true, true, true, true, true, true, false] rfl rfl (one_of HT_.out (by kernel_rfl)) (by decide) (fun K hK => ?_)
                              refine goes_ Try.func29 (by kernel_rfl) rfl #[.int .i64 (rd (rd_L2 l0 (rd x7_3 0)) 0), .int .i64 (rd (rd_L2 l0 (rd x7_3 0)) 1), .int .i64 (rd (rd_L2 l0 x9_4) 0), .int .i64 (rd (rd_L2 l0 x9_4) 1)] (by rfl) rfl rfl (by (try simp only [List.map_toArray, List.map_cons, List.map_nil]); first | done | rfl | (simp only [List.length_drop, List.length_take]; rfl)) ?_
                              with_reducible refine (spec_CrossOk.calls (rd (rd_L2 l0 (rd x7_3 0)) 0) (rd (rd_L2 l0 (rd x7_3 0)) 1) (rd (rd_L2 l0 x9_4) 0) (rd (rd_L2 l0 x9_4) 1) true _ A31.out).mono ?_
                              rintro e w51 ⟨rfl, hb⟩
                              refine ⟨_, rfl, ?_⟩
                              have n0_ := zM (Kd.R_below (by exact HO_4.out) hb)
                              have n1_ := zM (Kd.Q_below (by exact HO_7.out) hb)
                              have n2_ := zM (below_step (by repeat (first | (with_reducible first | exact HB.out | apply zB | apply zA | apply zC) | exact HB.out)) hb)
                              clear HO_4
                              clear HO_7
                              clear HB
                              have HO_4 := n0_
                              have HO_7 := n1_
                              have HB := n2_
                              clear n0_ n1_ n2_
                              (try clear hb)
                              (try clear hb2)
                              (try clear hk)
                              (try clear hi)
                              refine hK.out _ _ ⟨((HB.out.cell (World.block_lt_of_cell? w _ hw337_0)).trans hw337_0), ((HB.out.cell (World.block_lt_of_cell? w _ hw338_0)).trans hw338_0), ((HB.out.cell (World.block_lt_of_cell? w _ hw339_0)).trans hw339_0), ((HB.out.cell (World.block_lt_of_cell? w _ hw340_0)).trans hw340_0), ((HB.out.cell (World.block_lt_of_cell? w _ hw341_0)).trans hw341_0), ((HB.out.cell (World.block_lt_of_cell? w _ hw342_0)).trans hw342_0), ((HB.out.cell (World.block_lt_of_cell? w _ hw343_0)).trans hw343_0), ((HB.out.cell (World.block_lt_of_cell? w _ hw344_0)).trans hw344_0)⟩ (fun hHeld => ?_)
                              clear hK K
                              refine norm_ (a' := ?_) ?_ ?_
                              rotate_left
                              ·show Act.put _ (some 74) _ = _
                               simp only [Act.put, zE, zF, zG, i64_w, i32_w]
                               rfl
                              refine pure_ (i := 25) (N := some 75) (v := ?_) (a' := ?_) #[true, true, true, true, true, true, true, true, true, true, true, true, true, true, true, true, true, true, true, true, true, true, true, true, true, true] rfl rfl (any_of HT_.out (by kernel_rfl)) (fun _ _ _ h => h) (Or.inl ⟨by rfl, ?_⟩) ?_ ?_
                              rotate_left
                              ·intro w'
                               go_simp
                               with_reducible rfl
                              rotate_left
                              ·simp only [Act.put, zE, zF, zG, i64_w, i32_w]
                               rfl
                              refine done_ (done_of HT_.out (by kernel_rfl)) ?_
                              try go_wp2
                              have n0_ := zM (Kd.R_drew HO_4.out)
                              have n1_ := zM (Kd.Q_drew HO_7.out)
                              have n2_ := zM (zC HB.out)
                              clear HO_4
                              clear HO_7
                              clear HB
                              have HO_4 := n0_
                              have HO_7 := n1_
                              have HB := n2_
                              clear n0_ n1_ n2_
                              have p346 : 0 ≤ (x9_4 : Int) := of_decide_eq_true (by first | (with_reducible assumption) | assumption)
                              have q346 : x9_4 < (x4_4.length : Int) := of_decide_eq_true (by first | (with_reducible assumption) | assumption)
                              obtain ⟨ad346, e346, hx346_0⟩ := Kd.at_int (Kd.R_reads' HO_4.out).2.2 x9_4 p346 q346
                              obtain rfl : (⟨go12, 0, none⟩ : Addr) = ad346 := (by injection e346)
                              (first | simp only [add_plain] at hx346_0 | simp only [add_at] at hx346_0 | simp only [Addr.add, Nat.zero_add] at hx346_0 | skip)
                              replace p346 := eq_true p346
                              replace q346 := eq_true q346
                              have p347 : 0 ≤ ((rd x7_3 0) : Int) := of_decide_eq_true (by first | (with_reducible assumption) | assumption)
                              have q347 : (rd x7_3 0) < (x4_4.length : Int) := of_decide_eq_true (by first | (with_reducible assumption) | assumption)
                              obtain ⟨ad347, e347, hx347_0⟩ := Kd.at_int (Kd.R_reads' HO_4.out).2.2 (rd x7_3 0) p347 q347
                              obtain rfl : (⟨go12, 0, none⟩ : Addr) = ad347 := (by injection e347)
                              (first | simp only [add_plain] at hx347_0 | simp only [add_at] at hx347_0 | simp only [Addr.add, Nat.zero_add] at hx347_0 | skip)
                              replace p347 := eq_true p347
                              replace q347 := eq_true q347
                              refine start_ (n := 9) (S := fun w' => w'.cell? ⟨go12, (x9_4).toNat, none⟩ = some (.int .i64 (rd x4_4 x9_4)) ∧ w'.cell? ⟨go12, ((rd x7_3 0)).toNat, none⟩ = some (.int .i64 (rd x4_4 (rd x7_3 0)))) (ds := []) #[false, false, false, false, false, false, false, false, false] (by kernel_rfl) rfl rfl ⟨hx346_0, hx347_0⟩ (fun hHeld => ?_); refine with_tabW spec_l11Sides.tab19 spec_l11Sides.bits19 (fun HT_ HW_ => ?_)
                              generalize w51.drew = w52 at HO_4 HO_7 HB hx346_0 hx347_0 hHeld ⊢
                              refine pure_ (i := 0) (N := some 76) (v := ?_) (a' := ?_) #[true, false, false, false, false, false, false, false, false] rfl rfl (any_of HT_.out (by kernel_rfl)) (fun _ _ _ h => h) (Or.inl ⟨by rfl, ?_⟩) ?_ ?_
                              rotate_left
                              ·intro w'
                               go_simp
                               with_reducible rfl
                              rotate_left
                              ·simp only [Act.put, zE, zF, zG, i64_w, i32_w]
                               rfl
                              refine pure_ (i := 1) (N := some 77) (v := ?_) (a' := ?_) #[true, true, false, false, false, false, false, false, false] rfl rfl (any_of HT_.out (by kernel_rfl)) (fun _ _ _ h => h) (Or.inl ⟨by rfl, ?_⟩) ?_ ?_
                              rotate_left
                              ·intro w'
                               go_simp
                               with_reducible rfl
                              rotate_left
                              ·simp only [Act.put, zE, zF, zG, i64_w, i32_w]
                               rfl
                              refine pure_ (i := 2) (N := some 78) (v := ?_) (a' := ?_) #[true, true, true, false, false, false, false, false, false] rfl rfl (any_of HT_.out (by kernel_rfl)) (fun _ _ _ h => h) (Or.inl ⟨by rfl, ?_⟩) ?_ ?_
                              rotate_left
                              ·intro w'
                               go_simp
                               with_reducible rfl
                              rotate_left
                              ·simp only [Act.put, zE, zF, zG, i64_w, i32_w]
                               rfl
                              refine pure_ (i := 4) (N := some 80) (v := ?_) (a' := ?_) #[true, true, true, false, true, false, false, false, false] rfl rfl (any_of HT_.out (by kernel_rfl)) (fun _ _ _ h => h) (Or.inl ⟨by rfl, ?_⟩) ?_ ?_
                              rotate_left
                              ·intro w'
                               go_simp
                               with_reducible rfl
                              rotate_left
                              ·simp only [Act.put, zE, zF, zG, i64_w, i32_w]
                               rfl
                              refine pure_ (i := 5) (N := some 81) (v := ?_) (a' := ?_) #[true, true, true, false, true, true, false, false, false] rfl rfl (any_of HT_.out (by kernel_rfl)) (fun _ _ _ h => h) (Or.inl ⟨by rfl, ?_⟩) ?_ ?_
                              rotate_left
                              ·intro w'
                               go_simp
                               with_reducible rfl
                              rotate_left
                              ·simp only [Act.put, zE, zF, zG, i64_w, i32_w]
                               rfl
                              refine pure_ (i := 6) (N := some 82) (v := ?_) (a' := ?_) #[true, true, true, false, true, true, true, false, false] rfl rfl (any_of HT_.out (by kernel_rfl)) (fun _ _ _ h => h) (Or.inl ⟨by rfl, ?_⟩) ?_ ?_
                              rotate_left
                              ·intro w'
                               go_simp
                               with_reducible rfl
                              rotate_left
                              ·simp only [Act.put, zE, zF, zG, i64_w, i32_w]
                               rfl
                              refine take_ (i := 3) (N := some 79) (v := ?_) (a' := ?_) #[true, true, true, true, true, true, true, false, false] rfl rfl (take_ofW HT_.out HW_.out (by kernel_rfl)) (fun _ _ _ h => h) (Or.inl ⟨by rfl, ?_⟩) hHeld ?_ ?_
                              rotate_left
                              ·rintro w' ⟨s0, s1⟩
                               go_simp
                               with_reducible rfl
                              rotate_left
                              ·simp only [Act.put, zE, zF, zG, i64_w, i32_w]
                               rfl
                              refine take_ (i := 7) (N := some 83) (v := ?_) (a' := ?_) #[true, true, true, true, true, true, true, true, false] rfl rfl (take_ofW HT_.out HW_.out (by kernel_rfl)) (fun _ _ _ h => h) (Or.inl ⟨by rfl, ?_⟩) hHeld ?_ ?_
                              rotate_left
                              ·rintro w' ⟨s0, s1⟩
                               go_simp
                               with_reducible rfl
                              rotate_left
                              ·simp only [Act.put, zE, zF, zG, i64_w, i32_w]
                               rfl
                              refine pure_ (i := 8) (N := some 84) (v := ?_) (a' := ?_) #[true, true, true, true, true, true, true, true, true] rfl rfl (any_of HT_.out (by kernel_rfl)) (fun _ _ _ h => h) (Or.inl ⟨by rfl, ?_⟩) ?_ ?_
                              rotate_left
                              ·intro w'
                               go_simp
                               with_reducible rfl
                              rotate_left
                              ·simp only [Act.put, zE, zF, zG, i64_w, i32_w]
                               rfl
                              refine done_ (done_of HT_.out (by kernel_rfl)) ?_
                              have p351 : 0 ≤ (x9_4 : Int) := of_decide_eq_true (by first | (with_reducible assumption) | assumption)
                              have q351 : x9_4 < (x4_4.length : Int) := of_decide_eq_true (by first | (with_reducible assumption) | assumption)
                              obtain ⟨ad351, e351, hx351_0⟩ := Kd.at_int (Kd.R_reads' HO_4.out).2.2 x9_4 p351 q351
                              obtain rfl : (⟨go12, 0, none⟩ : Addr) = ad351 := (by injection e351)
                              (first | simp only [add_plain] at hx351_0 | simp only [add_at] at hx351_0 | simp only [Addr.add, Nat.zero_add] at hx351_0 | skip)
                              replace p351 := eq_true p351
                              replace q351 := eq_true q351
                              try go_wp2
                              (try simp only [← hl4_4])
                              go_roundg k4
                              case measure => have := HK1.out; have := HK2.out; have := HK3.out; have := HK4.out; omega
                              case rel => exact ⟨(x4_4), (x7_4), (wrap64 (x9_4 + 1)), (by first | rfl | (simp; done) | (simp [*]; done)), H', ⟨by have := HK1.out; have := HK2.out; have := HK3.out; have := HK4.out; omega⟩, ⟨by (try simp only [hl4_3]); (try simp only [hl4_4]); (with_reducible repeat (first | apply Kd.R_alloc | apply Kd.R_drewN | apply Kd.R_drew)); exact HO_4.out⟩, ⟨by (try simp only [hl4_3]); (try simp only [hl4_4]); (with_reducible repeat (first | apply Kd.Q_alloc | apply Kd.Q_drewN | apply Kd.Q_drew)); exact HO_7.out⟩, ⟨by repeat (first | (with_reducible first | exact HB.out | apply zB | apply zA | apply zC) | exact HB.out)⟩⟩
                           ·rw [if_neg c34] at H
                            exact absurd H (by simp)
                          ·rw [if_neg c33] at H
                           exact absurd H (by simp)
                         ·replace c32 := Bool.eq_false_iff.mpr c32
                          subst c32
                          have H1 : (spec_l11Sides.l3 k4 l0 x4_4 x6_2 x7_4 (rd x7_3 0) (wrap64 (x9_4 + 1))) = some (r1, r2) := by rw [if_neg (show ¬ (false = true) by decide)] at H; exact H
                          clear H
                          have H := H1
                          clear H1
                          have H' := zM H
                          clear H
                          try go_wp2
                          have n0_ := zM (Kd.R_drew HO_4.out)
                          have n1_ := zM (Kd.Q_drew HO_7.out)
                          have n2_ := zM (zC HB.out)
                          clear HO_4
                          clear HO_7
                          clear HB
                          have HO_4 := n0_
                          have HO_7 := n1_
                          have HB := n2_
                          clear n0_ n1_ n2_
                          have p337 : 0 ≤ ((rd x7_3 0) : Int) := of_decide_eq_true (by first | (with_reducible assumption) | assumption)
                          have q337 : (rd x7_3 0) < (l0.length : Int) := of_decide_eq_true (by first | (with_reducible assumption) | assumption)
                          obtain ⟨ad337, A337_0, c337_0, e337, hx337_0, hl337_0, hi337_0⟩ := at_L2 HR0.out (rd x7_3 0) p337 q337
                          have hw337_0 := hx337_0
                          cases e337
                          replace hx337_0 := (HB.out.cell (World.block_lt_of_cell? w _ hx337_0)).trans hx337_0
                          have HR337_0 := zM hi337_0
                          have HC337_0 := zM hl337_0
                          clear hi337_0 hl337_0
                          replace p337 := eq_true p337
                          replace q337 := eq_true q337
                          have p338 : 0 ≤ (0 : Int) := (by omega)
                          have q338 : 0 < ((rd_L2 l0 (rd x7_3 0)).length : Int) := of_decide_eq_true (by first | (with_reducible assumption) | assumption)
                          obtain ⟨ad338, e338, hx338_0⟩ := Kd.at_int HR337_0.out 0 p338 q338
                          have hw338_0 := hx338_0
                          (try rw [show ((0 : Int)).toNat = 0 from rfl] at hw338_0)
                          (try rw [show 0 * 1 = 0 from rfl] at hw338_0)
                          (try rw [Addr.add_zero'] at hw338_0)
                          cases e338
                          have qi338 : (0 < (rd_L2 l0 (rd x7_3 0)).length) = True := eq_true (by omega)
                          (try rw [show ((0 : Int)).toNat = 0 from rfl] at hx338_0)
                          (try rw [Addr.add_zero'] at hx338_0)
                          replace hx338_0 := (HB.out.cell (World.block_lt_of_cell? w _ hx338_0)).trans hx338_0
                          replace p338 := eq_true p338
                          replace q338 := eq_true q338
                          have p339 : 0 ≤ ((rd x7_3 0) : Int) := of_decide_eq_true (by first | (with_reducible assumption) | assumption)
                          have q339 : (rd x7_3 0) < (l0.length : Int) := of_decide_eq_true (by first | (with_reducible assumption) | assumption)
                          obtain ⟨ad339, A339_0, c339_0, e339, hx339_0, hl339_0, hi339_0⟩ := at_L2 HR0.out (rd x7_3 0) p339 q339
                          have hw339_0 := hx339_0
                          obtain rfl : ad337 = ad339 := (by injection e339)
                          replace hx339_0 := (HB.out.cell (World.block_lt_of_cell? w _ hx339_0)).trans hx339_0
                          have HR339_0 := zM hi339_0
                          have HC339_0 := zM hl339_0
                          clear hi339_0 hl339_0
                          replace p339 := eq_true p339
                          replace q339 := eq_true q339
                          have ea_ := Option.some.inj (hx337_0.symm.trans hx339_0)
                          injection ea_ with ea_ en_ ec_
                          subst ea_
                          subst ec_
                          clear en_
                          have p340 : 0 ≤ (1 : Int) := (by omega)
                          have q340 : 1 < ((rd_L2 l0 (rd x7_3 0)).length : Int) := of_decide_eq_true (by first | (with_reducible assumption) | assumption)
                          obtain ⟨ad340, e340, hx340_0⟩ := Kd.at_int HR339_0.out 1 p340 q340
                          have hw340_0 := hx340_0
                          (try rw [show ((1 : Int)).toNat = 1 from rfl] at hw340_0)
                          (try rw [show 1 * 1 = 1 from rfl] at hw340_0)
                          (try simp only [Nat.reduceMul, Nat.reduceEqDiff, Go.Addr.add, ↓reduceIte] at hw340_0)
                          cases e340
                          (try simp only [show (1 : Int).toNat = 1 from rfl, Nat.reduceMul, Nat.reduceEqDiff, Go.Addr.add, ↓reduceIte] at hx340_0)
                          have qi340 : (1 < (rd_L2 l0 (rd x7_3 0)).length) = True := eq_true (by omega)
                          (try rw [show ((1 : Int)).toNat = 1 from rfl] at hx340_0)
                          replace hx340_0 := (HB.out.cell (World.block_lt_of_cell? w _ hx340_0)).trans hx340_0
                          replace p340 := eq_true p340
                          replace q340 := eq_true q340
                          have p341 : 0 ≤ (x9_4 : Int) := of_decide_eq_true (by first | (with_reducible assumption) | assumption)
                          have q341 : x9_4 < (l0.length : Int) := of_decide_eq_true (by first | (with_reducible assumption) | assumption)
                          obtain ⟨ad341, A341_0, c341_0, e341, hx341_0, hl341_0, hi341_0⟩ := at_L2 HR0.out x9_4 p341 q341
                          have hw341_0 := hx341_0
                          obtain rfl : ad337 = ad341 := (by injection e341)
                          replace hx341_0 := (HB.out.cell (World.block_lt_of_cell? w _ hx341_0)).trans hx341_0
                          have HR341_0 := zM hi341_0
                          have HC341_0 := zM hl341_0
                          clear hi341_0 hl341_0
                          replace p341 := eq_true p341
                          replace q341 := eq_true q341
                          have p342 : 0 ≤ (0 : Int) := (by omega)
                          have q342 : 0 < ((rd_L2 l0 x9_4).length : Int) := of_decide_eq_true (by first | (with_reducible assumption) | assumption)
                          obtain ⟨ad342, e342, hx342_0⟩ := Kd.at_int HR341_0.out 0 p342 q342
                          have hw342_0 := hx342_0
                          (try rw [show ((0 : Int)).toNat = 0 from rfl] at hw342_0)
                          (try rw [show 0 * 1 = 0 from rfl] at hw342_0)
                          (try rw [Addr.add_zero'] at hw342_0)
                          cases e342
                          have qi342 : (0 < (rd_L2 l0 x9_4).length) = True := eq_true (by omega)
                          (try rw [show ((0 : Int)).toNat = 0 from rfl] at hx342_0)
                          (try rw [Addr.add_zero'] at hx342_0)
                          replace hx342_0 := (HB.out.cell (World.block_lt_of_cell? w _ hx342_0)).trans hx342_0
                          replace p342 := eq_true p342
                          replace q342 := eq_true q342
                          have p343 : 0 ≤ (x9_4 : Int) := of_decide_eq_true (by first | (with_reducible assumption) | assumption)
                          have q343 : x9_4 < (l0.length : Int) := of_decide_eq_true (by first | (with_reducible assumption) | assumption)
                          obtain ⟨ad343, A343_0, c343_0, e343, hx343_0, hl343_0, hi343_0⟩ := at_L2 HR0.out x9_4 p343 q343
                          have hw343_0 := hx343_0
                          obtain rfl : ad337 = ad343 := (by injection e343)
                          replace hx343_0 := (HB.out.cell (World.block_lt_of_cell? w _ hx343_0)).trans hx343_0
                          have HR343_0 := zM hi343_0
                          have HC343_0 := zM hl343_0
                          clear hi343_0 hl343_0
                          replace p343 := eq_true p343
                          replace q343 := eq_true q343
                          have ea_ := Option.some.inj (hx341_0.symm.trans hx343_0)
                          injection ea_ with ea_ en_ ec_
                          subst ea_
                          subst ec_
                          clear en_
                          have p344 : 0 ≤ (1 : Int) := (by omega)
                          have q344 : 1 < ((rd_L2 l0 x9_4).length : Int) := of_decide_eq_true (by first | (with_reducible assumption) | assumption)
                          obtain ⟨ad344, e344, hx344_0⟩ := Kd.at_int HR343_0.out 1 p344 q344
                          have hw344_0 := hx344_0
                          (try rw [show ((1 : Int)).toNat = 1 from rfl] at hw344_0)
                          (try rw [show 1 * 1 = 1 from rfl] at hw344_0)
                          (try simp only [Nat.reduceMul, Nat.reduceEqDiff, Go.Addr.add, ↓reduceIte] at hw344_0)
                          cases e344
                          (try simp only [show (1 : Int).toNat = 1 from rfl, Nat.reduceMul, Nat.reduceEqDiff, Go.Addr.add, ↓reduceIte] at hx344_0)
                          have qi344 : (1 < (rd_L2 l0 x9_4).length) = True := eq_true (by omega)
                          (try rw [show ((1 : Int)).toNat = 1 from rfl] at hx344_0)
                          replace hx344_0 := (HB.out.cell (World.block_lt_of_cell? w _ hx344_0)).trans hx344_0
                          replace p344 := eq_true p344
                          replace q344 := eq_true q344
                          refine start_ (n := 26) (S := fun w' => w'.cell? (ad337.add ((rd x7_3 0)).toNat) = some (.slice (some ad338) (rd_L2 l0 (rd x7_3 0)).length c337_0) ∧ w'.cell? ad338 = some (.int .i64 (rd (rd_L2 l0 (rd x7_3 0)) 0)) ∧ w'.cell? (ad337.add ((rd x7_3 0)).toNat) = some (.slice (some ad338) (rd_L2 l0 (rd x7_3 0)).length c337_0) ∧ w'.cell? ⟨ad338.block, ad338.off + 1, none⟩ = some (.int .i64 (rd (rd_L2 l0 (rd x7_3 0)) 1)) ∧ w'.cell? (ad337.add (x9_4).toNat) = some (.slice (some ad342) (rd_L2 l0 x9_4).length c341_0) ∧ w'.cell? ad342 = some (.int .i64 (rd (rd_L2 l0 x9_4) 0)) ∧ w'.cell? (ad337.add (x9_4).toNat) = some (.slice (some ad342) (rd_L2 l0 x9_4).length c341_0) ∧ w'.cell? ⟨ad342.block, ad342.off + 1, none⟩ = some (.int .i64 (rd (rd_L2 l0 x9_4) 1))) (ds := []) #[false, false, false, false, false, false, false, false, false, false, false, false, false, false, false, false, false, false, false, false, false, false, false, false, false, false] (by kernel_rfl) rfl rfl ⟨((HB.out.cell (World.block_lt_of_cell? w _ hw337_0)).trans hw337_0), ((HB.out.cell (World.block_lt_of_cell? w _ hw338_0)).trans hw338_0), ((HB.out.cell (World.block_lt_of_cell? w _ hw339_0)).trans hw339_0), ((HB.out.cell (World.block_lt_of_cell? w _ hw340_0)).trans hw340_0), ((HB.out.cell (World.block_lt_of_cell? w _ hw341_0)).trans hw341_0), ((HB.out.cell (World.block_lt_of_cell? w _ hw342_0)).trans hw342_0), ((HB.out.cell (World.block_lt_of_cell? w _ hw343_0)).trans hw343_0), ((HB.out.cell (World.block_lt_of_cell? w _ hw344_0)).trans hw344_0)⟩ (fun hHeld => ?_); refine with_tabW spec_l11Sides.tab18 spec_l11Sides.bits18 (fun HT_ HW_ => ?_)
                          generalize wr.drew = w53 at HO_4 HO_7 HB HR337_0 HR339_0 HR341_0 HR343_0 hx337_0 hx338_0 hx339_0 hx340_0 hx341_0 hx342_0 hx343_0 hx344_0 hHeld ⊢
                          refine pure_ (i := 0) (N := some 50) (v := ?_) (a' := ?_) #[true, false, false, false, false, false, false, false, false, false, false, false, false, false, false, false, false, false, false, false, false, false, false, false, false, false] rfl rfl (any_of HT_.out (by kernel_rfl)) (fun _ _ _ h => h) (Or.inl ⟨by rfl, ?_⟩) ?_ ?_
                          rotate_left
                          ·intro w'
                           go_simp
                           with_reducible rfl
                          rotate_left
                          ·simp only [Act.put, zE, zF, zG, i64_w, i32_w]
                           rfl
                          refine pure_ (i := 1) (N := some 51) (v := ?_) (a' := ?_) #[true, true, false, false, false, false, false, false, false, false, false, false, false, false, false, false, false, false, false, false, false, false, false, false, false, false] rfl rfl (any_of HT_.out (by kernel_rfl)) (fun _ _ _ h => h) (Or.inl ⟨by rfl, ?_⟩) ?_ ?_
                          rotate_left
                          ·intro w'
                           go_simp
                           with_reducible rfl
                          rotate_left
                          ·simp only [Act.put, zE, zF, zG, i64_w, i32_w]
                           rfl
                          refine pure_ (i := 2) (N := some 52) (v := ?_) (a' := ?_) #[true, true, true, false, false, false, false, false, false, false, false, false, false, false, false, false, false, false, false, false, false, false, false, false, false, false] rfl rfl (any_of HT_.out (by kernel_rfl)) (fun _ _ _ h => h) (Or.inl ⟨by rfl, ?_⟩) ?_ ?_
                          rotate_left
                          ·intro w'
                           go_simp
                           with_reducible rfl
                          rotate_left
                          ·simp only [Act.put, zE, zF, zG, i64_w, i32_w]
                           rfl
                          refine pure_ (i := 6) (N := some 56) (v := ?_) (a' := ?_) #[true, true, true, false, false, false, true, false, false, false, false, false, false, false, false, false, false, false, false, false, false, false, false, false, false, false] rfl rfl (any_of HT_.out (by kernel_rfl)) (fun _ _ _ h => h) (Or.inl ⟨by rfl, ?_⟩) ?_ ?_
                          rotate_left
                          ·intro w'
                           go_simp
                           with_reducible rfl
                          rotate_left
                          ·simp only [Act.put, zE, zF, zG, i64_w, i32_w]
                           rfl
                          refine pure_ (i := 7) (N := some 57) (v := ?_) (a' := ?_) #[true, true, true, false, false, false, true, true, false, false, false, false, false, false, false, false, false, false, false, false, false, false, false, false, false, false] rfl rfl (any_of HT_.out (by kernel_rfl)) (fun _ _ _ h => h) (Or.inl ⟨by rfl, ?_⟩) ?_ ?_
                          rotate_left
                          ·intro w'
                           go_simp
                           with_reducible rfl
                          rotate_left
                          ·simp only [Act.put, zE, zF, zG, i64_w, i32_w]
                           rfl
                          refine pure_ (i := 8) (N := some 58) (v := ?_) (a' := ?_) #[true, true, true, false, false, false, true, true, true, false, false, false, false, false, false, false, false, false, false, false, false, false, false, false, false, false] rfl rfl (any_of HT_.out (by kernel_rfl)) (fun _ _ _ h => h) (Or.inl ⟨by rfl, ?_⟩) ?_ ?_
                          rotate_left
                          ·intro w'
                           go_simp
                           with_reducible rfl
                          rotate_left
                          ·simp only [Act.put, zE, zF, zG, i64_w, i32_w]
                           rfl
                          refine pure_ (i := 12) (N := some 62) (v := ?_) (a' := ?_) #[true, true, true, false, false, false, true, true, true, false, false, false, true, false, false, false, false, false, false, false, false, false, false, false, false, false] rfl rfl (any_of HT_.out (by kernel_rfl)) (fun _ _ _ h => h) (Or.inl ⟨by rfl, ?_⟩) ?_ ?_
                          rotate_left
                          ·intro w'
                           go_simp
                           with_reducible rfl
                          rotate_left
                          ·simp only [Act.put, zE, zF, zG, i64_w, i32_w]
                           rfl
                          refine pure_ (i := 13) (N := some 63) (v := ?_) (a' := ?_) #[true, true, true, false, false, false, true, true, true, false, false, false, true, true, false, false, false, false, false, false, false, false, false, false, false, false] rfl rfl (any_of HT_.out (by kernel_rfl)) (fun _ _ _ h => h) (Or.inl ⟨by rfl, ?_⟩) ?_ ?_
                          rotate_left
                          ·intro w'
                           go_simp
                           with_reducible rfl
                          rotate_left
                          ·simp only [Act.put, zE, zF, zG, i64_w, i32_w]
                           rfl
                          refine pure_ (i := 14) (N := some 64) (v := ?_) (a' := ?_) #[true, true, true, false, false, false, true, true, true, false, false, false, true, true, true, false, false, false, false, false, false, false, false, false, false, false] rfl rfl (any_of HT_.out (by kernel_rfl)) (fun _ _ _ h => h) (Or.inl ⟨by rfl, ?_⟩) ?_ ?_
                          rotate_left
                          ·intro w'
                           go_simp
                           with_reducible rfl
                          rotate_left
                          ·simp only [Act.put, zE, zF, zG, i64_w, i32_w]
                           rfl
                          refine pure_ (i := 18) (N := some 68) (v := ?_) (a' := ?_) #[true, true, true, false, false, false, true, true, true, false, false, false, true, true, true, false, false, false, true, false, false, false, false, false, false, false] rfl rfl (any_of HT_.out (by kernel_rfl)) (fun _ _ _ h => h) (Or.inl ⟨by rfl, ?_⟩) ?_ ?_
                          rotate_left
                          ·intro w'
                           go_simp
                           with_reducible rfl
                          rotate_left
                          ·simp only [Act.put, zE, zF, zG, i64_w, i32_w]
                           rfl
                          refine pure_ (i := 19) (N := some 69) (v := ?_) (a' := ?_) #[true, true, true, false, false, false, true, true, true, false, false, false, true, true, true, false, false, false, true, true, false, false, false, false, false, false] rfl rfl (any_of HT_.out (by kernel_rfl)) (fun _ _ _ h => h) (Or.inl ⟨by rfl, ?_⟩) ?_ ?_
                          rotate_left
                          ·intro w'
                           go_simp
                           with_reducible rfl
                          rotate_left
                          ·simp only [Act.put, zE, zF, zG, i64_w, i32_w]
                           rfl
                          refine pure_ (i := 20) (N := some 70) (v := ?_) (a' := ?_) #[true, true, true, false, false, false, true, true, true, false, false, false, true, true, true, false, false, false, true, true, true, false, false, false, false, false] rfl rfl (any_of HT_.out (by kernel_rfl)) (fun _ _ _ h => h) (Or.inl ⟨by rfl, ?_⟩) ?_ ?_
                          rotate_left
                          ·intro w'
                           go_simp
                           with_reducible rfl
                          rotate_left
                          ·simp only [Act.put, zE, zF, zG, i64_w, i32_w]
                           rfl
                          refine take_ (i := 3) (N := some 53) (v := ?_) (a' := ?_) #[true, true, true, true, false, false, true, true, true, false, false, false, true, true, true, false, false, false, true, true, true, false, false, false, false, false] rfl rfl (take_ofW HT_.out HW_.out (by kernel_rfl)) (fun _ _ _ h => h) (Or.inl ⟨by rfl, ?_⟩) hHeld ?_ ?_
                          rotate_left
                          ·rintro w' ⟨s0, s1, s2, s3, s4, s5, s6, s7⟩
                           go_simp
                           with_reducible rfl
                          rotate_left
                          ·simp only [Act.put, zE, zF, zG, i64_w, i32_w]
                           rfl
                          refine pure_ (i := 4) (N := some 54) (v := ?_) (a' := ?_) #[true, true, true, true, true, false, true, true, true, false, false, false, true, true, true, false, false, false, true, true, true, false, false, false, false, false] rfl rfl (any_of HT_.out (by kernel_rfl)) (fun _ _ _ h => h) (Or.inl ⟨by rfl, ?_⟩) ?_ ?_
                          rotate_left
                          ·intro w'
                           go_simp
                           with_reducible rfl
                          rotate_left
                          ·simp only [Act.put, zE, zF, zG, i64_w, i32_w]
                           rfl
                          refine take_ (i := 5) (N := some 55) (v := ?_) (a' := ?_) #[true, true, true, true, true, true, true, true, true, false, false, false, true, true, true, false, false, false, true, true, true, false, false, false, false, false] rfl rfl (take_ofW HT_.out HW_.out (by kernel_rfl)) (fun _ _ _ h => h) (Or.inl ⟨by rfl, ?_⟩) hHeld ?_ ?_
                          rotate_left
                          ·rintro w' ⟨s0, s1, s2, s3, s4, s5, s6, s7⟩
                           go_simp
                           with_reducible rfl
                          rotate_left
                          ·simp only [Act.put, zE, zF, zG, i64_w, i32_w]
                           rfl
                          refine take_ (i := 9) (N := some 59) (v := ?_) (a' := ?_) #[true, true, true, true, true, true, true, true, true, true, false, false, true, true, true, false, false, false, true, true, true, false, false, false, false, false] rfl rfl (take_ofW HT_.out HW_.out (by kernel_rfl)) (fun _ _ _ h => h) (Or.inl ⟨by rfl, ?_⟩) hHeld ?_ ?_
                          rotate_left
                          ·rintro w' ⟨s0, s1, s2, s3, s4, s5, s6, s7⟩
                           go_simp
                           with_reducible rfl
                          rotate_left
                          ·simp only [Act.put, zE, zF, zG, i64_w, i32_w]
                           rfl
                          refine pure_ (i := 10) (N := some 60) (v := ?_) (a' := ?_) #[true, true, true, true, true, true, true, true, true, true, true, false, true, true, true, false, false, false, true, true, true, false, false, false, false, false] rfl rfl (any_of HT_.out (by kernel_rfl)) (fun _ _ _ h => h) (Or.inl ⟨by rfl, ?_⟩) ?_ ?_
                          rotate_left
                          ·intro w'
                           go_simp
                           with_reducible rfl
                          rotate_left
                          ·simp only [Act.put, zE, zF, zG, i64_w, i32_w]
                           rfl
                          refine take_ (i := 11) (N := some 61) (v := ?_) (a' := ?_) #[true, true, true, true, true, true, true, true, true, true, true, true, true, true, true, false, false, false, true, true, true, false, false, false, false, false] rfl rfl (take_ofW HT_.out HW_.out (by kernel_rfl)) (fun _ _ _ h => h) (Or.inl ⟨by rfl, ?_⟩) hHeld ?_ ?_
                          rotate_left
                          ·rintro w' ⟨s0, s1, s2, s3, s4, s5, s6, s7⟩
                           go_simp
                           with_reducible rfl
                          rotate_left
                          ·simp only [Act.put, zE, zF, zG, i64_w, i32_w]
                           rfl
                          refine take_ (i := 15) (N := some 65) (v := ?_) (a' := ?_) #[true, true, true, true, true, true, true, true, true, true, true, true, true, true, true, true, false, false, true, true, true, false, false, false, false, false] rfl rfl (take_ofW HT_.out HW_.out (by kernel_rfl)) (fun _ _ _ h => h) (Or.inl ⟨by rfl, ?_⟩) hHeld ?_ ?_
                          rotate_left
                          ·rintro w' ⟨s0, s1, s2, s3, s4, s5, s6, s7⟩
                           go_simp
                           with_reducible rfl
                          rotate_left
                          ·simp only [Act.put, zE, zF, zG, i64_w, i32_w]
                           rfl
                          refine pure_ (i := 16) (N := some 66) (v := ?_) (a' := ?_) #[true, true, true, true, true, true, true, true, true, true, true, true, true, true, true, true, true, false, true, true, true, false, false, false, false, false] rfl rfl (any_of HT_.out (by kernel_rfl)) (fun _ _ _ h => h) (Or.inl ⟨by rfl, ?_⟩) ?_ ?_
                          rotate_left
                          ·intro w'
                           go_simp
                           with_reducible rfl
                          rotate_left
                          ·simp only [Act.put, zE, zF, zG, i64_w, i32_w]
                           rfl
                          refine take_ (i := 17) (N := some 67) (v := ?_) (a' := ?_) #[true, true, true, true, true, true, true, true, true, true, true, true, true, true, true, true, true, true, true, true, true, false, false, false, false, false] rfl rfl (take_ofW HT_.out HW_.out (by kernel_rfl)) (fun _ _ _ h => h) (Or.inl ⟨by rfl, ?_⟩) hHeld ?_ ?_
                          rotate_left
                          ·rintro w' ⟨s0, s1, s2, s3, s4, s5, s6, s7⟩
                           go_simp
                           with_reducible rfl
                          rotate_left
                          ·simp only [Act.put, zE, zF, zG, i64_w, i32_w]
                           rfl
                          refine take_ (i := 21) (N := some 71) (v := ?_) (a' := ?_) #[true, true, true, true, true, true, true, true, true, true, true, true, true, true, true, true, true, true, true, true, true, true, false, false, false, false] rfl rfl (take_ofW HT_.out HW_.out (by kernel_rfl)) (fun _ _ _ h => h) (Or.inl ⟨by rfl, ?_⟩) hHeld ?_ ?_
                          rotate_left
                          ·rintro w' ⟨s0, s1, s2, s3, s4, s5, s6, s7⟩
                           go_simp
                           with_reducible rfl
                          rotate_left
                          ·simp only [Act.put, zE, zF, zG, i64_w, i32_w]
                           rfl
                          refine pure_ (i := 22) (N := some 72) (v := ?_) (a' := ?_) #[true, true, true, true, true, true, true, true, true, true, true, true, true, true, true, true, true, true, true, true, true, true, true, false, false, false] rfl rfl (any_of HT_.out (by kernel_rfl)) (fun _ _ _ h => h) (Or.inl ⟨by rfl, ?_⟩) ?_ ?_
                          rotate_left
                          ·intro w'
                           go_simp
                           with_reducible rfl
                          rotate_left
                          ·simp only [Act.put, zE, zF, zG, i64_w, i32_w]
                           rfl
                          refine take_ (i := 23) (N := some 73) (v := ?_) (a' := ?_) #[true, true, true, true, true, true, true, true, true, true, true, true, true, true, true, true, true, true, true, true, true, true, true, true, false, false] rfl rfl (take_ofW HT_.out HW_.out (by kernel_rfl)) (fun _ _ _ h => h) (Or.inl ⟨by rfl, ?_⟩) hHeld ?_ ?_
                          rotate_left
                          ·rintro w' ⟨s0, s1, s2, s3, s4, s5, s6, s7⟩
                           go_simp
                           with_reducible rfl
                          rotate_left
                          ·simp only [Act.put, zE, zF, zG, i64_w, i32_w]
                           rfl
                          refine one_ (i := 24) (N := some 74) #[true, true, true, true, true, true, true, true, true, true, true, true, true, true, true, true, true, true, true, true, true, true, true, true, true, false] rfl rfl (one_of HT_.out (by kernel_rfl)) (by decide) (fun K hK => ?_)
                          refine goes_ Try.func29 (by kernel_rfl) rfl #[.int .i64 (rd (rd_L2 l0 (rd x7_3 0)) 0), .int .i64 (rd (rd_L2 l0 (rd x7_3 0)) 1), .int .i64 (rd (rd_L2 l0 x9_4) 0), .int .i64 (rd (rd_L2 l0 x9_4) 1)] (by rfl) rfl rfl (by (try simp only [List.map_toArray, List.map_cons, List.map_nil]); first | done | rfl | (simp only [List.length_drop, List.length_take]; rfl)) ?_
                          with_reducible refine (spec_CrossOk.calls (rd (rd_L2 l0 (rd x7_3 0)) 0) (rd (rd_L2 l0 (rd x7_3 0)) 1) (rd (rd_L2 l0 x9_4) 0) (rd (rd_L2 l0 x9_4) 1) false _ A31.out).mono ?_
                          rintro e w54 ⟨rfl, hb⟩
                          refine ⟨_, rfl, ?_⟩
                          have n0_ := zM (Kd.R_below (by exact HO_4.out) hb)
                          have n1_ := zM (Kd.Q_below (by exact HO_7.out) hb)
                          have n2_ := zM (below_step (by repeat (first | (with_reducible first | exact HB.out | apply zB | apply zA | apply zC) | exact HB.out)) hb)
                          clear HO_4
                          clear HO_7
                          clear HB
                          have HO_4 := n0_
                          have HO_7 := n1_
                          have HB := n2_
                          clear n0_ n1_ n2_
                          (try clear hb)
                          (try clear hb2)
                          (try clear hk)
                          (try clear hi)
                          refine hK.out _ _ ⟨((HB.out.cell (World.block_lt_of_cell? w _ hw337_0)).trans hw337_0), ((HB.out.cell (World.block_lt_of_cell? w _ hw338_0)).trans hw338_0), ((HB.out.cell (World.block_lt_of_cell? w _ hw339_0)).trans hw339_0), ((HB.out.cell (World.block_lt_of_cell? w _ hw340_0)).trans hw340_0), ((HB.out.cell (World.block_lt_of_cell? w _ hw341_0)).trans hw341_0), ((HB.out.cell (World.block_lt_of_cell? w _ hw342_0)).trans hw342_0), ((HB.out.cell (World.block_lt_of_cell? w _ hw343_0)).trans hw343_0), ((HB.out.cell (World.block_lt_of_cell? w _ hw344_0)).trans hw344_0)⟩ (fun hHeld => ?_)
                          clear hK K
                          refine norm_ (a' := ?_) ?_ ?_
                          rotate_left
                          ·show Act.put _ (some 74) _ = _
                           simp only [Act.put, zE, zF, zG, i64_w, i32_w]
                           rfl
                          refine pure_ (i := 25) (N := some 75) (v := ?_) (a' := ?_) #[true, true, true, true, true, true, true, true, true, true, true, true, true, true, true, true, true, true, true, true, true, true, true, true, true, true] rfl rfl (any_of HT_.out (by kernel_rfl)) (fun _ _ _ h => h) (Or.inl ⟨by rfl, ?_⟩) ?_ ?_
                          rotate_left
                          ·intro w'
                           go_simp
                           with_reducible rfl
                          rotate_left
                          ·simp only [Act.put, zE, zF, zG, i64_w, i32_w]
                           rfl
                          refine done_ (done_of HT_.out (by kernel_rfl)) ?_
                          try go_wp2
                          (try simp only [← hl4_4])
                          go_roundg k4
                          case measure => have := HK1.out; have := HK2.out; have := HK3.out; have := HK4.out; omega
                          case rel => exact ⟨(x4_4), (x7_4), (wrap64 (x9_4 + 1)), (by first | rfl | (simp; done) | (simp [*]; done)), H', ⟨by have := HK1.out; have := HK2.out; have := HK3.out; have := HK4.out; omega⟩, ⟨by (try simp only [hl4_3]); (try simp only [hl4_4]); (with_reducible repeat (first | apply Kd.R_alloc | apply Kd.R_drewN | apply Kd.R_drew)); exact HO_4.out⟩, ⟨by (try simp only [hl4_3]); (try simp only [hl4_4]); (with_reducible repeat (first | apply Kd.Q_alloc | apply Kd.Q_drewN | apply Kd.Q_drew)); exact HO_7.out⟩, ⟨by repeat (first | (with_reducible first | exact HB.out | apply zB | apply zA | apply zC) | exact HB.out)⟩⟩
                        ·rw [if_neg c30] at H
                         exact absurd H (by simp)
                       ·rw [if_neg c29] at H
                        exact absurd H (by simp)
                      ·rw [if_neg c28] at H
                       exact absurd H (by simp)
                     ·rw [if_neg c27] at H
                      exact absurd H (by simp)
                    ·rw [if_neg c26] at H
                     exact absurd H (by simp)
                   ·rw [if_neg c25] at H
                    exact absurd H (by simp)
                  ·rw [if_neg c24] at H
                   exact absurd H (by simp)
                 ·rw [if_neg c23] at H
                  have c23b0 : decide (x9_4 < (l0.length : Int)) = false := decide_eq_false c23
                  clear c23
                  have H' := zM H
                  clear H
                  go_wp2
                  (try simp only [← hl4_3, ← hl4_4])
                  go_roundg k4
                  case measure => have := HK1.out; have := HK2.out; have := HK3.out; have := HK4.out; omega
                  case rel => exact ⟨(x4_4), (x7_4), H', ⟨by have := HK1.out; have := HK2.out; have := HK3.out; have := HK4.out; omega⟩, ⟨by (try simp only [hl4_3]); (try simp only [hl4_4]); (with_reducible repeat (first | apply Kd.R_alloc | apply Kd.R_drewN | apply Kd.R_drew)); exact HO_4.out⟩, ⟨by (try simp only [hl4_3]); (try simp only [hl4_4]); (with_reducible repeat (first | apply Kd.Q_alloc | apply Kd.Q_drewN | apply Kd.Q_drew)); exact HO_7.out⟩, ⟨by repeat (first | (with_reducible first | exact HB.out | apply zB | apply zA | apply zC) | exact HB.out)⟩⟩
              ·rw [if_neg c20] at H
               exact absurd H (by simp)
             ·rw [if_neg c19] at H
              exact absurd H (by simp)
            ·rw [if_neg c18] at H
             have c18b0 : decide (0 < (x7_3.length : Int)) = false := decide_eq_false c18
             have c18b1 : decide (0 < x7_3.length) = false := decide_eq_false (by omega)
             clear c18
             have H' := zM H
             clear H
             obtain ⟨Ao55, co55, eo55, _⟩ := Kd.Q_slice HO_7.out
             subst eo55
             go_wp2
             (try simp only [← hl4_3])
             go_roundg k3
             case measure => have := HK1.out; have := HK2.out; have := HK3.out; omega
             case rel => exact ⟨(x4_3), (wrap64 (x6_2 + 1)), (by first | rfl | (simp; done) | (simp [*]; done)), H', ⟨by have := HK1.out; have := HK2.out; have := HK3.out; omega⟩, ⟨by (try simp only [hl4_3]); (with_reducible repeat (first | apply Kd.R_alloc | apply Kd.R_drewN | apply Kd.R_drew)); exact Kd.R_mono HO_4.out (fun _ hk => trivial)⟩, ⟨by repeat (first | (with_reducible first | exact HB.out | apply zB | apply zA | apply zC) | exact HB.out)⟩⟩
        ·rw [if_neg c9] at H
         exact absurd H (by simp)
       ·rw [if_neg c8] at H
        exact absurd H (by simp)
      ·rw [if_neg c7] at H
       have c7b0 : decide (x6_2 < (l0.length : Int)) = false := decide_eq_false c7
       clear c7
       simp only [Option.some.injEq, Prod.mk.injEq] at H
       obtain ⟨rfl, rfl⟩ := H
       go_wp2
       go_ret2
       exact ⟨_, by first | rfl | (simp [errW_none, errW_some] <;> rfl) | (simp [*, errW_none, errW_some] <;> rfl), by exact HO_4.out, by repeat (first | (with_reducible first | exact HB.out | apply zB | apply zA | apply zC) | exact HB.out)⟩

end Go.Proofs.Ytnbdobkgbdncpaa.LA
