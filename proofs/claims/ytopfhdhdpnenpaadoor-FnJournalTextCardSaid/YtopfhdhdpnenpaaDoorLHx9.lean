/- Printed by a program of this session (wip/lp/lp.py) out of the translation: functions with the same answers as the Go code, and their contracts; no conditions beyond those that each theorem names. -/
import Derived.Test.YtopfhdhdpnenpaaDoorLHx0
import Derived.Test.YtopfhdhdpnenpaaDoorLHx5
import Derived.Test.YtopfhdhdpnenpaaDoorLHx6
import Derived.Test.YtopfhdhdpnenpaaDoorLHx7
import Derived.Test.YtopfhdhdpnenpaaDoorLHx8
namespace Go.Proofs.YtopfhdhdpnenpaaDoor.LH
open Go.RowKit Go.Proofs.YtopfhdhdpnenpaaDoorV.PrintWords Go.Proofs.YtopfhdhdpnenpaaDoorV.PrintLast Go.Proofs.YtopfhdhdpnenpaaDoorV.PrintMore
attribute [local go_sem] max2_int min2_int max_two min_two max_three min_three max_four min_four   -- for this text's walks alone
set_option linter.unusedVariables false
set_option linter.unusedSimpArgs false

/-! ### spec_PutInOrder: function 52 -/
mutual
def spec_PutInOrder.j0 : Nat → List Int → List Int → Bool → Option (List Int × Bool)
 | 0, _, _, _ => none
 | k + 1, x0, x1, x19 => if x19 = true then (some ((([] : List Int)), false)) else (if 0 ≤ (wrap64 ((x0.length : Int) + 1)) then (if (wrap64 ((x0.length : Int) + 1) : Int).toNat ≤ 35184372088832 then (spec_PutInOrder.l0 k x0 x1 (List.replicate (wrap64 ((x0.length : Int) + 1) : Int).toNat 0) 0) else (none)) else (none))
def spec_PutInOrder.l0 : Nat → List Int → List Int → List Int → Int → Option (List Int × Bool)
 | 0, _, _, _, _ => none
 | k + 1, x0, x1, x6, x7 => if x7 < (x1.length : Int) then (if 0 ≤ x7 then (if 0 ≤ (rd x1 x7) then (if (rd x1 x7) < (x6.length : Int) then (spec_PutInOrder.l0 k x0 x1 (x6.set ((rd x1 x7) : Int).toNat (wrap64 (x7 + 1))) (wrap64 (x7 + 1))) else (none)) else (none)) else (none)) else (spec_PutInOrder.l1 k x0 x1 x6 (([] : List Int)) 0)
def spec_PutInOrder.l1 : Nat → List Int → List Int → List Int → List Int → Int → Option (List Int × Bool)
 | 0, _, _, _, _, _ => none
 | k + 1, x0, x1, x6, x8, x9 => if x9 < (x1.length : Int) then (if 0 ≤ x9 then (if 0 ≤ (wrap64 ((rd x1 x9) - 1)) then (if (wrap64 ((rd x1 x9) - 1)) < (x0.length : Int) then (if 0 ≤ (rd x0 (wrap64 ((rd x1 x9) - 1))) then (if (rd x0 (wrap64 ((rd x1 x9) - 1))) < (x6.length : Int) then (if x8.length < 17592186044416 then (spec_PutInOrder.l1 k x0 x1 x6 (x8 ++ [rd x6 (rd x0 (wrap64 ((rd x1 x9) - 1)))]) (wrap64 (x9 + 1))) else (none)) else (none)) else (none)) else (none)) else (none)) else (none)) else (some (x8, true))
end
def spec_PutInOrder.f (k : Nat) (l0 : List Int) (l1 : List Int) : Option (List Int × Bool) := (spec_TreeOk.f k l0).bind fun t277 => (if t277 = true then ((spec_OrderOk.f k l1 (l0.length : Int)).bind fun t278 => (spec_PutInOrder.j0 k l0 l1 (!t278))) else (spec_PutInOrder.j0 k l0 l1 true))
theorem spec_PutInOrder.mono_l : ∀ k, (∀ y0 y1 y2, LeO (spec_PutInOrder.j0 k y0 y1 y2) (spec_PutInOrder.j0 (k + 1) y0 y1 y2)) ∧ (∀ y0 y1 y2 y3, LeO (spec_PutInOrder.l0 k y0 y1 y2 y3) (spec_PutInOrder.l0 (k + 1) y0 y1 y2 y3)) ∧ (∀ y0 y1 y2 y3 y4, LeO (spec_PutInOrder.l1 k y0 y1 y2 y3 y4) (spec_PutInOrder.l1 (k + 1) y0 y1 y2 y3 y4))
 | 0 => ⟨fun _ _ _ r h => by simp [spec_PutInOrder.j0] at h, fun _ _ _ _ r h => by simp [spec_PutInOrder.l0] at h, fun _ _ _ _ _ r h => by simp [spec_PutInOrder.l1] at h⟩
 | k + 1 => by
  obtain ⟨ih0, ih1, ih2⟩ := spec_PutInOrder.mono_l k
  refine ⟨?_, ?_, ?_⟩
  ·intro y0 y1 y2
   unfold spec_PutInOrder.j0
   repeat' first
   | (with_reducible exact ih0 _ _ _)
   | (with_reducible exact ih1 _ _ _ _)
   | (with_reducible exact ih2 _ _ _ _ _)
   | (with_reducible exact spec_OrderOk.mono _ _ _)
   | (with_reducible exact spec_TreeOk.mono _ _)
   | (with_reducible exact LeO.refl _)
   | (with_reducible exact LeO.none _)
   | (with_reducible refine LeO.ite ?_ ?_)
   | (with_reducible refine LeO.bind ?_ (fun _ => ?_))
   | refine LeO.ite ?_ ?_
   | refine LeO.bind ?_ (fun _ => ?_)
  ·intro y0 y1 y2 y3
   unfold spec_PutInOrder.l0
   repeat' first
   | (with_reducible exact ih0 _ _ _)
   | (with_reducible exact ih1 _ _ _ _)
   | (with_reducible exact ih2 _ _ _ _ _)
   | (with_reducible exact spec_OrderOk.mono _ _ _)
   | (with_reducible exact spec_TreeOk.mono _ _)
   | (with_reducible exact LeO.refl _)
   | (with_reducible exact LeO.none _)
   | (with_reducible refine LeO.ite ?_ ?_)
   | (with_reducible refine LeO.bind ?_ (fun _ => ?_))
   | refine LeO.ite ?_ ?_
   | refine LeO.bind ?_ (fun _ => ?_)
  ·intro y0 y1 y2 y3 y4
   unfold spec_PutInOrder.l1
   repeat' first
   | (with_reducible exact ih0 _ _ _)
   | (with_reducible exact ih1 _ _ _ _)
   | (with_reducible exact ih2 _ _ _ _ _)
   | (with_reducible exact spec_OrderOk.mono _ _ _)
   | (with_reducible exact spec_TreeOk.mono _ _)
   | (with_reducible exact LeO.refl _)
   | (with_reducible exact LeO.none _)
   | (with_reducible refine LeO.ite ?_ ?_)
   | (with_reducible refine LeO.bind ?_ (fun _ => ?_))
   | refine LeO.ite ?_ ?_
   | refine LeO.bind ?_ (fun _ => ?_)
theorem spec_PutInOrder.mono : ∀ a0 a1 k, LeO (spec_PutInOrder.f k a0 a1) (spec_PutInOrder.f (k + 1) a0 a1) := by
 intro a0 a1 k
 obtain ⟨ih0, ih1, ih2⟩ := spec_PutInOrder.mono_l k
 unfold spec_PutInOrder.f
 repeat' first
   | (with_reducible exact ih0 _ _ _)
   | (with_reducible exact ih1 _ _ _ _)
   | (with_reducible exact ih2 _ _ _ _ _)
   | (with_reducible exact spec_OrderOk.mono _ _ _)
   | (with_reducible exact spec_TreeOk.mono _ _)
   | (with_reducible exact LeO.refl _)
   | (with_reducible exact LeO.none _)
   | (with_reducible refine LeO.ite ?_ ?_)
   | (with_reducible refine LeO.bind ?_ (fun _ => ?_))
   | refine LeO.ite ?_ ?_
   | refine LeO.bind ?_ (fun _ => ?_)
set_option maxHeartbeats 8000000 in
set_option maxRecDepth 100000 in
theorem spec_PutInOrder.calls (k : Nat) (A0 : Option Addr) (c0 : Nat) (l0 : List Int) (A1 : Option Addr) (c1 : Nat) (l1 : List Int) (r1 : List Int) (r2 : Bool) (w : World) (hr0 : Kd.C (Kd.int .i64) w A0 l0.length l0) (hc0 : l0.length ≤ c0) (hr1 : Kd.C (Kd.int .i64) w A1 l1.length l1) (hc1 : l1.length ≤ c1) (h : spec_PutInOrder.f k l0 l1 = some (r1, r2)) :
  Calls Tryd.prog 52 #[.slice A0 l0.length c0, .slice A1 l1.length c1] w fun e w' => ∃ v0_ : Value, e = .returned (.tuple #[v0_, .bool r2]) ∧ Kd.R (Kd.int .i64) 3 w' w.heap.size (fun _ => True) v0_ r1 ∧ Below w.heap.size w w' := by
 have HR0:=zM hr0
 have HC0:=zM hc0
 clear hr0 hc0
 have HR1:=zM hr1
 have HC1:=zM hc1
 clear hr1 hc1
 have HB:=zM (Below.refl w.heap.size w)
 have H : ((spec_TreeOk.f k l0).bind fun t277 => (if t277 = true then ((spec_OrderOk.f k l1 (l0.length : Int)).bind fun t278 => (spec_PutInOrder.j0 k l0 l1 (!t278))) else (spec_PutInOrder.j0 k l0 l1 true))) = some (r1, r2) := h
 clear h
 have HC3:=zM H
 clear H
 go_enter Tryd.func52, Tryd.ntmps52
 go_upto_region 1 with (fail)
 go_cut [19] (fun v19 wc => ∃ (kq : Nat) (x19_2 : Bool), v19 = .bool x19_2 ∧ Aside0 (spec_PutInOrder.j0 kq l0 l1 x19_2 = some (r1, r2)) ∧ Aside0 (kq ≤ k) ∧ Aside0 (Below w.heap.size w wc))
 case first =>
  have H := HC3.out
  clear HC3
  obtain ⟨t277, A4, H⟩ := zb H; try dsimp only at H
  by_cases c5 : t277 = true
  ·subst c5
   have H1 : ((spec_OrderOk.f k l1 (l0.length : Int)).bind fun t278 => (spec_PutInOrder.j0 k l0 l1 (!t278))) = some (r1, r2) := by rw [if_pos rfl] at H; exact H
   clear H
   have H := H1
   clear H1
   obtain ⟨t278, A6, H⟩ := zb H; try dsimp only at H
   have H':=zM H
   clear H
   go_wp2_with (first | (refine zg 51 (some 11) Tryd.func51 #[.slice A0 l0.length c0] ?_; (with_reducible refine (spec_TreeOk.calls k _ _ l0 true _ ?side1 ?side2 A4.out).mono ?_); (case side1 => repeat (first | exact (Kd.C_below HR0.out HB.out) | (with_reducible refine Kd.C_alloc ?_ _) | (with_reducible refine Kd.C_drewN ?_ _) | (with_reducible refine Kd.C_drew ?_))); (case side2 => exact HC0.out); rintro e w' ⟨rfl, ⟨nd, rfl⟩⟩; refine ⟨_, rfl, ?_⟩) | (go_at_call 62; (with_reducible refine (spec_OrderOk.calls k _ _ l1 (l0.length : Int) t278 _ ?side1 ?side2 A6.out).mono ?_); (case side1 => repeat (first | exact (Kd.C_below HR1.out (q2 HB.out)) | (with_reducible refine Kd.C_alloc ?_ _) | (with_reducible refine Kd.C_drewN ?_ _) | (with_reducible refine Kd.C_drew ?_))); (case side2 => exact HC1.out); rintro e w' ⟨rfl, ⟨nd, rfl⟩⟩))
   go_meet
   case rel => exact ⟨_, (!t278), (by first | rfl | (simp; done) | (simp [*]; done)), H', ⟨by first | omega | exact Nat.le_refl _⟩, ⟨(q2 HB.out)⟩⟩
  ·replace c5 := Bool.eq_false_iff.mpr c5
   subst c5
   have H1 : (spec_PutInOrder.j0 k l0 l1 true) = some (r1, r2) := by rw [if_neg (show ¬ (false = true) by decide)] at H; exact H
   clear H
   have H := H1
   clear H1
   have H':=zM H
   clear H
   go_wp2_with (first | (refine zg 51 (some 11) Tryd.func51 #[.slice A0 l0.length c0] ?_; (with_reducible refine (spec_TreeOk.calls k _ _ l0 false _ ?side1 ?side2 A4.out).mono ?_); (case side1 => repeat (first | exact (Kd.C_below HR0.out HB.out) | (with_reducible refine Kd.C_alloc ?_ _) | (with_reducible refine Kd.C_drewN ?_ _) | (with_reducible refine Kd.C_drew ?_))); (case side2 => exact HC0.out); rintro e w' ⟨rfl, ⟨nd, rfl⟩⟩; refine ⟨_, rfl, ?_⟩))
   go_meet
   case rel => exact ⟨_, (true), (by first | rfl | (simp; done) | (simp [*]; done)), H', ⟨by first | omega | exact Nat.le_refl _⟩, ⟨(q2 HB.out)⟩⟩
 case rest =>
  clear HC3
  try clear c1
  try clear p2
  try clear c5
  obtain ⟨kq, x19_2, rfl, HA, HJ2, HB⟩ := hcut
  cases kq with
  | zero => exact absurd HA.out (by simp [spec_PutInOrder.j0])
  | succ kj2 =>
   have H := HA.out
   clear HA
   simp only [spec_PutInOrder.j0] at H
   by_cases c7 : x19_2 = true
   ·subst c7
    have H1 : (some ((([] : List Int)), false)) = some (r1, r2) := by rw [if_pos rfl] at H; exact H
    clear H
    have H := H1
    clear H1
    obtain ⟨y279, hy279⟩ : ∃ y_ : List Int, y_ = (([] : List Int)) := ⟨_, rfl⟩
    replace H : (some (y279, false)) = some (r1, r2) := by first | (rw [hy279]; with_reducible exact H) | (have H2_ := (Option.bind_some _ _).symm.trans H; rw [hy279]; with_reducible exact H2_) | (have H2_ := (Option.bind_some _ _).symm.trans H; with_reducible exact H2_) | with_reducible exact H | (rw [hy279]; exact H) | exact H
    have Ny279:=zM hy279
    clear hy279
    simp only [Option.some.injEq, Prod.mk.injEq] at H
    obtain ⟨rfl, rfl⟩ := H
    go_wp2_with (first | ((with_reducible refine gate_dst (N := 20) rfl ?_); (try (refine gate_guard (by rfl) ?_; dsimp only)); refine Kd.R_lit (Kd.int .i64) _ 3 q0 (N := 20) q0 (xs := ([] : List Int)) (inner := []) (ok := fun _ => True) (okp := fun _ => True) q1 ?hp (fun _ hk => hk) trivial (Below.refl _ _) (Nat.le_refl _) (by simp) ?_; (case hp => exact (Reps.none _ _)); intro v280 w8 ho9 hb hg_ hnew_; clear hg_ hnew_; (first | rw [← Ny279.out] at ho9 | (simp only [Int.reduceToNat] at ho9; rw [← Ny279.out] at ho9)); have HO281:=zM (Kd.R_lower ho9 (below_size (q2 HB.out))); replace HB:=zM (below_step (q2 HB.out) hb); clear hb ho9))
    go_ret2
    exact ⟨_, by first | rfl | (simp [errW_none, errW_some] <;> rfl) | (simp [*, errW_none, errW_some] <;> rfl), by (with_reducible repeat (first | apply Kd.R_alloc | apply Kd.R_drewN | apply Kd.R_drew)); exact HO281.out, (q2 HB.out)⟩
   ·replace c7 := Bool.eq_false_iff.mpr c7
    subst c7
    have H1 : (if 0 ≤ (wrap64 ((l0.length : Int) + 1)) then (if (wrap64 ((l0.length : Int) + 1) : Int).toNat ≤ 35184372088832 then (spec_PutInOrder.l0 kj2 l0 l1 (List.replicate (wrap64 ((l0.length : Int) + 1) : Int).toNat 0) 0) else (none)) else (none)) = some (r1, r2) := by rw [if_neg (show ¬ (false = true) by decide)] at H; exact H
    clear H
    have H := H1
    clear H1
    obtain ⟨ji10, hji10⟩ : ∃ j_ : Int, (wrap64 ((l0.length : Int) + 1)) = j_ := ⟨_, rfl⟩
    replace H : (if 0 ≤ (ji10) then (if (ji10 : Int).toNat ≤ 35184372088832 then (spec_PutInOrder.l0 kj2 l0 l1 (List.replicate (ji10 : Int).toNat 0) 0) else (none)) else (none)) = some (r1, r2) := by first | (rw [hji10] at H; exact H) | (simp only [hji10] at H ⊢; exact H)
    have hji10w : (IntKind.i64.wrap ((l0.length : Int) + 1)) = ji10 := (i64_w _).trans hji10
    by_cases c11 : 0 ≤ (ji10)
    ·rw [if_pos c11] at H
     have c11b0 := eq_true c11
     have c11b1 : decide (0 ≤ (ji10)) = true := decide_eq_true c11
     clear c11
     by_cases c12 : (ji10 : Int).toNat ≤ 35184372088832
     ·rw [if_pos c12] at H
      have c12b0 := eq_true c12
      have c12b1 : decide ((ji10 : Int).toNat ≤ 35184372088832) = true := decide_eq_true c12
      clear c12
      obtain ⟨y282, hy282⟩ : ∃ y_ : List Int, y_ = (List.replicate (ji10 : Int).toNat 0) := ⟨_, rfl⟩
      replace H : (spec_PutInOrder.l0 kj2 l0 l1 y282 0) = some (r1, r2) := by first | (rw [hy282]; with_reducible exact H) | (have H2_ := (Option.bind_some _ _).symm.trans H; rw [hy282]; with_reducible exact H2_) | (have H2_ := (Option.bind_some _ _).symm.trans H; with_reducible exact H2_) | with_reducible exact H | (rw [hy282]; exact H) | exact H
      have Ny282:=zM hy282
      clear hy282
      have H':=zM H
      clear H
      go_wp2_with (first | ((with_reducible refine gate_dst (N := 24) rfl ?_); (try (refine gate_guard (by rfl) ?_; dsimp only)); refine Kd.R_make (Kd.int .i64) _ 3 rfl (N := 24) rfl 54 _ _ rfl ji10 rfl rfl Tryd.underlying54 (.int .i64 0) 8 info3 rfl (by decide) (by omega) 0 (ok := fun _ => True) (okp := fun _ => True) rfl (fun _ hk => hk) trivial (of_decide_eq_true (by first | (with_reducible assumption) | assumption)) (Nat.le_trans (Nat.mul_le_mul_right _ (of_decide_eq_true (by first | (with_reducible assumption) | assumption) : ji10.toNat ≤ 35184372088832)) (by omega)) (Below.refl _ _) (Nat.le_refl _) ?_; intro v283 w13 ho14 hb hg_ hnew_; clear hg_ hnew_; (first | rw [← Ny282.out] at ho14 | (simp only [Int.reduceToNat] at ho14; rw [← Ny282.out] at ho14)); have HO284:=zM (Kd.R_lower ho14 (below_size (q2 HB.out))); replace HB:=zM (below_step (q2 HB.out) hb); clear hb ho14))
      go_loopg [7] kj2 (fun kq v7 w' => ∃ (x6_2 : List Int) (x7_2 : Int), v7 = .int .i64 x7_2 ∧ Aside0 (spec_PutInOrder.l0 kq l0 l1 x6_2 x7_2 = some (r1, r2)) ∧ Aside0 (kq ≤ kj2) ∧ Aside0 (Kd.R (Kd.int .i64) 3 w' w.heap.size (fun _ => True) v283 x6_2) ∧ Aside0 (Below w.heap.size w w'))
      case atStart => exact ⟨(y282), (0), (by first | rfl | (simp; done) | (simp [*]; done)), H', ⟨Nat.le_refl _⟩, ⟨by (with_reducible repeat (first | apply Kd.R_alloc | apply Kd.R_drewN | apply Kd.R_drew)); exact HO284.out⟩, ⟨(q2 HB.out)⟩⟩
      case round =>
       clear H'
       try clear c1
       try clear p2
       try clear c5
       try clear p6
       try clear c7
       try clear c11
       try clear c11b0
       try clear c11b1
       try clear c12
       try clear c12b0
       try clear c12b1
       try clear p2
       obtain ⟨x6_2, x7_2, rfl, HA, HK2, HO_6, HB⟩ := hrel
       cases gk with
       | zero => exact absurd HA.out (by simp [spec_PutInOrder.l0])
       | succ k2 =>
        have H := HA.out
        clear HA
        simp only [spec_PutInOrder.l0] at H
        by_cases c15 : x7_2 < (l1.length : Int)
        ·rw [if_pos c15] at H
         have c15b0 : decide (x7_2 < (l1.length : Int)) = true := decide_eq_true c15
         clear c15
         by_cases c16 : 0 ≤ x7_2
         ·rw [if_pos c16] at H
          have c16b0 : decide (0 ≤ x7_2) = true := decide_eq_true c16
          clear c16
          by_cases c17 : 0 ≤ (rd l1 x7_2)
          ·rw [if_pos c17] at H
           have c17b0 : decide (0 ≤ (rd l1 x7_2)) = true := decide_eq_true c17
           clear c17
           by_cases c18 : (rd l1 x7_2) < (x6_2.length : Int)
           ·rw [if_pos c18] at H
            have c18b0 : decide ((rd l1 x7_2) < (x6_2.length : Int)) = true := decide_eq_true c18
            clear c18
            obtain ⟨y286, hy286⟩ : ∃ y_ : List Int, y_ = (x6_2.set ((rd l1 x7_2) : Int).toNat (wrap64 (x7_2 + 1))) := ⟨_, rfl⟩
            replace H : (spec_PutInOrder.l0 k2 l0 l1 y286 (wrap64 (x7_2 + 1))) = some (r1, r2) := by first | (rw [hy286]; with_reducible exact H) | (have H2_ := (Option.bind_some _ _).symm.trans H; rw [hy286]; with_reducible exact H2_) | (have H2_ := (Option.bind_some _ _).symm.trans H; with_reducible exact H2_) | with_reducible exact H | (rw [hy286]; exact H) | exact H
            have Ny286:=zM hy286
            clear hy286
            have H':=zM H
            clear H
            have p285 : 0 ≤ (x7_2 : Int) := of_decide_eq_true (by first | (with_reducible assumption) | assumption)
            have q285 : x7_2 < (l1.length : Int) := of_decide_eq_true (by first | (with_reducible assumption) | assumption)
            obtain ⟨ad285, e285, hx285_0⟩ := Kd.at_int HR1.out x7_2 p285 q285
            cases e285
            replace hx285_0 := (HB.out.cell (World.block_lt_of_cell? w _ hx285_0)).trans hx285_0
            replace p285 := eq_true p285
            replace q285 := eq_true q285
            have p19 : 0 ≤ ((rd l1 x7_2) : Int) := of_decide_eq_true (by first | (with_reducible assumption) | assumption)
            have q19 : ((rd l1 x7_2) : Int) < ((x6_2.length : Int) : Int) := of_decide_eq_true (by first | (with_reducible assumption) | assumption)
            obtain ⟨go19, co19, eo19, gb19, gl19, cl19, HG19⟩ := Kd.R_form HO_6.out (by omega)
            (first | cases eo19 | (injection eo19 with ea_ en_ ec_; (first | subst ea_ | (injection ea_ with ea_; subst ea_)); subst ec_; clear en_))
            have GB19:=zM gb19
            have GG19:=zM HG19
            clear gb19 gl19 HG19
            obtain ⟨hx19_0, hf19_0⟩ := Kd.R_celln 0 HO_6.out ((rd l1 x7_2) : Int) p19 q19
            replace p19 := eq_true p19
            replace q19 := eq_true q19
            have HP20 := Kd.R_putg HO_6.out ((rd l1 x7_2) : Int) (wrap64 (x7_2 + 1))
            go_wp2_with (first | ((with_reducible refine gate_store (t := 3) (p := 38) rfl ?_); refine store_event (t := 3) (p := 38) (v := ?vo_w21) (w1 := (wr.setCell ⟨go19, ((rd l1 x7_2) : Int).toNat, none⟩ (.int .i64 (wrap64 (x7_2 + 1))))) ?hg ?ho ?hn ?hr ?_; (case ho => rfl); (case hg => rfl); (case hn => rfl); (case hr => first | (go_simp; done) | (go_simp; rfl)); intro w21 hw; have hg : wr.grownBy w21 (some go19) := (by rw [hw]; exact HP20.2); have hp_ : Kd.R (Kd.int .i64) 3 w21 w.heap.size (fun _ => True) (.slice (some ⟨go19, 0, none⟩) x6_2.length co19) y286 := (by rw [hw, Ny286.out]; exact HP20.1); clear HP20; replace HO_6:=zM (hp_); replace HB:=zM ((by rw [hw]; exact zD (HB.out) GB19.out : Below w.heap.size w w21)); clear hg hw hp_))
            go_roundg k2
            case measure => have := HJ2.out; have := HK2.out; omega
            case rel => exact ⟨(y286), (wrap64 (x7_2 + 1)), (by first | rfl | (simp; done) | (simp [*]; done)), H', ⟨by have := HJ2.out; have := HK2.out; omega⟩, ⟨by (with_reducible repeat (first | apply Kd.R_alloc | apply Kd.R_drewN | apply Kd.R_drew)); exact HO_6.out⟩, ⟨(q2 HB.out)⟩⟩
           ·rw [if_neg c18] at H
            exact absurd H (by simp)
          ·rw [if_neg c17] at H
           exact absurd H (by simp)
         ·rw [if_neg c16] at H
          exact absurd H (by simp)
        ·rw [if_neg c15] at H
         have c15b0 : decide (x7_2 < (l1.length : Int)) = false := decide_eq_false c15
         clear c15
         obtain ⟨y287, hy287⟩ : ∃ y_ : List Int, y_ = (([] : List Int)) := ⟨_, rfl⟩
         replace H : (spec_PutInOrder.l1 k2 l0 l1 x6_2 y287 0) = some (r1, r2) := by first | (rw [hy287]; with_reducible exact H) | (have H2_ := (Option.bind_some _ _).symm.trans H; rw [hy287]; with_reducible exact H2_) | (have H2_ := (Option.bind_some _ _).symm.trans H; with_reducible exact H2_) | with_reducible exact H | (rw [hy287]; exact H) | exact H
         have Ny287:=zM hy287
         clear hy287
         have H':=zM H
         clear H
         go_wp2_with (first | ((with_reducible refine gate_dst (N := 39) rfl ?_); (try (refine gate_guard (by rfl) ?_; dsimp only)); refine Kd.R_lit (Kd.int .i64) _ 3 q0 (N := 39) q0 (xs := ([] : List Int)) (inner := []) (ok := fun _ => True) (okp := fun _ => True) q1 ?hp (fun _ hk => hk) trivial (Below.refl _ _) (Nat.le_refl _) (by simp) ?_; (case hp => exact (Reps.none _ _)); intro v288 w22 ho23 hb hg_ hnew_; clear hg_ hnew_; (first | rw [← Ny287.out] at ho23 | (simp only [Int.reduceToNat] at ho23; rw [← Ny287.out] at ho23)); have HO289:=zM (Kd.R_lower (Kd.R_new' ho23 (Kd.R_lt (q3 HO_6.out))) (below_size (q2 HB.out))); replace HO_6:=zM (Kd.R_elder' (q3 HO_6.out) (Kd.R_base ho23) hb); replace HB:=zM (below_step (q2 HB.out) hb); clear hb ho23))
         go_loopg [8, 9] k2 (fun kq v8 v9 w' => ∃ (x8_3 : List Int) (x9_3 : Int), v9 = .int .i64 x9_3 ∧ Aside0 (spec_PutInOrder.l1 kq l0 l1 x6_2 x8_3 x9_3 = some (r1, r2)) ∧ Aside0 (kq ≤ k2) ∧ Aside0 (Kd.R (Kd.int .i64) 3 w' w.heap.size (fun k_ => some k_ ≠ (v8 : Value).ownBlock) v283 x6_2) ∧ Aside0 (Kd.R (Kd.int .i64) 3 w' w.heap.size (fun k_ => some k_ ≠ (v283 : Value).ownBlock) v8 x8_3) ∧ Aside0 (Below w.heap.size w w'))
         case atStart => exact ⟨(y287), (0), (by first | rfl | (simp; done) | (simp [*]; done)), H', ⟨Nat.le_refl _⟩, ⟨by (with_reducible repeat (first | apply Kd.R_alloc | apply Kd.R_drewN | apply Kd.R_drew)); exact Kd.R_mono HO_6.out (fun _ hk => hk.2)⟩, ⟨by (with_reducible repeat (first | apply Kd.R_alloc | apply Kd.R_drewN | apply Kd.R_drew)); exact Kd.R_mono HO289.out (fun _ hk => hk.2)⟩, ⟨(q2 HB.out)⟩⟩
         case round =>
          clear H'
          try clear c1
          try clear p1
          try clear q1
          try clear hx1
          try clear p2
          try clear q2
          try clear hx2
          try clear c5
          try clear p6
          try clear c7
          try clear c11
          try clear c11b0
          try clear c11b1
          try clear c12
          try clear c12b0
          try clear c12b1
          try clear c15
          try clear c15b0
          try clear c16
          try clear c16b0
          try clear c17
          try clear c17b0
          try clear c18
          try clear c18b0
          try clear p19
          try clear q19
          try clear hx19
          try clear hf19
          try clear hx19_0
          try clear hx285_0
          try clear p19
          try clear p2
          try clear p285
          try clear p6
          try clear q19
          try clear q285
          obtain ⟨x8_3, x9_3, rfl, HA, HK3, HO_6, HO_8, HB⟩ := hrel
          cases gk with
          | zero => exact absurd HA.out (by simp [spec_PutInOrder.l1])
          | succ k3 =>
           have H := HA.out
           clear HA
           simp only [spec_PutInOrder.l1] at H
           by_cases c24 : x9_3 < (l1.length : Int)
           ·rw [if_pos c24] at H
            have c24b0 : decide (x9_3 < (l1.length : Int)) = true := decide_eq_true c24
            clear c24
            by_cases c25 : 0 ≤ x9_3
            ·rw [if_pos c25] at H
             have c25b0 : decide (0 ≤ x9_3) = true := decide_eq_true c25
             clear c25
             obtain ⟨ji26, hji26⟩ : ∃ j_ : Int, (wrap64 ((rd l1 x9_3) - 1)) = j_ := ⟨_, rfl⟩
             replace H : (if 0 ≤ (ji26) then (if (ji26) < (l0.length : Int) then (if 0 ≤ (rd l0 (ji26)) then (if (rd l0 (ji26)) < (x6_2.length : Int) then (if x8_3.length < 17592186044416 then (spec_PutInOrder.l1 k3 l0 l1 x6_2 (x8_3 ++ [rd x6_2 (rd l0 (ji26))]) (wrap64 (x9_3 + 1))) else (none)) else (none)) else (none)) else (none)) else (none)) = some (r1, r2) := by first | (rw [hji26] at H; exact H) | (simp only [hji26] at H ⊢; exact H)
             have hji26w : (IntKind.i64.wrap ((rd l1 x9_3) - 1)) = ji26 := (i64_w _).trans hji26
             by_cases c27 : 0 ≤ (ji26)
             ·rw [if_pos c27] at H
              have c27b0 : decide (0 ≤ (ji26)) = true := decide_eq_true c27
              clear c27
              by_cases c28 : (ji26) < (l0.length : Int)
              ·rw [if_pos c28] at H
               have c28b0 : decide ((ji26) < (l0.length : Int)) = true := decide_eq_true c28
               clear c28
               by_cases c29 : 0 ≤ (rd l0 (ji26))
               ·rw [if_pos c29] at H
                have c29b0 : decide (0 ≤ (rd l0 (ji26))) = true := decide_eq_true c29
                clear c29
                by_cases c30 : (rd l0 (ji26)) < (x6_2.length : Int)
                ·rw [if_pos c30] at H
                 have c30b0 : decide ((rd l0 (ji26)) < (x6_2.length : Int)) = true := decide_eq_true c30
                 clear c30
                 by_cases c31 : x8_3.length < 17592186044416
                 ·rw [if_pos c31] at H
                  have LMc31:=zM c31
                  clear c31
                  obtain ⟨y293, hy293⟩ : ∃ y_ : List Int, y_ = (x8_3 ++ [rd x6_2 (rd l0 (ji26))]) := ⟨_, rfl⟩
                  replace H : (spec_PutInOrder.l1 k3 l0 l1 x6_2 y293 (wrap64 (x9_3 + 1))) = some (r1, r2) := by first | (rw [hy293]; with_reducible exact H) | (have H2_ := (Option.bind_some _ _).symm.trans H; rw [hy293]; with_reducible exact H2_) | (have H2_ := (Option.bind_some _ _).symm.trans H; with_reducible exact H2_) | with_reducible exact H | (rw [hy293]; exact H) | exact H
                  have Ny293:=zM hy293
                  clear hy293
                  have H':=zM H
                  clear H
                  have p290 : 0 ≤ (x9_3 : Int) := of_decide_eq_true (by first | (with_reducible assumption) | assumption)
                  have q290 : x9_3 < (l1.length : Int) := of_decide_eq_true (by first | (with_reducible assumption) | assumption)
                  obtain ⟨ad290, e290, hx290_0⟩ := Kd.at_int HR1.out x9_3 p290 q290
                  cases e290
                  replace hx290_0 := (HB.out.cell (World.block_lt_of_cell? w _ hx290_0)).trans hx290_0
                  replace p290 := eq_true p290
                  replace q290 := eq_true q290
                  have p291 : 0 ≤ ((ji26) : Int) := of_decide_eq_true (by first | (with_reducible assumption) | assumption)
                  have q291 : (ji26) < (l0.length : Int) := of_decide_eq_true (by first | (with_reducible assumption) | assumption)
                  obtain ⟨ad291, e291, hx291_0⟩ := Kd.at_int HR0.out (ji26) p291 q291
                  cases e291
                  replace hx291_0 := (HB.out.cell (World.block_lt_of_cell? w _ hx291_0)).trans hx291_0
                  replace p291 := eq_true p291
                  replace q291 := eq_true q291
                  obtain ⟨Ao32, co32, eo32⟩ := Kd.R_slice HO_6.out
                  subst eo32
                  have p292 : 0 ≤ ((rd l0 (ji26)) : Int) := of_decide_eq_true (by first | (with_reducible assumption) | assumption)
                  have q292 : (rd l0 (ji26)) < (x6_2.length : Int) := of_decide_eq_true (by first | (with_reducible assumption) | assumption)
                  obtain ⟨ad292, e292, hx292_0⟩ := Kd.at_int (Kd.R_reads' HO_6.out).2.2 (rd l0 (ji26)) p292 q292
                  cases e292
                  replace p292 := eq_true p292
                  replace q292 := eq_true q292
                  go_wp2_with (first | ((with_reducible refine gate_builtin (b := .append) (xs := #[.tmp 46, .tmp 58]) rfl ?_); (try (refine gate_guard (by rfl) ?_; dsimp only)); at_builtin; refine Kd.R_append (Kd.int .i64) (w0 := w) w.heap.size rfl (.tmp 46) (.tmp 58) 54 3 (.int .i64 0) 8 rfl Tryd.underlying54 info3 rfl (by decide) (by omega) u8 x8_3 (rd x6_2 (rd l0 (ji26))) [.int .i64 (rd x6_2 (rd l0 (ji26)))] (fun k_ => some k_ ≠ (.slice (some ad292) x6_2.length co32 : Value).ownBlock) (fun _ => False) rfl rfl ?aP (fun _ hk => hk.elim) ?aF ?aO ?aB ?aS ?aL ?_; (case aP => exact rfl); (case aB => exact (q2 HB.out)); (case aF => exact (fun k_ hk => Kd.fresh' (Kd.R_lt (q3 HO_6.out)) k_ hk)); (case aO => exact (q3 HO_8.out)); (case aS => exact (below_size (q2 HB.out))); (case aL => have := LMc31.out; omega); intro v294 w33 ho hb hg hat; rw [← Ny293.out] at ho; replace HO_6:=zM (Kd.R_after (ok := (fun _ => True)) (by (with_reducible repeat (first | apply Kd.R_alloc | apply Kd.R_drewN | apply Kd.R_drew)); exact Kd.R_mono HO_6.out (fun _ hk => ⟨trivial, hk⟩)) hg hat); replace HB:=zM (hb); have HO295:=zM (ho); clear HO_8; clear ho hb hg hat))
                  go_roundg k3
                  case measure => have := HJ2.out; have := HK2.out; have := HK3.out; omega
                  case rel => exact ⟨(y293), (wrap64 (x9_3 + 1)), (by first | rfl | (simp; done) | (simp [*]; done)), H', ⟨by have := HJ2.out; have := HK2.out; have := HK3.out; omega⟩, ⟨by (with_reducible repeat (first | apply Kd.R_alloc | apply Kd.R_drewN | apply Kd.R_drew)); exact Kd.R_mono HO_6.out (fun _ hk => hk.2)⟩, ⟨by (with_reducible repeat (first | apply Kd.R_alloc | apply Kd.R_drewN | apply Kd.R_drew)); exact HO295.out⟩, ⟨(q2 HB.out)⟩⟩
                 ·rw [if_neg c31] at H
                  exact absurd H (by simp)
                ·rw [if_neg c30] at H
                 exact absurd H (by simp)
               ·rw [if_neg c29] at H
                exact absurd H (by simp)
              ·rw [if_neg c28] at H
               exact absurd H (by simp)
             ·rw [if_neg c27] at H
              exact absurd H (by simp)
            ·rw [if_neg c25] at H
             exact absurd H (by simp)
           ·rw [if_neg c24] at H
            have c24b0 : decide (x9_3 < (l1.length : Int)) = false := decide_eq_false c24
            clear c24
            simp only [Option.some.injEq, Prod.mk.injEq] at H
            obtain ⟨rfl, rfl⟩ := H
            go_wp2
            go_ret2
            exact ⟨_, by first | rfl | (simp [errW_none, errW_some] <;> rfl) | (simp only [← hji10]; first | rfl | (simp [errW_none, errW_some] <;> rfl)) | (simp [*, errW_none, errW_some] <;> rfl), by (with_reducible repeat (first | apply Kd.R_alloc | apply Kd.R_drewN | apply Kd.R_drew)); exact Kd.R_mono HO_8.out (fun _ hk => trivial), (q2 HB.out)⟩
     ·rw [if_neg c12] at H
      exact absurd H (by simp)
    ·rw [if_neg c11] at H
     exact absurd H (by simp)

/-! ### spec_l20Fill: function 63 -/
mutual
def spec_l20Fill.l0 : Nat → List Int → Int → Int → Int → List Int → Int → Option (Int × List Int)
 | 0, _, _, _, _, _, _ => none
 | k + 1, x1, x3, x10, x11, x1000, x1001 => if x11 < x10 then ((spec_l20Rd_pick.f k x1000 x1001 (wrap64 (x10 - x11))).bind fun bt299 => ((spec_l20Fill.f k x1000 bt299.2 x1 x11 (wrap64 (x11 + bt299.1)) x10).bind fun bt301 => (spec_l20Fill.l0 k bt301.2 x3 x10 (wrap64 ((wrap64 (x11 + bt299.1)) + 1)) x1000 bt301.1))) else (spec_l20Fill.l1 k x1 x3 x10 (wrap64 (x10 + 1)) x1000 x1001)
def spec_l20Fill.l1 : Nat → List Int → Int → Int → Int → List Int → Int → Option (Int × List Int)
 | 0, _, _, _, _, _, _ => none
 | k + 1, x1, x3, x10, x11, x1000, x1001 => if x11 ≤ x3 then ((spec_l20Rd_pick.f k x1000 x1001 (wrap64 ((wrap64 (x3 - x11)) + 1))).bind fun bt303 => ((spec_l20Fill.f k x1000 bt303.2 x1 x11 (wrap64 (x11 + bt303.1)) x10).bind fun bt305 => (spec_l20Fill.l1 k bt305.2 x3 x10 (wrap64 ((wrap64 (x11 + bt303.1)) + 1)) x1000 bt305.1))) else (some (x1001, x1))
def spec_l20Fill.f : Nat → List Int → Int → List Int → Int → Int → Int → Option (Int × List Int)
 | 0, _, _, _, _, _, _ => none
 | k + 1, s0_0, s0_1, l1, a2, a3, a4 => if a2 > a3 then (some (s0_1, l1)) else ((spec_l20Rd_pick.f k s0_0 s0_1 (wrap64 ((wrap64 (a3 - a2)) + 1))).bind fun bt296 => (if 0 ≤ (wrap64 ((wrap64 (a2 + bt296.1)) - 1)) then (if (wrap64 ((wrap64 (a2 + bt296.1)) - 1)) < (l1.length : Int) then (spec_l20Fill.l0 k (l1.set ((wrap64 ((wrap64 (a2 + bt296.1)) - 1)) : Int).toNat a4) a3 (wrap64 (a2 + bt296.1)) a2 s0_0 bt296.2) else (none)) else (none)))
end
theorem spec_l20Fill.mono_l : ∀ k, (∀ y0 y1 y2 y3 y4 y5, LeO (spec_l20Fill.f k y0 y1 y2 y3 y4 y5) (spec_l20Fill.f (k + 1) y0 y1 y2 y3 y4 y5)) ∧ (∀ y0 y1 y2 y3 y4 y5, LeO (spec_l20Fill.l0 k y0 y1 y2 y3 y4 y5) (spec_l20Fill.l0 (k + 1) y0 y1 y2 y3 y4 y5)) ∧ (∀ y0 y1 y2 y3 y4 y5, LeO (spec_l20Fill.l1 k y0 y1 y2 y3 y4 y5) (spec_l20Fill.l1 (k + 1) y0 y1 y2 y3 y4 y5))
 | 0 => ⟨fun _ _ _ _ _ _ r h => by simp [spec_l20Fill.f] at h, fun _ _ _ _ _ _ r h => by simp [spec_l20Fill.l0] at h, fun _ _ _ _ _ _ r h => by simp [spec_l20Fill.l1] at h⟩
 | k + 1 => by
  obtain ⟨ih0, ih1, ih2⟩ := spec_l20Fill.mono_l k
  refine ⟨?_, ?_, ?_⟩
  ·intro y0 y1 y2 y3 y4 y5
   unfold spec_l20Fill.f
   repeat' first
   | (with_reducible exact ih0 _ _ _ _ _ _)
   | (with_reducible exact ih1 _ _ _ _ _ _)
   | (with_reducible exact ih2 _ _ _ _ _ _)
   | (with_reducible exact spec_l20Rd_pick.mono _ _ _ _)
   | (with_reducible exact LeO.refl _)
   | (with_reducible exact LeO.none _)
   | (with_reducible refine LeO.ite ?_ ?_)
   | (with_reducible refine LeO.bind ?_ (fun _ => ?_))
   | refine LeO.ite ?_ ?_
   | refine LeO.bind ?_ (fun _ => ?_)
  ·intro y0 y1 y2 y3 y4 y5
   unfold spec_l20Fill.l0
   repeat' first
   | (with_reducible exact ih0 _ _ _ _ _ _)
   | (with_reducible exact ih1 _ _ _ _ _ _)
   | (with_reducible exact ih2 _ _ _ _ _ _)
   | (with_reducible exact spec_l20Rd_pick.mono _ _ _ _)
   | (with_reducible exact LeO.refl _)
   | (with_reducible exact LeO.none _)
   | (with_reducible refine LeO.ite ?_ ?_)
   | (with_reducible refine LeO.bind ?_ (fun _ => ?_))
   | refine LeO.ite ?_ ?_
   | refine LeO.bind ?_ (fun _ => ?_)
  ·intro y0 y1 y2 y3 y4 y5
   unfold spec_l20Fill.l1
   repeat' first
   | (with_reducible exact ih0 _ _ _ _ _ _)
   | (with_reducible exact ih1 _ _ _ _ _ _)
   | (with_reducible exact ih2 _ _ _ _ _ _)
   | (with_reducible exact spec_l20Rd_pick.mono _ _ _ _)
   | (with_reducible exact LeO.refl _)
   | (with_reducible exact LeO.none _)
   | (with_reducible refine LeO.ite ?_ ?_)
   | (with_reducible refine LeO.bind ?_ (fun _ => ?_))
   | refine LeO.ite ?_ ?_
   | refine LeO.bind ?_ (fun _ => ?_)
theorem spec_l20Fill.mono : ∀ a0 a1 a2 a3 a4 a5 k, LeO (spec_l20Fill.f k a0 a1 a2 a3 a4 a5) (spec_l20Fill.f (k + 1) a0 a1 a2 a3 a4 a5) := by
 intro a0 a1 a2 a3 a4 a5 k
 obtain ⟨ih0, ih1, ih2⟩ := spec_l20Fill.mono_l k
 exact ih0 a0 a1 a2 a3 a4 a5
set_option maxHeartbeats 8000000 in
set_option maxRecDepth 100000 in
theorem spec_l20Fill.calls (k : Nat) : ∀ (g : Nat) (s0_0 : List Int) (s0_1 : Int) (P1_ : Nat → Prop) (u9000_ : Value) (l1 : List Int) (a2 : Int) (a3 : Int) (a4 : Int) (r1 : Int) (r2 : List Int) (w0 w : World) (hI : IsS73 w0 w g s0_0 s0_1) (hB : Below w0.heap.size w0 w) (ho1 : Kd.R (Kd.int .i64) 3 w w0.heap.size P1_ u9000_ l1) (h : spec_l20Fill.f k s0_0 s0_1 l1 a2 a3 a4 = some (r1, r2)),
  Calls Tryd.prog 63 #[.pointer (some ⟨g, 0, none⟩), u9000_, .int .i64 a2, .int .i64 a3, .int .i64 a4] w fun e w' => e = .returned (.tuple #[]) ∧ IsS73 w0 w' g s0_0 r1 ∧ Kd.R (Kd.int .i64) 3 w' w0.heap.size (fun k_ => (P1_ k_ ∨ w.heap.size ≤ k_)) u9000_ r2 ∧ Below w0.heap.size w0 w' ∧ Kept w w' (fun k_ => (P1_ k_) ∨ k_ = g) := by
 induction k using Nat.strongRecOn with
 | _ k ih =>
 intro g s0_0 s0_1 P1_ u9000_ l1 a2 a3 a4 r1 r2 w0 w hI hB ho1 h
 cases k with
 | zero => exact absurd h (by simp [spec_l20Fill.f])
 | succ k =>
 simp only [spec_l20Fill.f] at h
 have HO1:=zM (show Kd.R (Kd.int .i64) 3 w w0.heap.size (fun k_ => (P1_ k_ ∨ w.heap.size ≤ k_)) u9000_ l1 from Kd.R_mono ho1 (fun k_ hk => (.inl hk)))
 have HI0:=zM hI
 have HL:=zM hB.size
 clear hI
 have HK:=zM (Kept.refl w (fun k_ => (P1_ k_) ∨ k_ = g))
 have HW0:=zM hB.size
 have HB:=zM hB
 clear hB
 have H : (if a2 > a3 then (some (s0_1, l1)) else ((spec_l20Rd_pick.f k s0_0 s0_1 (wrap64 ((wrap64 (a3 - a2)) + 1))).bind fun bt296 => (if 0 ≤ (wrap64 ((wrap64 (a2 + bt296.1)) - 1)) then (if (wrap64 ((wrap64 (a2 + bt296.1)) - 1)) < (l1.length : Int) then (spec_l20Fill.l0 k (l1.set ((wrap64 ((wrap64 (a2 + bt296.1)) - 1)) : Int).toNat a4) a3 (wrap64 (a2 + bt296.1)) a2 s0_0 bt296.2) else (none)) else (none)))) = some (r1, r2) := h
 clear h
 by_cases c6 : a2 > a3
 ·rw [if_pos c6] at H
  have c6b0 : decide (a3 < a2) = true := decide_eq_true c6
  clear c6
  simp only [Option.some.injEq, Prod.mk.injEq] at H
  obtain ⟨rfl, rfl⟩ := H
  go_enter Tryd.func63, Tryd.ntmps63
  go_wp2
  first | go_end0 | ((try simp only [Exit.inBlock, Exit.then]); refine bodyPost_ret (results_none rfl _ _ _) rfl ?_)
  exact ⟨by first | rfl | (simp [errW_none, errW_some] <;> rfl) | (simp [*, errW_none, errW_some] <;> rfl), (q7 HI0.out), by (with_reducible repeat (first | apply Kd.R_alloc | apply Kd.R_drewN | apply Kd.R_drew)); exact HO1.out, (q9 HB.out HI0.out), (q13 HK.out)⟩
 ·rw [if_neg c6] at H
  have c6b0 : decide (a3 < a2) = false := decide_eq_false c6
  clear c6
  obtain ⟨⟨t296, t297⟩, A7, H⟩ := zb H; try dsimp only at H
  obtain ⟨ji8, hji8⟩ : ∃ j_ : Int, (wrap64 ((wrap64 (a2 + t296)) - 1)) = j_ := ⟨_, rfl⟩
  replace H : (if 0 ≤ (ji8) then (if (ji8) < (l1.length : Int) then (spec_l20Fill.l0 k (l1.set ((ji8) : Int).toNat a4) a3 (wrap64 (a2 + t296)) a2 s0_0 t297) else (none)) else (none)) = some (r1, r2) := by first | (rw [hji8] at H; exact H) | (simp only [hji8] at H ⊢; exact H)
  (try rw [hji8] at A7)
  have hji8w : (IntKind.i64.wrap ((wrap64 (a2 + t296)) - 1)) = ji8 := (i64_w _).trans hji8
  by_cases c9 : 0 ≤ (ji8)
  ·rw [if_pos c9] at H
   have c9b0 : decide (0 ≤ (ji8)) = true := decide_eq_true c9
   clear c9
   by_cases c10 : (ji8) < (l1.length : Int)
   ·rw [if_pos c10] at H
    have c10b0 : decide ((ji8) < (l1.length : Int)) = true := decide_eq_true c10
    clear c10
    obtain ⟨y298, hy298⟩ : ∃ y_ : List Int, y_ = (l1.set ((ji8) : Int).toNat a4) := ⟨_, rfl⟩
    replace H : (spec_l20Fill.l0 k y298 a3 (wrap64 (a2 + t296)) a2 s0_0 t297) = some (r1, r2) := by first | (rw [hy298]; with_reducible exact H) | (have H2_ := (Option.bind_some _ _).symm.trans H; rw [hy298]; with_reducible exact H2_) | (have H2_ := (Option.bind_some _ _).symm.trans H; with_reducible exact H2_) | with_reducible exact H | (rw [hy298]; exact H) | exact H
    have Ny298:=zM hy298
    clear hy298
    have H':=zM H
    clear H
    go_enter Tryd.func63, Tryd.ntmps63
    go_wp2_with (first | (refine zg 43 (some 23) Tryd.func43 #[.pointer (some ⟨g, 0, none⟩), .int .i64 (wrap64 ((wrap64 (a3 - a2)) + 1))] ?_; (with_reducible refine (spec_l20Rd_pick.calls k g s0_0 s0_1 (wrap64 ((wrap64 (a3 - a2)) + 1)) t296 t297 w0 _ ?side1 ?side2 A7.out).mono ?_); (case side1 => exact (q7 HI0.out)); (case side2 => exact (q9 HB.out HI0.out)); rintro e w12 ⟨rfl, hi, hb, hk⟩; refine ⟨_, rfl, ?_⟩; replace HO1:=zM (Kd.R_mono (Kd.R_keep (IsS73.apart (show IsS73 w0 _ g s0_0 s0_1 from (q7 HI0.out)) (q3 HO1.out) (by decide)) hk (fun _ h => h.2)) (fun _ h => h.1)); replace HK:=zM (Kept.of_keep (S := (fun k_ => (P1_ k_) ∨ k_ = g)) (q13 HK.out) hk (.inl (.inr rfl))); replace HB:=zM (hb); replace HI0:=zM (hi); (try clear hb); (try clear hb2); (try clear hk); (try clear hi); have p11 : 0 ≤ ((ji8) : Int) := of_decide_eq_true (by first | (with_reducible assumption) | assumption); have q11 : ((ji8) : Int) < ((l1.length : Int) : Int) := of_decide_eq_true (by first | (with_reducible assumption) | assumption); obtain ⟨go11, co11, eo11, gb11, gl11, cl11, HG11⟩ := Kd.R_form HO1.out (by omega); (first | cases eo11 | (injection eo11 with ea_ en_ ec_; (first | subst ea_ | (injection ea_ with ea_; subst ea_)); subst ec_; clear en_)); have GB11:=zM gb11; have GG11:=zM HG11; clear gb11 gl11 HG11; have HMgo11:=zM (show (P1_ go11 ∨ w.heap.size ≤ go11) from (HO1.out.1 _ rfl)); obtain ⟨hx11_0, hf11_0⟩ := Kd.R_celln 0 HO1.out ((ji8) : Int) p11 q11; replace p11 := eq_true p11; replace q11 := eq_true q11; obtain ⟨hy13_, hz13_⟩ := Kd.R_celln 0 HO1.out ((ji8) : Int) (of_decide_eq_true (by first | (with_reducible assumption) | assumption)) (of_decide_eq_true (by first | (with_reducible assumption) | assumption)); have HP13 := Kd.R_putg HO1.out ((ji8) : Int) a4) | ((with_reducible refine gate_store (t := 3) (p := 29) rfl ?_); refine store_event (t := 3) (p := 29) (v := ?vo_w14) (w1 := (w12.setCell ⟨go11, ((ji8) : Int).toNat, none⟩ (.int .i64 a4))) ?hg ?ho ?hn ?hr ?_; (case ho => rfl); (case hg => rfl); (case hn => rfl); (case hr => first | (go_simp; done) | (go_simp; rfl)); intro w14 hw; have hg : w12.grownBy w14 (some go11) := (by rw [hw]; exact HP13.2); have hp_ : Kd.R (Kd.int .i64) 3 w14 w0.heap.size (fun k_ => (P1_ k_ ∨ w.heap.size ≤ k_)) (.slice (some ⟨go11, 0, none⟩) l1.length co11) y298 := (by rw [hw, Ny298.out]; exact HP13.1); clear HP13; replace HI0:=zM (IsS73.grown (q7 HI0.out) hg (IsS73.own_ne HI0.out HO1.out (by decide))); replace HB:=zM ((by rw [hw]; exact zD (HB.out) GB11.out : Below w0.heap.size w0 w14)); replace HK:=zM (Kept.of_grown (S := (fun k_ => (P1_ k_) ∨ k_ = g)) hg (q13 HK.out) (fun k_ e_ => Or.imp_left Or.inl ((HO1.out.1 k_ e_)))); replace HO1:=zM (hp_); clear hg hw hp_))
    go_loopg [11] k (fun kq v11 w' => ∃ (x1_1 : List Int) (x11_1 : Int) (x1001_1 : Int), v11 = .int .i64 x11_1 ∧ Aside0 (spec_l20Fill.l0 kq x1_1 a3 (wrap64 (a2 + t296)) x11_1 s0_0 x1001_1 = some (r1, r2)) ∧ Aside0 (kq ≤ k) ∧ Aside0 (Kd.R (Kd.int .i64) 3 w' w0.heap.size (fun k_ => (P1_ k_ ∨ w.heap.size ≤ k_)) (.slice (some ⟨go11, 0, none⟩) l1.length co11) x1_1) ∧ Aside0 (IsS73 w0 w' g s0_0 x1001_1) ∧ Aside0 (Kept w w' (fun k_ => (P1_ k_) ∨ k_ = g)) ∧ Aside0 (Below w0.heap.size w0 w'))
    case atStart => exact ⟨(y298), (a2), (t297), (by first | rfl | (simp; done) | (simp [*]; done)), H', ⟨Nat.le_refl _⟩, ⟨by (with_reducible repeat (first | apply Kd.R_alloc | apply Kd.R_drewN | apply Kd.R_drew)); exact HO1.out⟩, ⟨(q7 HI0.out)⟩, ⟨(q13 HK.out)⟩, ⟨(q9 HB.out HI0.out)⟩⟩
    case round =>
     clear H'
     try clear c1
     try clear p1
     try clear q1
     try clear hx1
     try clear p2
     try clear c4
     try clear c6
     try clear c6b0
     try clear p6
     try clear c9
     try clear c9b0
     try clear c10
     try clear c10b0
     try clear p11
     try clear q11
     try clear hx11
     try clear hf11
     try clear hx11_0
     try clear p11
     try clear q11
     obtain ⟨x1_1, x11_1, x1001_1, rfl, HA, HK1, HO_1, HI0, HK, HB⟩ := hrel
     have hl1_1 := (Kd.R_reads' HO_1.out).1
     rw [hl1_1] at HO_1
     (try simp only [hl1_1])
     cases gk with
     | zero => exact absurd HA.out (by simp [spec_l20Fill.l0])
     | succ k1 =>
      have H := HA.out
      clear HA
      simp only [spec_l20Fill.l0] at H
      by_cases c15 : x11_1 < (wrap64 (a2 + t296))
      ·rw [if_pos c15] at H
       have c15b0 : decide (x11_1 < (wrap64 (a2 + t296))) = true := decide_eq_true c15
       clear c15
       obtain ⟨⟨t299, t300⟩, A16, H⟩ := zb H; try dsimp only at H
       obtain ⟨⟨t301, t302⟩, A17, H⟩ := zb H; try dsimp only at H
       have H':=zM H
       clear H
       go_wp2_with (first | (refine zg 43 (some 39) Tryd.func43 #[.pointer (some ⟨g, 0, none⟩), .int .i64 (wrap64 ((wrap64 (a2 + t296)) - x11_1))] ?_; (with_reducible refine (spec_l20Rd_pick.calls k1 g s0_0 x1001_1 (wrap64 ((wrap64 (a2 + t296)) - x11_1)) t299 t300 w0 _ ?side1 ?side2 A16.out).mono ?_); (case side1 => exact (q7 HI0.out)); (case side2 => exact (q9 HB.out HI0.out)); rintro e w18 ⟨rfl, hi, hb, hk⟩; refine ⟨_, rfl, ?_⟩; replace HO_1:=zM (Kd.R_mono (Kd.R_keep (IsS73.apart (show IsS73 w0 _ g s0_0 x1001_1 from (q7 HI0.out)) (q3 HO_1.out) (by decide)) hk (fun _ h => h.2)) (fun _ h => h.1)); replace HK:=zM (Kept.of_keep (S := (fun k_ => (P1_ k_) ∨ k_ = g)) (q13 HK.out) hk (.inl (.inr rfl))); replace HB:=zM (hb); replace HI0:=zM (hi); (try clear hb); (try clear hb2); (try clear hk); (try clear hi)) | (refine zg 63 (some 46) Tryd.func63 #[.pointer (some ⟨g, 0, none⟩), .slice (some ⟨go11, 0, none⟩) x1_1.length co11, .int .i64 x11_1, .int .i64 (wrap64 (x11_1 + t299)), .int .i64 (wrap64 (a2 + t296))] ?_; (with_reducible refine (ih k1 (by have := HK1.out; omega) g s0_0 t300 (fun k_ => some k_ = (.slice (some ⟨go11, 0, none⟩) x1_1.length co11 : Value).ownBlock) (.slice (some ⟨go11, 0, none⟩) x1_1.length co11) x1_1 x11_1 (wrap64 (x11_1 + t299)) (wrap64 (a2 + t296)) t301 t302 w0 _ ?side1 ?side2 ?side3 A17.out).mono ?_); (case side1 => exact (q7 HI0.out)); (case side2 => exact (q9 HB.out HI0.out)); (case side3 => exact Kd.R_tight rfl HO_1.out); rintro e w19 ⟨rfl, hi, hy0, hb, hkp⟩; refine ⟨_, rfl, ?_⟩; replace HI0:=zM (hi); replace HK:=zM (Kept.then_ (S := (fun k_ => (P1_ k_) ∨ k_ = g)) (q13 HK.out) hkp (fun k_ hs_ => Or.elim hs_ (fun hs_ => (fun e_ => Or.imp_left Or.inl ((HO_1.out.1 k_ e_.symm))) hs_) (fun e_ => .inl (.inr e_)))); replace HO_1:=zM (Kd.R_reok rfl hy0 (fun k_ e_ => HO_1.out.1 k_ e_)); replace HB:=zM (hb); (try clear hb); (try clear hkp); (try clear hy0)))
       (try simp only [← hl1_1])
       go_roundg k1
       case measure => have := HK1.out; omega
       case rel => exact ⟨(t302), (wrap64 ((wrap64 (x11_1 + t299)) + 1)), (t301), (by first | rfl | (simp; done) | (simp [*]; done)), H', ⟨by have := HK1.out; omega⟩, ⟨by (try simp only [hl1_1]); (with_reducible repeat (first | apply Kd.R_alloc | apply Kd.R_drewN | apply Kd.R_drew)); exact HO_1.out⟩, ⟨(q7 HI0.out)⟩, ⟨(q13 HK.out)⟩, ⟨(q9 HB.out HI0.out)⟩⟩
      ·rw [if_neg c15] at H
       have c15b0 : decide (x11_1 < (wrap64 (a2 + t296))) = false := decide_eq_false c15
       clear c15
       have H':=zM H
       clear H
       go_wp2
       go_loopg [11] k1 (fun kq v11 w' => ∃ (x1_2 : List Int) (x11_2 : Int) (x1001_2 : Int), v11 = .int .i64 x11_2 ∧ Aside0 (spec_l20Fill.l1 kq x1_2 a3 (wrap64 (a2 + t296)) x11_2 s0_0 x1001_2 = some (r1, r2)) ∧ Aside0 (kq ≤ k1) ∧ Aside0 (Kd.R (Kd.int .i64) 3 w' w0.heap.size (fun k_ => (P1_ k_ ∨ w.heap.size ≤ k_)) (.slice (some ⟨go11, 0, none⟩) x1_1.length co11) x1_2) ∧ Aside0 (IsS73 w0 w' g s0_0 x1001_2) ∧ Aside0 (Kept w w' (fun k_ => (P1_ k_) ∨ k_ = g)) ∧ Aside0 (Below w0.heap.size w0 w'))
       case atStart => exact ⟨(x1_1), (wrap64 ((wrap64 (a2 + t296)) + 1)), (x1001_1), (by first | rfl | (simp; done) | (simp [*]; done)), H', ⟨Nat.le_refl _⟩, ⟨by (try simp only [hl1_1]); (with_reducible repeat (first | apply Kd.R_alloc | apply Kd.R_drewN | apply Kd.R_drew)); exact HO_1.out⟩, ⟨(q7 HI0.out)⟩, ⟨(q13 HK.out)⟩, ⟨(q9 HB.out HI0.out)⟩⟩
       case round =>
        clear H'
        try clear c1
        try clear p1
        try clear q1
        try clear hx1
        try clear p2
        try clear c4
        try clear c6
        try clear c6b0
        try clear p6
        try clear c9
        try clear c9b0
        try clear c10
        try clear c10b0
        try clear p11
        try clear q11
        try clear hx11
        try clear hf11
        try clear c15
        try clear c15b0
        try clear hx11_0
        try clear p1
        try clear p11
        try clear p2
        try clear p6
        try clear q1
        try clear q11
        obtain ⟨x1_2, x11_2, x1001_2, rfl, HA, HK2, HO_1, HI0, HK, HB⟩ := hrel
        have hl1_2 := (Kd.R_reads' HO_1.out).1
        rw [hl1_2] at HO_1
        (try simp only [hl1_2])
        cases gk with
        | zero => exact absurd HA.out (by simp [spec_l20Fill.l1])
        | succ k2 =>
         have H := HA.out
         clear HA
         simp only [spec_l20Fill.l1] at H
         by_cases c20 : x11_2 ≤ a3
         ·rw [if_pos c20] at H
          have c20b0 : decide (x11_2 ≤ a3) = true := decide_eq_true c20
          clear c20
          obtain ⟨⟨t303, t304⟩, A21, H⟩ := zb H; try dsimp only at H
          obtain ⟨⟨t305, t306⟩, A22, H⟩ := zb H; try dsimp only at H
          have H':=zM H
          clear H
          go_wp2_with (first | (refine zg 43 (some 60) Tryd.func43 #[.pointer (some ⟨g, 0, none⟩), .int .i64 (wrap64 ((wrap64 (a3 - x11_2)) + 1))] ?_; (with_reducible refine (spec_l20Rd_pick.calls k2 g s0_0 x1001_2 (wrap64 ((wrap64 (a3 - x11_2)) + 1)) t303 t304 w0 _ ?side1 ?side2 A21.out).mono ?_); (case side1 => exact (q7 HI0.out)); (case side2 => exact (q9 HB.out HI0.out)); rintro e w23 ⟨rfl, hi, hb, hk⟩; refine ⟨_, rfl, ?_⟩; replace HO_1:=zM (Kd.R_mono (Kd.R_keep (IsS73.apart (show IsS73 w0 _ g s0_0 x1001_2 from (q7 HI0.out)) (q3 HO_1.out) (by decide)) hk (fun _ h => h.2)) (fun _ h => h.1)); replace HK:=zM (Kept.of_keep (S := (fun k_ => (P1_ k_) ∨ k_ = g)) (q13 HK.out) hk (.inl (.inr rfl))); replace HB:=zM (hb); replace HI0:=zM (hi); (try clear hb); (try clear hb2); (try clear hk); (try clear hi)) | (refine zg 63 (some 67) Tryd.func63 #[.pointer (some ⟨g, 0, none⟩), .slice (some ⟨go11, 0, none⟩) x1_2.length co11, .int .i64 x11_2, .int .i64 (wrap64 (x11_2 + t303)), .int .i64 (wrap64 (a2 + t296))] ?_; (with_reducible refine (ih k2 (by have := HK1.out; have := HK2.out; omega) g s0_0 t304 (fun k_ => some k_ = (.slice (some ⟨go11, 0, none⟩) x1_2.length co11 : Value).ownBlock) (.slice (some ⟨go11, 0, none⟩) x1_2.length co11) x1_2 x11_2 (wrap64 (x11_2 + t303)) (wrap64 (a2 + t296)) t305 t306 w0 _ ?side1 ?side2 ?side3 A22.out).mono ?_); (case side1 => exact (q7 HI0.out)); (case side2 => exact (q9 HB.out HI0.out)); (case side3 => exact Kd.R_tight rfl HO_1.out); rintro e w24 ⟨rfl, hi, hy0, hb, hkp⟩; refine ⟨_, rfl, ?_⟩; replace HI0:=zM (hi); replace HK:=zM (Kept.then_ (S := (fun k_ => (P1_ k_) ∨ k_ = g)) (q13 HK.out) hkp (fun k_ hs_ => Or.elim hs_ (fun hs_ => (fun e_ => Or.imp_left Or.inl ((HO_1.out.1 k_ e_.symm))) hs_) (fun e_ => .inl (.inr e_)))); replace HO_1:=zM (Kd.R_reok rfl hy0 (fun k_ e_ => HO_1.out.1 k_ e_)); replace HB:=zM (hb); (try clear hb); (try clear hkp); (try clear hy0)))
          (try simp only [← hl1_2])
          go_roundg k2
          case measure => have := HK1.out; have := HK2.out; omega
          case rel => exact ⟨(t306), (wrap64 ((wrap64 (x11_2 + t303)) + 1)), (t305), (by first | rfl | (simp; done) | (simp [*]; done)), H', ⟨by have := HK1.out; have := HK2.out; omega⟩, ⟨by (try simp only [hl1_1]); (try simp only [hl1_2]); (with_reducible repeat (first | apply Kd.R_alloc | apply Kd.R_drewN | apply Kd.R_drew)); exact HO_1.out⟩, ⟨(q7 HI0.out)⟩, ⟨(q13 HK.out)⟩, ⟨(q9 HB.out HI0.out)⟩⟩
         ·rw [if_neg c20] at H
          have c20b0 : decide (x11_2 ≤ a3) = false := decide_eq_false c20
          clear c20
          simp only [Option.some.injEq, Prod.mk.injEq] at H
          obtain ⟨rfl, rfl⟩ := H
          go_wp2
          first | go_end0 | ((try simp only [Exit.inBlock, Exit.then]); refine bodyPost_ret (results_none rfl _ _ _) rfl ?_)
          exact ⟨by first | rfl | (simp [errW_none, errW_some] <;> rfl) | (simp only [← hji8]; first | rfl | (simp [errW_none, errW_some] <;> rfl)) | (simp [*, errW_none, errW_some] <;> rfl), (q7 HI0.out), (by first | exact (q3 HO_1.out) | (simp only [hl1_1, hl1_2]; exact (q3 HO_1.out))), (q9 HB.out HI0.out), (q13 HK.out)⟩
   ·rw [if_neg c10] at H
    exact absurd H (by simp)
  ·rw [if_neg c9] at H
   exact absurd H (by simp)

/-! ### spec_l20Flat: function 54 -/
def spec_l20Flat.f (k : Nat) (s0_0 : List Int) (s0_1 : Int) (a1 : Int) : Option (List Int × Int) := (spec_l20Rd_pick.f k s0_0 s0_1 3).bind fun bt307 => (if bt307.1 = 0 then ((spec_l20Tree.f k s0_0 bt307.2 a1).bind fun bt309 => (some (bt309.1, bt309.2))) else ((spec_l20Rd_pick.f k s0_0 bt307.2 7).bind fun bt313 => (if 0 ≤ (wrap64 (1 + bt313.1)) then (if (wrap64 (1 + bt313.1) : Int).toNat ≤ 35184372088832 then ((spec_l20Fill.f k s0_0 bt313.2 (List.replicate (wrap64 (1 + bt313.1) : Int).toNat 0) 1 (wrap64 (1 + bt313.1)) 0).bind fun bt318 => (some (bt318.2, bt318.1))) else (none)) else (none))))
theorem spec_l20Flat.mono : ∀ a0 a1 a2 k, LeO (spec_l20Flat.f k a0 a1 a2) (spec_l20Flat.f (k + 1) a0 a1 a2) := by
 intro a0 a1 a2 k
 unfold spec_l20Flat.f
 repeat' first
   | (with_reducible exact spec_l20Fill.mono _ _ _ _ _ _ _)
   | (with_reducible exact spec_l20Rd_pick.mono _ _ _ _)
   | (with_reducible exact spec_l20Tree.mono _ _ _ _)
   | (with_reducible exact LeO.refl _)
   | (with_reducible exact LeO.none _)
   | (with_reducible refine LeO.ite ?_ ?_)
   | (with_reducible refine LeO.bind ?_ (fun _ => ?_))
   | refine LeO.ite ?_ ?_
   | refine LeO.bind ?_ (fun _ => ?_)
set_option maxHeartbeats 8000000 in
set_option maxRecDepth 100000 in
theorem spec_l20Flat.calls (k : Nat) (g : Nat) (s0_0 : List Int) (s0_1 : Int) (a1 : Int) (r1 : List Int) (r2 : Int) (w0 w : World) (hI : IsS73 w0 w g s0_0 s0_1) (hB : Below w0.heap.size w0 w) (h : spec_l20Flat.f k s0_0 s0_1 a1 = some (r1, r2)) :
  Calls Tryd.prog 54 #[.pointer (some ⟨g, 0, none⟩), .int .i64 a1] w fun e w' => ∃ v0_ : Value, e = .returned (v0_) ∧ Kd.R (Kd.int .i64) 3 w' w.heap.size (fun _ => True) v0_ r1 ∧ IsS73 w0 w' g s0_0 r2 ∧ Below w0.heap.size w0 w' ∧ KeepBut w w' g none := by
 have HI0:=zM hI
 have HK:=zM (KeepBut.refl w g none)
 have HL:=zM hB.size
 clear hI
 have HW0:=zM hB.size
 have HB:=zM hB
 clear hB
 have H : ((spec_l20Rd_pick.f k s0_0 s0_1 3).bind fun bt307 => (if bt307.1 = 0 then ((spec_l20Tree.f k s0_0 bt307.2 a1).bind fun bt309 => (some (bt309.1, bt309.2))) else ((spec_l20Rd_pick.f k s0_0 bt307.2 7).bind fun bt313 => (if 0 ≤ (wrap64 (1 + bt313.1)) then (if (wrap64 (1 + bt313.1) : Int).toNat ≤ 35184372088832 then ((spec_l20Fill.f k s0_0 bt313.2 (List.replicate (wrap64 (1 + bt313.1) : Int).toNat 0) 1 (wrap64 (1 + bt313.1)) 0).bind fun bt318 => (some (bt318.2, bt318.1))) else (none)) else (none))))) = some (r1, r2) := h
 clear h
 obtain ⟨⟨t307, t308⟩, A3, H⟩ := zb H; try dsimp only at H
 by_cases c4 : t307 = 0
 ·rw [if_pos c4] at H
  have c4b0 : (t307 == 0) = true := beq_iff_eq.mpr c4
  have c4b1 : (t307 != 0) = false := bne_eq_false_iff_eq.mpr c4
  clear c4
  obtain ⟨⟨t309, t312⟩, A5, H⟩ := zb H; try dsimp only at H
  simp only [Option.some.injEq, Prod.mk.injEq] at H
  obtain ⟨rfl, rfl⟩ := H
  go_enter Tryd.func54, Tryd.ntmps54
  go_wp2_with (first | (refine zg 43 (some 8) Tryd.func43 #[.pointer (some ⟨g, 0, none⟩), .int .i64 3] ?_; (with_reducible refine (spec_l20Rd_pick.calls k g s0_0 s0_1 3 t307 t308 w0 _ ?side1 ?side2 A3.out).mono ?_); (case side1 => exact (q7 HI0.out)); (case side2 => exact (q9 HB.out HI0.out)); rintro e w6 ⟨rfl, hi, hb, hk⟩; refine ⟨_, rfl, ?_⟩; replace HK:=zM (KeepBut.trans (q8 HK.out) hk (.inl rfl)); replace HB:=zM (hb); replace HI0:=zM (hi); (try clear hb); (try clear hb2); (try clear hk); (try clear hi)) | (refine zg 50 (some 12) Tryd.func50 #[.pointer (some ⟨g, 0, none⟩), .int .i64 a1] ?_; (with_reducible refine (spec_l20Tree.calls k g s0_0 t308 a1 t309 t312 w0 _ ?side1 ?side2 A5.out).mono ?_); (case side1 => exact (q7 HI0.out)); (case side2 => exact (q9 HB.out HI0.out)); rintro e w7 ⟨v310, rfl, ho0, hi, hb, hk⟩; refine ⟨_, rfl, ?_⟩; have HO311:=zM (Kd.R_lower ho0 (keep_size (w := w) (g := g) (row := none) (q8 HK.out))); replace HK:=zM (KeepBut.trans (q8 HK.out) hk (.inl rfl)); replace HB:=zM (hb); replace HI0:=zM (hi); (try clear hb); (try clear hb2); (try clear hk); (try clear hi); (try clear ho0)))
  go_ret
  exact ⟨_, by first | rfl | (simp [errW_none, errW_some] <;> rfl) | (simp [*, errW_none, errW_some] <;> rfl), by (with_reducible repeat (first | apply Kd.R_alloc | apply Kd.R_drewN | apply Kd.R_drew)); exact HO311.out, (q7 HI0.out), (q9 HB.out HI0.out), (q8 HK.out)⟩
 ·rw [if_neg c4] at H
  have c4b0 : (t307 == 0) = false := beq_eq_false_iff_ne.mpr c4
  have c4b1 : (t307 != 0) = true := bne_iff_ne.mpr c4
  obtain ⟨⟨t313, t314⟩, A8, H⟩ := zb H; try dsimp only at H
  obtain ⟨ji9, hji9⟩ : ∃ j_ : Int, (wrap64 (1 + t313)) = j_ := ⟨_, rfl⟩
  replace H : (if 0 ≤ (ji9) then (if (ji9 : Int).toNat ≤ 35184372088832 then ((spec_l20Fill.f k s0_0 t314 (List.replicate (ji9 : Int).toNat 0) 1 (ji9) 0).bind fun bt318 => (some (bt318.2, bt318.1))) else (none)) else (none)) = some (r1, r2) := by first | (rw [hji9] at H; exact H) | (simp only [hji9] at H ⊢; exact H)
  (try rw [hji9] at A3)
  (try rw [hji9] at A8)
  have hji9w : (IntKind.i64.wrap (1 + t313)) = ji9 := (i64_w _).trans hji9
  by_cases c10 : 0 ≤ (ji9)
  ·rw [if_pos c10] at H
   have c10b0 := eq_true c10
   have c10b1 : decide (0 ≤ (ji9)) = true := decide_eq_true c10
   clear c10
   by_cases c11 : (ji9 : Int).toNat ≤ 35184372088832
   ·rw [if_pos c11] at H
    have c11b0 := eq_true c11
    have c11b1 : decide ((ji9 : Int).toNat ≤ 35184372088832) = true := decide_eq_true c11
    clear c11
    obtain ⟨y315, hy315⟩ : ∃ y_ : List Int, y_ = (List.replicate (ji9 : Int).toNat 0) := ⟨_, rfl⟩
    replace H : ((spec_l20Fill.f k s0_0 t314 y315 1 (ji9) 0).bind fun bt318 => (some (bt318.2, bt318.1))) = some (r1, r2) := by first | (rw [hy315]; with_reducible exact H) | (have H2_ := (Option.bind_some _ _).symm.trans H; rw [hy315]; with_reducible exact H2_) | (have H2_ := (Option.bind_some _ _).symm.trans H; with_reducible exact H2_) | with_reducible exact H | (rw [hy315]; exact H) | exact H
    have Ny315:=zM hy315
    clear hy315
    obtain ⟨⟨t318, t319⟩, A12, H⟩ := zb H; try dsimp only at H
    simp only [Option.some.injEq, Prod.mk.injEq] at H
    obtain ⟨rfl, rfl⟩ := H
    go_enter Tryd.func54, Tryd.ntmps54
    go_wp2_with (first | (refine zg 43 (some 8) Tryd.func43 #[.pointer (some ⟨g, 0, none⟩), .int .i64 3] ?_; (with_reducible refine (spec_l20Rd_pick.calls k g s0_0 s0_1 3 t307 t308 w0 _ ?side1 ?side2 A3.out).mono ?_); (case side1 => exact (q7 HI0.out)); (case side2 => exact (q9 HB.out HI0.out)); rintro e w13 ⟨rfl, hi, hb, hk⟩; refine ⟨_, rfl, ?_⟩; replace HK:=zM (KeepBut.trans (q8 HK.out) hk (.inl rfl)); replace HB:=zM (hb); replace HI0:=zM (hi); (try clear hb); (try clear hb2); (try clear hk); (try clear hi)) | (refine zg 43 (some 14) Tryd.func43 #[.pointer (some ⟨g, 0, none⟩), .int .i64 7] ?_; (with_reducible refine (spec_l20Rd_pick.calls k g s0_0 t308 7 t313 t314 w0 _ ?side1 ?side2 A8.out).mono ?_); (case side1 => exact (q7 HI0.out)); (case side2 => exact (q9 HB.out HI0.out)); rintro e w14 ⟨rfl, hi, hb, hk⟩; refine ⟨_, rfl, ?_⟩; replace HK:=zM (KeepBut.trans (q8 HK.out) hk (.inl rfl)); replace HB:=zM (hb); replace HI0:=zM (hi); (try clear hb); (try clear hb2); (try clear hk); (try clear hi)) | ((with_reducible refine gate_dst (N := 17) rfl ?_); refine Kd.R_make (Kd.int .i64) _ 3 rfl (N := 17) rfl 54 _ _ rfl ji9 rfl rfl Tryd.underlying54 (.int .i64 0) 8 info3 rfl (by decide) (by omega) 0 (ok := fun _ => True) (okp := fun _ => True) rfl (fun _ hk => hk) trivial (of_decide_eq_true (by first | (with_reducible assumption) | assumption)) (Nat.le_trans (Nat.mul_le_mul_right _ (of_decide_eq_true (by first | (with_reducible assumption) | assumption) : ji9.toNat ≤ 35184372088832)) (by omega)) (Below.refl _ _) (Nat.le_refl _) ?_; intro v316 w15 ho16 hb hg_ hnew_; clear hg_ hnew_; (first | rw [← Ny315.out] at ho16 | (simp only [Int.reduceToNat] at ho16; rw [← Ny315.out] at ho16)); have HO317:=zM (Kd.R_lower ho16 (keep_size (w := w) (g := g) (row := none) (q8 HK.out))); replace HK:=zM (KeepBut.trans (q8 HK.out) (KeepBut.of_below hb g none) (.inl rfl)); replace HB:=zM (below_step (q9 HB.out HI0.out) hb); replace HI0:=zM (IsS73.below (q7 HI0.out) hb); clear hb ho16; obtain ⟨Ao17, co17, eo17⟩ := Kd.R_slice HO317.out; subst eo17) | (refine zg 63 (some 21) Tryd.func63 #[.pointer (some ⟨g, 0, none⟩), .slice Ao17 y315.length co17, .int .i64 1, .int .i64 ji9, .int .i64 0] ?_ (hargs := by (try simp only [List.map_toArray, List.map_cons, List.map_nil]); first | done | (simp only [hji9]; rfl) | rfl); (with_reducible refine (spec_l20Fill.calls k g s0_0 t314 (fun k_ => some k_ = (.slice Ao17 y315.length co17 : Value).ownBlock) (.slice Ao17 y315.length co17) y315 1 ji9 0 t318 t319 w0 _ ?side1 ?side2 ?side3 A12.out).mono ?_); (case side1 => exact (q7 HI0.out)); (case side2 => exact (q9 HB.out HI0.out)); (case side3 => exact Kd.R_lower (Kd.R_tight rfl HO317.out) HL.out); rintro e w18 ⟨rfl, hi, hy0, hb, hkp⟩; refine ⟨_, rfl, ?_⟩; have n0_:=zM (hi); have n1_:=zM (Kd.R_reok rfl (Kd.R_raise (d := (Kd.int .i64)) (b := w0.heap.size) (b' := w.heap.size) (fun _ _ _ _ h_ => h_) hy0 (fun k_ e_ => Or.elim (hy0.1 k_ e_) (fun hs_ => (fun e_ => Kd.R_base HO317.out k_ e_.symm) hs_) (fun hn_ => Nat.le_trans (keep_size (w := w) (g := g) (row := none) (q8 HK.out)) hn_))) (fun k_ e_ => HO317.out.1 k_ e_)); have n2_:=zM (Kept.keepG (q8 HK.out) hkp (fun k_ hs_ => Or.elim hs_ (fun hs_ => (fun e_ => .inr (Kd.R_base HO317.out k_ e_.symm)) hs_) (fun e_ => .inl e_))); have n3_:=zM (hb); clear HI0; clear HO317; clear HK; clear HB; have HI0 := n0_; have HO317 := n1_; have HK := n2_; have HB := n3_; clear n0_ n1_ n2_ n3_; (try clear hb); (try clear hkp); (try clear hy0)))
    go_ret
    exact ⟨_, by first | rfl | (simp [errW_none, errW_some] <;> rfl) | (simp only [← hji9]; first | rfl | (simp [errW_none, errW_some] <;> rfl)) | (simp [*, errW_none, errW_some] <;> rfl), by (with_reducible repeat (first | apply Kd.R_alloc | apply Kd.R_drewN | apply Kd.R_drew)); exact HO317.out, (q7 HI0.out), (q9 HB.out HI0.out), (q8 HK.out)⟩
   ·rw [if_neg c11] at H
    exact absurd H (by simp)
  ·rw [if_neg c10] at H
   exact absurd H (by simp)

end Go.Proofs.YtopfhdhdpnenpaaDoor.LH
