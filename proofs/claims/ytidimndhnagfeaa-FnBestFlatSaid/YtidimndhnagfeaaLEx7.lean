/- Printed by a program of this session (wip/lp/lp.py) out of the translation: functions with the same answers as the Go code, and their contracts; no conditions beyond those that each theorem names. -/
import Derived.Test.YtidimndhnagfeaaLEx0
import Derived.Test.YtidimndhnagfeaaLEx6
namespace Go.Proofs.Ytidimndhnagfeaa.LE
open Go.RowKit Go.Proofs.YtidimndhnagfeaaV.PrintWords Go.Proofs.YtidimndhnagfeaaV.PrintLast Go.Proofs.YtidimndhnagfeaaV.PrintMore
attribute [local go_sem] max2_int min2_int max_two min_two max_three min_three max_four min_four   -- for this text's walks alone
set_option linter.unusedVariables false
set_option linter.unusedSimpArgs false

/-! ### impl_rows: function 142 -/
/-! ### impl_flats: function 105 -/
mutual
def impl_rows.l0 : Nat → Int → List (List Int) → Int → Option ((List (List Int)))
  | 0, _, _, _ => none
  | k + 1, x0, x3, x4 => if x4 ≤ x0 then ((impl_rows.f k (wrap64 (x0 - x4))).bind fun t233 => ((impl_flats.f k x4).bind fun t236 => (impl_rows.l1 k x0 x3 x4 t233 t236 (t236.length : Int) 0))) else (some x3)
def impl_rows.l1 : Nat → Int → List (List Int) → Int → List (List Int) → List (List Int) → Int → Int → Option ((List (List Int)))
  | 0, _, _, _, _, _, _, _ => none
  | k + 1, x0, x3, x4, x5, x25, x26, x27 => if x27 < x26 then (if 0 ≤ x27 then (if x27 < (x25.length : Int) then (impl_rows.l2 k x0 x3 x4 x5 (rd_L1 x25 x27) x25 x26 x27 x5 (x5.length : Int) 0) else (none)) else (none)) else (impl_rows.l0 k x0 x3 (wrap64 (x4 + 1)))
def impl_rows.l2 : Nat → Int → List (List Int) → Int → List (List Int) → List Int → List (List Int) → Int → Int → List (List Int) → Int → Int → Option ((List (List Int)))
  | 0, _, _, _, _, _, _, _, _, _, _, _ => none
  | k + 1, x0, x3, x4, x5, x7, x25, x26, x27, x31, x32, x33 => if x33 < x32 then (if 0 ≤ x33 then (if x33 < (x31.length : Int) then ((impl_joined.f k x7 (rd_L1 x31 x33) 0 0).bind fun t241 => (if x3.length < 5864062014805 then (impl_rows.l2 k x0 (x3 ++ [t241]) x4 x5 x7 x25 x26 x27 x31 x32 (wrap64 (x33 + 1))) else (none))) else (none)) else (none)) else (impl_rows.l1 k x0 x3 x4 x5 x25 x26 (wrap64 (x27 + 1)))
def impl_rows.f : Nat → Int → Option ((List (List Int)))
  | 0, _ => none
  | k + 1, a0 => if a0 = 0 then (some (([([] : List Int)] : List (List Int)))) else (impl_rows.l0 k a0 (([] : List (List Int))) 1)
def impl_flats.l0 : Nat → Int → List (List Int) → Int → Int → Option ((List (List Int)))
  | 0, _, _, _, _ => none
  | k + 1, x0, x3, x10, x11 => if x11 < x10 then ((impl_rows.f k x11).bind fun t250 => (impl_flats.l1 k x0 x3 x11 x10 x11 t250 (t250.length : Int) 0)) else (some x3)
def impl_flats.l1 : Nat → Int → List (List Int) → Int → Int → Int → List (List Int) → Int → Int → Option ((List (List Int)))
  | 0, _, _, _, _, _, _, _, _ => none
  | k + 1, x0, x3, x4, x10, x11, x15, x16, x17 => if x17 < x16 then (if 0 ≤ x17 then (if x17 < (x15.length : Int) then ((impl_rows.f k (wrap64 ((wrap64 (x0 - 1)) - x4))).bind fun t254 => (impl_flats.l2 k x0 x3 x4 (rd_L1 x15 x17) x10 x11 x15 x16 x17 t254 (t254.length : Int) 0)) else (none)) else (none)) else (impl_flats.l0 k x0 x3 x10 (wrap64 (x11 + 1)))
def impl_flats.l2 : Nat → Int → List (List Int) → Int → List Int → Int → Int → List (List Int) → Int → Int → List (List Int) → Int → Int → Option ((List (List Int)))
  | 0, _, _, _, _, _, _, _, _, _, _, _, _ => none
  | k + 1, x0, x3, x4, x6, x10, x11, x15, x16, x17, x25, x26, x27 => if x27 < x26 then (if 0 ≤ x27 then (if x27 < (x25.length : Int) then ((impl_joined.f k x6 (rd_L1 x25 x27) 1 (wrap64 (x4 + 1))).bind fun t258 => (if x3.length < 5864062014805 then (impl_flats.l2 k x0 (x3 ++ [t258]) x4 x6 x10 x11 x15 x16 x17 x25 x26 (wrap64 (x27 + 1))) else (none))) else (none)) else (none)) else (impl_flats.l1 k x0 x3 x4 x10 x11 x15 x16 (wrap64 (x17 + 1)))
def impl_flats.f : Nat → Int → Option ((List (List Int)))
  | 0, _ => none
  | k + 1, a0 => impl_flats.l0 k a0 (([] : List (List Int))) a0 0
end
theorem impl_rows.with.mono_l : ∀ k, ((∀ y0, LeO (impl_rows.f k y0) (impl_rows.f (k + 1) y0)) ∧ (∀ y0 y1 y2, LeO (impl_rows.l0 k y0 y1 y2) (impl_rows.l0 (k + 1) y0 y1 y2)) ∧ (∀ y0 y1 y2 y3 y4 y5 y6, LeO (impl_rows.l1 k y0 y1 y2 y3 y4 y5 y6) (impl_rows.l1 (k + 1) y0 y1 y2 y3 y4 y5 y6)) ∧ (∀ y0 y1 y2 y3 y4 y5 y6 y7 y8 y9 y10, LeO (impl_rows.l2 k y0 y1 y2 y3 y4 y5 y6 y7 y8 y9 y10) (impl_rows.l2 (k + 1) y0 y1 y2 y3 y4 y5 y6 y7 y8 y9 y10))) ∧ ((∀ y0, LeO (impl_flats.f k y0) (impl_flats.f (k + 1) y0)) ∧ (∀ y0 y1 y2 y3, LeO (impl_flats.l0 k y0 y1 y2 y3) (impl_flats.l0 (k + 1) y0 y1 y2 y3)) ∧ (∀ y0 y1 y2 y3 y4 y5 y6 y7, LeO (impl_flats.l1 k y0 y1 y2 y3 y4 y5 y6 y7) (impl_flats.l1 (k + 1) y0 y1 y2 y3 y4 y5 y6 y7)) ∧ (∀ y0 y1 y2 y3 y4 y5 y6 y7 y8 y9 y10 y11, LeO (impl_flats.l2 k y0 y1 y2 y3 y4 y5 y6 y7 y8 y9 y10 y11) (impl_flats.l2 (k + 1) y0 y1 y2 y3 y4 y5 y6 y7 y8 y9 y10 y11)))
  | 0 => ⟨⟨fun _ r h => by simp [impl_rows.f] at h, fun _ _ _ r h => by simp [impl_rows.l0] at h, fun _ _ _ _ _ _ _ r h => by simp [impl_rows.l1] at h, fun _ _ _ _ _ _ _ _ _ _ _ r h => by simp [impl_rows.l2] at h⟩, ⟨fun _ r h => by simp [impl_flats.f] at h, fun _ _ _ _ r h => by simp [impl_flats.l0] at h, fun _ _ _ _ _ _ _ _ r h => by simp [impl_flats.l1] at h, fun _ _ _ _ _ _ _ _ _ _ _ _ r h => by simp [impl_flats.l2] at h⟩⟩
  | k + 1 => by
    obtain ⟨⟨ihx0, ihx1, ihx2, ihx3⟩, ⟨ihy0, ihy1, ihy2, ihy3⟩⟩ := impl_rows.with.mono_l k
    refine ⟨?_, ?_⟩
    · refine ⟨?_, ?_, ?_, ?_⟩
      · intro y0
        unfold impl_rows.f
        repeat' first
        | (with_reducible exact ihx0 _)
        | (with_reducible exact ihx1 _ _ _)
        | (with_reducible exact ihx2 _ _ _ _ _ _ _)
        | (with_reducible exact ihx3 _ _ _ _ _ _ _ _ _ _ _)
        | (with_reducible exact ihy0 _)
        | (with_reducible exact impl_joined.mono _ _ _ _ _)
        | (with_reducible exact LeO.refl _)
        | (with_reducible exact LeO.none _)
        | (with_reducible refine LeO.ite ?_ ?_)
        | (with_reducible refine LeO.bind ?_ (fun _ => ?_))
        | exact ihx0 _
        | exact ihx1 _ _ _
        | exact ihx2 _ _ _ _ _ _ _
        | exact ihx3 _ _ _ _ _ _ _ _ _ _ _
        | exact ihy0 _
        | exact impl_joined.mono _ _ _ _ _
        | exact LeO.none _
        | refine LeO.ite ?_ ?_
        | refine LeO.bind ?_ (fun _ => ?_)
      · intro y0 y1 y2
        unfold impl_rows.l0
        repeat' first
        | (with_reducible exact ihx0 _)
        | (with_reducible exact ihx1 _ _ _)
        | (with_reducible exact ihx2 _ _ _ _ _ _ _)
        | (with_reducible exact ihx3 _ _ _ _ _ _ _ _ _ _ _)
        | (with_reducible exact ihy0 _)
        | (with_reducible exact impl_joined.mono _ _ _ _ _)
        | (with_reducible exact LeO.refl _)
        | (with_reducible exact LeO.none _)
        | (with_reducible refine LeO.ite ?_ ?_)
        | (with_reducible refine LeO.bind ?_ (fun _ => ?_))
        | exact ihx0 _
        | exact ihx1 _ _ _
        | exact ihx2 _ _ _ _ _ _ _
        | exact ihx3 _ _ _ _ _ _ _ _ _ _ _
        | exact ihy0 _
        | exact impl_joined.mono _ _ _ _ _
        | exact LeO.none _
        | refine LeO.ite ?_ ?_
        | refine LeO.bind ?_ (fun _ => ?_)
      · intro y0 y1 y2 y3 y4 y5 y6
        unfold impl_rows.l1
        repeat' first
        | (with_reducible exact ihx0 _)
        | (with_reducible exact ihx1 _ _ _)
        | (with_reducible exact ihx2 _ _ _ _ _ _ _)
        | (with_reducible exact ihx3 _ _ _ _ _ _ _ _ _ _ _)
        | (with_reducible exact ihy0 _)
        | (with_reducible exact impl_joined.mono _ _ _ _ _)
        | (with_reducible exact LeO.refl _)
        | (with_reducible exact LeO.none _)
        | (with_reducible refine LeO.ite ?_ ?_)
        | (with_reducible refine LeO.bind ?_ (fun _ => ?_))
        | exact ihx0 _
        | exact ihx1 _ _ _
        | exact ihx2 _ _ _ _ _ _ _
        | exact ihx3 _ _ _ _ _ _ _ _ _ _ _
        | exact ihy0 _
        | exact impl_joined.mono _ _ _ _ _
        | exact LeO.none _
        | refine LeO.ite ?_ ?_
        | refine LeO.bind ?_ (fun _ => ?_)
      · intro y0 y1 y2 y3 y4 y5 y6 y7 y8 y9 y10
        unfold impl_rows.l2
        repeat' first
        | (with_reducible exact ihx0 _)
        | (with_reducible exact ihx1 _ _ _)
        | (with_reducible exact ihx2 _ _ _ _ _ _ _)
        | (with_reducible exact ihx3 _ _ _ _ _ _ _ _ _ _ _)
        | (with_reducible exact ihy0 _)
        | (with_reducible exact impl_joined.mono _ _ _ _ _)
        | (with_reducible exact LeO.refl _)
        | (with_reducible exact LeO.none _)
        | (with_reducible refine LeO.ite ?_ ?_)
        | (with_reducible refine LeO.bind ?_ (fun _ => ?_))
        | exact ihx0 _
        | exact ihx1 _ _ _
        | exact ihx2 _ _ _ _ _ _ _
        | exact ihx3 _ _ _ _ _ _ _ _ _ _ _
        | exact ihy0 _
        | exact impl_joined.mono _ _ _ _ _
        | exact LeO.none _
        | refine LeO.ite ?_ ?_
        | refine LeO.bind ?_ (fun _ => ?_)
    · refine ⟨?_, ?_, ?_, ?_⟩
      · intro y0
        unfold impl_flats.f
        repeat' first
        | (with_reducible exact ihy0 _)
        | (with_reducible exact ihy1 _ _ _ _)
        | (with_reducible exact ihy2 _ _ _ _ _ _ _ _)
        | (with_reducible exact ihy3 _ _ _ _ _ _ _ _ _ _ _ _)
        | (with_reducible exact impl_joined.mono _ _ _ _ _)
        | (with_reducible exact ihx0 _)
        | (with_reducible exact LeO.refl _)
        | (with_reducible exact LeO.none _)
        | (with_reducible refine LeO.ite ?_ ?_)
        | (with_reducible refine LeO.bind ?_ (fun _ => ?_))
        | exact ihy0 _
        | exact ihy1 _ _ _ _
        | exact ihy2 _ _ _ _ _ _ _ _
        | exact ihy3 _ _ _ _ _ _ _ _ _ _ _ _
        | exact impl_joined.mono _ _ _ _ _
        | exact ihx0 _
        | exact LeO.none _
        | refine LeO.ite ?_ ?_
        | refine LeO.bind ?_ (fun _ => ?_)
      · intro y0 y1 y2 y3
        unfold impl_flats.l0
        repeat' first
        | (with_reducible exact ihy0 _)
        | (with_reducible exact ihy1 _ _ _ _)
        | (with_reducible exact ihy2 _ _ _ _ _ _ _ _)
        | (with_reducible exact ihy3 _ _ _ _ _ _ _ _ _ _ _ _)
        | (with_reducible exact impl_joined.mono _ _ _ _ _)
        | (with_reducible exact ihx0 _)
        | (with_reducible exact LeO.refl _)
        | (with_reducible exact LeO.none _)
        | (with_reducible refine LeO.ite ?_ ?_)
        | (with_reducible refine LeO.bind ?_ (fun _ => ?_))
        | exact ihy0 _
        | exact ihy1 _ _ _ _
        | exact ihy2 _ _ _ _ _ _ _ _
        | exact ihy3 _ _ _ _ _ _ _ _ _ _ _ _
        | exact impl_joined.mono _ _ _ _ _
        | exact ihx0 _
        | exact LeO.none _
        | refine LeO.ite ?_ ?_
        | refine LeO.bind ?_ (fun _ => ?_)
      · intro y0 y1 y2 y3 y4 y5 y6 y7
        unfold impl_flats.l1
        repeat' first
        | (with_reducible exact ihy0 _)
        | (with_reducible exact ihy1 _ _ _ _)
        | (with_reducible exact ihy2 _ _ _ _ _ _ _ _)
        | (with_reducible exact ihy3 _ _ _ _ _ _ _ _ _ _ _ _)
        | (with_reducible exact impl_joined.mono _ _ _ _ _)
        | (with_reducible exact ihx0 _)
        | (with_reducible exact LeO.refl _)
        | (with_reducible exact LeO.none _)
        | (with_reducible refine LeO.ite ?_ ?_)
        | (with_reducible refine LeO.bind ?_ (fun _ => ?_))
        | exact ihy0 _
        | exact ihy1 _ _ _ _
        | exact ihy2 _ _ _ _ _ _ _ _
        | exact ihy3 _ _ _ _ _ _ _ _ _ _ _ _
        | exact impl_joined.mono _ _ _ _ _
        | exact ihx0 _
        | exact LeO.none _
        | refine LeO.ite ?_ ?_
        | refine LeO.bind ?_ (fun _ => ?_)
      · intro y0 y1 y2 y3 y4 y5 y6 y7 y8 y9 y10 y11
        unfold impl_flats.l2
        repeat' first
        | (with_reducible exact ihy0 _)
        | (with_reducible exact ihy1 _ _ _ _)
        | (with_reducible exact ihy2 _ _ _ _ _ _ _ _)
        | (with_reducible exact ihy3 _ _ _ _ _ _ _ _ _ _ _ _)
        | (with_reducible exact impl_joined.mono _ _ _ _ _)
        | (with_reducible exact ihx0 _)
        | (with_reducible exact LeO.refl _)
        | (with_reducible exact LeO.none _)
        | (with_reducible refine LeO.ite ?_ ?_)
        | (with_reducible refine LeO.bind ?_ (fun _ => ?_))
        | exact ihy0 _
        | exact ihy1 _ _ _ _
        | exact ihy2 _ _ _ _ _ _ _ _
        | exact ihy3 _ _ _ _ _ _ _ _ _ _ _ _
        | exact impl_joined.mono _ _ _ _ _
        | exact ihx0 _
        | exact LeO.none _
        | refine LeO.ite ?_ ?_
        | refine LeO.bind ?_ (fun _ => ?_)
theorem impl_rows.mono : ∀ a0 k, LeO (impl_rows.f k a0) (impl_rows.f (k + 1) a0) := by
  intro a0 k
  exact (impl_rows.with.mono_l k).1.1 a0
theorem impl_flats.mono : ∀ a0 k, LeO (impl_flats.f k a0) (impl_flats.f (k + 1) a0) := by
  intro a0 k
  exact (impl_rows.with.mono_l k).2.1 a0
set_option maxHeartbeats 8000000 in
set_option maxRecDepth 100000 in
theorem impl_rows.with.calls (k : Nat) : (∀ (a0 : Int) (r : List (List Int)) (w : World) (h : impl_rows.f k a0 = some r),
    Calls Try.prog 142 #[.int .i64 a0] w fun e w' => ∃ v0_ : Value, e = .returned (v0_) ∧ Kd.S (Kd.slice 3 (Kd.int .i64)) 23 w' w.heap.size (fun _ => True) v0_ r ∧ Below w.heap.size w w') ∧ (∀ (a0 : Int) (r : List (List Int)) (w : World) (h : impl_flats.f k a0 = some r),
    Calls Try.prog 105 #[.int .i64 a0] w fun e w' => ∃ v0_ : Value, e = .returned (v0_) ∧ Kd.S (Kd.slice 3 (Kd.int .i64)) 23 w' w.heap.size (fun _ => True) v0_ r ∧ Below w.heap.size w w') := by
  induction k using Nat.strongRecOn with
  | _ k ih =>
  refine ⟨?_, ?_⟩
  ·
    intro a0 r w h
    cases k with
    | zero => exact absurd h (by simp [impl_rows.f])
    | succ k =>
    simp only [impl_rows.f] at h
    have HB := Aside0.mk (Below.refl w.heap.size w)
    have H : (if a0 = 0 then (some (([([] : List Int)] : List (List Int)))) else (impl_rows.l0 k a0 (([] : List (List Int))) 1)) = some r := h
    clear h
    by_cases c2 : a0 = 0
    · rw [if_pos c2] at H
      have c2b0 : (a0 == 0) = true := beq_iff_eq.mpr c2
      have c2b1 : (a0 != 0) = false := bne_eq_false_iff_eq.mpr c2
      clear c2
      obtain ⟨y227, hy227⟩ : ∃ y_ : List (List Int), y_ = (([([] : List Int)] : List (List Int))) := ⟨_, rfl⟩
      replace H : (some y227) = some r := by first | (rw [hy227]; with_reducible exact H) | (have H2_ := (Option.bind_some _ _).symm.trans H; rw [hy227]; with_reducible exact H2_) | (have H2_ := (Option.bind_some _ _).symm.trans H; with_reducible exact H2_) | with_reducible exact H | (rw [hy227]; exact H) | exact H
      have Ny227 := Aside0.mk hy227
      clear hy227
      obtain rfl := Option.some.inj H
      go_enter Try.func142, Try.ntmps142
      go_wp2_with (first | ((with_reducible refine gate_dst (N := 12) rfl ?_); refine Kd.R_lit (Kd.int .i64) _ 3 ?hg (N := 12) ?hd (xs := ([] : List Int)) (inner := []) (ok := fun _ => True) (okp := fun _ => True) ?hr ?hp (fun _ hk => hk) trivial (Below.refl _ _) (Nat.le_refl _) (by simp) ?_; (case hd => rfl); (case hg => rfl); (case hr => first | (go_simp; done) | (go_simp; rfl)); (case hp => exact (Reps.none _ _)); intro vz wz hoz hbz hgz hnewz; clear hgz hnewz; have n0_ := Aside0.mk (Kd.R_lower hoz (below_size (by repeat (first | (with_reducible first | exact HB.out | apply below_alloc | apply pw_below_drewN | apply below_drew1) | exact HB.out)))); have n1_ := Aside0.mk (below_step (by repeat (first | (with_reducible first | exact HB.out | apply below_alloc | apply pw_below_drewN | apply below_drew1) | exact HB.out)) hbz); clear HB; have HOz := n0_; have HB := n1_; clear n0_ n1_ hbz hoz; obtain ⟨Az, cz, ez⟩ := Kd.R_slice HOz.out; simp only [List.length_nil] at ez; subst ez) | ((with_reducible refine gate_dst (N := 13) rfl ?_); refine Kd.S_lits (Kd.slice 3 (Kd.int .i64)) w.heap.size 23 ?hg (N := 13) ?hd (xs := ([([] : List Int)] : List (List Int))) (inner := [.slice Az 0 cz]) (ok := fun _ => True) (fun j _ => j = 0) ?hr (by rfl) ?hp (fun i j k h1 h2 => by omega) (fun _ _ _ => trivial) trivial HB.out HB.out.size (by simp) ?_; (case hd => rfl); (case hg => rfl); (case hr => first | (go_simp; done) | (go_simp; rfl)); (case hp => exact Kd.M_one rfl ⟨_, rfl, HOz.out⟩); intro v228 w3 ho4 hb hg_ hnew_; clear hg_ hnew_; (first | rw [← Ny227.out] at ho4 | (simp only [Int.reduceToNat] at ho4; rw [← Ny227.out] at ho4)); have n0_ := Aside0.mk ho4; have n1_ := Aside0.mk hb; clear HB; have HO229 := n0_; have HB := n1_; clear n0_ n1_; clear hb ho4))
      go_ret
      exact ⟨_, by first | rfl | (simp [errW_none, errW_some] <;> rfl) | (simp [*, errW_none, errW_some] <;> rfl), by (with_reducible repeat (first | apply Kd.S_alloc | apply Kd.S_drewN | apply Kd.S_drew)); exact HO229.out, by repeat (first | (with_reducible first | exact HB.out | apply below_alloc | apply pw_below_drewN | apply below_drew1) | exact HB.out)⟩
    · rw [if_neg c2] at H
      have c2b0 : (a0 == 0) = false := beq_eq_false_iff_ne.mpr c2
      have c2b1 : (a0 != 0) = true := bne_iff_ne.mpr c2
      obtain ⟨y230, hy230⟩ : ∃ y_ : List (List Int), y_ = (([] : List (List Int))) := ⟨_, rfl⟩
      replace H : (impl_rows.l0 k a0 y230 1) = some r := by first | (rw [hy230]; with_reducible exact H) | (have H2_ := (Option.bind_some _ _).symm.trans H; rw [hy230]; with_reducible exact H2_) | (have H2_ := (Option.bind_some _ _).symm.trans H; with_reducible exact H2_) | with_reducible exact H | (rw [hy230]; exact H) | exact H
      have Ny230 := Aside0.mk hy230
      clear hy230
      have H' := Aside0.mk H
      clear H
      go_enter Try.func142, Try.ntmps142
      go_wp2_with (first | ((with_reducible refine gate_dst (N := 14) rfl ?_); refine Kd.S_lit (Kd.slice 3 (Kd.int .i64)) _ 23 ?hg (N := 14) ?hd (xs := ([] : List (List Int))) (inner := []) (ok := fun _ => True) (okp := fun _ => True) ?hr ?hp (fun _ hk => hk) trivial (Below.refl _ _) (Nat.le_refl _) (by simp) ?_; (case hd => rfl); (case hg => rfl); (case hr => first | (go_simp; done) | (go_simp; rfl)); (case hp => exact (Reps.none _ _)); intro v231 w5 ho6 hb hg_ hnew_; clear hg_ hnew_; (first | rw [← Ny230.out] at ho6 | (simp only [Int.reduceToNat] at ho6; rw [← Ny230.out] at ho6)); have n0_ := Aside0.mk (Kd.S_lower ho6 (below_size (by repeat (first | (with_reducible first | exact HB.out | apply below_alloc | apply pw_below_drewN | apply below_drew1) | exact HB.out)))); have n1_ := Aside0.mk (below_step (by repeat (first | (with_reducible first | exact HB.out | apply below_alloc | apply pw_below_drewN | apply below_drew1) | exact HB.out)) hb); clear HB; have HO232 := n0_; have HB := n1_; clear n0_ n1_; clear hb ho6))
      go_loopg [3, 4] k (fun kq v3 v4 w' => ∃ (x3_1 : List (List Int)) (x4_1 : Int), v4 = .int .i64 x4_1 ∧ Aside0 (impl_rows.l0 kq a0 x3_1 x4_1 = some r) ∧ Aside0 (kq ≤ k) ∧ Aside0 (Kd.S (Kd.slice 3 (Kd.int .i64)) 23 w' w.heap.size (fun _ => True) v3 x3_1) ∧ Aside0 (Below w.heap.size w w'))
      case atStart => exact ⟨(y230), (1), (by first | rfl | (simp; done) | (simp [*]; done)), H', ⟨Nat.le_refl _⟩, ⟨by (with_reducible repeat (first | apply Kd.S_alloc | apply Kd.S_drewN | apply Kd.S_drew)); exact HO232.out⟩, ⟨by repeat (first | (with_reducible first | exact HB.out | apply below_alloc | apply pw_below_drewN | apply below_drew1) | exact HB.out)⟩⟩
      case round =>
        clear H'
        try clear c1
        try clear c2
        try clear c2b0
        try clear c2b1
        try clear p2
        obtain ⟨x3_1, x4_1, rfl, HA, HK1, HO_3, HB⟩ := hrel
        cases gk with
        | zero => exact absurd HA.out (by simp [impl_rows.l0])
        | succ k1 =>
          have H := HA.out
          clear HA
          simp only [impl_rows.l0] at H
          by_cases c7 : x4_1 ≤ a0
          · rw [if_pos c7] at H
            have c7b0 : decide (x4_1 ≤ a0) = true := decide_eq_true c7
            clear c7
            replace H := Option.bind_eq_some_iff.mp H
            obtain ⟨t233, A80, H⟩ := H
            replace H : ((impl_flats.f k1 x4_1).bind fun t236 => (impl_rows.l1 k1 a0 x3_1 x4_1 t233 t236 (t236.length : Int) 0)) = some r := H
            have A8 := Aside0.mk A80
            clear A80
            replace H := Option.bind_eq_some_iff.mp H
            obtain ⟨t236, A90, H⟩ := H
            replace H : (impl_rows.l1 k1 a0 x3_1 x4_1 t233 t236 (t236.length : Int) 0) = some r := H
            have A9 := Aside0.mk A90
            clear A90
            have H' := Aside0.mk H
            clear H
            go_wp2_with (first | ((with_reducible refine gate_callee (f := 142) rfl ?_); refine goesL_ (some 23) rfl rfl Try.func142 (by kernel_rfl) rfl #[.int .i64 (wrap64 (a0 - x4_1))] rfl (by (try simp only [List.map_toArray, List.map_cons, List.map_nil]); first | done | rfl | (simp only [List.length_drop, List.length_take]; rfl)) ?_; (with_reducible refine ((ih k1 (by have := HK1.out; omega)).1 (wrap64 (a0 - x4_1)) t233 _ A8.out).mono ?_); rintro e w10 ⟨v234, rfl, ho0, hb⟩; refine ⟨_, rfl, ?_⟩; have n0_ := Aside0.mk (Kd.S_elder' (by (with_reducible repeat (first | apply Kd.S_alloc | apply Kd.S_drewN | apply Kd.S_drew)); exact HO_3.out) (Kd.S_base ho0) hb); have n1_ := Aside0.mk (Kd.S_lower (Kd.S_new' ho0 (Kd.S_lt (by (with_reducible repeat (first | apply Kd.S_alloc | apply Kd.S_drewN | apply Kd.S_drew)); exact HO_3.out))) (below_size (by repeat (first | (with_reducible first | exact HB.out | apply below_alloc | apply pw_below_drewN | apply below_drew1) | exact HB.out)))); have n2_ := Aside0.mk (below_step (by repeat (first | (with_reducible first | exact HB.out | apply below_alloc | apply pw_below_drewN | apply below_drew1) | exact HB.out)) hb); clear HO_3; clear HB; have HO_3 := n0_; have HO235 := n1_; have HB := n2_; clear n0_ n1_ n2_; (try clear hb); (try clear hb2); (try clear hk); (try clear hi); (try clear ho0)) | ((with_reducible refine gate_callee (f := 105) rfl ?_); refine goesL_ (some 25) rfl rfl Try.func105 (by kernel_rfl) rfl #[.int .i64 x4_1] rfl (by (try simp only [List.map_toArray, List.map_cons, List.map_nil]); first | done | rfl | (simp only [List.length_drop, List.length_take]; rfl)) ?_; (with_reducible refine ((ih k1 (by (try have := HK1.out); (try have := HK2.out); (try have := HK3.out); omega)).2 x4_1 t236 _ A9.out).mono ?_); rintro e w11 ⟨v237, rfl, ho0, hb⟩; refine ⟨_, rfl, ?_⟩; have n0_ := Aside0.mk (Kd.S_elder' (by (with_reducible repeat (first | apply Kd.S_alloc | apply Kd.S_drewN | apply Kd.S_drew)); exact HO_3.out) (Kd.S_base ho0) hb); have n1_ := Aside0.mk (Kd.S_elder' (by (with_reducible repeat (first | apply Kd.S_alloc | apply Kd.S_drewN | apply Kd.S_drew)); exact HO235.out) (Kd.S_base ho0) hb); have n2_ := Aside0.mk (Kd.S_lower (Kd.S_new' (Kd.S_new' ho0 (Kd.S_lt (by (with_reducible repeat (first | apply Kd.S_alloc | apply Kd.S_drewN | apply Kd.S_drew)); exact HO_3.out))) (Kd.S_lt (by (with_reducible repeat (first | apply Kd.S_alloc | apply Kd.S_drewN | apply Kd.S_drew)); exact HO235.out))) (below_size (by repeat (first | (with_reducible first | exact HB.out | apply below_alloc | apply pw_below_drewN | apply below_drew1) | exact HB.out)))); have n3_ := Aside0.mk (below_step (by repeat (first | (with_reducible first | exact HB.out | apply below_alloc | apply pw_below_drewN | apply below_drew1) | exact HB.out)) hb); clear HO_3; clear HO235; clear HB; have HO_3 := n0_; have HO235 := n1_; have HO238 := n2_; have HB := n3_; clear n0_ n1_ n2_ n3_; (try clear hb); (try clear hb2); (try clear hk); (try clear hi); (try clear ho0); obtain ⟨Ao12, co12, eo12⟩ := Kd.S_slice HO238.out; subst eo12))
            go_loopg [3, 27] k1 (fun kq v3 v27 w' => ∃ (x3_2 : List (List Int)) (x27_2 : Int), v27 = .int .i64 x27_2 ∧ Aside0 (impl_rows.l1 kq a0 x3_2 x4_1 t233 t236 (t236.length : Int) x27_2 = some r) ∧ Aside0 (kq ≤ k1) ∧ Aside0 (Kd.S (Kd.slice 3 (Kd.int .i64)) 23 w' w.heap.size (fun k_ => some k_ ≠ (v234 : Value).ownBlock ∧ some k_ ≠ ((.slice Ao12 t236.length co12) : Value).ownBlock) v3 x3_2) ∧ Aside0 (Kd.S (Kd.slice 3 (Kd.int .i64)) 23 w' w.heap.size (fun k_ => some k_ ≠ (v3 : Value).ownBlock ∧ some k_ ≠ ((.slice Ao12 t236.length co12) : Value).ownBlock) v234 t233) ∧ Aside0 (Kd.S (Kd.slice 3 (Kd.int .i64)) 23 w' w.heap.size (fun k_ => some k_ ≠ (v3 : Value).ownBlock ∧ some k_ ≠ (v234 : Value).ownBlock) (.slice Ao12 t236.length co12) t236) ∧ Aside0 (Below w.heap.size w w'))
            case atStart => exact ⟨(x3_1), (0), (by first | rfl | (simp; done) | (simp [*]; done)), H', ⟨Nat.le_refl _⟩, ⟨by (with_reducible repeat (first | apply Kd.S_alloc | apply Kd.S_drewN | apply Kd.S_drew)); exact Kd.S_mono HO_3.out (fun _ hk => ⟨hk.1.2, hk.2⟩)⟩, ⟨by (with_reducible repeat (first | apply Kd.S_alloc | apply Kd.S_drewN | apply Kd.S_drew)); exact Kd.S_mono HO235.out (fun _ hk => ⟨hk.1.2, hk.2⟩)⟩, ⟨by (with_reducible repeat (first | apply Kd.S_alloc | apply Kd.S_drewN | apply Kd.S_drew)); exact Kd.S_mono HO238.out (fun _ hk => ⟨hk.1.2, hk.2⟩)⟩, ⟨by repeat (first | (with_reducible first | exact HB.out | apply below_alloc | apply pw_below_drewN | apply below_drew1) | exact HB.out)⟩⟩
            case round =>
              clear H'
              try clear c1
              try clear c2
              try clear c2b0
              try clear c2b1
              try clear p2
              try clear p6
              try clear c7
              try clear c7b0
              try clear c10
              try clear p2
              obtain ⟨x3_2, x27_2, rfl, HA, HK2, HO_3, HO_5, HO_25, HB⟩ := hrel
              cases gk with
              | zero => exact absurd HA.out (by simp [impl_rows.l1])
              | succ k2 =>
                have H := HA.out
                clear HA
                simp only [impl_rows.l1] at H
                by_cases c13 : x27_2 < (t236.length : Int)
                · rw [if_pos c13] at H
                  have c13b0 : decide (x27_2 < (t236.length : Int)) = true := decide_eq_true c13
                  clear c13
                  by_cases c14 : 0 ≤ x27_2
                  · rw [if_pos c14] at H
                    have c14b0 : decide (0 ≤ x27_2) = true := decide_eq_true c14
                    clear c14
                    by_cases c15 : x27_2 < (t236.length : Int)
                    · rw [if_pos c15] at H
                      have c15b0 : decide (x27_2 < (t236.length : Int)) = true := decide_eq_true c15
                      clear c15
                      have H' := Aside0.mk H
                      clear H
                      have p239 : 0 ≤ (x27_2 : Int) := of_decide_eq_true (by first | (with_reducible assumption) | assumption)
                      have q239 : x27_2 < (t236.length : Int) := of_decide_eq_true (by first | (with_reducible assumption) | assumption)
                      obtain ⟨ad239, A239_0, c239_0, e239, hx239_0, hl239_0, hi239_0⟩ := at_L1 (Kd.S_reads' HO_25.out).2.2 x27_2 p239 q239
                      cases e239
                      obtain ⟨ce239, hce239, hMe239, hcc239⟩ := Kd.S_get HO_25.out [] x27_2 p239 (by first | exact q239 | exact of_decide_eq_true (by first | (with_reducible assumption) | assumption) | (have e_ := (Kd.S_reads' HO_25.out).1; omega))
                      obtain ⟨ve239_0, rfl, ge239_0⟩ := hMe239
                      have hv239_0 := hcc239 0 _ rfl
                      rw [Nat.add_zero, show ((Kd.slice 3 (Kd.int .i64))).sz = 1 from rfl, Nat.mul_one] at hv239_0
                      replace hv239_0 := Option.some.inj (hv239_0.symm.trans hx239_0)
                      rw [hv239_0] at ge239_0
                      have HL239_0 := Aside0.mk (show Kd.R (Kd.int .i64) 3 _ _ _ _ (rd_L1 t236 x27_2) from ge239_0)
                      clear hv239_0 ge239_0
                      clear hcc239 hce239
                      have HR239_0 := Aside0.mk hi239_0
                      have HC239_0 := Aside0.mk hl239_0
                      clear hi239_0 hl239_0
                      replace p239 := eq_true p239
                      replace q239 := eq_true q239
                      obtain ⟨Ao16, co16, eo16⟩ := Kd.S_slice HO_5.out
                      subst eo16
                      go_wp2
                      have HZ_ := Aside0.mk (Kd.R_mono (ok' := fun k_ => True ∧ some k_ ≠ (u3 : Value).ownBlock) HL239_0.out (fun k hk => ⟨trivial, by first | exact hk.1 | exact hk.1.1 | exact hk.1.2 | exact hk.1.1.1 | exact hk.1.1.2 | exact hk.2 | exact hk.1.1.1.1⟩))
                      go_loopg [3, 33] k2 (fun kq v3 v33 w' => ∃ (x3_3 : List (List Int)) (x33_3 : Int), v33 = .int .i64 x33_3 ∧ Aside0 (impl_rows.l2 kq a0 x3_3 x4_1 t233 (rd_L1 t236 x27_2) t236 (t236.length : Int) x27_2 t233 (t233.length : Int) x33_3 = some r) ∧ Aside0 (kq ≤ k2) ∧ Aside0 (Kd.S (Kd.slice 3 (Kd.int .i64)) 23 w' w.heap.size (fun k_ => some k_ ≠ ((.slice Ao16 t233.length co16) : Value).ownBlock ∧ some k_ ≠ ((.slice (some ad239) t236.length co12) : Value).ownBlock ∧ some k_ ≠ ((.slice Ao16 t233.length co16) : Value).ownBlock) v3 x3_3) ∧ Aside0 (Kd.S (Kd.slice 3 (Kd.int .i64)) 23 w' w.heap.size (fun k_ => some k_ ≠ (v3 : Value).ownBlock ∧ some k_ ≠ ((.slice (some ad239) t236.length co12) : Value).ownBlock) (.slice Ao16 t233.length co16) t233) ∧ Aside0 (Kd.S (Kd.slice 3 (Kd.int .i64)) 23 w' w.heap.size (fun k_ => some k_ ≠ (v3 : Value).ownBlock ∧ some k_ ≠ ((.slice Ao16 t233.length co16) : Value).ownBlock ∧ some k_ ≠ ((.slice Ao16 t233.length co16) : Value).ownBlock) (.slice (some ad239) t236.length co12) t236) ∧ Aside0 (Kd.S (Kd.slice 3 (Kd.int .i64)) 23 w' w.heap.size (fun k_ => some k_ ≠ (v3 : Value).ownBlock ∧ some k_ ≠ ((.slice (some ad239) t236.length co12) : Value).ownBlock) (.slice Ao16 t233.length co16) t233) ∧ Aside0 (Below w.heap.size w w') ∧ Aside0 (Kd.R (Kd.int .i64) 3 w' w.heap.size (fun k_ => True ∧ some k_ ≠ (v3 : Value).ownBlock) (.slice A239_0 (rd_L1 t236 x27_2).length c239_0) (rd_L1 t236 x27_2)))
                      case atStart => exact ⟨(x3_2), (0), (by first | rfl | (simp; done) | (simp [*]; done)), H', ⟨Nat.le_refl _⟩, ⟨by (with_reducible repeat (first | apply Kd.S_alloc | apply Kd.S_drewN | apply Kd.S_drew)); exact Kd.S_mono HO_3.out (fun _ hk => ⟨hk.1, ⟨hk.2, hk.1⟩⟩)⟩, ⟨by (with_reducible repeat (first | apply Kd.S_alloc | apply Kd.S_drewN | apply Kd.S_drew)); exact HO_5.out⟩, ⟨by (with_reducible repeat (first | apply Kd.S_alloc | apply Kd.S_drewN | apply Kd.S_drew)); exact Kd.S_mono HO_25.out (fun _ hk => ⟨hk.1, ⟨hk.2, hk.2⟩⟩)⟩, ⟨by (with_reducible repeat (first | apply Kd.S_alloc | apply Kd.S_drewN | apply Kd.S_drew)); exact HO_5.out⟩, ⟨by repeat (first | (with_reducible first | exact HB.out | apply below_alloc | apply pw_below_drewN | apply below_drew1) | exact HB.out)⟩, ⟨by (with_reducible repeat (first | apply Kd.R_alloc | apply Kd.R_drewN | apply Kd.R_drew)); exact HZ_.out⟩⟩
                      case round =>
                        clear H'
                        try clear c1
                        try clear c2
                        try clear c2b0
                        try clear c2b1
                        try clear p2
                        try clear q2
                        try clear hx2
                        try clear p6
                        try clear c7
                        try clear c7b0
                        try clear c10
                        try clear c13
                        try clear c13b0
                        try clear c14
                        try clear c14b0
                        try clear c15
                        try clear c15b0
                        try clear hx239_0
                        try clear p2
                        try clear p239
                        try clear p6
                        try clear q239
                        clear HZ_
                        obtain ⟨x3_3, x33_3, rfl, HA, HK3, HO_3, HO_5, HO_25, HO_31, HB, HZ_⟩ := hrel
                        cases gk with
                        | zero => exact absurd HA.out (by simp [impl_rows.l2])
                        | succ k3 =>
                          have H := HA.out
                          clear HA
                          simp only [impl_rows.l2] at H
                          by_cases c17 : x33_3 < (t233.length : Int)
                          · rw [if_pos c17] at H
                            have c17b0 : decide (x33_3 < (t233.length : Int)) = true := decide_eq_true c17
                            clear c17
                            by_cases c18 : 0 ≤ x33_3
                            · rw [if_pos c18] at H
                              have c18b0 : decide (0 ≤ x33_3) = true := decide_eq_true c18
                              clear c18
                              by_cases c19 : x33_3 < (t233.length : Int)
                              · rw [if_pos c19] at H
                                have c19b0 : decide (x33_3 < (t233.length : Int)) = true := decide_eq_true c19
                                clear c19
                                replace H := Option.bind_eq_some_iff.mp H
                                obtain ⟨t241, A200, H⟩ := H
                                replace H : (if x3_3.length < 5864062014805 then (impl_rows.l2 k3 a0 (x3_3 ++ [t241]) x4_1 t233 (rd_L1 t236 x27_2) t236 (t236.length : Int) x27_2 t233 (t233.length : Int) (wrap64 (x33_3 + 1))) else (none)) = some r := H
                                have A20 := Aside0.mk A200
                                clear A200
                                by_cases c21 : x3_3.length < 5864062014805
                                · rw [if_pos c21] at H
                                  have LMc21 := Aside0.mk c21
                                  clear c21
                                  obtain ⟨y244, hy244⟩ : ∃ y_ : List (List Int), y_ = (x3_3 ++ [t241]) := ⟨_, rfl⟩
                                  replace H : (impl_rows.l2 k3 a0 y244 x4_1 t233 (rd_L1 t236 x27_2) t236 (t236.length : Int) x27_2 t233 (t233.length : Int) (wrap64 (x33_3 + 1))) = some r := by first | (rw [hy244]; with_reducible exact H) | (have H2_ := (Option.bind_some _ _).symm.trans H; rw [hy244]; with_reducible exact H2_) | (have H2_ := (Option.bind_some _ _).symm.trans H; with_reducible exact H2_) | with_reducible exact H | (rw [hy244]; exact H) | exact H
                                  have Ny244 := Aside0.mk hy244
                                  clear hy244
                                  have H' := Aside0.mk H
                                  clear H
                                  have p240 : 0 ≤ (x33_3 : Int) := of_decide_eq_true (by first | (with_reducible assumption) | assumption)
                                  have q240 : x33_3 < (t233.length : Int) := of_decide_eq_true (by first | (with_reducible assumption) | assumption)
                                  obtain ⟨ad240, A240_0, c240_0, e240, hx240_0, hl240_0, hi240_0⟩ := at_L1 (Kd.S_reads' HO_31.out).2.2 x33_3 p240 q240
                                  cases e240
                                  obtain ⟨ce240, hce240, hMe240, hcc240⟩ := Kd.S_get HO_31.out [] x33_3 p240 (by first | exact q240 | exact of_decide_eq_true (by first | (with_reducible assumption) | assumption) | (have e_ := (Kd.S_reads' HO_31.out).1; omega))
                                  obtain ⟨ve240_0, rfl, ge240_0⟩ := hMe240
                                  have hv240_0 := hcc240 0 _ rfl
                                  rw [Nat.add_zero, show ((Kd.slice 3 (Kd.int .i64))).sz = 1 from rfl, Nat.mul_one] at hv240_0
                                  replace hv240_0 := Option.some.inj (hv240_0.symm.trans hx240_0)
                                  rw [hv240_0] at ge240_0
                                  have HL240_0 := Aside0.mk (show Kd.R (Kd.int .i64) 3 _ _ _ _ (rd_L1 t233 x33_3) from ge240_0)
                                  clear hv240_0 ge240_0
                                  clear hcc240 hce240
                                  have HR240_0 := Aside0.mk hi240_0
                                  have HC240_0 := Aside0.mk hl240_0
                                  clear hi240_0 hl240_0
                                  replace p240 := eq_true p240
                                  replace q240 := eq_true q240
                                  go_wp2_with (first | ((with_reducible refine gate_callee (f := 143) rfl ?_); refine goesL_ (some 40) rfl rfl Try.func143 (by kernel_rfl) rfl #[.slice A239_0 (rd_L1 t236 x27_2).length c239_0, .slice A240_0 (rd_L1 t233 x33_3).length c240_0, .int .i64 0, .int .i64 0] rfl (by (try simp only [List.map_toArray, List.map_cons, List.map_nil]); first | done | rfl | (simp only [List.length_drop, List.length_take]; rfl)) ?_; (with_reducible refine (impl_joined.calls k3 _ _ (rd_L1 t236 x27_2) _ _ (rd_L1 t233 x33_3) 0 0 t241 _ ?side1 ?side2 ?side3 ?side4 A20.out).mono ?_); (case side1 => repeat (first | exact (Kd.R_reads' HZ_.out).2.2 | (with_reducible refine Kd.C_alloc ?_ _) | (with_reducible refine Kd.C_drewN ?_ _) | (with_reducible refine Kd.C_drew ?_))); (case side2 => exact HC239_0.out); (case side3 => repeat (first | exact (by repeat (first | (with_reducible exact HR240_0.out) | (with_reducible refine Kd.C_alloc ?_ _) | (with_reducible refine Kd.C_drewN ?_ _) | (with_reducible refine Kd.C_drew ?_) | exact HR240_0.out)) | (with_reducible refine Kd.C_alloc ?_ _) | (with_reducible refine Kd.C_drewN ?_ _) | (with_reducible refine Kd.C_drew ?_))); (case side4 => exact HC240_0.out); rintro e w22 ⟨v242, rfl, ho0, hb⟩; refine ⟨_, rfl, ?_⟩; have z_ := Aside0.mk (Kd.R_below (by (with_reducible repeat (first | apply Kd.R_alloc | apply Kd.R_drewN | apply Kd.R_drew)); exact HZ_.out) hb); clear HZ_; have HZ_ := z_; clear z_; have n0_ := Aside0.mk (Kd.S_elder' (by (with_reducible repeat (first | apply Kd.S_alloc | apply Kd.S_drewN | apply Kd.S_drew)); exact HO_3.out) (Kd.R_base ho0) hb); have n1_ := Aside0.mk (Kd.S_elder' (by (with_reducible repeat (first | apply Kd.S_alloc | apply Kd.S_drewN | apply Kd.S_drew)); exact HO_5.out) (Kd.R_base ho0) hb); have n2_ := Aside0.mk (Kd.S_elder' (by (with_reducible repeat (first | apply Kd.S_alloc | apply Kd.S_drewN | apply Kd.S_drew)); exact HO_25.out) (Kd.R_base ho0) hb); have n3_ := Aside0.mk (Kd.S_elder' (by (with_reducible repeat (first | apply Kd.S_alloc | apply Kd.S_drewN | apply Kd.S_drew)); exact HO_31.out) (Kd.R_base ho0) hb); have n4_ := Aside0.mk (Kd.R_elder' (by (with_reducible repeat (first | apply Kd.R_alloc | apply Kd.R_drewN | apply Kd.R_drew)); exact HL240_0.out) (Kd.R_base ho0) hb); have n5_ := Aside0.mk (Kd.R_lower (Kd.R_new' ho0 (Kd.R_lt (by (with_reducible repeat (first | apply Kd.R_alloc | apply Kd.R_drewN | apply Kd.R_drew)); exact HL240_0.out))) (below_size (by repeat (first | (with_reducible first | exact HB.out | apply below_alloc | apply pw_below_drewN | apply below_drew1) | exact HB.out)))); have n6_ := Aside0.mk (Kd.C_below (by repeat (first | (with_reducible exact HR240_0.out) | (with_reducible refine Kd.C_alloc ?_ _) | (with_reducible refine Kd.C_drewN ?_ _) | (with_reducible refine Kd.C_drew ?_) | exact HR240_0.out)) hb); have n7_ := Aside0.mk (below_step (by repeat (first | (with_reducible first | exact HB.out | apply below_alloc | apply pw_below_drewN | apply below_drew1) | exact HB.out)) hb); clear HO_3; clear HO_5; clear HO_25; clear HO_31; clear HL240_0; clear HR240_0; clear HB; have HO_3 := n0_; have HO_5 := n1_; have HO_25 := n2_; have HO_31 := n3_; have HL240_0 := n4_; have HO243 := n5_; have HR240_0 := n6_; have HB := n7_; clear n0_ n1_ n2_ n3_ n4_ n5_ n6_ n7_; (try clear hb); (try clear hb2); (try clear hk); (try clear hi); (try clear ho0); obtain ⟨Ao24, co24, eo24⟩ := Kd.R_slice HO243.out; subst eo24) | ((with_reducible refine gate_builtin (b := .append) (xs := #[.tmp 37, .tmp 41]) rfl ?_); at_builtin; refine Kd.S_append (Kd.slice 3 (Kd.int .i64)) (w0 := w) w.heap.size rfl (.tmp 37) (.tmp 41) 37 23 (.slice none 0 0) 24 rfl Try.underlying37 info23 rfl (by decide) (by omega) u3 x3_3 t241 [.slice Ao24 t241.length co24] (fun k_ => some k_ ≠ (.slice (some ad240) t233.length co16 : Value).ownBlock ∧ some k_ ≠ (.slice (some ad239) t236.length co12 : Value).ownBlock ∧ some k_ ≠ (.slice (some ad240) t233.length co16 : Value).ownBlock) (fun k_ => some k_ = (.slice Ao24 t241.length co24 : Value).ownBlock) rfl rfl ?aP (fun k_ hk_ => ((Kd.R_mono (ok' := fun k_ => ((fun k_ => some k_ ≠ (.slice (some ad240) t233.length co16 : Value).ownBlock ∧ some k_ ≠ (.slice (some ad239) t236.length co12 : Value).ownBlock ∧ some k_ ≠ (.slice (some ad240) t233.length co16 : Value).ownBlock)) k_ ∧ some k_ ≠ (u3 : Value).ownBlock) (Kd.R_apart' (Kd.R_apart' (Kd.R_apart' (Kd.R_apart' (HO243.out) (Kd.S_typed HO_5.out) (by decide)) (Kd.S_typed HO_25.out) (by decide)) (Kd.S_typed HO_31.out) (by decide)) (Kd.S_typed HO_3.out) (by decide)) (fun k_ hk => ⟨⟨hk.1.1.1.2, ⟨hk.1.1.2, hk.1.2⟩⟩, hk.2⟩))).1 k_ hk_.symm) ?aF ?aO ?aB ?aS ?aL ?_; (case aP => exact Kd.M_row (Kd.R_mono (Kd.R_tight rfl (Kd.R_mono (ok' := fun k_ => ((fun k_ => some k_ ≠ (.slice (some ad240) t233.length co16 : Value).ownBlock ∧ some k_ ≠ (.slice (some ad239) t236.length co12 : Value).ownBlock ∧ some k_ ≠ (.slice (some ad240) t233.length co16 : Value).ownBlock)) k_ ∧ some k_ ≠ (u3 : Value).ownBlock) (Kd.R_apart' (Kd.R_apart' (Kd.R_apart' (Kd.R_apart' (HO243.out) (Kd.S_typed HO_5.out) (by decide)) (Kd.S_typed HO_25.out) (by decide)) (Kd.S_typed HO_31.out) (by decide)) (Kd.S_typed HO_3.out) (by decide)) (fun k_ hk => ⟨⟨hk.1.1.1.2, ⟨hk.1.1.2, hk.1.2⟩⟩, hk.2⟩))) (fun _ h_ => h_))); (case aB => exact (by repeat (first | (with_reducible first | exact HB.out | apply below_alloc | apply pw_below_drewN | apply below_drew1) | exact HB.out))); (case aF => exact (fun k_ hk => ⟨Kd.fresh' (Kd.S_lt (by (with_reducible repeat (first | apply Kd.S_alloc | apply Kd.S_drewN | apply Kd.S_drew)); exact HO_5.out)) k_ hk, Kd.fresh' (Kd.S_lt (by (with_reducible repeat (first | apply Kd.S_alloc | apply Kd.S_drewN | apply Kd.S_drew)); exact HO_25.out)) k_ hk, Kd.fresh' (Kd.S_lt (by (with_reducible repeat (first | apply Kd.S_alloc | apply Kd.S_drewN | apply Kd.S_drew)); exact HO_31.out)) k_ hk⟩)); (case aO => exact (by (with_reducible repeat (first | apply Kd.S_alloc | apply Kd.S_drewN | apply Kd.S_drew)); exact Kd.S_mono HO_3.out (fun k_ hk => ⟨⟨hk.1.1, ⟨hk.1.2.1, hk.1.2.2⟩⟩, fun e_ => hk.2 e_⟩))); (case aS => exact (below_size (by repeat (first | (with_reducible first | exact HB.out | apply below_alloc | apply pw_below_drewN | apply below_drew1) | exact HB.out)))); (case aL => have := LMc21.out; omega); intro v245 w23 ho hb hg hat; have z_ := Aside0.mk (Kd.R_after (ok := fun _ => True) (by (with_reducible repeat (first | apply Kd.R_alloc | apply Kd.R_drewN | apply Kd.R_drew)); exact HZ_.out) hg hat); clear HZ_; have HZ_ := z_; clear z_; rw [← Ny244.out] at ho; have n0_ := Aside0.mk (Kd.S_after (ok := (fun k_ => some k_ ≠ (.slice (some ad239) t236.length co12 : Value).ownBlock ∧ some k_ ≠ (.slice Ao24 t241.length co24 : Value).ownBlock)) (by (with_reducible repeat (first | apply Kd.S_alloc | apply Kd.S_drewN | apply Kd.S_drew)); exact Kd.S_mono HO_5.out (fun _ hk => ⟨⟨hk.1.2, hk.2⟩, hk.1.1⟩)) hg hat); have n1_ := Aside0.mk (Kd.S_after (ok := (fun k_ => some k_ ≠ (.slice (some ad240) t233.length co16 : Value).ownBlock ∧ some k_ ≠ (.slice (some ad240) t233.length co16 : Value).ownBlock ∧ some k_ ≠ (.slice Ao24 t241.length co24 : Value).ownBlock)) (by (with_reducible repeat (first | apply Kd.S_alloc | apply Kd.S_drewN | apply Kd.S_drew)); exact Kd.S_mono HO_25.out (fun _ hk => ⟨⟨hk.1.2.1, ⟨hk.1.2.2, hk.2⟩⟩, hk.1.1⟩)) hg hat); have n2_ := Aside0.mk (Kd.S_after (ok := (fun k_ => some k_ ≠ (.slice (some ad239) t236.length co12 : Value).ownBlock ∧ some k_ ≠ (.slice Ao24 t241.length co24 : Value).ownBlock)) (by (with_reducible repeat (first | apply Kd.S_alloc | apply Kd.S_drewN | apply Kd.S_drew)); exact Kd.S_mono HO_31.out (fun _ hk => ⟨⟨hk.1.2, hk.2⟩, hk.1.1⟩)) hg hat); have n3_ := Aside0.mk (Kd.R_after (ok := (fun k_ => some k_ ≠ (.slice (some ad239) t236.length co12 : Value).ownBlock ∧ some k_ ≠ (.slice (some ad240) t233.length co16 : Value).ownBlock ∧ some k_ ≠ (.slice Ao24 t241.length co24 : Value).ownBlock)) (by (with_reducible repeat (first | apply Kd.R_alloc | apply Kd.R_drewN | apply Kd.R_drew)); exact Kd.R_mono HL240_0.out (fun _ hk => ⟨⟨hk.1.1.2, ⟨hk.1.2, hk.2⟩⟩, hk.1.1.1⟩)) hg hat); have n4_ := Aside0.mk (hb); have n5_ := Aside0.mk (ho); clear HO_5; clear HO_25; clear HO_31; clear HL240_0; clear HB; clear HO_3; clear HO243; have HO_5 := n0_; have HO_25 := n1_; have HO_31 := n2_; have HL240_0 := n3_; have HB := n4_; have HO246 := n5_; clear n0_ n1_ n2_ n3_ n4_ n5_; clear ho hb hg hat))
                                  go_roundg k3
                                  case measure => have := HK1.out; have := HK2.out; have := HK3.out; omega
                                  case rel => exact ⟨(y244), (wrap64 (x33_3 + 1)), (by first | rfl | (simp; done) | (simp [*]; done)), H', ⟨by have := HK1.out; have := HK2.out; have := HK3.out; omega⟩, ⟨by (with_reducible repeat (first | apply Kd.S_alloc | apply Kd.S_drewN | apply Kd.S_drew)); exact HO246.out⟩, ⟨by (with_reducible repeat (first | apply Kd.S_alloc | apply Kd.S_drewN | apply Kd.S_drew)); exact Kd.S_mono HO_5.out (fun _ hk => ⟨hk.2, hk.1.1⟩)⟩, ⟨by (with_reducible repeat (first | apply Kd.S_alloc | apply Kd.S_drewN | apply Kd.S_drew)); exact Kd.S_mono HO_25.out (fun _ hk => ⟨hk.2, ⟨hk.1.1, hk.1.2.1⟩⟩)⟩, ⟨by (with_reducible repeat (first | apply Kd.S_alloc | apply Kd.S_drewN | apply Kd.S_drew)); exact Kd.S_mono HO_31.out (fun _ hk => ⟨hk.2, hk.1.1⟩)⟩, ⟨by repeat (first | (with_reducible first | exact HB.out | apply below_alloc | apply pw_below_drewN | apply below_drew1) | exact HB.out)⟩, ⟨by (with_reducible repeat (first | apply Kd.R_alloc | apply Kd.R_drewN | apply Kd.R_drew)); exact HZ_.out⟩⟩
                                · rw [if_neg c21] at H
                                  exact absurd H (by simp)
                              · rw [if_neg c19] at H
                                exact absurd H (by simp)
                            · rw [if_neg c18] at H
                              exact absurd H (by simp)
                          · rw [if_neg c17] at H
                            have c17b0 : decide (x33_3 < (t233.length : Int)) = false := decide_eq_false c17
                            clear c17
                            have H' := Aside0.mk H
                            clear H
                            go_wp2
                            go_roundg k3
                            case measure => have := HK1.out; have := HK2.out; have := HK3.out; omega
                            case rel => exact ⟨(x3_3), (wrap64 (x27_2 + 1)), (by first | rfl | (simp; done) | (simp [*]; done)), H', ⟨by have := HK1.out; have := HK2.out; have := HK3.out; omega⟩, ⟨by (with_reducible repeat (first | apply Kd.S_alloc | apply Kd.S_drewN | apply Kd.S_drew)); exact Kd.S_mono HO_3.out (fun _ hk => ⟨hk.1, hk.2.1⟩)⟩, ⟨by (with_reducible repeat (first | apply Kd.S_alloc | apply Kd.S_drewN | apply Kd.S_drew)); exact HO_5.out⟩, ⟨by (with_reducible repeat (first | apply Kd.S_alloc | apply Kd.S_drewN | apply Kd.S_drew)); exact Kd.S_mono HO_25.out (fun _ hk => ⟨hk.1, hk.2.1⟩)⟩, ⟨by repeat (first | (with_reducible first | exact HB.out | apply below_alloc | apply pw_below_drewN | apply below_drew1) | exact HB.out)⟩⟩
                    · rw [if_neg c15] at H
                      exact absurd H (by simp)
                  · rw [if_neg c14] at H
                    exact absurd H (by simp)
                · rw [if_neg c13] at H
                  have c13b0 : decide (x27_2 < (t236.length : Int)) = false := decide_eq_false c13
                  clear c13
                  have H' := Aside0.mk H
                  clear H
                  go_wp2
                  go_roundg k2
                  case measure => have := HK1.out; have := HK2.out; omega
                  case rel => exact ⟨(x3_2), (wrap64 (x4_1 + 1)), (by first | rfl | (simp; done) | (simp [*]; done)), H', ⟨by have := HK1.out; have := HK2.out; omega⟩, ⟨by (with_reducible repeat (first | apply Kd.S_alloc | apply Kd.S_drewN | apply Kd.S_drew)); exact Kd.S_mono HO_3.out (fun _ hk => trivial)⟩, ⟨by repeat (first | (with_reducible first | exact HB.out | apply below_alloc | apply pw_below_drewN | apply below_drew1) | exact HB.out)⟩⟩
          · rw [if_neg c7] at H
            have c7b0 : decide (x4_1 ≤ a0) = false := decide_eq_false c7
            clear c7
            obtain rfl := Option.some.inj H
            go_wp2
            go_ret
            exact ⟨_, by first | rfl | (simp [errW_none, errW_some] <;> rfl) | (simp [*, errW_none, errW_some] <;> rfl), by (with_reducible repeat (first | apply Kd.S_alloc | apply Kd.S_drewN | apply Kd.S_drew)); exact HO_3.out, by repeat (first | (with_reducible first | exact HB.out | apply below_alloc | apply pw_below_drewN | apply below_drew1) | exact HB.out)⟩
  ·
    intro a0 r w h
    cases k with
    | zero => exact absurd h (by simp [impl_flats.f])
    | succ k =>
    simp only [impl_flats.f] at h
    have HB := Aside0.mk (Below.refl w.heap.size w)
    have H : (impl_flats.l0 k a0 (([] : List (List Int))) a0 0) = some r := h
    clear h
    obtain ⟨y247, hy247⟩ : ∃ y_ : List (List Int), y_ = (([] : List (List Int))) := ⟨_, rfl⟩
    replace H : (impl_flats.l0 k a0 y247 a0 0) = some r := by first | (rw [hy247]; with_reducible exact H) | (have H2_ := (Option.bind_some _ _).symm.trans H; rw [hy247]; with_reducible exact H2_) | (have H2_ := (Option.bind_some _ _).symm.trans H; with_reducible exact H2_) | with_reducible exact H | (rw [hy247]; exact H) | exact H
    have Ny247 := Aside0.mk hy247
    clear hy247
    have H' := Aside0.mk H
    clear H
    go_enter Try.func105, Try.ntmps105
    go_wp2_with (first | ((with_reducible refine gate_dst (N := 9) rfl ?_); refine Kd.S_lit (Kd.slice 3 (Kd.int .i64)) _ 23 ?hg (N := 9) ?hd (xs := ([] : List (List Int))) (inner := []) (ok := fun _ => True) (okp := fun _ => True) ?hr ?hp (fun _ hk => hk) trivial (Below.refl _ _) (Nat.le_refl _) (by simp) ?_; (case hd => rfl); (case hg => rfl); (case hr => first | (go_simp; done) | (go_simp; rfl)); (case hp => exact (Reps.none _ _)); intro v248 w2 ho3 hb hg_ hnew_; clear hg_ hnew_; (first | rw [← Ny247.out] at ho3 | (simp only [Int.reduceToNat] at ho3; rw [← Ny247.out] at ho3)); have n0_ := Aside0.mk (Kd.S_lower ho3 (below_size (by repeat (first | (with_reducible first | exact HB.out | apply below_alloc | apply pw_below_drewN | apply below_drew1) | exact HB.out)))); have n1_ := Aside0.mk (below_step (by repeat (first | (with_reducible first | exact HB.out | apply below_alloc | apply pw_below_drewN | apply below_drew1) | exact HB.out)) hb); clear HB; have HO249 := n0_; have HB := n1_; clear n0_ n1_; clear hb ho3))
    go_loopg [3, 11] k (fun kq v3 v11 w' => ∃ (x3_1 : List (List Int)) (x11_1 : Int), v11 = .int .i64 x11_1 ∧ Aside0 (impl_flats.l0 kq a0 x3_1 a0 x11_1 = some r) ∧ Aside0 (kq ≤ k) ∧ Aside0 (Kd.S (Kd.slice 3 (Kd.int .i64)) 23 w' w.heap.size (fun _ => True) v3 x3_1) ∧ Aside0 (Below w.heap.size w w'))
    case atStart => exact ⟨(y247), (0), (by first | rfl | (simp; done) | (simp [*]; done)), H', ⟨Nat.le_refl _⟩, ⟨by (with_reducible repeat (first | apply Kd.S_alloc | apply Kd.S_drewN | apply Kd.S_drew)); exact HO249.out⟩, ⟨by repeat (first | (with_reducible first | exact HB.out | apply below_alloc | apply pw_below_drewN | apply below_drew1) | exact HB.out)⟩⟩
    case round =>
      clear H'
      try clear c1
      try clear p2
      obtain ⟨x3_1, x11_1, rfl, HA, HK1, HO_3, HB⟩ := hrel
      cases gk with
      | zero => exact absurd HA.out (by simp [impl_flats.l0])
      | succ k1 =>
        have H := HA.out
        clear HA
        simp only [impl_flats.l0] at H
        by_cases c4 : x11_1 < a0
        · rw [if_pos c4] at H
          have c4b0 : decide (x11_1 < a0) = true := decide_eq_true c4
          clear c4
          replace H := Option.bind_eq_some_iff.mp H
          obtain ⟨t250, A50, H⟩ := H
          replace H : (impl_flats.l1 k1 a0 x3_1 x11_1 a0 x11_1 t250 (t250.length : Int) 0) = some r := H
          have A5 := Aside0.mk A50
          clear A50
          have H' := Aside0.mk H
          clear H
          go_wp2_with (first | ((with_reducible refine gate_callee (f := 142) rfl ?_); refine goesL_ (some 15) rfl rfl Try.func142 (by kernel_rfl) rfl #[.int .i64 x11_1] rfl (by (try simp only [List.map_toArray, List.map_cons, List.map_nil]); first | done | rfl | (simp only [List.length_drop, List.length_take]; rfl)) ?_; (with_reducible refine ((ih k1 (by (try have := HK1.out); (try have := HK2.out); (try have := HK3.out); omega)).1 x11_1 t250 _ A5.out).mono ?_); rintro e w6 ⟨v251, rfl, ho0, hb⟩; refine ⟨_, rfl, ?_⟩; have n0_ := Aside0.mk (Kd.S_elder' (by (with_reducible repeat (first | apply Kd.S_alloc | apply Kd.S_drewN | apply Kd.S_drew)); exact HO_3.out) (Kd.S_base ho0) hb); have n1_ := Aside0.mk (Kd.S_lower (Kd.S_new' ho0 (Kd.S_lt (by (with_reducible repeat (first | apply Kd.S_alloc | apply Kd.S_drewN | apply Kd.S_drew)); exact HO_3.out))) (below_size (by repeat (first | (with_reducible first | exact HB.out | apply below_alloc | apply pw_below_drewN | apply below_drew1) | exact HB.out)))); have n2_ := Aside0.mk (below_step (by repeat (first | (with_reducible first | exact HB.out | apply below_alloc | apply pw_below_drewN | apply below_drew1) | exact HB.out)) hb); clear HO_3; clear HB; have HO_3 := n0_; have HO252 := n1_; have HB := n2_; clear n0_ n1_ n2_; (try clear hb); (try clear hb2); (try clear hk); (try clear hi); (try clear ho0); obtain ⟨Ao7, co7, eo7⟩ := Kd.S_slice HO252.out; subst eo7))
          go_loopg [3, 17] k1 (fun kq v3 v17 w' => ∃ (x3_2 : List (List Int)) (x17_2 : Int), v17 = .int .i64 x17_2 ∧ Aside0 (impl_flats.l1 kq a0 x3_2 x11_1 a0 x11_1 t250 (t250.length : Int) x17_2 = some r) ∧ Aside0 (kq ≤ k1) ∧ Aside0 (Kd.S (Kd.slice 3 (Kd.int .i64)) 23 w' w.heap.size (fun k_ => some k_ ≠ ((.slice Ao7 t250.length co7) : Value).ownBlock) v3 x3_2) ∧ Aside0 (Kd.S (Kd.slice 3 (Kd.int .i64)) 23 w' w.heap.size (fun k_ => some k_ ≠ (v3 : Value).ownBlock) (.slice Ao7 t250.length co7) t250) ∧ Aside0 (Below w.heap.size w w'))
          case atStart => exact ⟨(x3_1), (0), (by first | rfl | (simp; done) | (simp [*]; done)), H', ⟨Nat.le_refl _⟩, ⟨by (with_reducible repeat (first | apply Kd.S_alloc | apply Kd.S_drewN | apply Kd.S_drew)); exact Kd.S_mono HO_3.out (fun _ hk => hk.2)⟩, ⟨by (with_reducible repeat (first | apply Kd.S_alloc | apply Kd.S_drewN | apply Kd.S_drew)); exact Kd.S_mono HO252.out (fun _ hk => hk.2)⟩, ⟨by repeat (first | (with_reducible first | exact HB.out | apply below_alloc | apply pw_below_drewN | apply below_drew1) | exact HB.out)⟩⟩
          case round =>
            clear H'
            try clear c1
            try clear p2
            try clear c4
            try clear c4b0
            try clear p2
            obtain ⟨x3_2, x17_2, rfl, HA, HK2, HO_3, HO_15, HB⟩ := hrel
            cases gk with
            | zero => exact absurd HA.out (by simp [impl_flats.l1])
            | succ k2 =>
              have H := HA.out
              clear HA
              simp only [impl_flats.l1] at H
              by_cases c8 : x17_2 < (t250.length : Int)
              · rw [if_pos c8] at H
                have c8b0 : decide (x17_2 < (t250.length : Int)) = true := decide_eq_true c8
                clear c8
                by_cases c9 : 0 ≤ x17_2
                · rw [if_pos c9] at H
                  have c9b0 : decide (0 ≤ x17_2) = true := decide_eq_true c9
                  clear c9
                  by_cases c10 : x17_2 < (t250.length : Int)
                  · rw [if_pos c10] at H
                    have c10b0 : decide (x17_2 < (t250.length : Int)) = true := decide_eq_true c10
                    clear c10
                    replace H := Option.bind_eq_some_iff.mp H
                    obtain ⟨t254, A110, H⟩ := H
                    replace H : (impl_flats.l2 k2 a0 x3_2 x11_1 (rd_L1 t250 x17_2) a0 x11_1 t250 (t250.length : Int) x17_2 t254 (t254.length : Int) 0) = some r := H
                    have A11 := Aside0.mk A110
                    clear A110
                    have H' := Aside0.mk H
                    clear H
                    have p253 : 0 ≤ (x17_2 : Int) := of_decide_eq_true (by first | (with_reducible assumption) | assumption)
                    have q253 : x17_2 < (t250.length : Int) := of_decide_eq_true (by first | (with_reducible assumption) | assumption)
                    obtain ⟨ad253, A253_0, c253_0, e253, hx253_0, hl253_0, hi253_0⟩ := at_L1 (Kd.S_reads' HO_15.out).2.2 x17_2 p253 q253
                    cases e253
                    obtain ⟨ce253, hce253, hMe253, hcc253⟩ := Kd.S_get HO_15.out [] x17_2 p253 (by first | exact q253 | exact of_decide_eq_true (by first | (with_reducible assumption) | assumption) | (have e_ := (Kd.S_reads' HO_15.out).1; omega))
                    obtain ⟨ve253_0, rfl, ge253_0⟩ := hMe253
                    have hv253_0 := hcc253 0 _ rfl
                    rw [Nat.add_zero, show ((Kd.slice 3 (Kd.int .i64))).sz = 1 from rfl, Nat.mul_one] at hv253_0
                    replace hv253_0 := Option.some.inj (hv253_0.symm.trans hx253_0)
                    rw [hv253_0] at ge253_0
                    have HL253_0 := Aside0.mk (show Kd.R (Kd.int .i64) 3 _ _ _ _ (rd_L1 t250 x17_2) from ge253_0)
                    clear hv253_0 ge253_0
                    clear hcc253 hce253
                    have HR253_0 := Aside0.mk hi253_0
                    have HC253_0 := Aside0.mk hl253_0
                    clear hi253_0 hl253_0
                    replace p253 := eq_true p253
                    replace q253 := eq_true q253
                    go_wp2_with (first | ((with_reducible refine gate_callee (f := 142) rfl ?_); refine goesL_ (some 25) rfl rfl Try.func142 (by kernel_rfl) rfl #[.int .i64 (wrap64 ((wrap64 (a0 - 1)) - x11_1))] rfl (by (try simp only [List.map_toArray, List.map_cons, List.map_nil]); first | done | rfl | (simp only [List.length_drop, List.length_take]; rfl)) ?_; (with_reducible refine ((ih k2 (by (try have := HK1.out); (try have := HK2.out); (try have := HK3.out); omega)).1 (wrap64 ((wrap64 (a0 - 1)) - x11_1)) t254 _ A11.out).mono ?_); rintro e w12 ⟨v255, rfl, ho0, hb⟩; refine ⟨_, rfl, ?_⟩; have n0_ := Aside0.mk (Kd.S_elder' (by (with_reducible repeat (first | apply Kd.S_alloc | apply Kd.S_drewN | apply Kd.S_drew)); exact HO_3.out) (Kd.S_base ho0) hb); have n1_ := Aside0.mk (Kd.S_elder' (by (with_reducible repeat (first | apply Kd.S_alloc | apply Kd.S_drewN | apply Kd.S_drew)); exact HO_15.out) (Kd.S_base ho0) hb); have n2_ := Aside0.mk (Kd.R_below (by (with_reducible repeat (first | apply Kd.R_alloc | apply Kd.R_drewN | apply Kd.R_drew)); exact HL253_0.out) hb); have n3_ := Aside0.mk (Kd.S_lower (Kd.S_new' (Kd.S_new' (Kd.S_new' ho0 (Kd.S_lt (by (with_reducible repeat (first | apply Kd.S_alloc | apply Kd.S_drewN | apply Kd.S_drew)); exact HO_3.out))) (Kd.S_lt (by (with_reducible repeat (first | apply Kd.S_alloc | apply Kd.S_drewN | apply Kd.S_drew)); exact HO_15.out))) (Kd.R_lt (by (with_reducible repeat (first | apply Kd.R_alloc | apply Kd.R_drewN | apply Kd.R_drew)); exact HL253_0.out))) (below_size (by repeat (first | (with_reducible first | exact HB.out | apply below_alloc | apply pw_below_drewN | apply below_drew1) | exact HB.out)))); have n4_ := Aside0.mk (Kd.C_below (by repeat (first | (with_reducible exact HR253_0.out) | (with_reducible refine Kd.C_alloc ?_ _) | (with_reducible refine Kd.C_drewN ?_ _) | (with_reducible refine Kd.C_drew ?_) | exact HR253_0.out)) hb); have n5_ := Aside0.mk (below_step (by repeat (first | (with_reducible first | exact HB.out | apply below_alloc | apply pw_below_drewN | apply below_drew1) | exact HB.out)) hb); clear HO_3; clear HO_15; clear HL253_0; clear HR253_0; clear HB; have HO_3 := n0_; have HO_15 := n1_; have HL253_0 := n2_; have HO256 := n3_; have HR253_0 := n4_; have HB := n5_; clear n0_ n1_ n2_ n3_ n4_ n5_; (try clear hb); (try clear hb2); (try clear hk); (try clear hi); (try clear ho0); obtain ⟨Ao13, co13, eo13⟩ := Kd.S_slice HO256.out; subst eo13))
                    have HZ_ := Aside0.mk (Kd.R_mono (ok' := fun k_ => True ∧ some k_ ≠ (u3 : Value).ownBlock) HL253_0.out (fun k hk => ⟨trivial, by first | exact hk.1 | exact hk.1.1 | exact hk.1.2 | exact hk.1.1.1 | exact hk.1.1.2 | exact hk.2 | exact hk.1.1.1.1⟩))
                    go_loopg [3, 27] k2 (fun kq v3 v27 w' => ∃ (x3_3 : List (List Int)) (x27_3 : Int), v27 = .int .i64 x27_3 ∧ Aside0 (impl_flats.l2 kq a0 x3_3 x11_1 (rd_L1 t250 x17_2) a0 x11_1 t250 (t250.length : Int) x17_2 t254 (t254.length : Int) x27_3 = some r) ∧ Aside0 (kq ≤ k2) ∧ Aside0 (Kd.S (Kd.slice 3 (Kd.int .i64)) 23 w' w.heap.size (fun k_ => some k_ ≠ ((.slice (some ad253) t250.length co7) : Value).ownBlock ∧ some k_ ≠ ((.slice Ao13 t254.length co13) : Value).ownBlock) v3 x3_3) ∧ Aside0 (Kd.S (Kd.slice 3 (Kd.int .i64)) 23 w' w.heap.size (fun k_ => some k_ ≠ (v3 : Value).ownBlock ∧ some k_ ≠ ((.slice Ao13 t254.length co13) : Value).ownBlock) (.slice (some ad253) t250.length co7) t250) ∧ Aside0 (Kd.S (Kd.slice 3 (Kd.int .i64)) 23 w' w.heap.size (fun k_ => some k_ ≠ (v3 : Value).ownBlock ∧ some k_ ≠ ((.slice (some ad253) t250.length co7) : Value).ownBlock) (.slice Ao13 t254.length co13) t254) ∧ Aside0 (Below w.heap.size w w') ∧ Aside0 (Kd.R (Kd.int .i64) 3 w' w.heap.size (fun k_ => True ∧ some k_ ≠ (v3 : Value).ownBlock) (.slice A253_0 (rd_L1 t250 x17_2).length c253_0) (rd_L1 t250 x17_2)))
                    case atStart => exact ⟨(x3_2), (0), (by first | rfl | (simp; done) | (simp [*]; done)), H', ⟨Nat.le_refl _⟩, ⟨by (with_reducible repeat (first | apply Kd.S_alloc | apply Kd.S_drewN | apply Kd.S_drew)); exact HO_3.out⟩, ⟨by (with_reducible repeat (first | apply Kd.S_alloc | apply Kd.S_drewN | apply Kd.S_drew)); exact HO_15.out⟩, ⟨by (with_reducible repeat (first | apply Kd.S_alloc | apply Kd.S_drewN | apply Kd.S_drew)); exact Kd.S_mono HO256.out (fun _ hk => ⟨hk.1.1.2, hk.1.2⟩)⟩, ⟨by repeat (first | (with_reducible first | exact HB.out | apply below_alloc | apply pw_below_drewN | apply below_drew1) | exact HB.out)⟩, ⟨by (with_reducible repeat (first | apply Kd.R_alloc | apply Kd.R_drewN | apply Kd.R_drew)); exact HZ_.out⟩⟩
                    case round =>
                      clear H'
                      try clear c1
                      try clear c2
                      try clear p2
                      try clear q2
                      try clear hx2
                      try clear c4
                      try clear c4b0
                      try clear p6
                      try clear c8
                      try clear c8b0
                      try clear c9
                      try clear c9b0
                      try clear c10
                      try clear c10b0
                      try clear hx253_0
                      try clear p2
                      try clear p253
                      try clear q253
                      clear HZ_
                      obtain ⟨x3_3, x27_3, rfl, HA, HK3, HO_3, HO_15, HO_25, HB, HZ_⟩ := hrel
                      cases gk with
                      | zero => exact absurd HA.out (by simp [impl_flats.l2])
                      | succ k3 =>
                        have H := HA.out
                        clear HA
                        simp only [impl_flats.l2] at H
                        by_cases c14 : x27_3 < (t254.length : Int)
                        · rw [if_pos c14] at H
                          have c14b0 : decide (x27_3 < (t254.length : Int)) = true := decide_eq_true c14
                          clear c14
                          by_cases c15 : 0 ≤ x27_3
                          · rw [if_pos c15] at H
                            have c15b0 : decide (0 ≤ x27_3) = true := decide_eq_true c15
                            clear c15
                            by_cases c16 : x27_3 < (t254.length : Int)
                            · rw [if_pos c16] at H
                              have c16b0 : decide (x27_3 < (t254.length : Int)) = true := decide_eq_true c16
                              clear c16
                              replace H := Option.bind_eq_some_iff.mp H
                              obtain ⟨t258, A170, H⟩ := H
                              replace H : (if x3_3.length < 5864062014805 then (impl_flats.l2 k3 a0 (x3_3 ++ [t258]) x11_1 (rd_L1 t250 x17_2) a0 x11_1 t250 (t250.length : Int) x17_2 t254 (t254.length : Int) (wrap64 (x27_3 + 1))) else (none)) = some r := H
                              have A17 := Aside0.mk A170
                              clear A170
                              by_cases c18 : x3_3.length < 5864062014805
                              · rw [if_pos c18] at H
                                have LMc18 := Aside0.mk c18
                                clear c18
                                obtain ⟨y261, hy261⟩ : ∃ y_ : List (List Int), y_ = (x3_3 ++ [t258]) := ⟨_, rfl⟩
                                replace H : (impl_flats.l2 k3 a0 y261 x11_1 (rd_L1 t250 x17_2) a0 x11_1 t250 (t250.length : Int) x17_2 t254 (t254.length : Int) (wrap64 (x27_3 + 1))) = some r := by first | (rw [hy261]; with_reducible exact H) | (have H2_ := (Option.bind_some _ _).symm.trans H; rw [hy261]; with_reducible exact H2_) | (have H2_ := (Option.bind_some _ _).symm.trans H; with_reducible exact H2_) | with_reducible exact H | (rw [hy261]; exact H) | exact H
                                have Ny261 := Aside0.mk hy261
                                clear hy261
                                have H' := Aside0.mk H
                                clear H
                                have p257 : 0 ≤ (x27_3 : Int) := of_decide_eq_true (by first | (with_reducible assumption) | assumption)
                                have q257 : x27_3 < (t254.length : Int) := of_decide_eq_true (by first | (with_reducible assumption) | assumption)
                                obtain ⟨ad257, A257_0, c257_0, e257, hx257_0, hl257_0, hi257_0⟩ := at_L1 (Kd.S_reads' HO_25.out).2.2 x27_3 p257 q257
                                cases e257
                                obtain ⟨ce257, hce257, hMe257, hcc257⟩ := Kd.S_get HO_25.out [] x27_3 p257 (by first | exact q257 | exact of_decide_eq_true (by first | (with_reducible assumption) | assumption) | (have e_ := (Kd.S_reads' HO_25.out).1; omega))
                                obtain ⟨ve257_0, rfl, ge257_0⟩ := hMe257
                                have hv257_0 := hcc257 0 _ rfl
                                rw [Nat.add_zero, show ((Kd.slice 3 (Kd.int .i64))).sz = 1 from rfl, Nat.mul_one] at hv257_0
                                replace hv257_0 := Option.some.inj (hv257_0.symm.trans hx257_0)
                                rw [hv257_0] at ge257_0
                                have HL257_0 := Aside0.mk (show Kd.R (Kd.int .i64) 3 _ _ _ _ (rd_L1 t254 x27_3) from ge257_0)
                                clear hv257_0 ge257_0
                                clear hcc257 hce257
                                have HR257_0 := Aside0.mk hi257_0
                                have HC257_0 := Aside0.mk hl257_0
                                clear hi257_0 hl257_0
                                replace p257 := eq_true p257
                                replace q257 := eq_true q257
                                go_wp2_with (first | ((with_reducible refine gate_callee (f := 143) rfl ?_); refine goesL_ (some 36) rfl rfl Try.func143 (by kernel_rfl) rfl #[.slice A253_0 (rd_L1 t250 x17_2).length c253_0, .slice A257_0 (rd_L1 t254 x27_3).length c257_0, .int .i64 1, .int .i64 (wrap64 (x11_1 + 1))] rfl (by (try simp only [List.map_toArray, List.map_cons, List.map_nil]); first | done | rfl | (simp only [List.length_drop, List.length_take]; rfl)) ?_; (with_reducible refine (impl_joined.calls k3 _ _ (rd_L1 t250 x17_2) _ _ (rd_L1 t254 x27_3) 1 (wrap64 (x11_1 + 1)) t258 _ ?side1 ?side2 ?side3 ?side4 A17.out).mono ?_); (case side1 => repeat (first | exact (Kd.R_reads' HZ_.out).2.2 | (with_reducible refine Kd.C_alloc ?_ _) | (with_reducible refine Kd.C_drewN ?_ _) | (with_reducible refine Kd.C_drew ?_))); (case side2 => exact HC253_0.out); (case side3 => repeat (first | exact (by repeat (first | (with_reducible exact HR257_0.out) | (with_reducible refine Kd.C_alloc ?_ _) | (with_reducible refine Kd.C_drewN ?_ _) | (with_reducible refine Kd.C_drew ?_) | exact HR257_0.out)) | (with_reducible refine Kd.C_alloc ?_ _) | (with_reducible refine Kd.C_drewN ?_ _) | (with_reducible refine Kd.C_drew ?_))); (case side4 => exact HC257_0.out); rintro e w19 ⟨v259, rfl, ho0, hb⟩; refine ⟨_, rfl, ?_⟩; have z_ := Aside0.mk (Kd.R_below (by (with_reducible repeat (first | apply Kd.R_alloc | apply Kd.R_drewN | apply Kd.R_drew)); exact HZ_.out) hb); clear HZ_; have HZ_ := z_; clear z_; have n0_ := Aside0.mk (Kd.S_elder' (by (with_reducible repeat (first | apply Kd.S_alloc | apply Kd.S_drewN | apply Kd.S_drew)); exact HO_3.out) (Kd.R_base ho0) hb); have n1_ := Aside0.mk (Kd.S_elder' (by (with_reducible repeat (first | apply Kd.S_alloc | apply Kd.S_drewN | apply Kd.S_drew)); exact HO_15.out) (Kd.R_base ho0) hb); have n2_ := Aside0.mk (Kd.S_elder' (by (with_reducible repeat (first | apply Kd.S_alloc | apply Kd.S_drewN | apply Kd.S_drew)); exact HO_25.out) (Kd.R_base ho0) hb); have n3_ := Aside0.mk (Kd.R_elder' (by (with_reducible repeat (first | apply Kd.R_alloc | apply Kd.R_drewN | apply Kd.R_drew)); exact HL257_0.out) (Kd.R_base ho0) hb); have n4_ := Aside0.mk (Kd.R_lower (Kd.R_new' ho0 (Kd.R_lt (by (with_reducible repeat (first | apply Kd.R_alloc | apply Kd.R_drewN | apply Kd.R_drew)); exact HL257_0.out))) (below_size (by repeat (first | (with_reducible first | exact HB.out | apply below_alloc | apply pw_below_drewN | apply below_drew1) | exact HB.out)))); have n5_ := Aside0.mk (Kd.C_below (by repeat (first | (with_reducible exact HR257_0.out) | (with_reducible refine Kd.C_alloc ?_ _) | (with_reducible refine Kd.C_drewN ?_ _) | (with_reducible refine Kd.C_drew ?_) | exact HR257_0.out)) hb); have n6_ := Aside0.mk (below_step (by repeat (first | (with_reducible first | exact HB.out | apply below_alloc | apply pw_below_drewN | apply below_drew1) | exact HB.out)) hb); clear HO_3; clear HO_15; clear HO_25; clear HL257_0; clear HR257_0; clear HB; have HO_3 := n0_; have HO_15 := n1_; have HO_25 := n2_; have HL257_0 := n3_; have HO260 := n4_; have HR257_0 := n5_; have HB := n6_; clear n0_ n1_ n2_ n3_ n4_ n5_ n6_; (try clear hb); (try clear hb2); (try clear hk); (try clear hi); (try clear ho0); obtain ⟨Ao21, co21, eo21⟩ := Kd.R_slice HO260.out; subst eo21) | ((with_reducible refine gate_builtin (b := .append) (xs := #[.tmp 31, .tmp 37]) rfl ?_); at_builtin; refine Kd.S_append (Kd.slice 3 (Kd.int .i64)) (w0 := w) w.heap.size rfl (.tmp 31) (.tmp 37) 37 23 (.slice none 0 0) 24 rfl Try.underlying37 info23 rfl (by decide) (by omega) u3 x3_3 t258 [.slice Ao21 t258.length co21] (fun k_ => some k_ ≠ (.slice (some ad253) t250.length co7 : Value).ownBlock ∧ some k_ ≠ (.slice (some ad257) t254.length co13 : Value).ownBlock) (fun k_ => some k_ = (.slice Ao21 t258.length co21 : Value).ownBlock) rfl rfl ?aP (fun k_ hk_ => ((Kd.R_mono (ok' := fun k_ => ((fun k_ => some k_ ≠ (.slice (some ad253) t250.length co7 : Value).ownBlock ∧ some k_ ≠ (.slice (some ad257) t254.length co13 : Value).ownBlock)) k_ ∧ some k_ ≠ (u3 : Value).ownBlock) (Kd.R_apart' (Kd.R_apart' (Kd.R_apart' (HO260.out) (Kd.S_typed HO_15.out) (by decide)) (Kd.S_typed HO_25.out) (by decide)) (Kd.S_typed HO_3.out) (by decide)) (fun k_ hk => ⟨⟨hk.1.1.2, hk.1.2⟩, hk.2⟩))).1 k_ hk_.symm) ?aF ?aO ?aB ?aS ?aL ?_; (case aP => exact Kd.M_row (Kd.R_mono (Kd.R_tight rfl (Kd.R_mono (ok' := fun k_ => ((fun k_ => some k_ ≠ (.slice (some ad253) t250.length co7 : Value).ownBlock ∧ some k_ ≠ (.slice (some ad257) t254.length co13 : Value).ownBlock)) k_ ∧ some k_ ≠ (u3 : Value).ownBlock) (Kd.R_apart' (Kd.R_apart' (Kd.R_apart' (HO260.out) (Kd.S_typed HO_15.out) (by decide)) (Kd.S_typed HO_25.out) (by decide)) (Kd.S_typed HO_3.out) (by decide)) (fun k_ hk => ⟨⟨hk.1.1.2, hk.1.2⟩, hk.2⟩))) (fun _ h_ => h_))); (case aB => exact (by repeat (first | (with_reducible first | exact HB.out | apply below_alloc | apply pw_below_drewN | apply below_drew1) | exact HB.out))); (case aF => exact (fun k_ hk => ⟨Kd.fresh' (Kd.S_lt (by (with_reducible repeat (first | apply Kd.S_alloc | apply Kd.S_drewN | apply Kd.S_drew)); exact HO_15.out)) k_ hk, Kd.fresh' (Kd.S_lt (by (with_reducible repeat (first | apply Kd.S_alloc | apply Kd.S_drewN | apply Kd.S_drew)); exact HO_25.out)) k_ hk⟩)); (case aO => exact (by (with_reducible repeat (first | apply Kd.S_alloc | apply Kd.S_drewN | apply Kd.S_drew)); exact Kd.S_mono HO_3.out (fun k_ hk => ⟨⟨hk.1.1, hk.1.2⟩, fun e_ => hk.2 e_⟩))); (case aS => exact (below_size (by repeat (first | (with_reducible first | exact HB.out | apply below_alloc | apply pw_below_drewN | apply below_drew1) | exact HB.out)))); (case aL => have := LMc18.out; omega); intro v262 w20 ho hb hg hat; have z_ := Aside0.mk (Kd.R_after (ok := fun _ => True) (by (with_reducible repeat (first | apply Kd.R_alloc | apply Kd.R_drewN | apply Kd.R_drew)); exact HZ_.out) hg hat); clear HZ_; have HZ_ := z_; clear z_; rw [← Ny261.out] at ho; have n0_ := Aside0.mk (Kd.S_after (ok := (fun k_ => some k_ ≠ (.slice (some ad257) t254.length co13 : Value).ownBlock ∧ some k_ ≠ (.slice Ao21 t258.length co21 : Value).ownBlock)) (by (with_reducible repeat (first | apply Kd.S_alloc | apply Kd.S_drewN | apply Kd.S_drew)); exact Kd.S_mono HO_15.out (fun _ hk => ⟨⟨hk.1.2, hk.2⟩, hk.1.1⟩)) hg hat); have n1_ := Aside0.mk (Kd.S_after (ok := (fun k_ => some k_ ≠ (.slice (some ad253) t250.length co7 : Value).ownBlock ∧ some k_ ≠ (.slice Ao21 t258.length co21 : Value).ownBlock)) (by (with_reducible repeat (first | apply Kd.S_alloc | apply Kd.S_drewN | apply Kd.S_drew)); exact Kd.S_mono HO_25.out (fun _ hk => ⟨⟨hk.1.2, hk.2⟩, hk.1.1⟩)) hg hat); have n2_ := Aside0.mk (Kd.R_after (ok := (fun k_ => some k_ ≠ (.slice (some ad253) t250.length co7 : Value).ownBlock ∧ some k_ ≠ (.slice (some ad257) t254.length co13 : Value).ownBlock ∧ some k_ ≠ (.slice Ao21 t258.length co21 : Value).ownBlock)) (by (with_reducible repeat (first | apply Kd.R_alloc | apply Kd.R_drewN | apply Kd.R_drew)); exact Kd.R_mono HL257_0.out (fun _ hk => ⟨⟨hk.1.1.2, ⟨hk.1.2, hk.2⟩⟩, hk.1.1.1⟩)) hg hat); have n3_ := Aside0.mk (hb); have n4_ := Aside0.mk (ho); clear HO_15; clear HO_25; clear HL257_0; clear HB; clear HO_3; clear HO260; have HO_15 := n0_; have HO_25 := n1_; have HL257_0 := n2_; have HB := n3_; have HO263 := n4_; clear n0_ n1_ n2_ n3_ n4_; clear ho hb hg hat))
                                go_roundg k3
                                case measure => have := HK1.out; have := HK2.out; have := HK3.out; omega
                                case rel => exact ⟨(y261), (wrap64 (x27_3 + 1)), (by first | rfl | (simp; done) | (simp [*]; done)), H', ⟨by have := HK1.out; have := HK2.out; have := HK3.out; omega⟩, ⟨by (with_reducible repeat (first | apply Kd.S_alloc | apply Kd.S_drewN | apply Kd.S_drew)); exact HO263.out⟩, ⟨by (with_reducible repeat (first | apply Kd.S_alloc | apply Kd.S_drewN | apply Kd.S_drew)); exact Kd.S_mono HO_15.out (fun _ hk => ⟨hk.2, hk.1.1⟩)⟩, ⟨by (with_reducible repeat (first | apply Kd.S_alloc | apply Kd.S_drewN | apply Kd.S_drew)); exact Kd.S_mono HO_25.out (fun _ hk => ⟨hk.2, hk.1.1⟩)⟩, ⟨by repeat (first | (with_reducible first | exact HB.out | apply below_alloc | apply pw_below_drewN | apply below_drew1) | exact HB.out)⟩, ⟨by (with_reducible repeat (first | apply Kd.R_alloc | apply Kd.R_drewN | apply Kd.R_drew)); exact HZ_.out⟩⟩
                              · rw [if_neg c18] at H
                                exact absurd H (by simp)
                            · rw [if_neg c16] at H
                              exact absurd H (by simp)
                          · rw [if_neg c15] at H
                            exact absurd H (by simp)
                        · rw [if_neg c14] at H
                          have c14b0 : decide (x27_3 < (t254.length : Int)) = false := decide_eq_false c14
                          clear c14
                          have H' := Aside0.mk H
                          clear H
                          go_wp2
                          go_roundg k3
                          case measure => have := HK1.out; have := HK2.out; have := HK3.out; omega
                          case rel => exact ⟨(x3_3), (wrap64 (x17_2 + 1)), (by first | rfl | (simp; done) | (simp [*]; done)), H', ⟨by have := HK1.out; have := HK2.out; have := HK3.out; omega⟩, ⟨by (with_reducible repeat (first | apply Kd.S_alloc | apply Kd.S_drewN | apply Kd.S_drew)); exact Kd.S_mono HO_3.out (fun _ hk => hk.1)⟩, ⟨by (with_reducible repeat (first | apply Kd.S_alloc | apply Kd.S_drewN | apply Kd.S_drew)); exact Kd.S_mono HO_15.out (fun _ hk => hk.1)⟩, ⟨by repeat (first | (with_reducible first | exact HB.out | apply below_alloc | apply pw_below_drewN | apply below_drew1) | exact HB.out)⟩⟩
                  · rw [if_neg c10] at H
                    exact absurd H (by simp)
                · rw [if_neg c9] at H
                  exact absurd H (by simp)
              · rw [if_neg c8] at H
                have c8b0 : decide (x17_2 < (t250.length : Int)) = false := decide_eq_false c8
                clear c8
                have H' := Aside0.mk H
                clear H
                go_wp2
                go_roundg k2
                case measure => have := HK1.out; have := HK2.out; omega
                case rel => exact ⟨(x3_2), (wrap64 (x11_1 + 1)), (by first | rfl | (simp; done) | (simp [*]; done)), H', ⟨by have := HK1.out; have := HK2.out; omega⟩, ⟨by (with_reducible repeat (first | apply Kd.S_alloc | apply Kd.S_drewN | apply Kd.S_drew)); exact Kd.S_mono HO_3.out (fun _ hk => trivial)⟩, ⟨by repeat (first | (with_reducible first | exact HB.out | apply below_alloc | apply pw_below_drewN | apply below_drew1) | exact HB.out)⟩⟩
        · rw [if_neg c4] at H
          have c4b0 : decide (x11_1 < a0) = false := decide_eq_false c4
          clear c4
          obtain rfl := Option.some.inj H
          go_wp2
          go_ret
          exact ⟨_, by first | rfl | (simp [errW_none, errW_some] <;> rfl) | (simp [*, errW_none, errW_some] <;> rfl), by (with_reducible repeat (first | apply Kd.S_alloc | apply Kd.S_drewN | apply Kd.S_drew)); exact HO_3.out, by repeat (first | (with_reducible first | exact HB.out | apply below_alloc | apply pw_below_drewN | apply below_drew1) | exact HB.out)⟩
theorem impl_rows.calls (k : Nat) : ∀ (a0 : Int) (r : List (List Int)) (w : World) (h : impl_rows.f k a0 = some r),
    Calls Try.prog 142 #[.int .i64 a0] w fun e w' => ∃ v0_ : Value, e = .returned (v0_) ∧ Kd.S (Kd.slice 3 (Kd.int .i64)) 23 w' w.heap.size (fun _ => True) v0_ r ∧ Below w.heap.size w w' := (impl_rows.with.calls k).1
theorem impl_flats.calls (k : Nat) : ∀ (a0 : Int) (r : List (List Int)) (w : World) (h : impl_flats.f k a0 = some r),
    Calls Try.prog 105 #[.int .i64 a0] w fun e w' => ∃ v0_ : Value, e = .returned (v0_) ∧ Kd.S (Kd.slice 3 (Kd.int .i64)) 23 w' w.heap.size (fun _ => True) v0_ r ∧ Below w.heap.size w w' := (impl_rows.with.calls k).2


/-! ### impl_FlatAt: function 47, told by hand -/
def impl_FlatAt.f (k : Nat) (a0 : Int) (a1 : Int) : Option (List Int × Bool) := if a1 < 0 then (some (([] : List Int), false)) else ((impl_CountFlat.f k a0).bind fun t267 => (if a1 ≥ t267 then (some (([] : List Int), false)) else ((impl_flats.f k a0).bind fun t268 => (if 0 ≤ a1 then (if a1 < (t268.length : Int) then (some (t268.getD a1.toNat [], true)) else (none)) else (none)))))
theorem impl_FlatAt.mono : ∀ a0 a1 k, LeO (impl_FlatAt.f k a0 a1) (impl_FlatAt.f (k + 1) a0 a1) := by
  intro a0 a1 k
  unfold impl_FlatAt.f
  exact LeO.ite (LeO.refl _) (LeO.bind (impl_CountFlat.mono _ _) (fun _ => LeO.ite (LeO.refl _) (LeO.bind (impl_flats.mono _ _) (fun _ => LeO.refl _))))
set_option maxHeartbeats 8000000 in
set_option maxRecDepth 100000 in
theorem impl_FlatAt.calls (k : Nat) (a0 : Int) (a1 : Int) (r1 : List Int) (r2 : Bool) (w : World) (h : impl_FlatAt.f k a0 a1 = some (r1, r2)) :
    Calls Try.prog 47 #[.int .i64 a0, .int .i64 a1] w fun e w' => ∃ v0_ : Value, e = .returned (.tuple #[v0_, .bool r2]) ∧ Kd.R (Kd.int .i64) 3 w' w.heap.size (fun _ => True) v0_ r1 ∧ Below w.heap.size w w' := by
  have HB := Aside0.mk (Below.refl w.heap.size w)
  unfold impl_FlatAt.f at h
  by_cases c3 : a1 < 0
  · rw [if_pos c3] at h
    have c3b0 : decide (a1 < 0) = true := decide_eq_true c3
    clear c3
    simp only [Option.some.injEq, Prod.mk.injEq] at h
    obtain ⟨rfl, rfl⟩ := h
    go_enter Try.func47, Try.ntmps47
    go_wp2
    go_ret2
    exact ⟨_, by first | rfl | (simp; rfl), Kd.R_nil _ _ _ _ _, Below.refl _ _⟩
  · rw [if_neg c3] at h
    have c3b0 : decide (a1 < 0) = false := decide_eq_false c3
    clear c3
    obtain ⟨t, e1, h⟩ := Option.bind_eq_some_iff.mp h
    have E1 := Aside0.mk e1
    clear e1
    by_cases c5 : a1 ≥ t
    · rw [if_pos c5] at h
      have c5b0 : decide (t ≤ a1) = true := decide_eq_true c5
      clear c5
      simp only [Option.some.injEq, Prod.mk.injEq] at h
      obtain ⟨rfl, rfl⟩ := h
      go_enter Try.func47, Try.ntmps47
      go_wp2_with (go_at_call 46; (with_reducible refine (impl_CountFlat.calls k a0 t _ E1.out).mono ?_); rintro e w1 ⟨rfl, ⟨nd, rfl⟩⟩)
      go_ret2
      exact ⟨_, by first | rfl | (simp; rfl), Kd.R_nil _ _ _ _ _, pw_below_drewN (Below.refl _ _) _⟩
    · rw [if_neg c5] at h
      have c5b0 : decide (t ≤ a1) = false := decide_eq_false c5
      clear c5
      obtain ⟨l, e2, h⟩ := Option.bind_eq_some_iff.mp h
      have E2 := Aside0.mk e2
      clear e2
      by_cases c7 : 0 ≤ a1
      · rw [if_pos c7] at h
        by_cases c8 : a1 < (l.length : Int)
        · rw [if_pos c8] at h
          simp only [Option.some.injEq, Prod.mk.injEq] at h
          obtain ⟨h1, rfl⟩ := h
          have N1 := Aside0.mk h1
          have C7 := Aside0.mk c7
          have C8 := Aside0.mk c8
          have p7 : (0 ≤ a1) = True := eq_true c7
          have p8 : (a1 < (l.length : Int)) = True := eq_true c8
          clear h1 c7 c8
          go_enter Try.func47, Try.ntmps47
          go_wp2_with (first
            | (go_at_call 46; (with_reducible refine (impl_CountFlat.calls k a0 t _ E1.out).mono ?_); rintro e w1 ⟨rfl, ⟨nd, rfl⟩⟩)
            | (go_at_call 105; (with_reducible refine (impl_flats.calls k a0 l _ E2.out).mono ?_); rintro e w2 ⟨v, rfl, hs, hb⟩; have hb0 := below_step (pw_below_drewN (Below.refl _ _) _) hb; obtain ⟨g, cap, rfl, _, _, _⟩ := Kd.S_form hs (by have := C7.out; have := C8.out; omega); obtain ⟨oki, cs, hcl, hM, hcc, hfr, hoki, hH⟩ := Kd.S_elem hs [] a1 C7.out C8.out; rw [N1.out] at hM; obtain ⟨vi, rfl, hR⟩ := hM; have hc0 := hcc 0 _ rfl; obtain ⟨Ai, ci, rfl⟩ := Kd.R_slice hR; rw [show (Kd.slice 3 (Kd.int .i64)).sz = 1 from rfl, Nat.mul_one, Nat.add_zero] at hc0; have HR := Aside0.mk hR; have HB0 := Aside0.mk hb0; clear hs hb hb0 hcl hcc hfr hoki hH hR)
            | (go_at_call 95; (with_reducible refine (slices_Clip_int_int.plain _ _ _ _ ?sideC).mono ?_); (case sideC => exact (Kd.R_reads' HR.out).2.1); rintro e w3 ⟨rfl, rfl⟩))
          go_ret2
          exact ⟨_, by first | rfl | (simp; rfl), Kd.R_clip (Kd.R_mono (Kd.R_lower HR.out (by simp)) (fun _ _ => trivial)), HB0.out⟩
        · rw [if_neg c8] at h; cases h
      · rw [if_neg c7] at h; cases h

end Go.Proofs.Ytidimndhnagfeaa.LE
