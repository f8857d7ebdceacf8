/- Printed out of the translation (wip/lp); no conditions beyond those that each theorem names. -/
import Derived.Test.YtidimndhnagfeaaLIx0
import Derived.Test.YtidimndhnagfeaaLIx3
import Derived.Test.YtidimndhnagfeaaLIx4
import Derived.Test.YtidimndhnagfeaaLIx5
import Derived.Test.YtidimndhnagfeaaLIx6
namespace Go.Proofs.Ytidimndhnagfeaa.LI
open Go.RowKit Go.Proofs.YtidimndhnagfeaaV.PrintWords Go.Proofs.YtidimndhnagfeaaV.PrintLast Go.Proofs.YtidimndhnagfeaaV.PrintMore
attribute [local go_sem] max2_int min2_int max_two min_two max_three min_three max_four min_four   -- for this text's walks alone
set_option linter.unusedVariables false
set_option linter.unusedSimpArgs false

/-! ### spec_l20Fill: function 148 -/
mutual
def spec_l20Fill.l0 : Nat → List Int → Int → Int → Int → List Int → Int → Option (Int × List Int)
 | 0, _, _, _, _, _, _ => none
 | k + 1, x1, x3, x10, x11, x1000, x1001 => if x11 < x10 then ((spec_l20Rd_pick.f k x1000 x1001 (wrap64 (x10 - x11))).bind fun bt287 => ((spec_l20Fill.f k x1000 bt287.2 x1 x11 (wrap64 (x11 + bt287.1)) x10).bind fun bt289 => (spec_l20Fill.l0 k bt289.2 x3 x10 (wrap64 ((wrap64 (x11 + bt287.1)) + 1)) x1000 bt289.1))) else (spec_l20Fill.l1 k x1 x3 x10 (wrap64 (x10 + 1)) x1000 x1001)
def spec_l20Fill.l1 : Nat → List Int → Int → Int → Int → List Int → Int → Option (Int × List Int)
 | 0, _, _, _, _, _, _ => none
 | k + 1, x1, x3, x10, x11, x1000, x1001 => if x11 ≤ x3 then ((spec_l20Rd_pick.f k x1000 x1001 (wrap64 ((wrap64 (x3 - x11)) + 1))).bind fun bt291 => ((spec_l20Fill.f k x1000 bt291.2 x1 x11 (wrap64 (x11 + bt291.1)) x10).bind fun bt293 => (spec_l20Fill.l1 k bt293.2 x3 x10 (wrap64 ((wrap64 (x11 + bt291.1)) + 1)) x1000 bt293.1))) else (some (x1001, x1))
def spec_l20Fill.f : Nat → List Int → Int → List Int → Int → Int → Int → Option (Int × List Int)
 | 0, _, _, _, _, _, _ => none
 | k + 1, s0_0, s0_1, l1, a2, a3, a4 => if a2 > a3 then (some (s0_1, l1)) else ((spec_l20Rd_pick.f k s0_0 s0_1 (wrap64 ((wrap64 (a3 - a2)) + 1))).bind fun bt284 => (if 0 ≤ (wrap64 ((wrap64 (a2 + bt284.1)) - 1)) then (if (wrap64 ((wrap64 (a2 + bt284.1)) - 1)) < (l1.length : Int) then (spec_l20Fill.l0 k (l1.set ((wrap64 ((wrap64 (a2 + bt284.1)) - 1)) : Int).toNat a4) a3 (wrap64 (a2 + bt284.1)) a2 s0_0 bt284.2) else (none)) else (none)))
end
theorem spec_l20Fill.mono_l : ∀ k, (∀ y0 y1 y2 y3 y4 y5, LeO (spec_l20Fill.f k y0 y1 y2 y3 y4 y5) (spec_l20Fill.f (k + 1) y0 y1 y2 y3 y4 y5)) ∧ (∀ y0 y1 y2 y3 y4 y5, LeO (spec_l20Fill.l0 k y0 y1 y2 y3 y4 y5) (spec_l20Fill.l0 (k + 1) y0 y1 y2 y3 y4 y5)) ∧ (∀ y0 y1 y2 y3 y4 y5, LeO (spec_l20Fill.l1 k y0 y1 y2 y3 y4 y5) (spec_l20Fill.l1 (k + 1) y0 y1 y2 y3 y4 y5))
 | 0 => ⟨fun _ _ _ _ _ _ r h => by simp [spec_l20Fill.f] at h, fun _ _ _ _ _ _ r h => by simp [spec_l20Fill.l0] at h, fun _ _ _ _ _ _ r h => by simp [spec_l20Fill.l1] at h⟩
 | k + 1 => by
  obtain ⟨ih0, ih1, ih2⟩ := spec_l20Fill.mono_l k
  refine ⟨?_, ?_, ?_⟩
  ·intro y0 y1 y2 y3 y4 y5
   unfold spec_l20Fill.f
   repeat' first
   | (with_reducible exact ih0 _ _ _ _ _ _)
   | (with_reducible exact ih1 _ _ _ _ _ _)
   | (with_reducible exact ih2 _ _ _ _ _ _)
   | (with_reducible exact spec_l20Rd_pick.mono _ _ _ _)
   | (with_reducible exact LeO.refl _)
   | (with_reducible exact LeO.none _)
   | (with_reducible refine LeO.ite ?_ ?_)
   | (with_reducible refine LeO.bind ?_ (fun _ => ?_))
   | refine LeO.ite ?_ ?_
   | refine LeO.bind ?_ (fun _ => ?_)
  ·intro y0 y1 y2 y3 y4 y5
   unfold spec_l20Fill.l0
   repeat' first
   | (with_reducible exact ih0 _ _ _ _ _ _)
   | (with_reducible exact ih1 _ _ _ _ _ _)
   | (with_reducible exact ih2 _ _ _ _ _ _)
   | (with_reducible exact spec_l20Rd_pick.mono _ _ _ _)
   | (with_reducible exact LeO.refl _)
   | (with_reducible exact LeO.none _)
   | (with_reducible refine LeO.ite ?_ ?_)
   | (with_reducible refine LeO.bind ?_ (fun _ => ?_))
   | refine LeO.ite ?_ ?_
   | refine LeO.bind ?_ (fun _ => ?_)
  ·intro y0 y1 y2 y3 y4 y5
   unfold spec_l20Fill.l1
   repeat' first
   | (with_reducible exact ih0 _ _ _ _ _ _)
   | (with_reducible exact ih1 _ _ _ _ _ _)
   | (with_reducible exact ih2 _ _ _ _ _ _)
   | (with_reducible exact spec_l20Rd_pick.mono _ _ _ _)
   | (with_reducible exact LeO.refl _)
   | (with_reducible exact LeO.none _)
   | (with_reducible refine LeO.ite ?_ ?_)
   | (with_reducible refine LeO.bind ?_ (fun _ => ?_))
   | refine LeO.ite ?_ ?_
   | refine LeO.bind ?_ (fun _ => ?_)
theorem spec_l20Fill.mono : ∀ a0 a1 a2 a3 a4 a5 k, LeO (spec_l20Fill.f k a0 a1 a2 a3 a4 a5) (spec_l20Fill.f (k + 1) a0 a1 a2 a3 a4 a5) := by
 intro a0 a1 a2 a3 a4 a5 k
 obtain ⟨ih0, ih1, ih2⟩ := spec_l20Fill.mono_l k
 exact ih0 a0 a1 a2 a3 a4 a5
set_option maxHeartbeats 8000000 in
set_option maxRecDepth 100000 in
theorem spec_l20Fill.calls (k : Nat) : ∀ (g : Nat) (s0_0 : List Int) (s0_1 : Int) (P1_ : Nat → Prop) (u9000_ : Value) (l1 : List Int) (a2 : Int) (a3 : Int) (a4 : Int) (r1 : Int) (r2 : List Int) (w0 w : World) (hI : Z107 w0 w g s0_0 s0_1) (hB : Below w0.heap.size w0 w) (ho1 : Kd.R (Kd.int .i64) 3 w w0.heap.size P1_ u9000_ l1) (h : spec_l20Fill.f k s0_0 s0_1 l1 a2 a3 a4 = some (r1, r2)),
  Calls Try.prog 148 #[.pointer (some ⟨g, 0, none⟩), u9000_, .int .i64 a2, .int .i64 a3, .int .i64 a4] w fun e w' => e = .returned (.tuple #[]) ∧ Z107 w0 w' g s0_0 r1 ∧ Kd.R (Kd.int .i64) 3 w' w0.heap.size (fun k_ => (P1_ k_ ∨ w.heap.size ≤ k_)) u9000_ r2 ∧ Below w0.heap.size w0 w' ∧ Kept w w' (fun k_ => (P1_ k_) ∨ k_ = g) := by
 induction k using Nat.strongRecOn with
 | _ k ih =>
 intro g s0_0 s0_1 P1_ u9000_ l1 a2 a3 a4 r1 r2 w0 w hI hB ho1 h
 cases k with
 | zero => exact absurd h (by simp [spec_l20Fill.f])
 | succ k =>
 simp only [spec_l20Fill.f] at h
 have HO1 := zM (show Kd.R (Kd.int .i64) 3 w w0.heap.size (fun k_ => (P1_ k_ ∨ w.heap.size ≤ k_)) u9000_ l1 from Kd.R_mono ho1 (fun k_ hk => (.inl hk)))
 have HI0 := zM hI
 have HL := zM hB.size
 clear hI
 have HK := zM (Kept.refl w (fun k_ => (P1_ k_) ∨ k_ = g))
 have HW0 := zM hB.size
 have HB := zM hB
 clear hB
 have H : (if a2 > a3 then (some (s0_1, l1)) else ((spec_l20Rd_pick.f k s0_0 s0_1 (wrap64 ((wrap64 (a3 - a2)) + 1))).bind fun bt284 => (if 0 ≤ (wrap64 ((wrap64 (a2 + bt284.1)) - 1)) then (if (wrap64 ((wrap64 (a2 + bt284.1)) - 1)) < (l1.length : Int) then (spec_l20Fill.l0 k (l1.set ((wrap64 ((wrap64 (a2 + bt284.1)) - 1)) : Int).toNat a4) a3 (wrap64 (a2 + bt284.1)) a2 s0_0 bt284.2) else (none)) else (none)))) = some (r1, r2) := h
 clear h
 by_cases c6 : a2 > a3
 ·rw [if_pos c6] at H
  have c6b0 : decide (a3 < a2) = true := decide_eq_true c6
  clear c6
  simp only [Option.some.injEq, Prod.mk.injEq] at H
  obtain ⟨rfl, rfl⟩ := H
  go_enter Try.func148, Try.ntmps148
  go_wp2
  first | go_end0 | ((try simp only [Exit.inBlock, Exit.then]); refine bodyPost_ret (results_none rfl _ _ _) rfl ?_)
  exact ⟨by first | rfl | (simp [errW_none, errW_some] <;> rfl) | (simp [*, errW_none, errW_some] <;> rfl), by repeat (first | (with_reducible first | exact HI0.out | apply Z107.alloc | apply Z107.drewN | apply Z107.drew | apply Z107.set_1) | exact HI0.out), by exact HO1.out, by repeat (first | (with_reducible first | exact HB.out | apply zB | apply zA | apply zC | refine zD ?_ (Z107.ge HI0.out)) | exact HB.out), by repeat (first | (with_reducible first | exact HK.out | apply Kept.alloc | apply Kept.drewN | apply Kept.drew | refine Kept.setCell ?_ (.inl (.inr rfl)) _) | exact HK.out)⟩
 ·rw [if_neg c6] at H
  have c6b0 : decide (a3 < a2) = false := decide_eq_false c6
  clear c6
  replace H := Option.bind_eq_some_iff.mp H
  obtain ⟨⟨t284, t285⟩, A70, H⟩ := H
  replace H : (if 0 ≤ (wrap64 ((wrap64 (a2 + t284)) - 1)) then (if (wrap64 ((wrap64 (a2 + t284)) - 1)) < (l1.length : Int) then (spec_l20Fill.l0 k (l1.set ((wrap64 ((wrap64 (a2 + t284)) - 1)) : Int).toNat a4) a3 (wrap64 (a2 + t284)) a2 s0_0 t285) else (none)) else (none)) = some (r1, r2) := H
  have A7 := zM A70
  clear A70
  obtain ⟨ji8, hji8⟩ : ∃ j_ : Int, (wrap64 ((wrap64 (a2 + t284)) - 1)) = j_ := ⟨_, rfl⟩
  replace H : (if 0 ≤ (ji8) then (if (ji8) < (l1.length : Int) then (spec_l20Fill.l0 k (l1.set ((ji8) : Int).toNat a4) a3 (wrap64 (a2 + t284)) a2 s0_0 t285) else (none)) else (none)) = some (r1, r2) := by first | (rw [hji8] at H; exact H) | (simp only [hji8] at H ⊢; exact H)
  (try rw [hji8] at A7)
  have hji8w : (IntKind.i64.wrap ((wrap64 (a2 + t284)) - 1)) = ji8 := (i64_w _).trans hji8
  by_cases c9 : 0 ≤ (ji8)
  ·rw [if_pos c9] at H
   have c9b0 : decide (0 ≤ (ji8)) = true := decide_eq_true c9
   clear c9
   by_cases c10 : (ji8) < (l1.length : Int)
   ·rw [if_pos c10] at H
    have c10b0 : decide ((ji8) < (l1.length : Int)) = true := decide_eq_true c10
    clear c10
    obtain ⟨y286, hy286⟩ : ∃ y_ : List Int, y_ = (l1.set ((ji8) : Int).toNat a4) := ⟨_, rfl⟩
    replace H : (spec_l20Fill.l0 k y286 a3 (wrap64 (a2 + t284)) a2 s0_0 t285) = some (r1, r2) := by first | (rw [hy286]; with_reducible exact H) | (have H2_ := (Option.bind_some _ _).symm.trans H; rw [hy286]; with_reducible exact H2_) | (have H2_ := (Option.bind_some _ _).symm.trans H; with_reducible exact H2_) | with_reducible exact H | (rw [hy286]; exact H) | exact H
    have Ny286 := zM hy286
    clear hy286
    have H' := zM H
    clear H
    go_enter Try.func148, Try.ntmps148
    go_wp2_with (first | ((with_reducible refine gate_callee (f := 94) rfl ?_); refine goesL_ (some 23) rfl rfl Try.func94 (by kernel_rfl) rfl #[.pointer (some ⟨g, 0, none⟩), .int .i64 (wrap64 ((wrap64 (a3 - a2)) + 1))] rfl (by (try simp only [List.map_toArray, List.map_cons, List.map_nil]); first | done | rfl | (simp only [List.length_drop, List.length_take]; rfl)) ?_; (with_reducible refine (spec_l20Rd_pick.calls k g s0_0 s0_1 (wrap64 ((wrap64 (a3 - a2)) + 1)) t284 t285 w0 _ ?side1 ?side2 A7.out).mono ?_); (case side1 => repeat (first | (with_reducible first | exact HI0.out | apply Z107.alloc | apply Z107.drewN | apply Z107.drew | apply Z107.set_1) | exact HI0.out)); (case side2 => repeat (first | (with_reducible first | exact HB.out | apply zB | apply zA | apply zC | refine zD ?_ (Z107.ge HI0.out)) | exact HB.out)); rintro e w12 ⟨rfl, hi, hb, hk⟩; refine ⟨_, rfl, ?_⟩;have n0_:=zM (Kd.R_mono (Kd.R_keep (Z107.apart (show Z107 w0 _ g s0_0 s0_1 from by repeat (first | (with_reducible first | exact HI0.out | apply Z107.alloc | apply Z107.drewN | apply Z107.drew | apply Z107.set_1) | exact HI0.out)) (by exact HO1.out) (by decide)) hk (fun _ h => h.2)) (fun _ h => h.1));have n1_:=zM (Kept.of_keep (S := (fun k_ => (P1_ k_) ∨ k_ = g)) (by repeat (first | (with_reducible first | exact HK.out | apply Kept.alloc | apply Kept.drewN | apply Kept.drew | refine Kept.setCell ?_ (.inl (.inr rfl)) _) | exact HK.out)) hk (.inl (.inr rfl)));have n2_:=zM (hb);have n3_:=zM (hi);clear HO1; clear HK;clear HB; clear HI0; have HO1 := n0_; have HK := n1_; have HB := n2_; have HI0 := n3_; clear n0_ n1_ n2_ n3_; (try clear hb); (try clear hb2); (try clear hk); (try clear hi); have p11 : 0 ≤ ((ji8) : Int) := of_decide_eq_true (by first | (with_reducible assumption) | assumption); have q11 : ((ji8) : Int) < ((l1.length : Int) : Int) := of_decide_eq_true (by first | (with_reducible assumption) | assumption); obtain ⟨go11, co11, eo11, gb11, gl11, cl11, HG11⟩ := Kd.R_form HO1.out (by omega); (first | cases eo11 | (injection eo11 with ea_ en_ ec_; (first | subst ea_ | (injection ea_ with ea_; subst ea_)); subst ec_; clear en_)); have GB11 := zM gb11; have GG11 := zM HG11; clear gb11 gl11 HG11; have HMgo11 := zM (show (P1_ go11 ∨ w.heap.size ≤ go11) from (HO1.out.1 _ rfl)); obtain ⟨hx11_0, hf11_0⟩ := Kd.R_celln 0 HO1.out ((ji8) : Int) p11 q11; replace p11 := eq_true p11; replace q11 := eq_true q11; obtain ⟨hy13_, hz13_⟩ := Kd.R_celln 0 HO1.out ((ji8) : Int) (of_decide_eq_true (by first | (with_reducible assumption) | assumption)) (of_decide_eq_true (by first | (with_reducible assumption) | assumption)); have HP13 := Kd.R_putg HO1.out ((ji8) : Int) a4) | ((with_reducible refine gate_store (t := 3) (p := 29) rfl ?_); refine store_event (t := 3) (p := 29) (v := ?vo_w14) (w1 := (w12.setCell ⟨go11, ((ji8) : Int).toNat, none⟩ (.int .i64 a4))) ?hg ?ho ?hn ?hr ?_; (case ho => rfl); (case hg => rfl); (case hn => rfl); (case hr => first | (go_simp; done) | (go_simp; rfl)); intro w14 hw; have hg : w12.grownBy w14 (some go11) := (by rw [hw]; exact HP13.2); have hp_ : Kd.R (Kd.int .i64) 3 w14 w0.heap.size (fun k_ => (P1_ k_ ∨ w.heap.size ≤ k_)) (.slice (some ⟨go11, 0, none⟩) l1.length co11) y286 := (by rw [hw, Ny286.out]; exact HP13.1);clear HP13;have n0_:=zM (Z107.grown (by repeat (first | (with_reducible first | exact HI0.out | apply Z107.alloc | apply Z107.drewN | apply Z107.drew | apply Z107.set_1) | exact HI0.out)) hg (Z107.own_ne HI0.out HO1.out (by decide)));have n1_:=zM (hp_);have n2_:=zM ((by rw [hw]; exact zD (HB.out) GB11.out : Below w0.heap.size w0 w14));have n3_:=zM (Kept.of_grown (S := (fun k_ => (P1_ k_) ∨ k_ = g)) hg (by repeat (first | (with_reducible first | exact HK.out | apply Kept.alloc | apply Kept.drewN | apply Kept.drew | refine Kept.setCell ?_ (.inl (.inr rfl)) _) | exact HK.out)) (fun k_ e_ => Or.imp_left Or.inl ((HO1.out.1 k_ e_))));clear HI0; clear HO1;clear HB; clear HK; have HI0 := n0_; have HO1 := n1_; have HB := n2_; have HK := n3_; clear n0_ n1_ n2_ n3_; clear hg hw hp_))
    go_loopg [11] k (fun kq v11 w' => ∃ (x1_1 : List Int) (x11_1 : Int) (x1001_1 : Int), v11 = .int .i64 x11_1 ∧ Aside0 (spec_l20Fill.l0 kq x1_1 a3 (wrap64 (a2 + t284)) x11_1 s0_0 x1001_1 = some (r1, r2)) ∧ Aside0 (kq ≤ k) ∧ Aside0 (Kd.R (Kd.int .i64) 3 w' w0.heap.size (fun k_ => (P1_ k_ ∨ w.heap.size ≤ k_)) (.slice (some ⟨go11, 0, none⟩) l1.length co11) x1_1) ∧ Aside0 (Z107 w0 w' g s0_0 x1001_1) ∧ Aside0 (Kept w w' (fun k_ => (P1_ k_) ∨ k_ = g)) ∧ Aside0 (Below w0.heap.size w0 w'))
    case atStart => exact ⟨(y286), (a2), (t285), (by first | rfl | (simp; done) | (simp [*]; done)), H', ⟨Nat.le_refl _⟩, ⟨by exact HO1.out⟩, ⟨by repeat (first | (with_reducible first | exact HI0.out | apply Z107.alloc | apply Z107.drewN | apply Z107.drew | apply Z107.set_1) | exact HI0.out)⟩, ⟨by repeat (first | (with_reducible first | exact HK.out | apply Kept.alloc | apply Kept.drewN | apply Kept.drew | refine Kept.setCell ?_ (.inl (.inr rfl)) _) | exact HK.out)⟩, ⟨by repeat (first | (with_reducible first | exact HB.out | apply zB | apply zA | apply zC | refine zD ?_ (Z107.ge HI0.out)) | exact HB.out)⟩⟩
    case round =>
     clear H'
     try clear c1
     try clear p1
     try clear q1
     try clear hx1
     try clear p2
     try clear c6
     try clear c6b0
     try clear p6
     try clear c9
     try clear c9b0
     try clear c10
     try clear c10b0
     try clear p11
     try clear q11
     try clear hx11
     try clear hf11
     try clear c14
     try clear hx11_0
     try clear p11
     try clear q11
     obtain ⟨x1_1, x11_1, x1001_1, rfl, HA, HK1, HO_1, HI0, HK, HB⟩ := hrel
     have hl1_1 := (Kd.R_reads' HO_1.out).1
     rw [hl1_1] at HO_1
     (try simp only [hl1_1])
     cases gk with
     | zero => exact absurd HA.out (by simp [spec_l20Fill.l0])
     | succ k1 =>
      have H := HA.out
      clear HA
      simp only [spec_l20Fill.l0] at H
      by_cases c15 : x11_1 < (wrap64 (a2 + t284))
      ·rw [if_pos c15] at H
       have c15b0 : decide (x11_1 < (wrap64 (a2 + t284))) = true := decide_eq_true c15
       clear c15
       replace H := Option.bind_eq_some_iff.mp H
       obtain ⟨⟨t287, t288⟩, A160, H⟩ := H
       replace H : ((spec_l20Fill.f k1 s0_0 t288 x1_1 x11_1 (wrap64 (x11_1 + t287)) (wrap64 (a2 + t284))).bind fun bt289 => (spec_l20Fill.l0 k1 bt289.2 a3 (wrap64 (a2 + t284)) (wrap64 ((wrap64 (x11_1 + t287)) + 1)) s0_0 bt289.1)) = some (r1, r2) := H
       have A16 := zM A160
       clear A160
       replace H := Option.bind_eq_some_iff.mp H
       obtain ⟨⟨t289, t290⟩, A170, H⟩ := H
       replace H : (spec_l20Fill.l0 k1 t290 a3 (wrap64 (a2 + t284)) (wrap64 ((wrap64 (x11_1 + t287)) + 1)) s0_0 t289) = some (r1, r2) := H
       have A17 := zM A170
       clear A170
       have H' := zM H
       clear H
       go_wp2_with (first | ((with_reducible refine gate_callee (f := 94) rfl ?_); refine goesL_ (some 39) rfl rfl Try.func94 (by kernel_rfl) rfl #[.pointer (some ⟨g, 0, none⟩), .int .i64 (wrap64 ((wrap64 (a2 + t284)) - x11_1))] rfl (by (try simp only [List.map_toArray, List.map_cons, List.map_nil]); first | done | rfl | (simp only [List.length_drop, List.length_take]; rfl)) ?_; (with_reducible refine (spec_l20Rd_pick.calls k1 g s0_0 x1001_1 (wrap64 ((wrap64 (a2 + t284)) - x11_1)) t287 t288 w0 _ ?side1 ?side2 A16.out).mono ?_); (case side1 => repeat (first | (with_reducible first | exact HI0.out | apply Z107.alloc | apply Z107.drewN | apply Z107.drew | apply Z107.set_1) | exact HI0.out)); (case side2 => repeat (first | (with_reducible first | exact HB.out | apply zB | apply zA | apply zC | refine zD ?_ (Z107.ge HI0.out)) | exact HB.out)); rintro e w18 ⟨rfl, hi, hb, hk⟩; refine ⟨_, rfl, ?_⟩;have n0_:=zM (Kd.R_mono (Kd.R_keep (Z107.apart (show Z107 w0 _ g s0_0 x1001_1 from by repeat (first | (with_reducible first | exact HI0.out | apply Z107.alloc | apply Z107.drewN | apply Z107.drew | apply Z107.set_1) | exact HI0.out)) (by exact HO_1.out) (by decide)) hk (fun _ h => h.2)) (fun _ h => h.1));have n1_:=zM (Kept.of_keep (S := (fun k_ => (P1_ k_) ∨ k_ = g)) (by repeat (first | (with_reducible first | exact HK.out | apply Kept.alloc | apply Kept.drewN | apply Kept.drew | refine Kept.setCell ?_ (.inl (.inr rfl)) _) | exact HK.out)) hk (.inl (.inr rfl)));have n2_:=zM (hb);have n3_:=zM (hi);clear HO_1; clear HK;clear HB; clear HI0; have HO_1 := n0_; have HK := n1_; have HB := n2_; have HI0 := n3_; clear n0_ n1_ n2_ n3_; (try clear hb); (try clear hb2); (try clear hk); (try clear hi)) | ((with_reducible refine gate_callee (f := 148) rfl ?_); refine goesL_ (some 46) rfl rfl Try.func148 (by kernel_rfl) rfl #[.pointer (some ⟨g, 0, none⟩), .slice (some ⟨go11, 0, none⟩) x1_1.length co11, .int .i64 x11_1, .int .i64 (wrap64 (x11_1 + t287)), .int .i64 (wrap64 (a2 + t284))] rfl (by (try simp only [List.map_toArray, List.map_cons, List.map_nil]); first | done | rfl | (simp only [List.length_drop, List.length_take]; rfl)) ?_; (with_reducible refine (ih k1 (by have := HK1.out; omega) g s0_0 t288 (fun k_ => some k_ = (.slice (some ⟨go11, 0, none⟩) x1_1.length co11 : Value).ownBlock) (.slice (some ⟨go11, 0, none⟩) x1_1.length co11) x1_1 x11_1 (wrap64 (x11_1 + t287)) (wrap64 (a2 + t284)) t289 t290 w0 _ ?side1 ?side2 ?side3 A17.out).mono ?_); (case side1 => repeat (first | (with_reducible first | exact HI0.out | apply Z107.alloc | apply Z107.drewN | apply Z107.drew | apply Z107.set_1) | exact HI0.out)); (case side2 => repeat (first | (with_reducible first | exact HB.out | apply zB | apply zA | apply zC | refine zD ?_ (Z107.ge HI0.out)) | exact HB.out)); (case side3 => exact Kd.R_tight rfl HO_1.out); rintro e w19 ⟨rfl, hi, hy0, hb, hkp⟩; refine ⟨_, rfl, ?_⟩;have n0_:=zM (Kd.R_reok rfl hy0 (fun k_ e_ => HO_1.out.1 k_ e_));have n1_:=zM (hi);have n2_:=zM (Kept.then_ (S := (fun k_ => (P1_ k_) ∨ k_ = g)) (by repeat (first | (with_reducible first | exact HK.out | apply Kept.alloc | apply Kept.drewN | apply Kept.drew | refine Kept.setCell ?_ (.inl (.inr rfl)) _) | exact HK.out)) hkp (fun k_ hs_ => Or.elim hs_ (fun hs_ => (fun e_ => Or.imp_left Or.inl ((HO_1.out.1 k_ e_.symm))) hs_) (fun e_ => .inl (.inr e_))));have n3_:=zM (hb);clear HO_1; clear HI0;clear HK; clear HB; have HO_1 := n0_; have HI0 := n1_; have HK := n2_; have HB := n3_; clear n0_ n1_ n2_ n3_; (try clear hb); (try clear hkp); (try clear hy0)))
       (try simp only [← hl1_1])
       go_roundg k1
       case measure => have := HK1.out; omega
       case rel => exact ⟨(t290), (wrap64 ((wrap64 (x11_1 + t287)) + 1)), (t289), (by first | rfl | (simp; done) | (simp [*]; done)), H', ⟨by have := HK1.out; omega⟩, ⟨by (try simp only [hl1_1]); (with_reducible repeat (first | apply Kd.R_alloc | apply Kd.R_drewN | apply Kd.R_drew)); exact HO_1.out⟩, ⟨by repeat (first | (with_reducible first | exact HI0.out | apply Z107.alloc | apply Z107.drewN | apply Z107.drew | apply Z107.set_1) | exact HI0.out)⟩, ⟨by repeat (first | (with_reducible first | exact HK.out | apply Kept.alloc | apply Kept.drewN | apply Kept.drew | refine Kept.setCell ?_ (.inl (.inr rfl)) _) | exact HK.out)⟩, ⟨by repeat (first | (with_reducible first | exact HB.out | apply zB | apply zA | apply zC | refine zD ?_ (Z107.ge HI0.out)) | exact HB.out)⟩⟩
      ·rw [if_neg c15] at H
       have c15b0 : decide (x11_1 < (wrap64 (a2 + t284))) = false := decide_eq_false c15
       clear c15
       have H' := zM H
       clear H
       go_wp2
       go_loopg [11] k1 (fun kq v11 w' => ∃ (x1_2 : List Int) (x11_2 : Int) (x1001_2 : Int), v11 = .int .i64 x11_2 ∧ Aside0 (spec_l20Fill.l1 kq x1_2 a3 (wrap64 (a2 + t284)) x11_2 s0_0 x1001_2 = some (r1, r2)) ∧ Aside0 (kq ≤ k1) ∧ Aside0 (Kd.R (Kd.int .i64) 3 w' w0.heap.size (fun k_ => (P1_ k_ ∨ w.heap.size ≤ k_)) (.slice (some ⟨go11, 0, none⟩) x1_1.length co11) x1_2) ∧ Aside0 (Z107 w0 w' g s0_0 x1001_2) ∧ Aside0 (Kept w w' (fun k_ => (P1_ k_) ∨ k_ = g)) ∧ Aside0 (Below w0.heap.size w0 w'))
       case atStart => exact ⟨(x1_1), (wrap64 ((wrap64 (a2 + t284)) + 1)), (x1001_1), (by first | rfl | (simp; done) | (simp [*]; done)), H', ⟨Nat.le_refl _⟩, ⟨by (try simp only [hl1_1]); (with_reducible repeat (first | apply Kd.R_alloc | apply Kd.R_drewN | apply Kd.R_drew)); exact HO_1.out⟩, ⟨by repeat (first | (with_reducible first | exact HI0.out | apply Z107.alloc | apply Z107.drewN | apply Z107.drew | apply Z107.set_1) | exact HI0.out)⟩, ⟨by repeat (first | (with_reducible first | exact HK.out | apply Kept.alloc | apply Kept.drewN | apply Kept.drew | refine Kept.setCell ?_ (.inl (.inr rfl)) _) | exact HK.out)⟩, ⟨by repeat (first | (with_reducible first | exact HB.out | apply zB | apply zA | apply zC | refine zD ?_ (Z107.ge HI0.out)) | exact HB.out)⟩⟩
       case round =>
        clear H'
        try clear c1
        try clear p1
        try clear q1
        try clear hx1
        try clear p2
        try clear c6
        try clear c6b0
        try clear p6
        try clear c9
        try clear c9b0
        try clear c10
        try clear c10b0
        try clear p11
        try clear q11
        try clear hx11
        try clear hf11
        try clear c14
        try clear c15
        try clear c15b0
        try clear hx11_0
        try clear p1
        try clear p11
        try clear p2
        try clear p6
        try clear q1
        try clear q11
        obtain ⟨x1_2, x11_2, x1001_2, rfl, HA, HK2, HO_1, HI0, HK, HB⟩ := hrel
        have hl1_2 := (Kd.R_reads' HO_1.out).1
        rw [hl1_2] at HO_1
        (try simp only [hl1_2])
        cases gk with
        | zero => exact absurd HA.out (by simp [spec_l20Fill.l1])
        | succ k2 =>
         have H := HA.out
         clear HA
         simp only [spec_l20Fill.l1] at H
         by_cases c20 : x11_2 ≤ a3
         ·rw [if_pos c20] at H
          have c20b0 : decide (x11_2 ≤ a3) = true := decide_eq_true c20
          clear c20
          replace H := Option.bind_eq_some_iff.mp H
          obtain ⟨⟨t291, t292⟩, A210, H⟩ := H
          replace H : ((spec_l20Fill.f k2 s0_0 t292 x1_2 x11_2 (wrap64 (x11_2 + t291)) (wrap64 (a2 + t284))).bind fun bt293 => (spec_l20Fill.l1 k2 bt293.2 a3 (wrap64 (a2 + t284)) (wrap64 ((wrap64 (x11_2 + t291)) + 1)) s0_0 bt293.1)) = some (r1, r2) := H
          have A21 := zM A210
          clear A210
          replace H := Option.bind_eq_some_iff.mp H
          obtain ⟨⟨t293, t294⟩, A220, H⟩ := H
          replace H : (spec_l20Fill.l1 k2 t294 a3 (wrap64 (a2 + t284)) (wrap64 ((wrap64 (x11_2 + t291)) + 1)) s0_0 t293) = some (r1, r2) := H
          have A22 := zM A220
          clear A220
          have H' := zM H
          clear H
          go_wp2_with (first | ((with_reducible refine gate_callee (f := 94) rfl ?_); refine goesL_ (some 60) rfl rfl Try.func94 (by kernel_rfl) rfl #[.pointer (some ⟨g, 0, none⟩), .int .i64 (wrap64 ((wrap64 (a3 - x11_2)) + 1))] rfl (by (try simp only [List.map_toArray, List.map_cons, List.map_nil]); first | done | rfl | (simp only [List.length_drop, List.length_take]; rfl)) ?_; (with_reducible refine (spec_l20Rd_pick.calls k2 g s0_0 x1001_2 (wrap64 ((wrap64 (a3 - x11_2)) + 1)) t291 t292 w0 _ ?side1 ?side2 A21.out).mono ?_); (case side1 => repeat (first | (with_reducible first | exact HI0.out | apply Z107.alloc | apply Z107.drewN | apply Z107.drew | apply Z107.set_1) | exact HI0.out)); (case side2 => repeat (first | (with_reducible first | exact HB.out | apply zB | apply zA | apply zC | refine zD ?_ (Z107.ge HI0.out)) | exact HB.out)); rintro e w23 ⟨rfl, hi, hb, hk⟩; refine ⟨_, rfl, ?_⟩;have n0_:=zM (Kd.R_mono (Kd.R_keep (Z107.apart (show Z107 w0 _ g s0_0 x1001_2 from by repeat (first | (with_reducible first | exact HI0.out | apply Z107.alloc | apply Z107.drewN | apply Z107.drew | apply Z107.set_1) | exact HI0.out)) (by exact HO_1.out) (by decide)) hk (fun _ h => h.2)) (fun _ h => h.1));have n1_:=zM (Kept.of_keep (S := (fun k_ => (P1_ k_) ∨ k_ = g)) (by repeat (first | (with_reducible first | exact HK.out | apply Kept.alloc | apply Kept.drewN | apply Kept.drew | refine Kept.setCell ?_ (.inl (.inr rfl)) _) | exact HK.out)) hk (.inl (.inr rfl)));have n2_:=zM (hb);have n3_:=zM (hi);clear HO_1; clear HK;clear HB; clear HI0; have HO_1 := n0_; have HK := n1_; have HB := n2_; have HI0 := n3_; clear n0_ n1_ n2_ n3_; (try clear hb); (try clear hb2); (try clear hk); (try clear hi)) | ((with_reducible refine gate_callee (f := 148) rfl ?_); refine goesL_ (some 67) rfl rfl Try.func148 (by kernel_rfl) rfl #[.pointer (some ⟨g, 0, none⟩), .slice (some ⟨go11, 0, none⟩) x1_2.length co11, .int .i64 x11_2, .int .i64 (wrap64 (x11_2 + t291)), .int .i64 (wrap64 (a2 + t284))] rfl (by (try simp only [List.map_toArray, List.map_cons, List.map_nil]); first | done | rfl | (simp only [List.length_drop, List.length_take]; rfl)) ?_; (with_reducible refine (ih k2 (by have := HK1.out; have := HK2.out; omega) g s0_0 t292 (fun k_ => some k_ = (.slice (some ⟨go11, 0, none⟩) x1_2.length co11 : Value).ownBlock) (.slice (some ⟨go11, 0, none⟩) x1_2.length co11) x1_2 x11_2 (wrap64 (x11_2 + t291)) (wrap64 (a2 + t284)) t293 t294 w0 _ ?side1 ?side2 ?side3 A22.out).mono ?_); (case side1 => repeat (first | (with_reducible first | exact HI0.out | apply Z107.alloc | apply Z107.drewN | apply Z107.drew | apply Z107.set_1) | exact HI0.out)); (case side2 => repeat (first | (with_reducible first | exact HB.out | apply zB | apply zA | apply zC | refine zD ?_ (Z107.ge HI0.out)) | exact HB.out)); (case side3 => exact Kd.R_tight rfl HO_1.out); rintro e w24 ⟨rfl, hi, hy0, hb, hkp⟩; refine ⟨_, rfl, ?_⟩;have n0_:=zM (Kd.R_reok rfl hy0 (fun k_ e_ => HO_1.out.1 k_ e_));have n1_:=zM (hi);have n2_:=zM (Kept.then_ (S := (fun k_ => (P1_ k_) ∨ k_ = g)) (by repeat (first | (with_reducible first | exact HK.out | apply Kept.alloc | apply Kept.drewN | apply Kept.drew | refine Kept.setCell ?_ (.inl (.inr rfl)) _) | exact HK.out)) hkp (fun k_ hs_ => Or.elim hs_ (fun hs_ => (fun e_ => Or.imp_left Or.inl ((HO_1.out.1 k_ e_.symm))) hs_) (fun e_ => .inl (.inr e_))));have n3_:=zM (hb);clear HO_1; clear HI0;clear HK; clear HB; have HO_1 := n0_; have HI0 := n1_; have HK := n2_; have HB := n3_; clear n0_ n1_ n2_ n3_; (try clear hb); (try clear hkp); (try clear hy0)))
          (try simp only [← hl1_2])
          go_roundg k2
          case measure => have := HK1.out; have := HK2.out; omega
          case rel => exact ⟨(t294), (wrap64 ((wrap64 (x11_2 + t291)) + 1)), (t293), (by first | rfl | (simp; done) | (simp [*]; done)), H', ⟨by have := HK1.out; have := HK2.out; omega⟩, ⟨by (try simp only [hl1_1]); (try simp only [hl1_2]); (with_reducible repeat (first | apply Kd.R_alloc | apply Kd.R_drewN | apply Kd.R_drew)); exact HO_1.out⟩, ⟨by repeat (first | (with_reducible first | exact HI0.out | apply Z107.alloc | apply Z107.drewN | apply Z107.drew | apply Z107.set_1) | exact HI0.out)⟩, ⟨by repeat (first | (with_reducible first | exact HK.out | apply Kept.alloc | apply Kept.drewN | apply Kept.drew | refine Kept.setCell ?_ (.inl (.inr rfl)) _) | exact HK.out)⟩, ⟨by repeat (first | (with_reducible first | exact HB.out | apply zB | apply zA | apply zC | refine zD ?_ (Z107.ge HI0.out)) | exact HB.out)⟩⟩
         ·rw [if_neg c20] at H
          have c20b0 : decide (x11_2 ≤ a3) = false := decide_eq_false c20
          clear c20
          simp only [Option.some.injEq, Prod.mk.injEq] at H
          obtain ⟨rfl, rfl⟩ := H
          go_wp2
          first | go_end0 | ((try simp only [Exit.inBlock, Exit.then]); refine bodyPost_ret (results_none rfl _ _ _) rfl ?_)
          exact ⟨by first | rfl | (simp [errW_none, errW_some] <;> rfl) | (simp only [← hji8]; first | rfl | (simp [errW_none, errW_some] <;> rfl)) | (simp [*, errW_none, errW_some] <;> rfl), by repeat (first | (with_reducible first | exact HI0.out | apply Z107.alloc | apply Z107.drewN | apply Z107.drew | apply Z107.set_1) | exact HI0.out), (by first | exact (by exact HO_1.out) | (simp only [hl1_1, hl1_2]; exact (by exact HO_1.out))), by repeat (first | (with_reducible first | exact HB.out | apply zB | apply zA | apply zC | refine zD ?_ (Z107.ge HI0.out)) | exact HB.out), by repeat (first | (with_reducible first | exact HK.out | apply Kept.alloc | apply Kept.drewN | apply Kept.drew | refine Kept.setCell ?_ (.inl (.inr rfl)) _) | exact HK.out)⟩
   ·rw [if_neg c10] at H
    exact absurd H (by simp)
  ·rw [if_neg c9] at H
   exact absurd H (by simp)

/-! ### spec_l20Flat: function 128 -/
def spec_l20Flat.f (k : Nat) (s0_0 : List Int) (s0_1 : Int) (a1 : Int) : Option (List Int × Int) := (spec_l20Rd_pick.f k s0_0 s0_1 3).bind fun bt295 => (if bt295.1 = 0 then ((spec_l20Tree.f k s0_0 bt295.2 a1).bind fun bt297 => (some (bt297.1, bt297.2))) else ((spec_l20Rd_pick.f k s0_0 bt295.2 7).bind fun bt301 => (if 0 ≤ (wrap64 (1 + bt301.1)) then (if (wrap64 (1 + bt301.1) : Int).toNat ≤ 35184372088832 then ((spec_l20Fill.f k s0_0 bt301.2 (List.replicate (wrap64 (1 + bt301.1) : Int).toNat 0) 1 (wrap64 (1 + bt301.1)) 0).bind fun bt306 => (some (bt306.2, bt306.1))) else (none)) else (none))))
theorem spec_l20Flat.mono : ∀ a0 a1 a2 k, LeO (spec_l20Flat.f k a0 a1 a2) (spec_l20Flat.f (k + 1) a0 a1 a2) := by
 intro a0 a1 a2 k
 unfold spec_l20Flat.f
 repeat' first
   | (with_reducible exact spec_l20Fill.mono _ _ _ _ _ _ _)
   | (with_reducible exact spec_l20Rd_pick.mono _ _ _ _)
   | (with_reducible exact spec_l20Tree.mono _ _ _ _)
   | (with_reducible exact LeO.refl _)
   | (with_reducible exact LeO.none _)
   | (with_reducible refine LeO.ite ?_ ?_)
   | (with_reducible refine LeO.bind ?_ (fun _ => ?_))
   | refine LeO.ite ?_ ?_
   | refine LeO.bind ?_ (fun _ => ?_)
set_option maxHeartbeats 8000000 in
set_option maxRecDepth 100000 in
theorem spec_l20Flat.calls (k : Nat) (g : Nat) (s0_0 : List Int) (s0_1 : Int) (a1 : Int) (r1 : List Int) (r2 : Int) (w0 w : World) (hI : Z107 w0 w g s0_0 s0_1) (hB : Below w0.heap.size w0 w) (h : spec_l20Flat.f k s0_0 s0_1 a1 = some (r1, r2)) :
  Calls Try.prog 128 #[.pointer (some ⟨g, 0, none⟩), .int .i64 a1] w fun e w' => ∃ v0_ : Value, e = .returned (v0_) ∧ Kd.R (Kd.int .i64) 3 w' w.heap.size (fun _ => True) v0_ r1 ∧ Z107 w0 w' g s0_0 r2 ∧ Below w0.heap.size w0 w' ∧ KeepBut w w' g none := by
 have HI0 := zM hI
 have HK := zM (KeepBut.refl w g none)
 have HL := zM hB.size
 clear hI
 have HW0 := zM hB.size
 have HB := zM hB
 clear hB
 have H : ((spec_l20Rd_pick.f k s0_0 s0_1 3).bind fun bt295 => (if bt295.1 = 0 then ((spec_l20Tree.f k s0_0 bt295.2 a1).bind fun bt297 => (some (bt297.1, bt297.2))) else ((spec_l20Rd_pick.f k s0_0 bt295.2 7).bind fun bt301 => (if 0 ≤ (wrap64 (1 + bt301.1)) then (if (wrap64 (1 + bt301.1) : Int).toNat ≤ 35184372088832 then ((spec_l20Fill.f k s0_0 bt301.2 (List.replicate (wrap64 (1 + bt301.1) : Int).toNat 0) 1 (wrap64 (1 + bt301.1)) 0).bind fun bt306 => (some (bt306.2, bt306.1))) else (none)) else (none))))) = some (r1, r2) := h
 clear h
 replace H := Option.bind_eq_some_iff.mp H
 obtain ⟨⟨t295, t296⟩, A30, H⟩ := H
 replace H : (if t295 = 0 then ((spec_l20Tree.f k s0_0 t296 a1).bind fun bt297 => (some (bt297.1, bt297.2))) else ((spec_l20Rd_pick.f k s0_0 t296 7).bind fun bt301 => (if 0 ≤ (wrap64 (1 + bt301.1)) then (if (wrap64 (1 + bt301.1) : Int).toNat ≤ 35184372088832 then ((spec_l20Fill.f k s0_0 bt301.2 (List.replicate (wrap64 (1 + bt301.1) : Int).toNat 0) 1 (wrap64 (1 + bt301.1)) 0).bind fun bt306 => (some (bt306.2, bt306.1))) else (none)) else (none)))) = some (r1, r2) := H
 have A3 := zM A30
 clear A30
 by_cases c4 : t295 = 0
 ·rw [if_pos c4] at H
  have c4b0 : (t295 == 0) = true := beq_iff_eq.mpr c4
  have c4b1 : (t295 != 0) = false := bne_eq_false_iff_eq.mpr c4
  clear c4
  replace H := Option.bind_eq_some_iff.mp H
  obtain ⟨⟨t297, t300⟩, A50, H⟩ := H
  replace H : (some (t297, t300)) = some (r1, r2) := H
  have A5 := zM A50
  clear A50
  simp only [Option.some.injEq, Prod.mk.injEq] at H
  obtain ⟨rfl, rfl⟩ := H
  go_enter Try.func128, Try.ntmps128
  go_wp2_with (first | ((with_reducible refine gate_callee (f := 94) rfl ?_); refine goesL_ (some 8) rfl rfl Try.func94 (by kernel_rfl) rfl #[.pointer (some ⟨g, 0, none⟩), .int .i64 3] rfl (by (try simp only [List.map_toArray, List.map_cons, List.map_nil]); first | done | rfl | (simp only [List.length_drop, List.length_take]; rfl)) ?_; (with_reducible refine (spec_l20Rd_pick.calls k g s0_0 s0_1 3 t295 t296 w0 _ ?side1 ?side2 A3.out).mono ?_); (case side1 => repeat (first | (with_reducible first | exact HI0.out | apply Z107.alloc | apply Z107.drewN | apply Z107.drew | apply Z107.set_1) | exact HI0.out)); (case side2 => repeat (first | (with_reducible first | exact HB.out | apply zB | apply zA | apply zC | refine zD ?_ (Z107.ge HI0.out)) | exact HB.out)); rintro e w6 ⟨rfl, hi, hb, hk⟩; refine ⟨_, rfl, ?_⟩;have n0_:=zM (KeepBut.trans (by repeat (first | (with_reducible first | exact HK.out | apply zK | apply keep_drewN | apply keep_drew | apply keep_alloc) | exact HK.out)) hk (.inl rfl));have n1_:=zM (hb);have n2_:=zM (hi);clear HK; clear HB;clear HI0; have HK := n0_; have HB := n1_; have HI0 := n2_; clear n0_ n1_ n2_; (try clear hb); (try clear hb2); (try clear hk); (try clear hi)) | ((with_reducible refine gate_callee (f := 101) rfl ?_); refine goesL_ (some 12) rfl rfl Try.func101 (by kernel_rfl) rfl #[.pointer (some ⟨g, 0, none⟩), .int .i64 a1] rfl (by (try simp only [List.map_toArray, List.map_cons, List.map_nil]); first | done | rfl | (simp only [List.length_drop, List.length_take]; rfl)) ?_; (with_reducible refine (spec_l20Tree.calls k g s0_0 t296 a1 t297 t300 w0 _ ?side1 ?side2 A5.out).mono ?_); (case side1 => repeat (first | (with_reducible first | exact HI0.out | apply Z107.alloc | apply Z107.drewN | apply Z107.drew | apply Z107.set_1) | exact HI0.out)); (case side2 => repeat (first | (with_reducible first | exact HB.out | apply zB | apply zA | apply zC | refine zD ?_ (Z107.ge HI0.out)) | exact HB.out)); rintro e w7 ⟨v298, rfl, ho0, hi, hb, hk⟩; refine ⟨_, rfl, ?_⟩;have n0_:=zM (Kd.R_lower ho0 (keep_size (w := w) (g := g) (row := none) (by repeat (first | (with_reducible first | exact HK.out | apply zK | apply keep_drewN | apply keep_drew | apply keep_alloc) | exact HK.out))));have n1_:=zM (KeepBut.trans (by repeat (first | (with_reducible first | exact HK.out | apply zK | apply keep_drewN | apply keep_drew | apply keep_alloc) | exact HK.out)) hk (.inl rfl));have n2_:=zM (hb);have n3_:=zM (hi);clear HK; clear HB;clear HI0; have HO299 := n0_; have HK := n1_; have HB := n2_; have HI0 := n3_; clear n0_ n1_ n2_ n3_; (try clear hb); (try clear hb2); (try clear hk); (try clear hi); (try clear ho0)))
  go_ret
  exact ⟨_, by first | rfl | (simp [errW_none, errW_some] <;> rfl) | (simp [*, errW_none, errW_some] <;> rfl), by exact HO299.out, by repeat (first | (with_reducible first | exact HI0.out | apply Z107.alloc | apply Z107.drewN | apply Z107.drew | apply Z107.set_1) | exact HI0.out), by repeat (first | (with_reducible first | exact HB.out | apply zB | apply zA | apply zC | refine zD ?_ (Z107.ge HI0.out)) | exact HB.out), by repeat (first | (with_reducible first | exact HK.out | apply zK | apply keep_drewN | apply keep_drew | apply keep_alloc) | exact HK.out)⟩
 ·rw [if_neg c4] at H
  have c4b0 : (t295 == 0) = false := beq_eq_false_iff_ne.mpr c4
  have c4b1 : (t295 != 0) = true := bne_iff_ne.mpr c4
  replace H := Option.bind_eq_some_iff.mp H
  obtain ⟨⟨t301, t302⟩, A80, H⟩ := H
  replace H : (if 0 ≤ (wrap64 (1 + t301)) then (if (wrap64 (1 + t301) : Int).toNat ≤ 35184372088832 then ((spec_l20Fill.f k s0_0 t302 (List.replicate (wrap64 (1 + t301) : Int).toNat 0) 1 (wrap64 (1 + t301)) 0).bind fun bt306 => (some (bt306.2, bt306.1))) else (none)) else (none)) = some (r1, r2) := H
  have A8 := zM A80
  clear A80
  obtain ⟨ji9, hji9⟩ : ∃ j_ : Int, (wrap64 (1 + t301)) = j_ := ⟨_, rfl⟩
  replace H : (if 0 ≤ (ji9) then (if (ji9 : Int).toNat ≤ 35184372088832 then ((spec_l20Fill.f k s0_0 t302 (List.replicate (ji9 : Int).toNat 0) 1 (ji9) 0).bind fun bt306 => (some (bt306.2, bt306.1))) else (none)) else (none)) = some (r1, r2) := by first | (rw [hji9] at H; exact H) | (simp only [hji9] at H ⊢; exact H)
  (try rw [hji9] at A3)
  (try rw [hji9] at A8)
  have hji9w : (IntKind.i64.wrap (1 + t301)) = ji9 := (i64_w _).trans hji9
  by_cases c10 : 0 ≤ (ji9)
  ·rw [if_pos c10] at H
   have c10b0 := eq_true c10
   have c10b1 : decide (0 ≤ (ji9)) = true := decide_eq_true c10
   clear c10
   by_cases c11 : (ji9 : Int).toNat ≤ 35184372088832
   ·rw [if_pos c11] at H
    have c11b0 := eq_true c11
    have c11b1 : decide ((ji9 : Int).toNat ≤ 35184372088832) = true := decide_eq_true c11
    clear c11
    obtain ⟨y303, hy303⟩ : ∃ y_ : List Int, y_ = (List.replicate (ji9 : Int).toNat 0) := ⟨_, rfl⟩
    replace H : ((spec_l20Fill.f k s0_0 t302 y303 1 (ji9) 0).bind fun bt306 => (some (bt306.2, bt306.1))) = some (r1, r2) := by first | (rw [hy303]; with_reducible exact H) | (have H2_ := (Option.bind_some _ _).symm.trans H; rw [hy303]; with_reducible exact H2_) | (have H2_ := (Option.bind_some _ _).symm.trans H; with_reducible exact H2_) | with_reducible exact H | (rw [hy303]; exact H) | exact H
    have Ny303 := zM hy303
    clear hy303
    replace H := Option.bind_eq_some_iff.mp H
    obtain ⟨⟨t306, t307⟩, A120, H⟩ := H
    replace H : (some (t307, t306)) = some (r1, r2) := H
    have A12 := zM A120
    clear A120
    simp only [Option.some.injEq, Prod.mk.injEq] at H
    obtain ⟨rfl, rfl⟩ := H
    go_enter Try.func128, Try.ntmps128
    go_wp2_with (first | ((with_reducible refine gate_callee (f := 94) rfl ?_); refine goesL_ (some 8) rfl rfl Try.func94 (by kernel_rfl) rfl #[.pointer (some ⟨g, 0, none⟩), .int .i64 3] rfl (by (try simp only [List.map_toArray, List.map_cons, List.map_nil]); first | done | rfl | (simp only [List.length_drop, List.length_take]; rfl)) ?_; (with_reducible refine (spec_l20Rd_pick.calls k g s0_0 s0_1 3 t295 t296 w0 _ ?side1 ?side2 A3.out).mono ?_); (case side1 => repeat (first | (with_reducible first | exact HI0.out | apply Z107.alloc | apply Z107.drewN | apply Z107.drew | apply Z107.set_1) | exact HI0.out)); (case side2 => repeat (first | (with_reducible first | exact HB.out | apply zB | apply zA | apply zC | refine zD ?_ (Z107.ge HI0.out)) | exact HB.out)); rintro e w13 ⟨rfl, hi, hb, hk⟩; refine ⟨_, rfl, ?_⟩;have n0_:=zM (KeepBut.trans (by repeat (first | (with_reducible first | exact HK.out | apply zK | apply keep_drewN | apply keep_drew | apply keep_alloc) | exact HK.out)) hk (.inl rfl));have n1_:=zM (hb);have n2_:=zM (hi);clear HK; clear HB;clear HI0; have HK := n0_; have HB := n1_; have HI0 := n2_; clear n0_ n1_ n2_; (try clear hb); (try clear hb2); (try clear hk); (try clear hi)) | ((with_reducible refine gate_callee (f := 94) rfl ?_); refine goesL_ (some 14) rfl rfl Try.func94 (by kernel_rfl) rfl #[.pointer (some ⟨g, 0, none⟩), .int .i64 7] rfl (by (try simp only [List.map_toArray, List.map_cons, List.map_nil]); first | done | rfl | (simp only [List.length_drop, List.length_take]; rfl)) ?_; (with_reducible refine (spec_l20Rd_pick.calls k g s0_0 t296 7 t301 t302 w0 _ ?side1 ?side2 A8.out).mono ?_); (case side1 => repeat (first | (with_reducible first | exact HI0.out | apply Z107.alloc | apply Z107.drewN | apply Z107.drew | apply Z107.set_1) | exact HI0.out)); (case side2 => repeat (first | (with_reducible first | exact HB.out | apply zB | apply zA | apply zC | refine zD ?_ (Z107.ge HI0.out)) | exact HB.out)); rintro e w14 ⟨rfl, hi, hb, hk⟩; refine ⟨_, rfl, ?_⟩;have n0_:=zM (KeepBut.trans (by repeat (first | (with_reducible first | exact HK.out | apply zK | apply keep_drewN | apply keep_drew | apply keep_alloc) | exact HK.out)) hk (.inl rfl));have n1_:=zM (hb);have n2_:=zM (hi);clear HK; clear HB;clear HI0; have HK := n0_; have HB := n1_; have HI0 := n2_; clear n0_ n1_ n2_; (try clear hb); (try clear hb2); (try clear hk); (try clear hi)) | ((with_reducible refine gate_dst (N := 17) rfl ?_); refine Kd.R_make (Kd.int .i64) _ 3 rfl (N := 17) rfl 23 _ _ rfl ji9 rfl rfl Try.underlying23 (.int .i64 0) 8 info3 rfl (by decide) (by omega) 0 (ok := fun _ => True) (okp := fun _ => True) rfl (fun _ hk => hk) trivial (of_decide_eq_true (by first | (with_reducible assumption) | assumption)) (Nat.le_trans (Nat.mul_le_mul_right _ (of_decide_eq_true (by first | (with_reducible assumption) | assumption) : ji9.toNat ≤ 35184372088832)) (by omega)) (Below.refl _ _) (Nat.le_refl _) ?_; intro v304 w15 ho16 hb hg_ hnew_; clear hg_ hnew_; (first | rw [← Ny303.out] at ho16 | (simp only [Int.reduceToNat] at ho16; rw [← Ny303.out] at ho16));have n0_:=zM (Kd.R_lower ho16 (keep_size (w := w) (g := g) (row := none) (by repeat (first | (with_reducible first | exact HK.out | apply zK | apply keep_drewN | apply keep_drew | apply keep_alloc) | exact HK.out))));have n1_:=zM (Z107.below (by repeat (first | (with_reducible first | exact HI0.out | apply Z107.alloc | apply Z107.drewN | apply Z107.drew | apply Z107.set_1) | exact HI0.out)) hb);have n2_:=zM (KeepBut.trans (by repeat (first | (with_reducible first | exact HK.out | apply zK | apply keep_drewN | apply keep_drew | apply keep_alloc) | exact HK.out)) (KeepBut.of_below hb g none) (.inl rfl));have n3_:=zM (below_step (by repeat (first | (with_reducible first | exact HB.out | apply zB | apply zA | apply zC | refine zD ?_ (Z107.ge HI0.out)) | exact HB.out)) hb);clear HI0; clear HK;clear HB; have HO305 := n0_; have HI0 := n1_; have HK := n2_; have HB := n3_; clear n0_ n1_ n2_ n3_; clear hb ho16; obtain ⟨Ao17, co17, eo17⟩ := Kd.R_slice HO305.out; subst eo17) | ((with_reducible refine gate_callee (f := 148) rfl ?_); refine goesL_ (some 21) rfl rfl Try.func148 (by kernel_rfl) rfl #[.pointer (some ⟨g, 0, none⟩), .slice Ao17 y303.length co17, .int .i64 1, .int .i64 ji9, .int .i64 0] rfl (by (try simp only [List.map_toArray, List.map_cons, List.map_nil]); first | done | (simp only [hji9]; rfl) | rfl | (simp only [List.length_drop, List.length_take]; rfl)) ?_; (with_reducible refine (spec_l20Fill.calls k g s0_0 t302 (fun k_ => some k_ = (.slice Ao17 y303.length co17 : Value).ownBlock) (.slice Ao17 y303.length co17) y303 1 ji9 0 t306 t307 w0 _ ?side1 ?side2 ?side3 A12.out).mono ?_); (case side1 => repeat (first | (with_reducible first | exact HI0.out | apply Z107.alloc | apply Z107.drewN | apply Z107.drew | apply Z107.set_1) | exact HI0.out)); (case side2 => repeat (first | (with_reducible first | exact HB.out | apply zB | apply zA | apply zC | refine zD ?_ (Z107.ge HI0.out)) | exact HB.out)); (case side3 => exact Kd.R_lower (Kd.R_tight rfl HO305.out) HL.out); rintro e w18 ⟨rfl, hi, hy0, hb, hkp⟩; refine ⟨_, rfl, ?_⟩;have n0_:=zM (hi);have n1_:=zM (Kd.R_reok rfl (Kd.R_raise (d := (Kd.int .i64)) (b := w0.heap.size) (b' := w.heap.size) (fun _ _ _ _ h_ => h_) hy0 (fun k_ e_ => Or.elim (hy0.1 k_ e_) (fun hs_ => (fun e_ => Kd.R_base HO305.out k_ e_.symm) hs_) (fun hn_ => Nat.le_trans (keep_size (w := w) (g := g) (row := none) (by repeat (first | (with_reducible first | exact HK.out | apply zK | apply keep_drewN | apply keep_drew | apply keep_alloc) | exact HK.out))) hn_))) (fun k_ e_ => HO305.out.1 k_ e_));have n2_:=zM (Kept.keepG (by repeat (first | (with_reducible first | exact HK.out | apply zK | apply keep_drewN | apply keep_drew | apply keep_alloc) | exact HK.out)) hkp (fun k_ hs_ => Or.elim hs_ (fun hs_ => (fun e_ => .inr (Kd.R_base HO305.out k_ e_.symm)) hs_) (fun e_ => .inl e_)));have n3_:=zM (hb);clear HI0; clear HO305;clear HK; clear HB; have HI0 := n0_; have HO305 := n1_; have HK := n2_; have HB := n3_; clear n0_ n1_ n2_ n3_; (try clear hb); (try clear hkp); (try clear hy0)))
    go_ret
    exact ⟨_, by first | rfl | (simp [errW_none, errW_some] <;> rfl) | (simp only [← hji9]; first | rfl | (simp [errW_none, errW_some] <;> rfl)) | (simp [*, errW_none, errW_some] <;> rfl), by exact HO305.out, by repeat (first | (with_reducible first | exact HI0.out | apply Z107.alloc | apply Z107.drewN | apply Z107.drew | apply Z107.set_1) | exact HI0.out), by repeat (first | (with_reducible first | exact HB.out | apply zB | apply zA | apply zC | refine zD ?_ (Z107.ge HI0.out)) | exact HB.out), by repeat (first | (with_reducible first | exact HK.out | apply zK | apply keep_drewN | apply keep_drew | apply keep_alloc) | exact HK.out)⟩
   ·rw [if_neg c11] at H
    exact absurd H (by simp)
  ·rw [if_neg c10] at H
   exact absurd H (by simp)

/-! ### spec_l20Wild: function 70 -/
def spec_l20Wild.j0 : Nat → Int → List Int → Bool → List Int → Int → Option (List Int × Int)
 | 0, _, _, _, _, _ => none
 | k + 1, x1, x5, x17, x1000, x1001 => if x17 = true then ((spec_l20Order.f k x1000 x1001 (x5.length : Int)).bind fun bt315 => ((spec_PutInOrder.f k x5 bt315.1).bind fun bt319 => (some (bt319.1, bt315.2)))) else ((spec_l20Rd_pick.f k x1000 x1001 3).bind fun bt323 => (if bt323.1 = 0 then ((spec_l20Flat.f k x1000 bt323.2 x1).bind fun bt325 => (some (bt325.1, bt325.2))) else (some (x5, bt323.2))))
def spec_l20Wild.f (k : Nat) (s0_0 : List Int) (s0_1 : Int) (a1 : Int) : Option (List Int × Int) := (spec_l20Tree.f k s0_0 s0_1 a1).bind fun bt308 => ((spec_l20Rd_pick.f k s0_0 bt308.2 2).bind fun bt312 => (if bt312.1 = 0 then ((spec_TreeOk.f k bt308.1).bind fun t314 => (spec_l20Wild.j0 k a1 bt308.1 t314 s0_0 bt312.2)) else (spec_l20Wild.j0 k a1 bt308.1 false s0_0 bt312.2)))
theorem spec_l20Wild.mono_l : ∀ k, (∀ y0 y1 y2 y3 y4, LeO (spec_l20Wild.j0 k y0 y1 y2 y3 y4) (spec_l20Wild.j0 (k + 1) y0 y1 y2 y3 y4))
 | 0 => fun _ _ _ _ _ r h => by simp [spec_l20Wild.j0] at h
 | k + 1 => by
  have ih0 := spec_l20Wild.mono_l k
  ·intro y0 y1 y2 y3 y4
   unfold spec_l20Wild.j0
   repeat' first
   | (with_reducible exact ih0 _ _ _ _ _)
   | (with_reducible exact spec_PutInOrder.mono _ _ _)
   | (with_reducible exact spec_TreeOk.mono _ _)
   | (with_reducible exact spec_l20Flat.mono _ _ _ _)
   | (with_reducible exact spec_l20Order.mono _ _ _ _)
   | (with_reducible exact spec_l20Rd_pick.mono _ _ _ _)
   | (with_reducible exact spec_l20Tree.mono _ _ _ _)
   | (with_reducible exact LeO.refl _)
   | (with_reducible exact LeO.none _)
   | (with_reducible refine LeO.ite ?_ ?_)
   | (with_reducible refine LeO.bind ?_ (fun _ => ?_))
   | refine LeO.ite ?_ ?_
   | refine LeO.bind ?_ (fun _ => ?_)
theorem spec_l20Wild.mono : ∀ a0 a1 a2 k, LeO (spec_l20Wild.f k a0 a1 a2) (spec_l20Wild.f (k + 1) a0 a1 a2) := by
 intro a0 a1 a2 k
 have ih0 := spec_l20Wild.mono_l k
 unfold spec_l20Wild.f
 repeat' first
   | (with_reducible exact ih0 _ _ _ _ _)
   | (with_reducible exact spec_PutInOrder.mono _ _ _)
   | (with_reducible exact spec_TreeOk.mono _ _)
   | (with_reducible exact spec_l20Flat.mono _ _ _ _)
   | (with_reducible exact spec_l20Order.mono _ _ _ _)
   | (with_reducible exact spec_l20Rd_pick.mono _ _ _ _)
   | (with_reducible exact spec_l20Tree.mono _ _ _ _)
   | (with_reducible exact LeO.refl _)
   | (with_reducible exact LeO.none _)
   | (with_reducible refine LeO.ite ?_ ?_)
   | (with_reducible refine LeO.bind ?_ (fun _ => ?_))
   | refine LeO.ite ?_ ?_
   | refine LeO.bind ?_ (fun _ => ?_)
set_option maxHeartbeats 8000000 in
set_option maxRecDepth 100000 in
theorem spec_l20Wild.calls (k : Nat) (g : Nat) (s0_0 : List Int) (s0_1 : Int) (a1 : Int) (r1 : List Int) (r2 : Int) (w0 w : World) (hI : Z107 w0 w g s0_0 s0_1) (hB : Below w0.heap.size w0 w) (h : spec_l20Wild.f k s0_0 s0_1 a1 = some (r1, r2)) :
  Calls Try.prog 70 #[.pointer (some ⟨g, 0, none⟩), .int .i64 a1] w fun e w' => ∃ v0_ : Value, e = .returned (v0_) ∧ Kd.R (Kd.int .i64) 3 w' w.heap.size (fun _ => True) v0_ r1 ∧ Z107 w0 w' g s0_0 r2 ∧ Below w0.heap.size w0 w' ∧ KeepBut w w' g none := by
 have HI0 := zM hI
 have HK := zM (KeepBut.refl w g none)
 have HL := zM hB.size
 clear hI
 have HW0 := zM hB.size
 have HB := zM hB
 clear hB
 have H : ((spec_l20Tree.f k s0_0 s0_1 a1).bind fun bt308 => ((spec_l20Rd_pick.f k s0_0 bt308.2 2).bind fun bt312 => (if bt312.1 = 0 then ((spec_TreeOk.f k bt308.1).bind fun t314 => (spec_l20Wild.j0 k a1 bt308.1 t314 s0_0 bt312.2)) else (spec_l20Wild.j0 k a1 bt308.1 false s0_0 bt312.2)))) = some (r1, r2) := h
 clear h
 replace H := Option.bind_eq_some_iff.mp H
 obtain ⟨⟨t308, t311⟩, A30, H⟩ := H
 replace H : ((spec_l20Rd_pick.f k s0_0 t311 2).bind fun bt312 => (if bt312.1 = 0 then ((spec_TreeOk.f k t308).bind fun t314 => (spec_l20Wild.j0 k a1 t308 t314 s0_0 bt312.2)) else (spec_l20Wild.j0 k a1 t308 false s0_0 bt312.2))) = some (r1, r2) := H
 have A3 := zM A30
 clear A30
 have HC4 := zM H
 clear H
 go_enter Try.func70, Try.ntmps70
 go_upto_region 2 with (first | ((with_reducible refine gate_callee (f := 101) rfl ?_); refine goesL_ (some 10) rfl rfl Try.func101 (by kernel_rfl) rfl #[.pointer (some ⟨g, 0, none⟩), .int .i64 a1] rfl (by (try simp only [List.map_toArray, List.map_cons, List.map_nil]); first | done | rfl | (simp only [List.length_drop, List.length_take]; rfl)) ?_; (with_reducible refine (spec_l20Tree.calls k g s0_0 s0_1 a1 t308 t311 w0 _ ?side1 ?side2 A3.out).mono ?_); (case side1 => repeat (first | (with_reducible first | exact HI0.out | apply Z107.alloc | apply Z107.drewN | apply Z107.drew | apply Z107.set_1) | exact HI0.out)); (case side2 => repeat (first | (with_reducible first | exact HB.out | apply zB | apply zA | apply zC | refine zD ?_ (Z107.ge HI0.out)) | exact HB.out)); rintro e w5 ⟨v309, rfl, ho0, hi, hb, hk⟩; refine ⟨_, rfl, ?_⟩;have n0_:=zM (Kd.R_lower ho0 (keep_size (w := w) (g := g) (row := none) (by repeat (first | (with_reducible first | exact HK.out | apply zK | apply keep_drewN | apply keep_drew | apply keep_alloc) | exact HK.out))));have n1_:=zM (KeepBut.trans (by repeat (first | (with_reducible first | exact HK.out | apply zK | apply keep_drewN | apply keep_drew | apply keep_alloc) | exact HK.out)) hk (.inl rfl));have n2_:=zM (hb);have n3_:=zM (hi);clear HK; clear HB;clear HI0; have HO310 := n0_; have HK := n1_; have HB := n2_; have HI0 := n3_; clear n0_ n1_ n2_ n3_; (try clear hb); (try clear hb2); (try clear hk); (try clear hi); (try clear ho0)))
 (try simp only [Act.put, zE, zF, zG])
 go_cut [17] (fun v17 wc => ∃ (kq : Nat) (x17_3 : Bool) (x1001_3 : Int), v17 = .bool x17_3 ∧ Aside0 (spec_l20Wild.j0 kq a1 t308 x17_3 s0_0 x1001_3 = some (r1, r2)) ∧ Aside0 (kq ≤ k) ∧ Aside0 (Kd.R (Kd.int .i64) 3 wc w.heap.size (fun _ => True) v309 t308) ∧ Aside0 (Z107 w0 wc g s0_0 x1001_3) ∧ Aside0 (KeepBut w wc g none) ∧ Aside0 (Below w0.heap.size w0 wc))
 case first =>
  have H := HC4.out
  clear HC4
  replace H := Option.bind_eq_some_iff.mp H
  obtain ⟨⟨t312, t313⟩, A60, H⟩ := H
  replace H : (if t312 = 0 then ((spec_TreeOk.f k t308).bind fun t314 => (spec_l20Wild.j0 k a1 t308 t314 s0_0 t313)) else (spec_l20Wild.j0 k a1 t308 false s0_0 t313)) = some (r1, r2) := H
  have A6 := zM A60
  clear A60
  by_cases c7 : t312 = 0
  ·rw [if_pos c7] at H
   have c7b0 : (t312 == 0) = true := beq_iff_eq.mpr c7
   have c7b1 : (t312 != 0) = false := bne_eq_false_iff_eq.mpr c7
   clear c7
   (first | rw [c7b0] | (simp only [i64_w, i32_w]; rw [c7b0]) | skip)
   replace H := Option.bind_eq_some_iff.mp H
   obtain ⟨t314, A80, H⟩ := H
   replace H : (spec_l20Wild.j0 k a1 t308 t314 s0_0 t313) = some (r1, r2) := H
   have A8 := zM A80
   clear A80
   have H' := zM H
   clear H
   go_wp2_with (first | ((with_reducible refine gate_callee (f := 94) rfl ?_); refine goesL_ (some 12) rfl rfl Try.func94 (by kernel_rfl) rfl #[.pointer (some ⟨g, 0, none⟩), .int .i64 2] rfl (by (try simp only [List.map_toArray, List.map_cons, List.map_nil]); first | done | rfl | (simp only [List.length_drop, List.length_take]; rfl)) ?_; (with_reducible refine (spec_l20Rd_pick.calls k g s0_0 t311 2 t312 t313 w0 _ ?side1 ?side2 A6.out).mono ?_); (case side1 => repeat (first | (with_reducible first | exact HI0.out | apply Z107.alloc | apply Z107.drewN | apply Z107.drew | apply Z107.set_1) | exact HI0.out)); (case side2 => repeat (first | (with_reducible first | exact HB.out | apply zB | apply zA | apply zC | refine zD ?_ (Z107.ge HI0.out)) | exact HB.out)); rintro e w9 ⟨rfl, hi, hb, hk⟩; refine ⟨_, rfl, ?_⟩;have n0_:=zM (Kd.R_mono (Kd.R_keep (Z107.apart (show Z107 w0 _ g s0_0 t311 from by repeat (first | (with_reducible first | exact HI0.out | apply Z107.alloc | apply Z107.drewN | apply Z107.drew | apply Z107.set_1) | exact HI0.out)) (by exact HO310.out) (by decide)) hk (fun _ h => h.2)) (fun _ h => h.1));have n1_:=zM (KeepBut.trans (by repeat (first | (with_reducible first | exact HK.out | apply zK | apply keep_drewN | apply keep_drew | apply keep_alloc) | exact HK.out)) hk (.inl rfl));have n2_:=zM (hb);have n3_:=zM (hi);clear HO310; clear HK;clear HB; clear HI0; have HO310 := n0_; have HK := n1_; have HB := n2_; have HI0 := n3_; clear n0_ n1_ n2_ n3_; (try clear hb); (try clear hb2); (try clear hk); (try clear hi); obtain ⟨Ao10, co10, eo10⟩ := Kd.R_slice HO310.out; subst eo10) | (go_at_call 74; (with_reducible refine (spec_TreeOk.calls k _ _ t308 t314 _ ?side1 ?side2 A8.out).mono ?_); (case side1 => repeat (first | exact (Kd.R_reads' HO310.out).2.2 | (with_reducible refine Kd.C_alloc ?_ _) | (with_reducible refine Kd.C_drewN ?_ _) | (with_reducible refine Kd.C_drew ?_))); (case side2 => exact (Kd.R_reads' HO310.out).2.1); rintro e w' ⟨rfl, ⟨nd, rfl⟩⟩))
   go_meet
   case rel => exact ⟨_, (t314), (t313), (by first | rfl | (simp; done) | (simp [*]; done)), H', ⟨by first | omega | exact Nat.le_refl _⟩, ⟨by exact HO310.out⟩, ⟨by repeat (first | (with_reducible first | exact HI0.out | apply Z107.alloc | apply Z107.drewN | apply Z107.drew | apply Z107.set_1) | exact HI0.out)⟩, ⟨by repeat (first | (with_reducible first | exact HK.out | apply zK | apply keep_drewN | apply keep_drew | apply keep_alloc) | exact HK.out)⟩, ⟨by repeat (first | (with_reducible first | exact HB.out | apply zB | apply zA | apply zC | refine zD ?_ (Z107.ge HI0.out)) | exact HB.out)⟩⟩
  ·rw [if_neg c7] at H
   have c7b0 : (t312 == 0) = false := beq_eq_false_iff_ne.mpr c7
   have c7b1 : (t312 != 0) = true := bne_iff_ne.mpr c7
   (first | rw [c7b0] | (simp only [i64_w, i32_w]; rw [c7b0]) | skip)
   have H' := zM H
   clear H
   go_wp2_with (first | ((with_reducible refine gate_callee (f := 94) rfl ?_); refine goesL_ (some 12) rfl rfl Try.func94 (by kernel_rfl) rfl #[.pointer (some ⟨g, 0, none⟩), .int .i64 2] rfl (by (try simp only [List.map_toArray, List.map_cons, List.map_nil]); first | done | rfl | (simp only [List.length_drop, List.length_take]; rfl)) ?_; (with_reducible refine (spec_l20Rd_pick.calls k g s0_0 t311 2 t312 t313 w0 _ ?side1 ?side2 A6.out).mono ?_); (case side1 => repeat (first | (with_reducible first | exact HI0.out | apply Z107.alloc | apply Z107.drewN | apply Z107.drew | apply Z107.set_1) | exact HI0.out)); (case side2 => repeat (first | (with_reducible first | exact HB.out | apply zB | apply zA | apply zC | refine zD ?_ (Z107.ge HI0.out)) | exact HB.out)); rintro e w11 ⟨rfl, hi, hb, hk⟩; refine ⟨_, rfl, ?_⟩;have n0_:=zM (Kd.R_mono (Kd.R_keep (Z107.apart (show Z107 w0 _ g s0_0 t311 from by repeat (first | (with_reducible first | exact HI0.out | apply Z107.alloc | apply Z107.drewN | apply Z107.drew | apply Z107.set_1) | exact HI0.out)) (by exact HO310.out) (by decide)) hk (fun _ h => h.2)) (fun _ h => h.1));have n1_:=zM (KeepBut.trans (by repeat (first | (with_reducible first | exact HK.out | apply zK | apply keep_drewN | apply keep_drew | apply keep_alloc) | exact HK.out)) hk (.inl rfl));have n2_:=zM (hb);have n3_:=zM (hi);clear HO310; clear HK;clear HB; clear HI0; have HO310 := n0_; have HK := n1_; have HB := n2_; have HI0 := n3_; clear n0_ n1_ n2_ n3_; (try clear hb); (try clear hb2); (try clear hk); (try clear hi)))
   go_meet
   case rel => exact ⟨_, (false), (t313), (by first | rfl | (simp; done) | (simp [*]; done)), H', ⟨by first | omega | exact Nat.le_refl _⟩, ⟨by exact HO310.out⟩, ⟨by repeat (first | (with_reducible first | exact HI0.out | apply Z107.alloc | apply Z107.drewN | apply Z107.drew | apply Z107.set_1) | exact HI0.out)⟩, ⟨by repeat (first | (with_reducible first | exact HK.out | apply zK | apply keep_drewN | apply keep_drew | apply keep_alloc) | exact HK.out)⟩, ⟨by repeat (first | (with_reducible first | exact HB.out | apply zB | apply zA | apply zC | refine zD ?_ (Z107.ge HI0.out)) | exact HB.out)⟩⟩
 case rest =>
  clear HC4
  try clear c1
  try clear p2
  try clear c7
  try clear c7b0
  try clear c7b1
  try clear c9
  try clear c10
  obtain ⟨kq, x17_3, x1001_3, rfl, HA, HJ3, HO_5, HI0, HK, HB⟩ := hcut
  cases kq with
  | zero => exact absurd HA.out (by simp [spec_l20Wild.j0])
  | succ kj3 =>
   have H := HA.out
   clear HA
   simp only [spec_l20Wild.j0] at H
   by_cases c12 : x17_3 = true
   ·subst c12
    have H1 : ((spec_l20Order.f kj3 s0_0 x1001_3 (t308.length : Int)).bind fun bt315 => ((spec_PutInOrder.f kj3 t308 bt315.1).bind fun bt319 => (some (bt319.1, bt315.2)))) = some (r1, r2) := by rw [if_pos rfl] at H; exact H
    clear H
    have H := H1
    clear H1
    replace H := Option.bind_eq_some_iff.mp H
    obtain ⟨⟨t315, t318⟩, A130, H⟩ := H
    replace H : ((spec_PutInOrder.f kj3 t308 t315).bind fun bt319 => (some (bt319.1, t318))) = some (r1, r2) := H
    have A13 := zM A130
    clear A130
    replace H := Option.bind_eq_some_iff.mp H
    obtain ⟨⟨t319, t320⟩, A140, H⟩ := H
    replace H : (some (t319, t318)) = some (r1, r2) := H
    have A14 := zM A140
    clear A140
    simp only [Option.some.injEq, Prod.mk.injEq] at H
    obtain ⟨rfl, rfl⟩ := H
    obtain ⟨Ao15, co15, eo15⟩ := Kd.R_slice HO_5.out
    subst eo15
    go_wp2_with (first | ((with_reducible refine gate_callee (f := 99) rfl ?_); refine goesL_ (some 23) rfl rfl Try.func99 (by kernel_rfl) rfl #[.pointer (some ⟨g, 0, none⟩), .int .i64 (t308.length : Int)] rfl (by (try simp only [List.map_toArray, List.map_cons, List.map_nil]); first | done | rfl | (simp only [List.length_drop, List.length_take]; rfl)) ?_; (with_reducible refine (spec_l20Order.calls kj3 g s0_0 x1001_3 (t308.length : Int) t315 t318 w0 _ ?side1 ?side2 A13.out).mono ?_); (case side1 => repeat (first | (with_reducible first | exact HI0.out | apply Z107.alloc | apply Z107.drewN | apply Z107.drew | apply Z107.set_1) | exact HI0.out)); (case side2 => repeat (first | (with_reducible first | exact HB.out | apply zB | apply zA | apply zC | refine zD ?_ (Z107.ge HI0.out)) | exact HB.out)); rintro e w16 ⟨v316, rfl, ho0, hi, hb, hk⟩; refine ⟨_, rfl, ?_⟩;have n0_:=zM (Kd.R_mono (Kd.R_told (Kd.R_oldK (Z107.apart (show Z107 w0 _ g s0_0 x1001_3 from by repeat (first | (with_reducible first | exact HI0.out | apply Z107.alloc | apply Z107.drewN | apply Z107.drew | apply Z107.set_1) | exact HI0.out)) (by exact HO_5.out) (by decide)) hk) (Kd.R_base ho0)) (fun _ h_ => h_.1));have n1_:=zM (Kd.R_lower (Kd.R_new' ho0 (Kd.R_lt (by exact HO_5.out))) (keep_size (w := w) (g := g) (row := none) (by repeat (first | (with_reducible first | exact HK.out | apply zK | apply keep_drewN | apply keep_drew | apply keep_alloc) | exact HK.out))));have n2_:=zM (KeepBut.trans (by repeat (first | (with_reducible first | exact HK.out | apply zK | apply keep_drewN | apply keep_drew | apply keep_alloc) | exact HK.out)) hk (.inl rfl));have n3_:=zM (hb);have n4_:=zM (hi);clear HO_5; clear HK;clear HB; clear HI0; have HO_5 := n0_; have HO317 := n1_; have HK := n2_; have HB := n3_; have HI0 := n4_; clear n0_ n1_ n2_ n3_ n4_; (try clear hb); (try clear hb2); (try clear hk); (try clear hi); (try clear ho0); obtain ⟨Ao17, co17, eo17⟩ := Kd.R_slice HO317.out; subst eo17) | ((with_reducible refine gate_callee (f := 79) rfl ?_); refine goesL_ (some 24) rfl rfl Try.func79 (by kernel_rfl) rfl #[.slice Ao15 t308.length co15, .slice Ao17 t315.length co17] rfl (by (try simp only [List.map_toArray, List.map_cons, List.map_nil]); first | done | rfl | (simp only [List.length_drop, List.length_take]; rfl)) ?_; (with_reducible refine (spec_PutInOrder.calls kj3 _ _ t308 _ _ t315 t319 t320 _ ?side1 ?side2 ?side3 ?side4 A14.out).mono ?_); (case side1 => repeat (first | exact (Kd.R_reads' HO_5.out).2.2 | (with_reducible refine Kd.C_alloc ?_ _) | (with_reducible refine Kd.C_drewN ?_ _) | (with_reducible refine Kd.C_drew ?_))); (case side2 => exact (Kd.R_reads' HO_5.out).2.1); (case side3 => repeat (first | exact (Kd.R_reads' HO317.out).2.2 | (with_reducible refine Kd.C_alloc ?_ _) | (with_reducible refine Kd.C_drewN ?_ _) | (with_reducible refine Kd.C_drew ?_))); (case side4 => exact (Kd.R_reads' HO317.out).2.1); rintro e w18 ⟨v321, rfl, ho0, hb⟩; refine ⟨_, rfl, ?_⟩;have n0_:=zM (Kd.R_elder' (by exact HO_5.out) (Kd.R_base ho0) hb);have n1_:=zM (Kd.R_elder' (by exact HO317.out) (Kd.R_base ho0) hb);have n2_:=zM (Kd.R_lower (Kd.R_new' (Kd.R_new' ho0 (Kd.R_lt (by exact HO_5.out))) (Kd.R_lt (by exact HO317.out))) (keep_size (w := w) (g := g) (row := none) (by repeat (first | (with_reducible first | exact HK.out | apply zK | apply keep_drewN | apply keep_drew | apply keep_alloc) | exact HK.out))));have n3_:=zM (Z107.below (by repeat (first | (with_reducible first | exact HI0.out | apply Z107.alloc | apply Z107.drewN | apply Z107.drew | apply Z107.set_1) | exact HI0.out)) hb);have n4_:=zM (KeepBut.trans (by repeat (first | (with_reducible first | exact HK.out | apply zK | apply keep_drewN | apply keep_drew | apply keep_alloc) | exact HK.out)) (KeepBut.of_below hb g none) (.inl rfl));have n5_:=zM (below_step (by repeat (first | (with_reducible first | exact HB.out | apply zB | apply zA | apply zC | refine zD ?_ (Z107.ge HI0.out)) | exact HB.out)) hb);clear HO_5; clear HO317;clear HI0; clear HK;clear HB; have HO_5 := n0_; have HO317 := n1_; have HO322 := n2_; have HI0 := n3_; have HK := n4_; have HB := n5_; clear n0_ n1_ n2_ n3_ n4_ n5_; (try clear hb); (try clear hb2); (try clear hk); (try clear hi); (try clear ho0)))
    go_ret
    exact ⟨_, by first | rfl | (simp [errW_none, errW_some] <;> rfl) | (simp [*, errW_none, errW_some] <;> rfl), by exact Kd.R_mono HO322.out (fun _ hk => trivial), by repeat (first | (with_reducible first | exact HI0.out | apply Z107.alloc | apply Z107.drewN | apply Z107.drew | apply Z107.set_1) | exact HI0.out), by repeat (first | (with_reducible first | exact HB.out | apply zB | apply zA | apply zC | refine zD ?_ (Z107.ge HI0.out)) | exact HB.out), by repeat (first | (with_reducible first | exact HK.out | apply zK | apply keep_drewN | apply keep_drew | apply keep_alloc) | exact HK.out)⟩
   ·replace c12 := Bool.eq_false_iff.mpr c12
    subst c12
    have H1 : ((spec_l20Rd_pick.f kj3 s0_0 x1001_3 3).bind fun bt323 => (if bt323.1 = 0 then ((spec_l20Flat.f kj3 s0_0 bt323.2 a1).bind fun bt325 => (some (bt325.1, bt325.2))) else (some (t308, bt323.2)))) = some (r1, r2) := by rw [if_neg (show ¬ (false = true) by decide)] at H; exact H
    clear H
    have H := H1
    clear H1
    replace H := Option.bind_eq_some_iff.mp H
    obtain ⟨⟨t323, t324⟩, A190, H⟩ := H
    replace H : (if t323 = 0 then ((spec_l20Flat.f kj3 s0_0 t324 a1).bind fun bt325 => (some (bt325.1, bt325.2))) else (some (t308, t324))) = some (r1, r2) := H
    have A19 := zM A190
    clear A190
    by_cases c20 : t323 = 0
    ·rw [if_pos c20] at H
     have c20b0 : (t323 == 0) = true := beq_iff_eq.mpr c20
     have c20b1 : (t323 != 0) = false := bne_eq_false_iff_eq.mpr c20
     clear c20
     replace H := Option.bind_eq_some_iff.mp H
     obtain ⟨⟨t325, t328⟩, A210, H⟩ := H
     replace H : (some (t325, t328)) = some (r1, r2) := H
     have A21 := zM A210
     clear A210
     simp only [Option.some.injEq, Prod.mk.injEq] at H
     obtain ⟨rfl, rfl⟩ := H
     go_wp2_with (first | ((with_reducible refine gate_callee (f := 94) rfl ?_); refine goesL_ (some 29) rfl rfl Try.func94 (by kernel_rfl) rfl #[.pointer (some ⟨g, 0, none⟩), .int .i64 3] rfl (by (try simp only [List.map_toArray, List.map_cons, List.map_nil]); first | done | rfl | (simp only [List.length_drop, List.length_take]; rfl)) ?_; (with_reducible refine (spec_l20Rd_pick.calls kj3 g s0_0 x1001_3 3 t323 t324 w0 _ ?side1 ?side2 A19.out).mono ?_); (case side1 => repeat (first | (with_reducible first | exact HI0.out | apply Z107.alloc | apply Z107.drewN | apply Z107.drew | apply Z107.set_1) | exact HI0.out)); (case side2 => repeat (first | (with_reducible first | exact HB.out | apply zB | apply zA | apply zC | refine zD ?_ (Z107.ge HI0.out)) | exact HB.out)); rintro e w22 ⟨rfl, hi, hb, hk⟩; refine ⟨_, rfl, ?_⟩;have n0_:=zM (Kd.R_mono (Kd.R_keep (Z107.apart (show Z107 w0 _ g s0_0 x1001_3 from by repeat (first | (with_reducible first | exact HI0.out | apply Z107.alloc | apply Z107.drewN | apply Z107.drew | apply Z107.set_1) | exact HI0.out)) (by exact HO_5.out) (by decide)) hk (fun _ h => h.2)) (fun _ h => h.1));have n1_:=zM (KeepBut.trans (by repeat (first | (with_reducible first | exact HK.out | apply zK | apply keep_drewN | apply keep_drew | apply keep_alloc) | exact HK.out)) hk (.inl rfl));have n2_:=zM (hb);have n3_:=zM (hi);clear HO_5; clear HK;clear HB; clear HI0; have HO_5 := n0_; have HK := n1_; have HB := n2_; have HI0 := n3_; clear n0_ n1_ n2_ n3_; (try clear hb); (try clear hb2); (try clear hk); (try clear hi)) | ((with_reducible refine gate_callee (f := 128) rfl ?_); refine goesL_ (some 33) rfl rfl Try.func128 (by kernel_rfl) rfl #[.pointer (some ⟨g, 0, none⟩), .int .i64 a1] rfl (by (try simp only [List.map_toArray, List.map_cons, List.map_nil]); first | done | rfl | (simp only [List.length_drop, List.length_take]; rfl)) ?_; (with_reducible refine (spec_l20Flat.calls kj3 g s0_0 t324 a1 t325 t328 w0 _ ?side1 ?side2 A21.out).mono ?_); (case side1 => repeat (first | (with_reducible first | exact HI0.out | apply Z107.alloc | apply Z107.drewN | apply Z107.drew | apply Z107.set_1) | exact HI0.out)); (case side2 => repeat (first | (with_reducible first | exact HB.out | apply zB | apply zA | apply zC | refine zD ?_ (Z107.ge HI0.out)) | exact HB.out)); rintro e w23 ⟨v326, rfl, ho0, hi, hb, hk⟩; refine ⟨_, rfl, ?_⟩;have n0_:=zM (Kd.R_mono (Kd.R_told (Kd.R_oldK (Z107.apart (show Z107 w0 _ g s0_0 t324 from by repeat (first | (with_reducible first | exact HI0.out | apply Z107.alloc | apply Z107.drewN | apply Z107.drew | apply Z107.set_1) | exact HI0.out)) (by exact HO_5.out) (by decide)) hk) (Kd.R_base ho0)) (fun _ h_ => h_.1));have n1_:=zM (Kd.R_lower (Kd.R_new' ho0 (Kd.R_lt (by exact HO_5.out))) (keep_size (w := w) (g := g) (row := none) (by repeat (first | (with_reducible first | exact HK.out | apply zK | apply keep_drewN | apply keep_drew | apply keep_alloc) | exact HK.out))));have n2_:=zM (KeepBut.trans (by repeat (first | (with_reducible first | exact HK.out | apply zK | apply keep_drewN | apply keep_drew | apply keep_alloc) | exact HK.out)) hk (.inl rfl));have n3_:=zM (hb);have n4_:=zM (hi);clear HO_5; clear HK;clear HB; clear HI0; have HO_5 := n0_; have HO327 := n1_; have HK := n2_; have HB := n3_; have HI0 := n4_; clear n0_ n1_ n2_ n3_ n4_; (try clear hb); (try clear hb2); (try clear hk); (try clear hi); (try clear ho0)))
     go_ret
     exact ⟨_, by first | rfl | (simp [errW_none, errW_some] <;> rfl) | (simp [*, errW_none, errW_some] <;> rfl), by exact Kd.R_mono HO327.out (fun _ hk => trivial), by repeat (first | (with_reducible first | exact HI0.out | apply Z107.alloc | apply Z107.drewN | apply Z107.drew | apply Z107.set_1) | exact HI0.out), by repeat (first | (with_reducible first | exact HB.out | apply zB | apply zA | apply zC | refine zD ?_ (Z107.ge HI0.out)) | exact HB.out), by repeat (first | (with_reducible first | exact HK.out | apply zK | apply keep_drewN | apply keep_drew | apply keep_alloc) | exact HK.out)⟩
    ·rw [if_neg c20] at H
     have c20b0 : (t323 == 0) = false := beq_eq_false_iff_ne.mpr c20
     have c20b1 : (t323 != 0) = true := bne_iff_ne.mpr c20
     simp only [Option.some.injEq, Prod.mk.injEq] at H
     obtain ⟨rfl, rfl⟩ := H
     go_wp2_with (first | ((with_reducible refine gate_callee (f := 94) rfl ?_); refine goesL_ (some 29) rfl rfl Try.func94 (by kernel_rfl) rfl #[.pointer (some ⟨g, 0, none⟩), .int .i64 3] rfl (by (try simp only [List.map_toArray, List.map_cons, List.map_nil]); first | done | rfl | (simp only [List.length_drop, List.length_take]; rfl)) ?_; (with_reducible refine (spec_l20Rd_pick.calls kj3 g s0_0 x1001_3 3 t323 t324 w0 _ ?side1 ?side2 A19.out).mono ?_); (case side1 => repeat (first | (with_reducible first | exact HI0.out | apply Z107.alloc | apply Z107.drewN | apply Z107.drew | apply Z107.set_1) | exact HI0.out)); (case side2 => repeat (first | (with_reducible first | exact HB.out | apply zB | apply zA | apply zC | refine zD ?_ (Z107.ge HI0.out)) | exact HB.out)); rintro e w24 ⟨rfl, hi, hb, hk⟩; refine ⟨_, rfl, ?_⟩;have n0_:=zM (Kd.R_mono (Kd.R_keep (Z107.apart (show Z107 w0 _ g s0_0 x1001_3 from by repeat (first | (with_reducible first | exact HI0.out | apply Z107.alloc | apply Z107.drewN | apply Z107.drew | apply Z107.set_1) | exact HI0.out)) (by exact HO_5.out) (by decide)) hk (fun _ h => h.2)) (fun _ h => h.1));have n1_:=zM (KeepBut.trans (by repeat (first | (with_reducible first | exact HK.out | apply zK | apply keep_drewN | apply keep_drew | apply keep_alloc) | exact HK.out)) hk (.inl rfl));have n2_:=zM (hb);have n3_:=zM (hi);clear HO_5; clear HK;clear HB; clear HI0; have HO_5 := n0_; have HK := n1_; have HB := n2_; have HI0 := n3_; clear n0_ n1_ n2_ n3_; (try clear hb); (try clear hb2); (try clear hk); (try clear hi)))
     go_ret
     exact ⟨_, by first | rfl | (simp [errW_none, errW_some] <;> rfl) | (simp [*, errW_none, errW_some] <;> rfl), by exact HO_5.out, by repeat (first | (with_reducible first | exact HI0.out | apply Z107.alloc | apply Z107.drewN | apply Z107.drew | apply Z107.set_1) | exact HI0.out), by repeat (first | (with_reducible first | exact HB.out | apply zB | apply zA | apply zC | refine zD ?_ (Z107.ge HI0.out)) | exact HB.out), by repeat (first | (with_reducible first | exact HK.out | apply zK | apply keep_drewN | apply keep_drew | apply keep_alloc) | exact HK.out)⟩

end Go.Proofs.Ytidimndhnagfeaa.LI
