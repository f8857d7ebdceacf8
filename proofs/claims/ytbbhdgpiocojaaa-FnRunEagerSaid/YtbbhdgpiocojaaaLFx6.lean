/- Printed by a program of this session (wip/lp/lp.py) out of the translation: functions with the same answers as the Go code, and their contracts; no conditions beyond those that each theorem names. -/
import Derived.Test.YtbbhdgpiocojaaaLFx0
import Derived.Test.YtbbhdgpiocojaaaLFx3
import Derived.Test.YtbbhdgpiocojaaaLFx5
namespace Go.Proofs.Ytbbhdgpiocojaaa.LF
open Go.RowKit Go.Proofs.YtbbhdgpiocojaaaV.PrintWords Go.Proofs.YtbbhdgpiocojaaaV.PrintLast Go.Proofs.YtbbhdgpiocojaaaV.PrintMore
attribute [local go_sem] max2_int min2_int max_two min_two max_three min_three max_four min_four   -- for this text's walks alone
set_option linter.unusedVariables false
set_option linter.unusedSimpArgs false

/-! ### spec_l20Fill: function 119 -/
mutual
def spec_l20Fill.l0 : Nat → List Int → Int → Int → Int → List Int → Int → Option (Int × List Int)
  | 0, _, _, _, _, _, _ => none
  | k + 1, x1, x3, x10, x11, x1000, x1001 => if x11 < x10 then ((spec_l20Rd_pick.f k x1000 x1001 (wrap64 (x10 - x11))).bind fun bt247 => ((spec_l20Fill.f k x1000 bt247.2 x1 x11 (wrap64 (x11 + bt247.1)) x10).bind fun bt249 => (spec_l20Fill.l0 k bt249.2 x3 x10 (wrap64 ((wrap64 (x11 + bt247.1)) + 1)) x1000 bt249.1))) else (spec_l20Fill.l1 k x1 x3 x10 (wrap64 (x10 + 1)) x1000 x1001)
def spec_l20Fill.l1 : Nat → List Int → Int → Int → Int → List Int → Int → Option (Int × List Int)
  | 0, _, _, _, _, _, _ => none
  | k + 1, x1, x3, x10, x11, x1000, x1001 => if x11 ≤ x3 then ((spec_l20Rd_pick.f k x1000 x1001 (wrap64 ((wrap64 (x3 - x11)) + 1))).bind fun bt251 => ((spec_l20Fill.f k x1000 bt251.2 x1 x11 (wrap64 (x11 + bt251.1)) x10).bind fun bt253 => (spec_l20Fill.l1 k bt253.2 x3 x10 (wrap64 ((wrap64 (x11 + bt251.1)) + 1)) x1000 bt253.1))) else (some (x1001, x1))
def spec_l20Fill.f : Nat → List Int → Int → List Int → Int → Int → Int → Option (Int × List Int)
  | 0, _, _, _, _, _, _ => none
  | k + 1, s0_0, s0_1, l1, a2, a3, a4 => if a2 > a3 then (some (s0_1, l1)) else ((spec_l20Rd_pick.f k s0_0 s0_1 (wrap64 ((wrap64 (a3 - a2)) + 1))).bind fun bt244 => (if 0 ≤ (wrap64 ((wrap64 (a2 + bt244.1)) - 1)) then (if (wrap64 ((wrap64 (a2 + bt244.1)) - 1)) < (l1.length : Int) then (spec_l20Fill.l0 k (l1.set ((wrap64 ((wrap64 (a2 + bt244.1)) - 1)) : Int).toNat a4) a3 (wrap64 (a2 + bt244.1)) a2 s0_0 bt244.2) else (none)) else (none)))
end
theorem spec_l20Fill.mono_l : ∀ k, (∀ y0 y1 y2 y3 y4 y5, LeO (spec_l20Fill.f k y0 y1 y2 y3 y4 y5) (spec_l20Fill.f (k + 1) y0 y1 y2 y3 y4 y5)) ∧ (∀ y0 y1 y2 y3 y4 y5, LeO (spec_l20Fill.l0 k y0 y1 y2 y3 y4 y5) (spec_l20Fill.l0 (k + 1) y0 y1 y2 y3 y4 y5)) ∧ (∀ y0 y1 y2 y3 y4 y5, LeO (spec_l20Fill.l1 k y0 y1 y2 y3 y4 y5) (spec_l20Fill.l1 (k + 1) y0 y1 y2 y3 y4 y5))
  | 0 => ⟨fun _ _ _ _ _ _ r h => by simp [spec_l20Fill.f] at h, fun _ _ _ _ _ _ r h => by simp [spec_l20Fill.l0] at h, fun _ _ _ _ _ _ r h => by simp [spec_l20Fill.l1] at h⟩
  | k + 1 => by
    obtain ⟨ih0, ih1, ih2⟩ := spec_l20Fill.mono_l k
    refine ⟨?_, ?_, ?_⟩
    · intro y0 y1 y2 y3 y4 y5
      unfold spec_l20Fill.f
      repeat' first
      | (with_reducible exact ih0 _ _ _ _ _ _)
      | (with_reducible exact ih1 _ _ _ _ _ _)
      | (with_reducible exact ih2 _ _ _ _ _ _)
      | (with_reducible exact spec_l20Rd_pick.mono _ _ _ _)
      | (with_reducible exact LeO.refl _)
      | (with_reducible exact LeO.none _)
      | (with_reducible refine LeO.ite ?_ ?_)
      | (with_reducible refine LeO.bind ?_ (fun _ => ?_))
      | exact ih0 _ _ _ _ _ _
      | exact ih1 _ _ _ _ _ _
      | exact ih2 _ _ _ _ _ _
      | exact spec_l20Rd_pick.mono _ _ _ _
      | exact LeO.none _
      | refine LeO.ite ?_ ?_
      | refine LeO.bind ?_ (fun _ => ?_)
    · intro y0 y1 y2 y3 y4 y5
      unfold spec_l20Fill.l0
      repeat' first
      | (with_reducible exact ih0 _ _ _ _ _ _)
      | (with_reducible exact ih1 _ _ _ _ _ _)
      | (with_reducible exact ih2 _ _ _ _ _ _)
      | (with_reducible exact spec_l20Rd_pick.mono _ _ _ _)
      | (with_reducible exact LeO.refl _)
      | (with_reducible exact LeO.none _)
      | (with_reducible refine LeO.ite ?_ ?_)
      | (with_reducible refine LeO.bind ?_ (fun _ => ?_))
      | exact ih0 _ _ _ _ _ _
      | exact ih1 _ _ _ _ _ _
      | exact ih2 _ _ _ _ _ _
      | exact spec_l20Rd_pick.mono _ _ _ _
      | exact LeO.none _
      | refine LeO.ite ?_ ?_
      | refine LeO.bind ?_ (fun _ => ?_)
    · intro y0 y1 y2 y3 y4 y5
      unfold spec_l20Fill.l1
      repeat' first
      | (with_reducible exact ih0 _ _ _ _ _ _)
      | (with_reducible exact ih1 _ _ _ _ _ _)
      | (with_reducible exact ih2 _ _ _ _ _ _)
      | (with_reducible exact spec_l20Rd_pick.mono _ _ _ _)
      | (with_reducible exact LeO.refl _)
      | (with_reducible exact LeO.none _)
      | (with_reducible refine LeO.ite ?_ ?_)
      | (with_reducible refine LeO.bind ?_ (fun _ => ?_))
      | exact ih0 _ _ _ _ _ _
      | exact ih1 _ _ _ _ _ _
      | exact ih2 _ _ _ _ _ _
      | exact spec_l20Rd_pick.mono _ _ _ _
      | exact LeO.none _
      | refine LeO.ite ?_ ?_
      | refine LeO.bind ?_ (fun _ => ?_)
theorem spec_l20Fill.mono : ∀ a0 a1 a2 a3 a4 a5 k, LeO (spec_l20Fill.f k a0 a1 a2 a3 a4 a5) (spec_l20Fill.f (k + 1) a0 a1 a2 a3 a4 a5) := by
  intro a0 a1 a2 a3 a4 a5 k
  obtain ⟨ih0, ih1, ih2⟩ := spec_l20Fill.mono_l k
  exact ih0 a0 a1 a2 a3 a4 a5
set_option maxHeartbeats 8000000 in
set_option maxRecDepth 100000 in
theorem spec_l20Fill.calls (k : Nat) : ∀ (g : Nat) (s0_0 : List Int) (s0_1 : Int) (P1_ : Nat → Prop) (u9000_ : Value) (l1 : List Int) (a2 : Int) (a3 : Int) (a4 : Int) (r1 : Int) (r2 : List Int) (w0 w : World) (hI : IsS102 w0 w g s0_0 s0_1) (hB : Below w0.heap.size w0 w) (ho1 : Kd.R (Kd.int .i64) 3 w w0.heap.size P1_ u9000_ l1) (h : spec_l20Fill.f k s0_0 s0_1 l1 a2 a3 a4 = some (r1, r2)),
    Calls Try.prog 119 #[.pointer (some ⟨g, 0, none⟩), u9000_, .int .i64 a2, .int .i64 a3, .int .i64 a4] w fun e w' => e = .returned (.tuple #[]) ∧ IsS102 w0 w' g s0_0 r1 ∧ Kd.R (Kd.int .i64) 3 w' w0.heap.size (fun k_ => (P1_ k_ ∨ w.heap.size ≤ k_)) u9000_ r2 ∧ Below w0.heap.size w0 w' ∧ Kept w w' (fun k_ => (P1_ k_) ∨ k_ = g) := by
  induction k using Nat.strongRecOn with
  | _ k ih =>
  intro g s0_0 s0_1 P1_ u9000_ l1 a2 a3 a4 r1 r2 w0 w hI hB ho1 h
  cases k with
  | zero => exact absurd h (by simp [spec_l20Fill.f])
  | succ k =>
  simp only [spec_l20Fill.f] at h
  have HO1 := Aside0.mk (show Kd.R (Kd.int .i64) 3 w w0.heap.size (fun k_ => (P1_ k_ ∨ w.heap.size ≤ k_)) u9000_ l1 from Kd.R_mono ho1 (fun k_ hk => (.inl hk)))
  have HI0 := Aside0.mk hI
  have HL := Aside0.mk hB.size
  clear hI
  have HK := Aside0.mk (Kept.refl w (fun k_ => (P1_ k_) ∨ k_ = g))
  have HW0 := Aside0.mk hB.size
  have HB := Aside0.mk hB
  clear hB
  have H : (if a2 > a3 then (some (s0_1, l1)) else ((spec_l20Rd_pick.f k s0_0 s0_1 (wrap64 ((wrap64 (a3 - a2)) + 1))).bind fun bt244 => (if 0 ≤ (wrap64 ((wrap64 (a2 + bt244.1)) - 1)) then (if (wrap64 ((wrap64 (a2 + bt244.1)) - 1)) < (l1.length : Int) then (spec_l20Fill.l0 k (l1.set ((wrap64 ((wrap64 (a2 + bt244.1)) - 1)) : Int).toNat a4) a3 (wrap64 (a2 + bt244.1)) a2 s0_0 bt244.2) else (none)) else (none)))) = some (r1, r2) := h
  clear h
  by_cases c6 : a2 > a3
  · rw [if_pos c6] at H
    have c6b0 : decide (a3 < a2) = true := decide_eq_true c6
    clear c6
    simp only [Option.some.injEq, Prod.mk.injEq] at H
    obtain ⟨rfl, rfl⟩ := H
    go_enter Try.func119, Try.ntmps119
    go_wp2
    first | go_end0 | ((try simp only [Exit.inBlock, Exit.then]); refine bodyPost_ret (results_none rfl _ _ _) rfl ?_)
    exact ⟨by first | rfl | (simp [errW_none, errW_some] <;> rfl) | (simp [*, errW_none, errW_some] <;> rfl), by repeat (first | (with_reducible first | exact HI0.out | apply IsS102.alloc | apply IsS102.drewN | apply IsS102.drew | apply IsS102.set_1) | exact HI0.out), by (with_reducible repeat (first | apply Kd.R_alloc | apply Kd.R_drewN | apply Kd.R_drew)); exact HO1.out, by repeat (first | (with_reducible first | exact HB.out | apply below_alloc | apply pw_below_drewN | apply below_drew1 | refine below_set ?_ (IsS102.ge HI0.out)) | exact HB.out), by repeat (first | (with_reducible first | exact HK.out | apply Kept.alloc | apply Kept.drewN | apply Kept.drew | refine Kept.setCell ?_ (.inl (.inr rfl)) _) | exact HK.out)⟩
  · rw [if_neg c6] at H
    have c6b0 : decide (a3 < a2) = false := decide_eq_false c6
    clear c6
    replace H := Option.bind_eq_some_iff.mp H
    obtain ⟨⟨t244, t245⟩, A70, H⟩ := H
    replace H : (if 0 ≤ (wrap64 ((wrap64 (a2 + t244)) - 1)) then (if (wrap64 ((wrap64 (a2 + t244)) - 1)) < (l1.length : Int) then (spec_l20Fill.l0 k (l1.set ((wrap64 ((wrap64 (a2 + t244)) - 1)) : Int).toNat a4) a3 (wrap64 (a2 + t244)) a2 s0_0 t245) else (none)) else (none)) = some (r1, r2) := H
    have A7 := Aside0.mk A70
    clear A70
    obtain ⟨ji8, hji8⟩ : ∃ j_ : Int, (wrap64 ((wrap64 (a2 + t244)) - 1)) = j_ := ⟨_, rfl⟩
    replace H : (if 0 ≤ (ji8) then (if (ji8) < (l1.length : Int) then (spec_l20Fill.l0 k (l1.set ((ji8) : Int).toNat a4) a3 (wrap64 (a2 + t244)) a2 s0_0 t245) else (none)) else (none)) = some (r1, r2) := by first | (rw [hji8] at H; exact H) | (simp only [hji8] at H ⊢; exact H)
    (try rw [hji8] at A7)
    have hji8w : (IntKind.i64.wrap ((wrap64 (a2 + t244)) - 1)) = ji8 := (i64_w _).trans hji8
    by_cases c9 : 0 ≤ (ji8)
    · rw [if_pos c9] at H
      have c9b0 : decide (0 ≤ (ji8)) = true := decide_eq_true c9
      clear c9
      by_cases c10 : (ji8) < (l1.length : Int)
      · rw [if_pos c10] at H
        have c10b0 : decide ((ji8) < (l1.length : Int)) = true := decide_eq_true c10
        clear c10
        obtain ⟨y246, hy246⟩ : ∃ y_ : List Int, y_ = (l1.set ((ji8) : Int).toNat a4) := ⟨_, rfl⟩
        replace H : (spec_l20Fill.l0 k y246 a3 (wrap64 (a2 + t244)) a2 s0_0 t245) = some (r1, r2) := by first | (rw [hy246]; with_reducible exact H) | (have H2_ := (Option.bind_some _ _).symm.trans H; rw [hy246]; with_reducible exact H2_) | (have H2_ := (Option.bind_some _ _).symm.trans H; with_reducible exact H2_) | with_reducible exact H | (rw [hy246]; exact H) | exact H
        have Ny246 := Aside0.mk hy246
        clear hy246
        have H' := Aside0.mk H
        clear H
        go_enter Try.func119, Try.ntmps119
        go_wp2_with (first | ((with_reducible refine gate_callee (f := 88) rfl ?_); refine goesL_ (some 23) rfl rfl Try.func88 (by kernel_rfl) rfl #[.pointer (some ⟨g, 0, none⟩), .int .i64 (wrap64 ((wrap64 (a3 - a2)) + 1))] rfl (by (try simp only [List.map_toArray, List.map_cons, List.map_nil]); first | done | rfl | (simp only [List.length_drop, List.length_take]; rfl)) ?_; (with_reducible refine (spec_l20Rd_pick.calls k g s0_0 s0_1 (wrap64 ((wrap64 (a3 - a2)) + 1)) t244 t245 w0 _ ?side1 ?side2 A7.out).mono ?_); (case side1 => repeat (first | (with_reducible first | exact HI0.out | apply IsS102.alloc | apply IsS102.drewN | apply IsS102.drew | apply IsS102.set_1) | exact HI0.out)); (case side2 => repeat (first | (with_reducible first | exact HB.out | apply below_alloc | apply pw_below_drewN | apply below_drew1 | refine below_set ?_ (IsS102.ge HI0.out)) | exact HB.out)); rintro e w12 ⟨rfl, hi, hb, hk⟩; refine ⟨_, rfl, ?_⟩; have n0_ := Aside0.mk (Kd.R_mono (Kd.R_keep (IsS102.apart (show IsS102 w0 _ g s0_0 s0_1 from by repeat (first | (with_reducible first | exact HI0.out | apply IsS102.alloc | apply IsS102.drewN | apply IsS102.drew | apply IsS102.set_1) | exact HI0.out)) (by (with_reducible repeat (first | apply Kd.R_alloc | apply Kd.R_drewN | apply Kd.R_drew)); exact HO1.out) (by decide)) hk (fun _ h => h.2)) (fun _ h => h.1)); have n1_ := Aside0.mk (Kept.of_keep (S := (fun k_ => (P1_ k_) ∨ k_ = g)) (by repeat (first | (with_reducible first | exact HK.out | apply Kept.alloc | apply Kept.drewN | apply Kept.drew | refine Kept.setCell ?_ (.inl (.inr rfl)) _) | exact HK.out)) hk (.inl (.inr rfl))); have n2_ := Aside0.mk (hb); have n3_ := Aside0.mk (hi); clear HO1; clear HK; clear HB; clear HI0; have HO1 := n0_; have HK := n1_; have HB := n2_; have HI0 := n3_; clear n0_ n1_ n2_ n3_; (try clear hb); (try clear hb2); (try clear hk); (try clear hi); have p11 : 0 ≤ ((ji8) : Int) := of_decide_eq_true (by first | (with_reducible assumption) | assumption); have q11 : ((ji8) : Int) < ((l1.length : Int) : Int) := of_decide_eq_true (by first | (with_reducible assumption) | assumption); obtain ⟨go11, co11, eo11, gb11, gl11, cl11, HG11⟩ := Kd.R_form HO1.out (by omega); (first | cases eo11 | (injection eo11 with ea_ en_ ec_; (first | subst ea_ | (injection ea_ with ea_; subst ea_)); subst ec_; clear en_)); have GB11 := Aside0.mk gb11; have GG11 := Aside0.mk HG11; clear gb11 gl11 HG11; have HMgo11 := Aside0.mk (show (P1_ go11 ∨ w.heap.size ≤ go11) from (HO1.out.1 _ rfl)); obtain ⟨hx11_0, hf11_0⟩ := Kd.R_celln 0 HO1.out ((ji8) : Int) p11 q11; replace p11 := eq_true p11; replace q11 := eq_true q11; obtain ⟨hy13_, hz13_⟩ := Kd.R_celln 0 HO1.out ((ji8) : Int) (of_decide_eq_true (by first | (with_reducible assumption) | assumption)) (of_decide_eq_true (by first | (with_reducible assumption) | assumption)); have HP13 := Kd.R_putg HO1.out ((ji8) : Int) a4) | ((with_reducible refine gate_store (t := 3) (p := 29) rfl ?_); refine store_event (t := 3) (p := 29) (v := ?vo_w14) (w1 := (w12.setCell ⟨go11, ((ji8) : Int).toNat, none⟩ (.int .i64 a4))) ?hg ?ho ?hn ?hr ?_; (case ho => rfl); (case hg => rfl); (case hn => rfl); (case hr => first | (go_simp; done) | (go_simp; rfl)); intro w14 hw; have hg : w12.grownBy w14 (some go11) := (by rw [hw]; exact HP13.2); have hp_ : Kd.R (Kd.int .i64) 3 w14 w0.heap.size (fun k_ => (P1_ k_ ∨ w.heap.size ≤ k_)) (.slice (some ⟨go11, 0, none⟩) l1.length co11) y246 := (by rw [hw, Ny246.out]; exact HP13.1); clear HP13; have n0_ := Aside0.mk (IsS102.grown (by repeat (first | (with_reducible first | exact HI0.out | apply IsS102.alloc | apply IsS102.drewN | apply IsS102.drew | apply IsS102.set_1) | exact HI0.out)) hg (IsS102.own_ne HI0.out HO1.out (by decide))); have n1_ := Aside0.mk (hp_); have n2_ := Aside0.mk ((by rw [hw]; exact below_set (HB.out) GB11.out : Below w0.heap.size w0 w14)); have n3_ := Aside0.mk (Kept.of_grown (S := (fun k_ => (P1_ k_) ∨ k_ = g)) hg (by repeat (first | (with_reducible first | exact HK.out | apply Kept.alloc | apply Kept.drewN | apply Kept.drew | refine Kept.setCell ?_ (.inl (.inr rfl)) _) | exact HK.out)) (fun k_ e_ => Or.imp_left Or.inl ((HO1.out.1 k_ e_)))); clear HI0; clear HO1; clear HB; clear HK; have HI0 := n0_; have HO1 := n1_; have HB := n2_; have HK := n3_; clear n0_ n1_ n2_ n3_; clear hg hw hp_))
        go_loopg [11] k (fun kq v11 w' => ∃ (x1_1 : List Int) (x11_1 : Int) (x1001_1 : Int), v11 = .int .i64 x11_1 ∧ Aside0 (spec_l20Fill.l0 kq x1_1 a3 (wrap64 (a2 + t244)) x11_1 s0_0 x1001_1 = some (r1, r2)) ∧ Aside0 (kq ≤ k) ∧ Aside0 (Kd.R (Kd.int .i64) 3 w' w0.heap.size (fun k_ => (P1_ k_ ∨ w.heap.size ≤ k_)) (.slice (some ⟨go11, 0, none⟩) l1.length co11) x1_1) ∧ Aside0 (IsS102 w0 w' g s0_0 x1001_1) ∧ Aside0 (Kept w w' (fun k_ => (P1_ k_) ∨ k_ = g)) ∧ Aside0 (Below w0.heap.size w0 w'))
        case atStart => exact ⟨(y246), (a2), (t245), (by first | rfl | (simp; done) | (simp [*]; done)), H', ⟨Nat.le_refl _⟩, ⟨by (with_reducible repeat (first | apply Kd.R_alloc | apply Kd.R_drewN | apply Kd.R_drew)); exact HO1.out⟩, ⟨by repeat (first | (with_reducible first | exact HI0.out | apply IsS102.alloc | apply IsS102.drewN | apply IsS102.drew | apply IsS102.set_1) | exact HI0.out)⟩, ⟨by repeat (first | (with_reducible first | exact HK.out | apply Kept.alloc | apply Kept.drewN | apply Kept.drew | refine Kept.setCell ?_ (.inl (.inr rfl)) _) | exact HK.out)⟩, ⟨by repeat (first | (with_reducible first | exact HB.out | apply below_alloc | apply pw_below_drewN | apply below_drew1 | refine below_set ?_ (IsS102.ge HI0.out)) | exact HB.out)⟩⟩
        case round =>
          clear H'
          try clear c1
          try clear p1
          try clear q1
          try clear hx1
          try clear p2
          try clear c6
          try clear c6b0
          try clear p6
          try clear c8
          try clear c9
          try clear c9b0
          try clear c10
          try clear c10b0
          try clear c11
          try clear p11
          try clear q11
          try clear hx11
          try clear hf11
          try clear hx11_0
          try clear p11
          try clear q11
          obtain ⟨x1_1, x11_1, x1001_1, rfl, HA, HK1, HO_1, HI0, HK, HB⟩ := hrel
          have hl1_1 := (Kd.R_reads' HO_1.out).1
          rw [hl1_1] at HO_1
          (try simp only [hl1_1])
          cases gk with
          | zero => exact absurd HA.out (by simp [spec_l20Fill.l0])
          | succ k1 =>
            have H := HA.out
            clear HA
            simp only [spec_l20Fill.l0] at H
            by_cases c15 : x11_1 < (wrap64 (a2 + t244))
            · rw [if_pos c15] at H
              have c15b0 : decide (x11_1 < (wrap64 (a2 + t244))) = true := decide_eq_true c15
              clear c15
              replace H := Option.bind_eq_some_iff.mp H
              obtain ⟨⟨t247, t248⟩, A160, H⟩ := H
              replace H : ((spec_l20Fill.f k1 s0_0 t248 x1_1 x11_1 (wrap64 (x11_1 + t247)) (wrap64 (a2 + t244))).bind fun bt249 => (spec_l20Fill.l0 k1 bt249.2 a3 (wrap64 (a2 + t244)) (wrap64 ((wrap64 (x11_1 + t247)) + 1)) s0_0 bt249.1)) = some (r1, r2) := H
              have A16 := Aside0.mk A160
              clear A160
              replace H := Option.bind_eq_some_iff.mp H
              obtain ⟨⟨t249, t250⟩, A170, H⟩ := H
              replace H : (spec_l20Fill.l0 k1 t250 a3 (wrap64 (a2 + t244)) (wrap64 ((wrap64 (x11_1 + t247)) + 1)) s0_0 t249) = some (r1, r2) := H
              have A17 := Aside0.mk A170
              clear A170
              have H' := Aside0.mk H
              clear H
              go_wp2_with (first | ((with_reducible refine gate_callee (f := 88) rfl ?_); refine goesL_ (some 39) rfl rfl Try.func88 (by kernel_rfl) rfl #[.pointer (some ⟨g, 0, none⟩), .int .i64 (wrap64 ((wrap64 (a2 + t244)) - x11_1))] rfl (by (try simp only [List.map_toArray, List.map_cons, List.map_nil]); first | done | rfl | (simp only [List.length_drop, List.length_take]; rfl)) ?_; (with_reducible refine (spec_l20Rd_pick.calls k1 g s0_0 x1001_1 (wrap64 ((wrap64 (a2 + t244)) - x11_1)) t247 t248 w0 _ ?side1 ?side2 A16.out).mono ?_); (case side1 => repeat (first | (with_reducible first | exact HI0.out | apply IsS102.alloc | apply IsS102.drewN | apply IsS102.drew | apply IsS102.set_1) | exact HI0.out)); (case side2 => repeat (first | (with_reducible first | exact HB.out | apply below_alloc | apply pw_below_drewN | apply below_drew1 | refine below_set ?_ (IsS102.ge HI0.out)) | exact HB.out)); rintro e w18 ⟨rfl, hi, hb, hk⟩; refine ⟨_, rfl, ?_⟩; have n0_ := Aside0.mk (Kd.R_mono (Kd.R_keep (IsS102.apart (show IsS102 w0 _ g s0_0 x1001_1 from by repeat (first | (with_reducible first | exact HI0.out | apply IsS102.alloc | apply IsS102.drewN | apply IsS102.drew | apply IsS102.set_1) | exact HI0.out)) (by (with_reducible repeat (first | apply Kd.R_alloc | apply Kd.R_drewN | apply Kd.R_drew)); exact HO_1.out) (by decide)) hk (fun _ h => h.2)) (fun _ h => h.1)); have n1_ := Aside0.mk (Kept.of_keep (S := (fun k_ => (P1_ k_) ∨ k_ = g)) (by repeat (first | (with_reducible first | exact HK.out | apply Kept.alloc | apply Kept.drewN | apply Kept.drew | refine Kept.setCell ?_ (.inl (.inr rfl)) _) | exact HK.out)) hk (.inl (.inr rfl))); have n2_ := Aside0.mk (hb); have n3_ := Aside0.mk (hi); clear HO_1; clear HK; clear HB; clear HI0; have HO_1 := n0_; have HK := n1_; have HB := n2_; have HI0 := n3_; clear n0_ n1_ n2_ n3_; (try clear hb); (try clear hb2); (try clear hk); (try clear hi)) | ((with_reducible refine gate_callee (f := 119) rfl ?_); refine goesL_ (some 46) rfl rfl Try.func119 (by kernel_rfl) rfl #[.pointer (some ⟨g, 0, none⟩), .slice (some ⟨go11, 0, none⟩) x1_1.length co11, .int .i64 x11_1, .int .i64 (wrap64 (x11_1 + t247)), .int .i64 (wrap64 (a2 + t244))] rfl (by (try simp only [List.map_toArray, List.map_cons, List.map_nil]); first | done | rfl | (simp only [List.length_drop, List.length_take]; rfl)) ?_; (with_reducible refine (ih k1 (by have := HK1.out; omega) g s0_0 t248 (fun k_ => some k_ = (.slice (some ⟨go11, 0, none⟩) x1_1.length co11 : Value).ownBlock) (.slice (some ⟨go11, 0, none⟩) x1_1.length co11) x1_1 x11_1 (wrap64 (x11_1 + t247)) (wrap64 (a2 + t244)) t249 t250 w0 _ ?side1 ?side2 ?side3 A17.out).mono ?_); (case side1 => repeat (first | (with_reducible first | exact HI0.out | apply IsS102.alloc | apply IsS102.drewN | apply IsS102.drew | apply IsS102.set_1) | exact HI0.out)); (case side2 => repeat (first | (with_reducible first | exact HB.out | apply below_alloc | apply pw_below_drewN | apply below_drew1 | refine below_set ?_ (IsS102.ge HI0.out)) | exact HB.out)); (case side3 => exact Kd.R_tight rfl HO_1.out); rintro e w19 ⟨rfl, hi, hy0, hb, hkp⟩; refine ⟨_, rfl, ?_⟩; have n0_ := Aside0.mk (Kd.R_reok rfl hy0 (fun k_ e_ => HO_1.out.1 k_ e_)); have n1_ := Aside0.mk (hi); have n2_ := Aside0.mk (Kept.then_ (S := (fun k_ => (P1_ k_) ∨ k_ = g)) (by repeat (first | (with_reducible first | exact HK.out | apply Kept.alloc | apply Kept.drewN | apply Kept.drew | refine Kept.setCell ?_ (.inl (.inr rfl)) _) | exact HK.out)) hkp (fun k_ hs_ => Or.elim hs_ (fun hs_ => (fun e_ => Or.imp_left Or.inl ((HO_1.out.1 k_ e_.symm))) hs_) (fun e_ => .inl (.inr e_)))); have n3_ := Aside0.mk (hb); clear HO_1; clear HI0; clear HK; clear HB; have HO_1 := n0_; have HI0 := n1_; have HK := n2_; have HB := n3_; clear n0_ n1_ n2_ n3_; (try clear hb); (try clear hkp); (try clear hy0)))
              (try simp only [← hl1_1])
              go_roundg k1
              case measure => have := HK1.out; omega
              case rel => exact ⟨(t250), (wrap64 ((wrap64 (x11_1 + t247)) + 1)), (t249), (by first | rfl | (simp; done) | (simp [*]; done)), H', ⟨by have := HK1.out; omega⟩, ⟨by (try simp only [hl1_1]); (with_reducible repeat (first | apply Kd.R_alloc | apply Kd.R_drewN | apply Kd.R_drew)); exact HO_1.out⟩, ⟨by repeat (first | (with_reducible first | exact HI0.out | apply IsS102.alloc | apply IsS102.drewN | apply IsS102.drew | apply IsS102.set_1) | exact HI0.out)⟩, ⟨by repeat (first | (with_reducible first | exact HK.out | apply Kept.alloc | apply Kept.drewN | apply Kept.drew | refine Kept.setCell ?_ (.inl (.inr rfl)) _) | exact HK.out)⟩, ⟨by repeat (first | (with_reducible first | exact HB.out | apply below_alloc | apply pw_below_drewN | apply below_drew1 | refine below_set ?_ (IsS102.ge HI0.out)) | exact HB.out)⟩⟩
            · rw [if_neg c15] at H
              have c15b0 : decide (x11_1 < (wrap64 (a2 + t244))) = false := decide_eq_false c15
              clear c15
              have H' := Aside0.mk H
              clear H
              go_wp2
              go_loopg [11] k1 (fun kq v11 w' => ∃ (x1_2 : List Int) (x11_2 : Int) (x1001_2 : Int), v11 = .int .i64 x11_2 ∧ Aside0 (spec_l20Fill.l1 kq x1_2 a3 (wrap64 (a2 + t244)) x11_2 s0_0 x1001_2 = some (r1, r2)) ∧ Aside0 (kq ≤ k1) ∧ Aside0 (Kd.R (Kd.int .i64) 3 w' w0.heap.size (fun k_ => (P1_ k_ ∨ w.heap.size ≤ k_)) (.slice (some ⟨go11, 0, none⟩) x1_1.length co11) x1_2) ∧ Aside0 (IsS102 w0 w' g s0_0 x1001_2) ∧ Aside0 (Kept w w' (fun k_ => (P1_ k_) ∨ k_ = g)) ∧ Aside0 (Below w0.heap.size w0 w'))
              case atStart => exact ⟨(x1_1), (wrap64 ((wrap64 (a2 + t244)) + 1)), (x1001_1), (by first | rfl | (simp; done) | (simp [*]; done)), H', ⟨Nat.le_refl _⟩, ⟨by (try simp only [hl1_1]); (with_reducible repeat (first | apply Kd.R_alloc | apply Kd.R_drewN | apply Kd.R_drew)); exact HO_1.out⟩, ⟨by repeat (first | (with_reducible first | exact HI0.out | apply IsS102.alloc | apply IsS102.drewN | apply IsS102.drew | apply IsS102.set_1) | exact HI0.out)⟩, ⟨by repeat (first | (with_reducible first | exact HK.out | apply Kept.alloc | apply Kept.drewN | apply Kept.drew | refine Kept.setCell ?_ (.inl (.inr rfl)) _) | exact HK.out)⟩, ⟨by repeat (first | (with_reducible first | exact HB.out | apply below_alloc | apply pw_below_drewN | apply below_drew1 | refine below_set ?_ (IsS102.ge HI0.out)) | exact HB.out)⟩⟩
              case round =>
                clear H'
                try clear c1
                try clear p1
                try clear q1
                try clear hx1
                try clear p2
                try clear c6
                try clear c6b0
                try clear p6
                try clear c8
                try clear c9
                try clear c9b0
                try clear c10
                try clear c10b0
                try clear c11
                try clear p11
                try clear q11
                try clear hx11
                try clear hf11
                try clear c15
                try clear c15b0
                try clear hx11_0
                try clear p1
                try clear p11
                try clear p2
                try clear p6
                try clear q1
                try clear q11
                obtain ⟨x1_2, x11_2, x1001_2, rfl, HA, HK2, HO_1, HI0, HK, HB⟩ := hrel
                have hl1_2 := (Kd.R_reads' HO_1.out).1
                rw [hl1_2] at HO_1
                (try simp only [hl1_2])
                cases gk with
                | zero => exact absurd HA.out (by simp [spec_l20Fill.l1])
                | succ k2 =>
                  have H := HA.out
                  clear HA
                  simp only [spec_l20Fill.l1] at H
                  by_cases c20 : x11_2 ≤ a3
                  · rw [if_pos c20] at H
                    have c20b0 : decide (x11_2 ≤ a3) = true := decide_eq_true c20
                    clear c20
                    replace H := Option.bind_eq_some_iff.mp H
                    obtain ⟨⟨t251, t252⟩, A210, H⟩ := H
                    replace H : ((spec_l20Fill.f k2 s0_0 t252 x1_2 x11_2 (wrap64 (x11_2 + t251)) (wrap64 (a2 + t244))).bind fun bt253 => (spec_l20Fill.l1 k2 bt253.2 a3 (wrap64 (a2 + t244)) (wrap64 ((wrap64 (x11_2 + t251)) + 1)) s0_0 bt253.1)) = some (r1, r2) := H
                    have A21 := Aside0.mk A210
                    clear A210
                    replace H := Option.bind_eq_some_iff.mp H
                    obtain ⟨⟨t253, t254⟩, A220, H⟩ := H
                    replace H : (spec_l20Fill.l1 k2 t254 a3 (wrap64 (a2 + t244)) (wrap64 ((wrap64 (x11_2 + t251)) + 1)) s0_0 t253) = some (r1, r2) := H
                    have A22 := Aside0.mk A220
                    clear A220
                    have H' := Aside0.mk H
                    clear H
                    go_wp2_with (first | ((with_reducible refine gate_callee (f := 88) rfl ?_); refine goesL_ (some 60) rfl rfl Try.func88 (by kernel_rfl) rfl #[.pointer (some ⟨g, 0, none⟩), .int .i64 (wrap64 ((wrap64 (a3 - x11_2)) + 1))] rfl (by (try simp only [List.map_toArray, List.map_cons, List.map_nil]); first | done | rfl | (simp only [List.length_drop, List.length_take]; rfl)) ?_; (with_reducible refine (spec_l20Rd_pick.calls k2 g s0_0 x1001_2 (wrap64 ((wrap64 (a3 - x11_2)) + 1)) t251 t252 w0 _ ?side1 ?side2 A21.out).mono ?_); (case side1 => repeat (first | (with_reducible first | exact HI0.out | apply IsS102.alloc | apply IsS102.drewN | apply IsS102.drew | apply IsS102.set_1) | exact HI0.out)); (case side2 => repeat (first | (with_reducible first | exact HB.out | apply below_alloc | apply pw_below_drewN | apply below_drew1 | refine below_set ?_ (IsS102.ge HI0.out)) | exact HB.out)); rintro e w23 ⟨rfl, hi, hb, hk⟩; refine ⟨_, rfl, ?_⟩; have n0_ := Aside0.mk (Kd.R_mono (Kd.R_keep (IsS102.apart (show IsS102 w0 _ g s0_0 x1001_2 from by repeat (first | (with_reducible first | exact HI0.out | apply IsS102.alloc | apply IsS102.drewN | apply IsS102.drew | apply IsS102.set_1) | exact HI0.out)) (by (with_reducible repeat (first | apply Kd.R_alloc | apply Kd.R_drewN | apply Kd.R_drew)); exact HO_1.out) (by decide)) hk (fun _ h => h.2)) (fun _ h => h.1)); have n1_ := Aside0.mk (Kept.of_keep (S := (fun k_ => (P1_ k_) ∨ k_ = g)) (by repeat (first | (with_reducible first | exact HK.out | apply Kept.alloc | apply Kept.drewN | apply Kept.drew | refine Kept.setCell ?_ (.inl (.inr rfl)) _) | exact HK.out)) hk (.inl (.inr rfl))); have n2_ := Aside0.mk (hb); have n3_ := Aside0.mk (hi); clear HO_1; clear HK; clear HB; clear HI0; have HO_1 := n0_; have HK := n1_; have HB := n2_; have HI0 := n3_; clear n0_ n1_ n2_ n3_; (try clear hb); (try clear hb2); (try clear hk); (try clear hi)) | ((with_reducible refine gate_callee (f := 119) rfl ?_); refine goesL_ (some 67) rfl rfl Try.func119 (by kernel_rfl) rfl #[.pointer (some ⟨g, 0, none⟩), .slice (some ⟨go11, 0, none⟩) x1_2.length co11, .int .i64 x11_2, .int .i64 (wrap64 (x11_2 + t251)), .int .i64 (wrap64 (a2 + t244))] rfl (by (try simp only [List.map_toArray, List.map_cons, List.map_nil]); first | done | rfl | (simp only [List.length_drop, List.length_take]; rfl)) ?_; (with_reducible refine (ih k2 (by have := HK1.out; have := HK2.out; omega) g s0_0 t252 (fun k_ => some k_ = (.slice (some ⟨go11, 0, none⟩) x1_2.length co11 : Value).ownBlock) (.slice (some ⟨go11, 0, none⟩) x1_2.length co11) x1_2 x11_2 (wrap64 (x11_2 + t251)) (wrap64 (a2 + t244)) t253 t254 w0 _ ?side1 ?side2 ?side3 A22.out).mono ?_); (case side1 => repeat (first | (with_reducible first | exact HI0.out | apply IsS102.alloc | apply IsS102.drewN | apply IsS102.drew | apply IsS102.set_1) | exact HI0.out)); (case side2 => repeat (first | (with_reducible first | exact HB.out | apply below_alloc | apply pw_below_drewN | apply below_drew1 | refine below_set ?_ (IsS102.ge HI0.out)) | exact HB.out)); (case side3 => exact Kd.R_tight rfl HO_1.out); rintro e w24 ⟨rfl, hi, hy0, hb, hkp⟩; refine ⟨_, rfl, ?_⟩; have n0_ := Aside0.mk (Kd.R_reok rfl hy0 (fun k_ e_ => HO_1.out.1 k_ e_)); have n1_ := Aside0.mk (hi); have n2_ := Aside0.mk (Kept.then_ (S := (fun k_ => (P1_ k_) ∨ k_ = g)) (by repeat (first | (with_reducible first | exact HK.out | apply Kept.alloc | apply Kept.drewN | apply Kept.drew | refine Kept.setCell ?_ (.inl (.inr rfl)) _) | exact HK.out)) hkp (fun k_ hs_ => Or.elim hs_ (fun hs_ => (fun e_ => Or.imp_left Or.inl ((HO_1.out.1 k_ e_.symm))) hs_) (fun e_ => .inl (.inr e_)))); have n3_ := Aside0.mk (hb); clear HO_1; clear HI0; clear HK; clear HB; have HO_1 := n0_; have HI0 := n1_; have HK := n2_; have HB := n3_; clear n0_ n1_ n2_ n3_; (try clear hb); (try clear hkp); (try clear hy0)))
                    (try simp only [← hl1_2])
                    go_roundg k2
                    case measure => have := HK1.out; have := HK2.out; omega
                    case rel => exact ⟨(t254), (wrap64 ((wrap64 (x11_2 + t251)) + 1)), (t253), (by first | rfl | (simp; done) | (simp [*]; done)), H', ⟨by have := HK1.out; have := HK2.out; omega⟩, ⟨by (try simp only [hl1_1]); (try simp only [hl1_2]); (with_reducible repeat (first | apply Kd.R_alloc | apply Kd.R_drewN | apply Kd.R_drew)); exact HO_1.out⟩, ⟨by repeat (first | (with_reducible first | exact HI0.out | apply IsS102.alloc | apply IsS102.drewN | apply IsS102.drew | apply IsS102.set_1) | exact HI0.out)⟩, ⟨by repeat (first | (with_reducible first | exact HK.out | apply Kept.alloc | apply Kept.drewN | apply Kept.drew | refine Kept.setCell ?_ (.inl (.inr rfl)) _) | exact HK.out)⟩, ⟨by repeat (first | (with_reducible first | exact HB.out | apply below_alloc | apply pw_below_drewN | apply below_drew1 | refine below_set ?_ (IsS102.ge HI0.out)) | exact HB.out)⟩⟩
                  · rw [if_neg c20] at H
                    have c20b0 : decide (x11_2 ≤ a3) = false := decide_eq_false c20
                    clear c20
                    simp only [Option.some.injEq, Prod.mk.injEq] at H
                    obtain ⟨rfl, rfl⟩ := H
                    go_wp2
                    first | go_end0 | ((try simp only [Exit.inBlock, Exit.then]); refine bodyPost_ret (results_none rfl _ _ _) rfl ?_)
                    exact ⟨by first | rfl | (simp [errW_none, errW_some] <;> rfl) | (simp only [← hji8]; first | rfl | (simp [errW_none, errW_some] <;> rfl)) | (simp [*, errW_none, errW_some] <;> rfl), by repeat (first | (with_reducible first | exact HI0.out | apply IsS102.alloc | apply IsS102.drewN | apply IsS102.drew | apply IsS102.set_1) | exact HI0.out), (by first | exact (by (with_reducible repeat (first | apply Kd.R_alloc | apply Kd.R_drewN | apply Kd.R_drew)); exact HO_1.out) | (simp only [hl1_1, hl1_2]; exact (by (with_reducible repeat (first | apply Kd.R_alloc | apply Kd.R_drewN | apply Kd.R_drew)); exact HO_1.out))), by repeat (first | (with_reducible first | exact HB.out | apply below_alloc | apply pw_below_drewN | apply below_drew1 | refine below_set ?_ (IsS102.ge HI0.out)) | exact HB.out), by repeat (first | (with_reducible first | exact HK.out | apply Kept.alloc | apply Kept.drewN | apply Kept.drew | refine Kept.setCell ?_ (.inl (.inr rfl)) _) | exact HK.out)⟩
      · rw [if_neg c10] at H
        exact absurd H (by simp)
    · rw [if_neg c9] at H
      exact absurd H (by simp)

/-! ### spec_l20Flat: function 89 -/
def spec_l20Flat.f (k : Nat) (s0_0 : List Int) (s0_1 : Int) (a1 : Int) : Option (List Int × Int) := (spec_l20Rd_pick.f k s0_0 s0_1 3).bind fun bt255 => (if bt255.1 = 0 then ((spec_l20Tree.f k s0_0 bt255.2 a1).bind fun bt257 => (some (bt257.1, bt257.2))) else ((spec_l20Rd_pick.f k s0_0 bt255.2 7).bind fun bt261 => (if 0 ≤ (wrap64 (1 + bt261.1)) then (if (wrap64 (1 + bt261.1) : Int).toNat ≤ 35184372088832 then ((spec_l20Fill.f k s0_0 bt261.2 (List.replicate (wrap64 (1 + bt261.1) : Int).toNat 0) 1 (wrap64 (1 + bt261.1)) 0).bind fun bt266 => (some (bt266.2, bt266.1))) else (none)) else (none))))
theorem spec_l20Flat.mono : ∀ a0 a1 a2 k, LeO (spec_l20Flat.f k a0 a1 a2) (spec_l20Flat.f (k + 1) a0 a1 a2) := by
  intro a0 a1 a2 k
  unfold spec_l20Flat.f
  repeat' first
      | (with_reducible exact spec_l20Fill.mono _ _ _ _ _ _ _)
      | (with_reducible exact spec_l20Rd_pick.mono _ _ _ _)
      | (with_reducible exact spec_l20Tree.mono _ _ _ _)
      | (with_reducible exact LeO.refl _)
      | (with_reducible exact LeO.none _)
      | (with_reducible refine LeO.ite ?_ ?_)
      | (with_reducible refine LeO.bind ?_ (fun _ => ?_))
      | exact spec_l20Fill.mono _ _ _ _ _ _ _
      | exact spec_l20Rd_pick.mono _ _ _ _
      | exact spec_l20Tree.mono _ _ _ _
      | exact LeO.none _
      | refine LeO.ite ?_ ?_
      | refine LeO.bind ?_ (fun _ => ?_)
set_option maxHeartbeats 8000000 in
set_option maxRecDepth 100000 in
theorem spec_l20Flat.calls (k : Nat) (g : Nat) (s0_0 : List Int) (s0_1 : Int) (a1 : Int) (r1 : List Int) (r2 : Int) (w0 w : World) (hI : IsS102 w0 w g s0_0 s0_1) (hB : Below w0.heap.size w0 w) (h : spec_l20Flat.f k s0_0 s0_1 a1 = some (r1, r2)) :
    Calls Try.prog 89 #[.pointer (some ⟨g, 0, none⟩), .int .i64 a1] w fun e w' => ∃ v0_ : Value, e = .returned (v0_) ∧ Kd.R (Kd.int .i64) 3 w' w.heap.size (fun _ => True) v0_ r1 ∧ IsS102 w0 w' g s0_0 r2 ∧ Below w0.heap.size w0 w' ∧ KeepBut w w' g none := by
  have HI0 := Aside0.mk hI
  have HK := Aside0.mk (KeepBut.refl w g none)
  have HL := Aside0.mk hB.size
  clear hI
  have HW0 := Aside0.mk hB.size
  have HB := Aside0.mk hB
  clear hB
  have H : ((spec_l20Rd_pick.f k s0_0 s0_1 3).bind fun bt255 => (if bt255.1 = 0 then ((spec_l20Tree.f k s0_0 bt255.2 a1).bind fun bt257 => (some (bt257.1, bt257.2))) else ((spec_l20Rd_pick.f k s0_0 bt255.2 7).bind fun bt261 => (if 0 ≤ (wrap64 (1 + bt261.1)) then (if (wrap64 (1 + bt261.1) : Int).toNat ≤ 35184372088832 then ((spec_l20Fill.f k s0_0 bt261.2 (List.replicate (wrap64 (1 + bt261.1) : Int).toNat 0) 1 (wrap64 (1 + bt261.1)) 0).bind fun bt266 => (some (bt266.2, bt266.1))) else (none)) else (none))))) = some (r1, r2) := h
  clear h
  replace H := Option.bind_eq_some_iff.mp H
  obtain ⟨⟨t255, t256⟩, A30, H⟩ := H
  replace H : (if t255 = 0 then ((spec_l20Tree.f k s0_0 t256 a1).bind fun bt257 => (some (bt257.1, bt257.2))) else ((spec_l20Rd_pick.f k s0_0 t256 7).bind fun bt261 => (if 0 ≤ (wrap64 (1 + bt261.1)) then (if (wrap64 (1 + bt261.1) : Int).toNat ≤ 35184372088832 then ((spec_l20Fill.f k s0_0 bt261.2 (List.replicate (wrap64 (1 + bt261.1) : Int).toNat 0) 1 (wrap64 (1 + bt261.1)) 0).bind fun bt266 => (some (bt266.2, bt266.1))) else (none)) else (none)))) = some (r1, r2) := H
  have A3 := Aside0.mk A30
  clear A30
  by_cases c4 : t255 = 0
  · rw [if_pos c4] at H
    have c4b0 : (t255 == 0) = true := beq_iff_eq.mpr c4
    have c4b1 : (t255 != 0) = false := bne_eq_false_iff_eq.mpr c4
    clear c4
    replace H := Option.bind_eq_some_iff.mp H
    obtain ⟨⟨t257, t260⟩, A50, H⟩ := H
    replace H : (some (t257, t260)) = some (r1, r2) := H
    have A5 := Aside0.mk A50
    clear A50
    simp only [Option.some.injEq, Prod.mk.injEq] at H
    obtain ⟨rfl, rfl⟩ := H
    go_enter Try.func89, Try.ntmps89
    go_wp2_with (first | ((with_reducible refine gate_callee (f := 88) rfl ?_); refine goesL_ (some 8) rfl rfl Try.func88 (by kernel_rfl) rfl #[.pointer (some ⟨g, 0, none⟩), .int .i64 3] rfl (by (try simp only [List.map_toArray, List.map_cons, List.map_nil]); first | done | rfl | (simp only [List.length_drop, List.length_take]; rfl)) ?_; (with_reducible refine (spec_l20Rd_pick.calls k g s0_0 s0_1 3 t255 t256 w0 _ ?side1 ?side2 A3.out).mono ?_); (case side1 => repeat (first | (with_reducible first | exact HI0.out | apply IsS102.alloc | apply IsS102.drewN | apply IsS102.drew | apply IsS102.set_1) | exact HI0.out)); (case side2 => repeat (first | (with_reducible first | exact HB.out | apply below_alloc | apply pw_below_drewN | apply below_drew1 | refine below_set ?_ (IsS102.ge HI0.out)) | exact HB.out)); rintro e w6 ⟨rfl, hi, hb, hk⟩; refine ⟨_, rfl, ?_⟩; have n0_ := Aside0.mk (KeepBut.trans (by repeat (first | (with_reducible first | exact HK.out | apply KeepBut.set_ | apply keep_drewN | apply keep_drew | apply keep_alloc) | exact HK.out)) hk (.inl rfl)); have n1_ := Aside0.mk (hb); have n2_ := Aside0.mk (hi); clear HK; clear HB; clear HI0; have HK := n0_; have HB := n1_; have HI0 := n2_; clear n0_ n1_ n2_; (try clear hb); (try clear hb2); (try clear hk); (try clear hi)) | ((with_reducible refine gate_callee (f := 112) rfl ?_); refine goesL_ (some 12) rfl rfl Try.func112 (by kernel_rfl) rfl #[.pointer (some ⟨g, 0, none⟩), .int .i64 a1] rfl (by (try simp only [List.map_toArray, List.map_cons, List.map_nil]); first | done | rfl | (simp only [List.length_drop, List.length_take]; rfl)) ?_; (with_reducible refine (spec_l20Tree.calls k g s0_0 t256 a1 t257 t260 w0 _ ?side1 ?side2 A5.out).mono ?_); (case side1 => repeat (first | (with_reducible first | exact HI0.out | apply IsS102.alloc | apply IsS102.drewN | apply IsS102.drew | apply IsS102.set_1) | exact HI0.out)); (case side2 => repeat (first | (with_reducible first | exact HB.out | apply below_alloc | apply pw_below_drewN | apply below_drew1 | refine below_set ?_ (IsS102.ge HI0.out)) | exact HB.out)); rintro e w7 ⟨v258, rfl, ho0, hi, hb, hk⟩; refine ⟨_, rfl, ?_⟩; have n0_ := Aside0.mk (Kd.R_lower ho0 (keep_size (w := w) (g := g) (row := none) (by repeat (first | (with_reducible first | exact HK.out | apply KeepBut.set_ | apply keep_drewN | apply keep_drew | apply keep_alloc) | exact HK.out)))); have n1_ := Aside0.mk (KeepBut.trans (by repeat (first | (with_reducible first | exact HK.out | apply KeepBut.set_ | apply keep_drewN | apply keep_drew | apply keep_alloc) | exact HK.out)) hk (.inl rfl)); have n2_ := Aside0.mk (hb); have n3_ := Aside0.mk (hi); clear HK; clear HB; clear HI0; have HO259 := n0_; have HK := n1_; have HB := n2_; have HI0 := n3_; clear n0_ n1_ n2_ n3_; (try clear hb); (try clear hb2); (try clear hk); (try clear hi); (try clear ho0)))
    go_ret
    exact ⟨_, by first | rfl | (simp [errW_none, errW_some] <;> rfl) | (simp [*, errW_none, errW_some] <;> rfl), by (with_reducible repeat (first | apply Kd.R_alloc | apply Kd.R_drewN | apply Kd.R_drew)); exact HO259.out, by repeat (first | (with_reducible first | exact HI0.out | apply IsS102.alloc | apply IsS102.drewN | apply IsS102.drew | apply IsS102.set_1) | exact HI0.out), by repeat (first | (with_reducible first | exact HB.out | apply below_alloc | apply pw_below_drewN | apply below_drew1 | refine below_set ?_ (IsS102.ge HI0.out)) | exact HB.out), by repeat (first | (with_reducible first | exact HK.out | apply KeepBut.set_ | apply keep_drewN | apply keep_drew | apply keep_alloc) | exact HK.out)⟩
  · rw [if_neg c4] at H
    have c4b0 : (t255 == 0) = false := beq_eq_false_iff_ne.mpr c4
    have c4b1 : (t255 != 0) = true := bne_iff_ne.mpr c4
    replace H := Option.bind_eq_some_iff.mp H
    obtain ⟨⟨t261, t262⟩, A80, H⟩ := H
    replace H : (if 0 ≤ (wrap64 (1 + t261)) then (if (wrap64 (1 + t261) : Int).toNat ≤ 35184372088832 then ((spec_l20Fill.f k s0_0 t262 (List.replicate (wrap64 (1 + t261) : Int).toNat 0) 1 (wrap64 (1 + t261)) 0).bind fun bt266 => (some (bt266.2, bt266.1))) else (none)) else (none)) = some (r1, r2) := H
    have A8 := Aside0.mk A80
    clear A80
    obtain ⟨ji9, hji9⟩ : ∃ j_ : Int, (wrap64 (1 + t261)) = j_ := ⟨_, rfl⟩
    replace H : (if 0 ≤ (ji9) then (if (ji9 : Int).toNat ≤ 35184372088832 then ((spec_l20Fill.f k s0_0 t262 (List.replicate (ji9 : Int).toNat 0) 1 (ji9) 0).bind fun bt266 => (some (bt266.2, bt266.1))) else (none)) else (none)) = some (r1, r2) := by first | (rw [hji9] at H; exact H) | (simp only [hji9] at H ⊢; exact H)
    (try rw [hji9] at A3)
    (try rw [hji9] at A8)
    have hji9w : (IntKind.i64.wrap (1 + t261)) = ji9 := (i64_w _).trans hji9
    by_cases c10 : 0 ≤ (ji9)
    · rw [if_pos c10] at H
      have c10b0 := eq_true c10
      have c10b1 : decide (0 ≤ (ji9)) = true := decide_eq_true c10
      clear c10
      by_cases c11 : (ji9 : Int).toNat ≤ 35184372088832
      · rw [if_pos c11] at H
        have c11b0 := eq_true c11
        have c11b1 : decide ((ji9 : Int).toNat ≤ 35184372088832) = true := decide_eq_true c11
        clear c11
        obtain ⟨y263, hy263⟩ : ∃ y_ : List Int, y_ = (List.replicate (ji9 : Int).toNat 0) := ⟨_, rfl⟩
        replace H : ((spec_l20Fill.f k s0_0 t262 y263 1 (ji9) 0).bind fun bt266 => (some (bt266.2, bt266.1))) = some (r1, r2) := by first | (rw [hy263]; with_reducible exact H) | (have H2_ := (Option.bind_some _ _).symm.trans H; rw [hy263]; with_reducible exact H2_) | (have H2_ := (Option.bind_some _ _).symm.trans H; with_reducible exact H2_) | with_reducible exact H | (rw [hy263]; exact H) | exact H
        have Ny263 := Aside0.mk hy263
        clear hy263
        replace H := Option.bind_eq_some_iff.mp H
        obtain ⟨⟨t266, t267⟩, A120, H⟩ := H
        replace H : (some (t267, t266)) = some (r1, r2) := H
        have A12 := Aside0.mk A120
        clear A120
        simp only [Option.some.injEq, Prod.mk.injEq] at H
        obtain ⟨rfl, rfl⟩ := H
        go_enter Try.func89, Try.ntmps89
        go_wp2_with (first | ((with_reducible refine gate_callee (f := 88) rfl ?_); refine goesL_ (some 8) rfl rfl Try.func88 (by kernel_rfl) rfl #[.pointer (some ⟨g, 0, none⟩), .int .i64 3] rfl (by (try simp only [List.map_toArray, List.map_cons, List.map_nil]); first | done | rfl | (simp only [List.length_drop, List.length_take]; rfl)) ?_; (with_reducible refine (spec_l20Rd_pick.calls k g s0_0 s0_1 3 t255 t256 w0 _ ?side1 ?side2 A3.out).mono ?_); (case side1 => repeat (first | (with_reducible first | exact HI0.out | apply IsS102.alloc | apply IsS102.drewN | apply IsS102.drew | apply IsS102.set_1) | exact HI0.out)); (case side2 => repeat (first | (with_reducible first | exact HB.out | apply below_alloc | apply pw_below_drewN | apply below_drew1 | refine below_set ?_ (IsS102.ge HI0.out)) | exact HB.out)); rintro e w13 ⟨rfl, hi, hb, hk⟩; refine ⟨_, rfl, ?_⟩; have n0_ := Aside0.mk (KeepBut.trans (by repeat (first | (with_reducible first | exact HK.out | apply KeepBut.set_ | apply keep_drewN | apply keep_drew | apply keep_alloc) | exact HK.out)) hk (.inl rfl)); have n1_ := Aside0.mk (hb); have n2_ := Aside0.mk (hi); clear HK; clear HB; clear HI0; have HK := n0_; have HB := n1_; have HI0 := n2_; clear n0_ n1_ n2_; (try clear hb); (try clear hb2); (try clear hk); (try clear hi)) | ((with_reducible refine gate_callee (f := 88) rfl ?_); refine goesL_ (some 14) rfl rfl Try.func88 (by kernel_rfl) rfl #[.pointer (some ⟨g, 0, none⟩), .int .i64 7] rfl (by (try simp only [List.map_toArray, List.map_cons, List.map_nil]); first | done | rfl | (simp only [List.length_drop, List.length_take]; rfl)) ?_; (with_reducible refine (spec_l20Rd_pick.calls k g s0_0 t256 7 t261 t262 w0 _ ?side1 ?side2 A8.out).mono ?_); (case side1 => repeat (first | (with_reducible first | exact HI0.out | apply IsS102.alloc | apply IsS102.drewN | apply IsS102.drew | apply IsS102.set_1) | exact HI0.out)); (case side2 => repeat (first | (with_reducible first | exact HB.out | apply below_alloc | apply pw_below_drewN | apply below_drew1 | refine below_set ?_ (IsS102.ge HI0.out)) | exact HB.out)); rintro e w14 ⟨rfl, hi, hb, hk⟩; refine ⟨_, rfl, ?_⟩; have n0_ := Aside0.mk (KeepBut.trans (by repeat (first | (with_reducible first | exact HK.out | apply KeepBut.set_ | apply keep_drewN | apply keep_drew | apply keep_alloc) | exact HK.out)) hk (.inl rfl)); have n1_ := Aside0.mk (hb); have n2_ := Aside0.mk (hi); clear HK; clear HB; clear HI0; have HK := n0_; have HB := n1_; have HI0 := n2_; clear n0_ n1_ n2_; (try clear hb); (try clear hb2); (try clear hk); (try clear hi)) | ((with_reducible refine gate_dst (N := 17) rfl ?_); refine Kd.R_make (Kd.int .i64) _ 3 rfl (N := 17) rfl 22 _ _ rfl ji9 rfl rfl Try.underlying22 (.int .i64 0) 8 info3 rfl (by decide) (by omega) 0 (ok := fun _ => True) (okp := fun _ => True) rfl (fun _ hk => hk) trivial (of_decide_eq_true (by first | (with_reducible assumption) | assumption)) (Nat.le_trans (Nat.mul_le_mul_right _ (of_decide_eq_true (by first | (with_reducible assumption) | assumption) : ji9.toNat ≤ 35184372088832)) (by omega)) (Below.refl _ _) (Nat.le_refl _) ?_; intro v264 w15 ho16 hb hg_ hnew_; clear hg_ hnew_; (first | rw [← Ny263.out] at ho16 | (simp only [Int.reduceToNat] at ho16; rw [← Ny263.out] at ho16)); have n0_ := Aside0.mk (Kd.R_lower ho16 (keep_size (w := w) (g := g) (row := none) (by repeat (first | (with_reducible first | exact HK.out | apply KeepBut.set_ | apply keep_drewN | apply keep_drew | apply keep_alloc) | exact HK.out)))); have n1_ := Aside0.mk (IsS102.below (by repeat (first | (with_reducible first | exact HI0.out | apply IsS102.alloc | apply IsS102.drewN | apply IsS102.drew | apply IsS102.set_1) | exact HI0.out)) hb); have n2_ := Aside0.mk (KeepBut.trans (by repeat (first | (with_reducible first | exact HK.out | apply KeepBut.set_ | apply keep_drewN | apply keep_drew | apply keep_alloc) | exact HK.out)) (KeepBut.of_below hb g none) (.inl rfl)); have n3_ := Aside0.mk (below_step (by repeat (first | (with_reducible first | exact HB.out | apply below_alloc | apply pw_below_drewN | apply below_drew1 | refine below_set ?_ (IsS102.ge HI0.out)) | exact HB.out)) hb); clear HI0; clear HK; clear HB; have HO265 := n0_; have HI0 := n1_; have HK := n2_; have HB := n3_; clear n0_ n1_ n2_ n3_; clear hb ho16; obtain ⟨Ao17, co17, eo17⟩ := Kd.R_slice HO265.out; subst eo17) | ((with_reducible refine gate_callee (f := 119) rfl ?_); refine goesL_ (some 21) rfl rfl Try.func119 (by kernel_rfl) rfl #[.pointer (some ⟨g, 0, none⟩), .slice Ao17 y263.length co17, .int .i64 1, .int .i64 ji9, .int .i64 0] rfl (by (try simp only [List.map_toArray, List.map_cons, List.map_nil]); first | done | (simp only [hji9]; rfl) | rfl | (simp only [List.length_drop, List.length_take]; rfl)) ?_; (with_reducible refine (spec_l20Fill.calls k g s0_0 t262 (fun k_ => some k_ = (.slice Ao17 y263.length co17 : Value).ownBlock) (.slice Ao17 y263.length co17) y263 1 ji9 0 t266 t267 w0 _ ?side1 ?side2 ?side3 A12.out).mono ?_); (case side1 => repeat (first | (with_reducible first | exact HI0.out | apply IsS102.alloc | apply IsS102.drewN | apply IsS102.drew | apply IsS102.set_1) | exact HI0.out)); (case side2 => repeat (first | (with_reducible first | exact HB.out | apply below_alloc | apply pw_below_drewN | apply below_drew1 | refine below_set ?_ (IsS102.ge HI0.out)) | exact HB.out)); (case side3 => exact Kd.R_lower (Kd.R_tight rfl HO265.out) HL.out); rintro e w18 ⟨rfl, hi, hy0, hb, hkp⟩; refine ⟨_, rfl, ?_⟩; have n0_ := Aside0.mk (hi); have n1_ := Aside0.mk (Kd.R_reok rfl (Kd.R_raise (d := (Kd.int .i64)) (b := w0.heap.size) (b' := w.heap.size) (fun _ _ _ _ h_ => h_) hy0 (fun k_ e_ => Or.elim (hy0.1 k_ e_) (fun hs_ => (fun e_ => Kd.R_base HO265.out k_ e_.symm) hs_) (fun hn_ => Nat.le_trans (keep_size (w := w) (g := g) (row := none) (by repeat (first | (with_reducible first | exact HK.out | apply KeepBut.set_ | apply keep_drewN | apply keep_drew | apply keep_alloc) | exact HK.out))) hn_))) (fun k_ e_ => HO265.out.1 k_ e_)); have n2_ := Aside0.mk (Kept.keepG (by repeat (first | (with_reducible first | exact HK.out | apply KeepBut.set_ | apply keep_drewN | apply keep_drew | apply keep_alloc) | exact HK.out)) hkp (fun k_ hs_ => Or.elim hs_ (fun hs_ => (fun e_ => .inr (Kd.R_base HO265.out k_ e_.symm)) hs_) (fun e_ => .inl e_))); have n3_ := Aside0.mk (hb); clear HI0; clear HO265; clear HK; clear HB; have HI0 := n0_; have HO265 := n1_; have HK := n2_; have HB := n3_; clear n0_ n1_ n2_ n3_; (try clear hb); (try clear hkp); (try clear hy0)))
        go_ret
        exact ⟨_, by first | rfl | (simp [errW_none, errW_some] <;> rfl) | (simp only [← hji9]; first | rfl | (simp [errW_none, errW_some] <;> rfl)) | (simp [*, errW_none, errW_some] <;> rfl), by (with_reducible repeat (first | apply Kd.R_alloc | apply Kd.R_drewN | apply Kd.R_drew)); exact HO265.out, by repeat (first | (with_reducible first | exact HI0.out | apply IsS102.alloc | apply IsS102.drewN | apply IsS102.drew | apply IsS102.set_1) | exact HI0.out), by repeat (first | (with_reducible first | exact HB.out | apply below_alloc | apply pw_below_drewN | apply below_drew1 | refine below_set ?_ (IsS102.ge HI0.out)) | exact HB.out), by repeat (first | (with_reducible first | exact HK.out | apply KeepBut.set_ | apply keep_drewN | apply keep_drew | apply keep_alloc) | exact HK.out)⟩
      · rw [if_neg c11] at H
        exact absurd H (by simp)
    · rw [if_neg c10] at H
      exact absurd H (by simp)

/-! ### spec_l7Step: function 94, told by hand -/
section
set_option maxHeartbeats 8000000
set_option maxRecDepth 100000
attribute [local go_sem ↓] Go.wp_at_zero Go.wp_at_succ
/-- a row of numbers of one's own, at the head of block g -/
def ss_Rw (w : World) (B g c : Nat) (xs : List Int) : Prop := w.ownsRow B 3 1 (.slice (some ⟨g, 0, none⟩) xs.length c) xs.length (nums .i64 xs)
theorem ss_Rw.lt {w : World} {B g c : Nat} {xs : List Int} (h : ss_Rw w B g c xs) : B ≤ g ∧ g < w.heap.size ∧ xs.length ≤ c := by
  obtain ⟨_, ⟨h1, _⟩ | ⟨g', cap, cur, h1, h2, h3, h4, _⟩⟩ := h
  · cases h1
  · cases h1
    exact ⟨h2, (Array.getElem?_eq_some_iff.1 h3).1, h4⟩
theorem ss_Rw.keep {w W : World} {B g c : Nat} {xs : List Int} {r : Option Nat} (h : ss_Rw w B g c xs) (hg : w.grownBy W r) (hne : some g ≠ r) : ss_Rw W B g c xs :=
  World.ownsRow.kept h hg (.inr (by simpa [Value.ownBlock] using hne))
theorem ss_Rw.cell {w : World} {B g c : Nat} {xs : List Int} (h : ss_Rw w B g c xs) (j : Nat) (hj : j < xs.length) : w.cell? ⟨g, j, none⟩ = some (.int .i64 (rd xs j)) := by
  have := World.ownsRow.cells (g := g) h rfl j (.int .i64 (rd xs j)) (by simp [nums, rd, List.getD_eq_getElem?_getD, hj])
  simpa [add_plain] using this
theorem ss_Rw.frz {w : World} {B g c : Nat} {xs : List Int} (h : ss_Rw w B g c xs) (j : Nat) : w.frozen? ⟨g, j, none⟩ = false := by
  obtain ⟨_, ⟨h1, _⟩ | ⟨g', cap, cur, h1, h2, h3, _⟩⟩ := h
  · cases h1
  · cases h1
    exact blk_frozen h3 j
theorem ss_Rw.set {w : World} {B g c : Nat} {xs : List Int} (h : ss_Rw w B g c xs) (j : Nat) (u : Int) : ss_Rw (w.setCell ⟨g, j, none⟩ (.int .i64 u)) B g c (xs.set j u) := by
  obtain ⟨h0, ⟨h1, _⟩ | ⟨g', cap, cur, h1, h2, h3, h4, h5, h6, h7⟩⟩ := h
  · cases h1
  · cases h1
    refine ⟨by simp [nums], .inr ⟨g, c, cur.setIfInBounds j (.int .i64 u), by rw [List.length_set], h2, heap_setCell_same w g j cur 3 _ h3, by rw [List.length_set]; exact h4, h5, by rw [Array.size_setIfInBounds]; exact h6, ?_⟩⟩
    rw [Array.toList_setIfInBounds, List.take_set, List.length_set, h7]
    simp [nums, List.map_set]
theorem ss_Rw.news {w : World} {B g c : Nat} {xs : List Int} (h : ss_Rw w B g c xs) (n : Nat) : ∀ j u, (nums .i64 (xs.take n))[j]? = some u → w.cell? ((⟨g, 0, none⟩ : Addr).add j) = some u := by
  intro j u hu
  refine World.ownsRow.cells (g := g) h rfl j u ?_
  simp only [nums, List.map_take, List.getElem?_take] at hu ⊢
  split at hu
  · exact hu
  · cases hu
theorem ss_nums_one (xs : List Int) : ∀ u ∈ nums .i64 xs, u.oneCell' = true := by
  intro u hu
  simp only [nums, List.mem_map] at hu
  obtain ⟨x, _, rfl⟩ := hu
  rfl
theorem ss_lit_own (w : World) {B : Nat} (hB : B ≤ w.heap.size) : (w.alloc (.cells #[] 3)).ownsRow B 3 1 (.slice (some ⟨w.heap.size, 0, none⟩) 0 0) 0 [] := World.ownsRow_lit w #[] 0 hB (by unfold maxLen; omega) rfl
/-- behind 'append([]int{}, row..)': a new row with the same numbers -/
theorem ss_copied {w w1 : World} {B n : Nat} {v : Value} {xs : List Int} (hB : B ≤ w.heap.size) (hown : w1.ownsRow B 3 1 v (0 + n) ([] ++ nums .i64 xs)) (hl : xs.length = n) (hg : (w.alloc (.cells #[] 3)).grownBy w1 (some w.heap.size)) (hn : v = .slice none 0 0 ↔ Value.slice (some ⟨w.heap.size, 0, none⟩) 0 0 = .slice none 0 0 ∧ n = 0)
    (hat : v.ownBlock = some w.heap.size ∨ v.ownBlock = some (w.alloc (.cells #[] 3)).heap.size) : ∃ g c, v = .slice (some ⟨g, 0, none⟩) n c ∧ ss_Rw w1 B g c xs ∧ w.grownBy w1 none ∧ w.heap.size ≤ g := by
  subst hl
  rw [Nat.zero_add, List.nil_append] at hown
  have hg2 : w.grownBy w1 none := ⟨hg.os, hg.tape, hg.output, by have := hg.size; simp at this; omega, fun i hi _ => (hg.block i (by simp; omega) (by simp; omega)).trans (Below.heap_alloc w _ i hi)⟩
  obtain ⟨h0, ⟨rfl, _⟩ | ⟨g, cap, cur, rfl, r⟩⟩ := hown
  · exact absurd (hn.mp rfl).1 (by simp)
  · refine ⟨g, cap, rfl, ⟨h0, .inr ⟨g, cap, cur, rfl, r⟩⟩, hg2, ?_⟩
    simp [Value.ownBlock] at hat
    omega
/-- behind a step that cannot be done -/
def ss_SpN (w : World) (gs cs n : Nat) (nt : Int) (e : Ending) (w' : World) : Prop := e = .returned (.tuple #[.slice (some ⟨gs, 0, none⟩) n cs, .int .i64 nt, .bool false]) ∧ w' = w
/-- behind 'append(row, x)' -/
theorem ss_grown_one {w w1 : World} {B g c g2 c2 : Nat} {xs : List Int} {x : Int} (h : ss_Rw w B g c xs) (hown : w1.ownsRow B 3 1 (.slice (some ⟨g2, 0, none⟩) (xs.length + 1) c2) (xs.length + 1) (nums .i64 xs ++ [.int .i64 x])) (hg : (w.alloc (.cells #[.int .i64 x] 3)).grownBy w1 (some g)) (hat : some g = some g2 ∨ g2 = w.heap.size + 1) :
    ss_Rw w1 B g2 c2 (xs ++ [x]) ∧ w.grownBy w1 (some g) ∧ (g2 = g ∨ w.heap.size ≤ g2) := by
  refine ⟨?_, ⟨hg.os, hg.tape, hg.output, by have := hg.size; simp at this; omega, fun i hi hne => (hg.block i (by simp; omega) hne).trans (Below.heap_alloc w _ i hi)⟩, ?_⟩
  · unfold ss_Rw
    have e : nums .i64 (xs ++ [x]) = nums .i64 xs ++ [.int .i64 x] := by simp [nums]
    rw [List.length_append, List.length_singleton, e]
    exact hown
  · rcases hat with h | h
    · injection h with h; exact .inl h.symm
    · exact .inr (by omega)
theorem ss_gset {w W : World} {g : Nat} (h : w.grownBy W (some g)) (j : Nat) (u : Value) : w.grownBy (W.setCell ⟨g, j, none⟩ u) (some g) :=
  h.trans ⟨rfl, rfl, rfl, by simp, fun k _ hk => heap_setCell_other W ⟨g, j, none⟩ k u (fun e => hk (congrArg some e))⟩
/-- one step of the eager machine, as the reference has it: heads -1 for none -/
def ss_sp (m : Int) (ws : List Int) (nt : Int) (hs : List Int) : Bool × List Int × Int × List Int :=
  if m = 83 ∧ nt ≤ hs.length then (true, ws ++ [nt], nt + 1, hs)
  else if m = 76 ∧ nt ≤ hs.length ∧ ws ≠ [] ∧ rd hs (ws.getLastD 0 - 1) < 0 then (true, ws.dropLast, nt, hs.set ((ws.getLastD 0).toNat - 1) nt)
  else if m = 82 ∧ nt ≤ hs.length ∧ ws ≠ [] then (true, ws ++ [nt], nt + 1, hs.set (nt.toNat - 1) (ws.getLastD 0))
  else if m = 68 ∧ ws ≠ [] ∧ 0 < rd hs (ws.getLastD 0 - 1) then (true, ws.dropLast, nt, hs)
  else (false, ws, nt, hs)
def ss_SpP (w : World) (B gh ch : Nat) (r : Bool × List Int × Int × List Int) (e : Ending) (w' : World) : Prop :=
  ∃ g c, e = .returned (.tuple #[.slice (some ⟨g, 0, none⟩) r.2.1.length c, .int .i64 r.2.2.1, .bool r.1]) ∧ ss_Rw w' B g c r.2.1 ∧ ss_Rw w' B gh ch r.2.2.2 ∧ g ≠ gh ∧ Below B w w'
theorem ss_below_of_grown {w W : World} {B : Nat} {r : Option Nat} (hg : w.grownBy W r) (hr : ∀ k, r = some k → B ≤ k) (hB : B ≤ w.heap.size) : Below B w W := Below.grown (Below.refl _ _) hg hB hr
/-- behind a copy and one more number -/
theorem ss_fin_push {w w1 w2 : World} {B gh ch g1 g2 c2 : Nat} {hs ys : List Int} {x : Int} (hB : B ≤ w.heap.size) (hh : ss_Rw w B gh ch hs) (r2 : w.grownBy w1 none) (r3 : w.heap.size ≤ g1) (s1 : ss_Rw w2 B g2 c2 (ys ++ [x])) (s2 : w1.grownBy w2 (some g1)) (s3 : g2 = g1 ∨ w1.heap.size ≤ g2) :
    ss_Rw w2 B gh ch hs ∧ g2 ≠ gh ∧ Below B w w2 := by
  have hl := hh.lt
  have hz := r2.size
  refine ⟨(hh.keep r2 (by simp)).keep s2 (by simp; omega), by omega, ?_⟩
  exact (ss_below_of_grown r2 (by simp) hB).trans (ss_below_of_grown s2 (by intro k hk; injection hk with hk; omega) (by omega))
theorem ss_sp_S (w : World) (B gh ch gs cs : Nat) (hs ws : List Int) (nt : Int) (hh : ss_Rw w B gh ch hs) (hw : ss_Rw w B gs cs ws) (h1 : 1 ≤ nt) (h2 : nt ≤ hs.length) (h3 : hs.length ≤ 100) (h4 : ws.length ≤ 100) :
    Calls Try.prog 94 #[.slice (some ⟨gh, 0, none⟩) hs.length ch, .slice (some ⟨gs, 0, none⟩) ws.length cs, .int .i64 nt, .int .u8 83] w (ss_SpP w B gh ch (true, ws ++ [nt], nt + 1, hs)) := by
  have HH := Aside0.mk hh
  have HW := Aside0.mk hw
  have e1 : decide (nt ≤ (hs.length : Int)) = true := decide_eq_true h2
  clear hh hw
  go_enter Try.func94, Try.ntmps94
  go_upto_region 3 with (fail)
  obtain ⟨i0, hi0, hz0, hz1, hz2⟩ := info_parts info3
  have HI := Aside0.mk hi0
  have HZ0 := Aside0.mk hz0
  have HZ1 := Aside0.mk hz1
  have HZ2 := Aside0.mk hz2
  clear hi0 hz0 hz1 hz2
  have hB : B ≤ w.heap.size := by have := HW.out.lt; omega
  have HNW : Aside0 (∀ j u, (nums .i64 ws)[j]? = some u → (w.alloc (.cells #[] 3)).cell? ((⟨gs, 0, none⟩ : Addr).add j) = some u) := ⟨fun j u hu => (HW.out.keep (World.grownBy_alloc w (.cells #[] 3) none) (by simp)).news ws.length j u (by rw [List.take_length]; exact hu)⟩
  go_wp2_with (first | (at_builtin; refine wpList_append_own_at _ (by rfl) (.tmp 24) (.tmp 25) 22 (by rfl) B 3 i0 _ 1 8 Try.underlying22 HI.out HZ0.out HZ1.out HZ2.out rfl (by omega) (.slice (some ⟨w.heap.size, 0, none⟩) 0 0) 0 [] (by rfl) (ss_lit_own w hB) ⟨gs, 0, none⟩ ws.length cs (nums .i64 ws) (by rfl) (by simp [nums]) HNW.out (ss_nums_one ws) (by unfold maxLen; omega) (by omega) (by simp; omega) ?_; intro v1 w1 hown hgrow hnil hat; obtain ⟨g1, c1, rfl, r1, r2, r3⟩ := ss_copied hB hown rfl hgrow hnil hat; clear hown hgrow hnil hat) | (at_builtin; refine wpList_append_lies _ (by rfl) (.tmp 26) (.tmp 28) _ (by rfl) B 3 i0 _ 1 8 Try.underlying22 HI.out HZ0.out HZ1.out HZ2.out rfl (by omega) (.slice (some ⟨g1, 0, none⟩) ws.length c1) ws.length (nums .i64 (ws)) (by rfl) (World.ownsRow.alloc r1 _) ⟨w1.heap.size, 0, none⟩ 1 1 [.int .i64 nt] (by rfl) (by rfl) (World.news_of_block (cs := #[.int .i64 nt]) (t := 3) (fr := (0, 0)) (heap_alloc_new w1 _)) (by simp [Value.oneCell']) (by omega) (by unfold maxLen; omega) (by omega) (by have := r2.size; simp; omega) (w1.heap.size + 1) (by simp) ?_; intro g2 c2 w2 hown hgrow hat hlt; obtain ⟨s1, s2, s3⟩ := ss_grown_one r1 hown hgrow hat; clear hown hgrow hat))
  go_ret3
  obtain ⟨t1, t2, t3⟩ := ss_fin_push (x := nt) hB HH.out r2 r3 s1 s2 s3
  exact ⟨g2, c2, by simp, s1, t1, t2, t3⟩
/-- behind a copy alone -/
theorem ss_fin_copy {w w1 : World} {B gh ch g1 c1 : Nat} {hs ys : List Int} (hB : B ≤ w.heap.size) (hh : ss_Rw w B gh ch hs) (r1 : ss_Rw w1 B g1 c1 ys) (r2 : w.grownBy w1 none) (r3 : w.heap.size ≤ g1) : ss_Rw w1 B gh ch hs ∧ g1 ≠ gh ∧ Below B w w1 := by
  have hl := hh.lt
  exact ⟨hh.keep r2 (by simp), by omega, ss_below_of_grown r2 (by simp) hB⟩
theorem ss_Rw.cut {w : World} {B g c : Nat} {xs : List Int} {u : Int} (h : ss_Rw w B g c (xs ++ [u])) : ∀ j v, (nums .i64 xs)[j]? = some v → w.cell? ((⟨g, 0, none⟩ : Addr).add j) = some v := fun j v hv => h.news xs.length j v (by rw [List.take_left]; exact hv)
theorem ss_sp_D (w : World) (B gh ch gs cs : Nat) (hs xs : List Int) (u nt : Int) (hh : ss_Rw w B gh ch hs) (hw : ss_Rw w B gs cs (xs ++ [u])) (hne : gs ≠ gh) (h1 : 1 ≤ nt) (u1 : 1 ≤ u) (u2 : u ≤ hs.length) (h3 : hs.length ≤ 100) (h4 : xs.length ≤ 100) (hc : 0 < rd hs (u - 1)) :
    Calls Try.prog 94 #[.slice (some ⟨gh, 0, none⟩) hs.length ch, .slice (some ⟨gs, 0, none⟩) (xs ++ [u]).length cs, .int .i64 nt, .int .u8 68] w (ss_SpP w B gh ch (true, xs, nt, hs)) := by
  obtain ⟨n, hn⟩ : ∃ n, n = xs.length := ⟨_, rfl⟩
  have hl : (xs ++ [u]).length = xs.length + 1 := by simp
  have k1 : w.cell? ⟨gs, xs.length, none⟩ = some (.int .i64 u) := by
    have := hw.cell xs.length (by simp)
    simpa [rd, List.getD_eq_getElem?_getD] using this
  have hlc := hw.lt.2.2
  rw [hl] at hlc ⊢
  have k2 : w.cell? ⟨gh, u.toNat - 1, none⟩ = some (.int .i64 (rd hs (u - 1))) := by
    have := hh.cell (u.toNat - 1) (by omega)
    rw [show ((u.toNat - 1 : Nat) : Int) = u - 1 by omega] at this
    exact this
  have HH := Aside0.mk hh
  have HW := Aside0.mk hw
  have p1 : (0 : Int) ≤ (xs.length : Int) := Int.natCast_nonneg _
  clear hh hw hl hn
  have e1 : decide (0 < rd hs (u - 1)) = true := decide_eq_true hc
  go_enter Try.func94, Try.ntmps94
  go_upto_region 11 with (fail)
  obtain ⟨i0, hi0, hz0, hz1, hz2⟩ := info_parts info3
  have HI := Aside0.mk hi0
  have HZ0 := Aside0.mk hz0
  have HZ1 := Aside0.mk hz1
  have HZ2 := Aside0.mk hz2
  clear hi0 hz0 hz1 hz2
  have hB : B ≤ w.heap.size := by have := HW.out.lt; omega
  have HNW : Aside0 (∀ j u, (nums .i64 xs)[j]? = some u → (w.alloc (.cells #[] 3)).cell? ((⟨gs, 0, none⟩ : Addr).add j) = some u) := ⟨fun j u hu => (HW.out.keep (World.grownBy_alloc w (.cells #[] 3) none) (by simp)).cut j u hu⟩
  go_wp2_with (at_builtin; refine wpList_append_own_at _ (by rfl) (.tmp 117) (.tmp 120) 22 (by rfl) B 3 i0 _ 1 8 Try.underlying22 HI.out HZ0.out HZ1.out HZ2.out rfl (by omega) (.slice (some ⟨w.heap.size, 0, none⟩) 0 0) 0 [] (by rfl) (ss_lit_own w hB) ⟨gs, 0, none⟩ xs.length cs (nums .i64 (xs)) (by rfl) (by simp [nums]) HNW.out (ss_nums_one _) (by unfold maxLen; omega) (by omega) (by simp; omega) ?_; intro v1 w1 hown hgrow hnil hat; obtain ⟨g1, c1, rfl, r1, r2, r3⟩ := ss_copied hB hown (by simp) hgrow hnil hat; clear hown hgrow hnil hat)
  go_ret3
  obtain ⟨t1, t2, t3⟩ := ss_fin_copy hB HH.out r1 r2 r3
  exact ⟨g1, c1, rfl, r1, t1, t2, t3⟩
theorem ss_sp_L (w : World) (B gh ch gs cs : Nat) (hs xs : List Int) (u nt : Int) (hh : ss_Rw w B gh ch hs) (hw : ss_Rw w B gs cs (xs ++ [u])) (hne : gs ≠ gh) (h1 : 1 ≤ nt) (u1 : 1 ≤ u) (u2 : u ≤ hs.length) (h3 : hs.length ≤ 100) (h4 : xs.length ≤ 100) (h2 : nt ≤ hs.length) (hc : rd hs (u - 1) < 0) :
    Calls Try.prog 94 #[.slice (some ⟨gh, 0, none⟩) hs.length ch, .slice (some ⟨gs, 0, none⟩) (xs ++ [u]).length cs, .int .i64 nt, .int .u8 76] w (ss_SpP w B gh ch (true, xs, nt, hs.set (u.toNat - 1) nt)) := by
  obtain ⟨n, hn⟩ : ∃ n, n = xs.length := ⟨_, rfl⟩
  have hl : (xs ++ [u]).length = xs.length + 1 := by simp
  have k1 : w.cell? ⟨gs, xs.length, none⟩ = some (.int .i64 u) := by
    have := hw.cell xs.length (by simp)
    simpa [rd, List.getD_eq_getElem?_getD] using this
  have hlc := hw.lt.2.2
  rw [hl] at hlc ⊢
  have k2 : w.cell? ⟨gh, u.toNat - 1, none⟩ = some (.int .i64 (rd hs (u - 1))) := by
    have := hh.cell (u.toNat - 1) (by omega)
    rw [show ((u.toNat - 1 : Nat) : Int) = u - 1 by omega] at this
    exact this
  have HH := Aside0.mk hh
  have HW := Aside0.mk hw
  have p1 : (0 : Int) ≤ (xs.length : Int) := Int.natCast_nonneg _
  clear hh hw hl hn
  have e1 : decide (rd hs (u - 1) < 0) = true := decide_eq_true hc
  have e2 : decide (nt ≤ (hs.length : Int)) = true := decide_eq_true h2
  have f1 := HH.out.frz (u.toNat - 1)
  go_enter Try.func94, Try.ntmps94
  go_upto_region 6 with (fail)
  have hh1 := HH.out.set (u.toNat - 1) nt
  have hw1 := HW.out.keep (ss_gset (World.grownBy.refl w (some gh)) (u.toNat - 1) (.int .i64 nt)) (by simpa using hne)
  have hb1 : Below B w (w.setCell ⟨gh, u.toNat - 1, none⟩ (.int .i64 nt)) := (Below.refl _ _).setCell HH.out.lt.1 _
  generalize w.setCell ⟨gh, u.toNat - 1, none⟩ (.int .i64 nt) = W at *
  have HH1 := Aside0.mk hh1
  have HW1 := Aside0.mk hw1
  have HB1 := Aside0.mk hb1
  clear hh1 hw1 hb1
  obtain ⟨i0, hi0, hz0, hz1, hz2⟩ := info_parts info3
  have HI := Aside0.mk hi0
  have HZ0 := Aside0.mk hz0
  have HZ1 := Aside0.mk hz1
  have HZ2 := Aside0.mk hz2
  clear hi0 hz0 hz1 hz2
  have hB : B ≤ W.heap.size := by have := HW1.out.lt; omega
  have HNW : Aside0 (∀ j u, (nums .i64 xs)[j]? = some u → (W.alloc (.cells #[] 3)).cell? ((⟨gs, 0, none⟩ : Addr).add j) = some u) := ⟨fun j u hu => (HW1.out.keep (World.grownBy_alloc W (.cells #[] 3) none) (by simp)).cut j u hu⟩
  go_wp2_with (at_builtin; refine wpList_append_own_at _ (by rfl) (.tmp 64) (.tmp 67) 22 (by rfl) B 3 i0 _ 1 8 Try.underlying22 HI.out HZ0.out HZ1.out HZ2.out rfl (by omega) (.slice (some ⟨W.heap.size, 0, none⟩) 0 0) 0 [] (by rfl) (ss_lit_own W hB) ⟨gs, 0, none⟩ xs.length cs (nums .i64 (xs)) (by rfl) (by simp [nums]) HNW.out (ss_nums_one _) (by unfold maxLen; omega) (by omega) (by simp; omega) ?_; intro v1 w1 hown hgrow hnil hat; obtain ⟨g1, c1, rfl, r1, r2, r3⟩ := ss_copied hB hown (by simp) hgrow hnil hat; clear hown hgrow hnil hat)
  go_ret3
  obtain ⟨t1, t2, t3⟩ := ss_fin_copy hB HH1.out r1 r2 r3
  exact ⟨g1, c1, rfl, r1, t1, t2, HB1.out.trans t3⟩
theorem ss_sp_R (w : World) (B gh ch gs cs : Nat) (hs xs : List Int) (u nt : Int) (hh : ss_Rw w B gh ch hs) (hw : ss_Rw w B gs cs (xs ++ [u])) (hne : gs ≠ gh) (h1 : 1 ≤ nt) (u1 : 1 ≤ u) (u2 : u ≤ hs.length) (h3 : hs.length ≤ 100) (h4 : xs.length ≤ 100) (h2 : nt ≤ hs.length) :
    Calls Try.prog 94 #[.slice (some ⟨gh, 0, none⟩) hs.length ch, .slice (some ⟨gs, 0, none⟩) (xs ++ [u]).length cs, .int .i64 nt, .int .u8 82] w (ss_SpP w B gh ch (true, xs ++ [u, nt], nt + 1, hs.set (nt.toNat - 1) u)) := by
  obtain ⟨n, hn⟩ : ∃ n, n = xs.length := ⟨_, rfl⟩
  have hl : (xs ++ [u]).length = xs.length + 1 := by simp
  have k1 : w.cell? ⟨gs, xs.length, none⟩ = some (.int .i64 u) := by
    have := hw.cell xs.length (by simp)
    simpa [rd, List.getD_eq_getElem?_getD] using this
  have hlc := hw.lt.2.2
  rw [hl] at hlc ⊢
  have k2 : w.cell? ⟨gh, u.toNat - 1, none⟩ = some (.int .i64 (rd hs (u - 1))) := by
    have := hh.cell (u.toNat - 1) (by omega)
    rw [show ((u.toNat - 1 : Nat) : Int) = u - 1 by omega] at this
    exact this
  have HH := Aside0.mk hh
  have HW := Aside0.mk hw
  have p1 : (0 : Int) ≤ (xs.length : Int) := Int.natCast_nonneg _
  clear hh hw hl hn
  have e2 : decide (nt ≤ (hs.length : Int)) = true := decide_eq_true h2
  have k3 : w.cell? ⟨gh, nt.toNat - 1, none⟩ = some (.int .i64 (rd hs (nt - 1))) := by
    have := HH.out.cell (nt.toNat - 1) (by omega)
    rw [show ((nt.toNat - 1 : Nat) : Int) = nt - 1 by omega] at this
    exact this
  have f1 := HH.out.frz (nt.toNat - 1)
  have p2 : nt - 1 < (hs.length : Int) := by omega
  go_enter Try.func94, Try.ntmps94
  go_upto_region 9 with (fail)
  have hh1 := HH.out.set (nt.toNat - 1) u
  have hw1 := HW.out.keep (ss_gset (World.grownBy.refl w (some gh)) (nt.toNat - 1) (.int .i64 u)) (by simpa using hne)
  have hb1 : Below B w (w.setCell ⟨gh, nt.toNat - 1, none⟩ (.int .i64 u)) := (Below.refl _ _).setCell HH.out.lt.1 _
  generalize w.setCell ⟨gh, nt.toNat - 1, none⟩ (.int .i64 u) = W at *
  have HH1 := Aside0.mk hh1
  have HW1 := Aside0.mk hw1
  have HB1 := Aside0.mk hb1
  clear hh1 hw1 hb1
  obtain ⟨i0, hi0, hz0, hz1, hz2⟩ := info_parts info3
  have HI := Aside0.mk hi0
  have HZ0 := Aside0.mk hz0
  have HZ1 := Aside0.mk hz1
  have HZ2 := Aside0.mk hz2
  clear hi0 hz0 hz1 hz2
  have hB : B ≤ W.heap.size := by have := HW1.out.lt; omega
  have HNW : Aside0 (∀ j v, (nums .i64 (xs ++ [u]))[j]? = some v → (W.alloc (.cells #[] 3)).cell? ((⟨gs, 0, none⟩ : Addr).add j) = some v) := ⟨fun j v hv => (HW1.out.keep (World.grownBy_alloc W (.cells #[] 3) none) (by simp)).news (xs.length + 1) j v (by rw [List.take_of_length_le (by simp)]; exact hv)⟩
  go_wp2_with (first | (at_builtin; refine wpList_append_own_at _ (by rfl) (.tmp 91) (.tmp 92) 22 (by rfl) B 3 i0 _ 1 8 Try.underlying22 HI.out HZ0.out HZ1.out HZ2.out rfl (by omega) (.slice (some ⟨W.heap.size, 0, none⟩) 0 0) 0 [] (by rfl) (ss_lit_own W hB) ⟨gs, 0, none⟩ (xs.length + 1) cs (nums .i64 (xs ++ [u])) (by rfl) (by simp [nums]) HNW.out (ss_nums_one _) (by unfold maxLen; omega) (by omega) (by simp; omega) ?_; intro v1 w1 hown hgrow hnil hat; obtain ⟨g1, c1, rfl, r1, r2, r3⟩ := ss_copied hB hown (by simp) hgrow hnil hat; clear hown hgrow hnil hat) | (at_builtin; refine wpList_append_lies _ (by rfl) (.tmp 93) (.tmp 95) _ (by rfl) B 3 i0 _ 1 8 Try.underlying22 HI.out HZ0.out HZ1.out HZ2.out rfl (by omega) (.slice (some ⟨g1, 0, none⟩) (xs.length + 1) c1) (xs.length + 1) (nums .i64 (xs ++ [u])) (by rfl) (World.ownsRow.alloc (by simpa [ss_Rw] using r1) _) ⟨w1.heap.size, 0, none⟩ 1 1 [.int .i64 nt] (by rfl) (by rfl) (World.news_of_block (cs := #[.int .i64 nt]) (t := 3) (fr := (0, 0)) (heap_alloc_new w1 _)) (by simp [Value.oneCell']) (by omega) (by unfold maxLen; omega) (by omega) (by have := r2.size; simp; omega) (w1.heap.size + 1) (by simp) ?_; intro g2 c2 w2 hown hgrow hat hlt; obtain ⟨s1, s2, s3⟩ := ss_grown_one r1 (by simpa using hown) hgrow hat; clear hown hgrow hat))
  go_ret3
  obtain ⟨t1, t2, t3⟩ := ss_fin_push (x := nt) hB HH1.out r2 r3 s1 s2 s3
  exact ⟨g2, c2, by simp, by simpa using s1, t1, t2, HB1.out.trans t3⟩
theorem ss_sp_no0 (w : World) (B gh ch gs cs : Nat) (hs : List Int) (nt m : Int) (hh : ss_Rw w B gh ch hs) (hw : ss_Rw w B gs cs []) (hne : gs ≠ gh) (h3 : hs.length ≤ 100) (hm : ¬ (m = 83 ∧ nt ≤ hs.length)) :
    Calls Try.prog 94 #[.slice (some ⟨gh, 0, none⟩) hs.length ch, .slice (some ⟨gs, 0, none⟩) 0 cs, .int .i64 nt, .int .u8 m] w (ss_SpN w gs cs 0 nt) := by
  have HH := Aside0.mk hh
  have HW := Aside0.mk hw
  clear hh hw
  by_cases c : m = 83
  · subst c
    have e1 : decide (nt ≤ (hs.length : Int)) = false := decide_eq_false (fun q => hm ⟨rfl, q⟩)
    clear hm
    go_enter Try.func94, Try.ntmps94
    go_wp2
    all_goals
      go_ret3
      exact ⟨rfl, rfl⟩
  · have e1 : (m == 83) = false := beq_eq_false_iff_ne.mpr c
    clear hm c
    go_enter Try.func94, Try.ntmps94
    go_wp2
    all_goals
      go_ret3
      exact ⟨rfl, rfl⟩
theorem ss_sp_no1 (w : World) (B gh ch gs cs : Nat) (hs xs : List Int) (u nt : Int) (hh : ss_Rw w B gh ch hs) (hw : ss_Rw w B gs cs (xs ++ [u])) (hne : gs ≠ gh) (h1 : 1 ≤ nt) (u1 : 1 ≤ u) (u2 : u ≤ hs.length) (h3 : hs.length ≤ 100) (h4 : xs.length ≤ 100) (m : Int) (m1 : ¬ (m = 83 ∧ nt ≤ hs.length)) (m2 : ¬ (m = 76 ∧ nt ≤ hs.length ∧ rd hs (u - 1) < 0)) (m3 : ¬ (m = 82 ∧ nt ≤ hs.length)) (m4 : ¬ (m = 68 ∧ 0 < rd hs (u - 1))) :
    Calls Try.prog 94 #[.slice (some ⟨gh, 0, none⟩) hs.length ch, .slice (some ⟨gs, 0, none⟩) (xs ++ [u]).length cs, .int .i64 nt, .int .u8 m] w (ss_SpN w gs cs (xs ++ [u]).length nt) := by
  obtain ⟨n, hn⟩ : ∃ n, n = xs.length := ⟨_, rfl⟩
  have hl : (xs ++ [u]).length = xs.length + 1 := by simp
  have k1 : w.cell? ⟨gs, xs.length, none⟩ = some (.int .i64 u) := by
    have := hw.cell xs.length (by simp)
    simpa [rd, List.getD_eq_getElem?_getD] using this
  have hlc := hw.lt.2.2
  rw [hl] at hlc
  have k2 : w.cell? ⟨gh, u.toNat - 1, none⟩ = some (.int .i64 (rd hs (u - 1))) := by
    have := hh.cell (u.toNat - 1) (by omega)
    rw [show ((u.toNat - 1 : Nat) : Int) = u - 1 by omega] at this
    exact this
  have HH := Aside0.mk hh
  have HW := Aside0.mk hw
  have p1 : (0 : Int) ≤ (xs.length : Int) := Int.natCast_nonneg _
  clear hh hw hn
  rw [hl]
  clear hl
  by_cases c68 : m = 68
  · subst c68
    have e4 : decide (0 < rd hs (u - 1)) = false := decide_eq_false (fun q => m4 ⟨rfl, q⟩)
    clear m1 m2 m3 m4
    go_enter Try.func94, Try.ntmps94
    go_wp2
    all_goals
      go_ret3
      exact ⟨rfl, rfl⟩
  · have e4 : (m == 68) = false := beq_eq_false_iff_ne.mpr c68
    by_cases cn : nt ≤ hs.length
    · have en : decide (nt ≤ (hs.length : Int)) = true := decide_eq_true cn
      have e1 : (m == 83) = false := beq_eq_false_iff_ne.mpr (fun q => m1 ⟨q, cn⟩)
      have e3 : (m == 82) = false := beq_eq_false_iff_ne.mpr (fun q => m3 ⟨q, cn⟩)
      by_cases c76 : m = 76
      · subst c76
        have e2 : decide (rd hs (u - 1) < 0) = false := decide_eq_false (fun q => m2 ⟨rfl, cn, q⟩)
        clear m1 m2 m3 m4 cn c68 e1 e3 e4
        go_enter Try.func94, Try.ntmps94
        go_wp2
        all_goals
          go_ret3
          exact ⟨rfl, rfl⟩
      · have e2 : (m == 76) = false := beq_eq_false_iff_ne.mpr c76
        clear m1 m2 m3 m4 cn c68 c76
        go_enter Try.func94, Try.ntmps94
        go_wp2
        all_goals
          go_ret3
          exact ⟨rfl, rfl⟩
    · have en : decide (nt ≤ (hs.length : Int)) = false := decide_eq_false cn
      clear m1 m2 m3 m4 cn c68
      go_enter Try.func94, Try.ntmps94
      go_wp2
      all_goals
        go_ret3
        exact ⟨rfl, rfl⟩
theorem ss_sp_nil (m nt : Int) (hs : List Int) : ss_sp m [] nt hs = if m = 83 ∧ nt ≤ hs.length then (true, [nt], nt + 1, hs) else (false, [], nt, hs) := by
  unfold ss_sp
  simp
theorem ss_sp_one (m : Int) (xs : List Int) (u nt : Int) (hs : List Int) : ss_sp m (xs ++ [u]) nt hs =
    if m = 83 ∧ nt ≤ hs.length then (true, xs ++ [u, nt], nt + 1, hs)
    else if m = 76 ∧ nt ≤ hs.length ∧ rd hs (u - 1) < 0 then (true, xs, nt, hs.set (u.toNat - 1) nt)
    else if m = 82 ∧ nt ≤ hs.length then (true, xs ++ [u, nt], nt + 1, hs.set (nt.toNat - 1) u)
    else if m = 68 ∧ 0 < rd hs (u - 1) then (true, xs, nt, hs) else (false, xs ++ [u], nt, hs) := by
  unfold ss_sp
  simp
theorem ss_step_any (w : World) (B gh ch gs cs : Nat) (hs ws : List Int) (nt m : Int) (hh : ss_Rw w B gh ch hs) (hw : ss_Rw w B gs cs ws) (hne : gs ≠ gh) (h1 : 1 ≤ nt) (hm : ∀ x ∈ ws, 1 ≤ x ∧ x ≤ hs.length) (h3 : hs.length ≤ 100) (h4 : ws.length ≤ 100) :
    Calls Try.prog 94 #[.slice (some ⟨gh, 0, none⟩) hs.length ch, .slice (some ⟨gs, 0, none⟩) ws.length cs, .int .i64 nt, .int .u8 m] w (ss_SpP w B gh ch (ss_sp m ws nt hs)) := by
  by_cases c : ws = []
  · subst c
    rw [ss_sp_nil]
    by_cases c1 : m = 83 ∧ nt ≤ hs.length
    · obtain ⟨rfl, h2⟩ := c1
      rw [if_pos ⟨rfl, h2⟩]
      exact ss_sp_S w B gh ch gs cs hs [] nt hh hw h1 h2 h3 h4
    · rw [if_neg c1]
      exact (ss_sp_no0 w B gh ch gs cs hs nt m hh hw hne h3 c1).mono (fun e w2 q => ⟨gs, cs, q.1, by rw [q.2]; exact hw, by rw [q.2]; exact hh, hne, by rw [q.2]; exact Below.refl _ _⟩)
  · obtain ⟨xs, u, rfl⟩ : ∃ xs u, ws = xs ++ [u] := ⟨_, _, (List.dropLast_concat_getLast c).symm⟩
    obtain ⟨u1, u2⟩ := hm u (by simp)
    have h5 : xs.length ≤ 100 := by simp at h4; omega
    rw [ss_sp_one]
    by_cases c1 : m = 83 ∧ nt ≤ hs.length
    · obtain ⟨rfl, h2⟩ := c1
      rw [if_pos ⟨rfl, h2⟩]
      have := ss_sp_S w B gh ch gs cs hs (xs ++ [u]) nt hh hw h1 h2 h3 h4
      simpa using this
    · rw [if_neg c1]
      by_cases c2 : m = 76 ∧ nt ≤ hs.length ∧ rd hs (u - 1) < 0
      · obtain ⟨rfl, h2, h6⟩ := c2
        rw [if_pos ⟨rfl, h2, h6⟩]
        exact ss_sp_L w B gh ch gs cs hs xs u nt hh hw hne h1 u1 u2 h3 h5 h2 h6
      · rw [if_neg c2]
        by_cases c3 : m = 82 ∧ nt ≤ hs.length
        · obtain ⟨rfl, h2⟩ := c3
          rw [if_pos ⟨rfl, h2⟩]
          exact ss_sp_R w B gh ch gs cs hs xs u nt hh hw hne h1 u1 u2 h3 h5 h2
        · rw [if_neg c3]
          by_cases c4 : m = 68 ∧ 0 < rd hs (u - 1)
          · obtain ⟨rfl, h6⟩ := c4
            rw [if_pos ⟨rfl, h6⟩]
            exact ss_sp_D w B gh ch gs cs hs xs u nt hh hw hne h1 u1 u2 h3 h5 h6
          · rw [if_neg c4]
            exact (ss_sp_no1 w B gh ch gs cs hs xs u nt hh hw hne h1 u1 u2 h3 h5 m c1 c2 c3 c4).mono (fun e w2 q => ⟨gs, cs, q.1, by rw [q.2]; exact hw, by rw [q.2]; exact hh, hne, by rw [q.2]; exact Below.refl _ _⟩)
/-- where the step cannot be done, nothing is changed -/
theorem ss_step_no (w : World) (B gh ch gs cs : Nat) (hs ws : List Int) (nt m : Int) (hh : ss_Rw w B gh ch hs) (hw : ss_Rw w B gs cs ws) (hne : gs ≠ gh) (h1 : 1 ≤ nt) (hm : ∀ x ∈ ws, 1 ≤ x ∧ x ≤ hs.length) (h3 : hs.length ≤ 100) (h4 : ws.length ≤ 100) (hf : ¬ (ss_sp m ws nt hs).1 = true) :
    Calls Try.prog 94 #[.slice (some ⟨gh, 0, none⟩) hs.length ch, .slice (some ⟨gs, 0, none⟩) ws.length cs, .int .i64 nt, .int .u8 m] w (ss_SpN w gs cs ws.length nt) := by
  by_cases c : ws = []
  · subst c
    rw [ss_sp_nil] at hf
    exact ss_sp_no0 w B gh ch gs cs hs nt m hh hw hne h3 (fun q => hf (by rw [if_pos q]))
  · obtain ⟨xs, u, rfl⟩ : ∃ xs u, ws = xs ++ [u] := ⟨_, _, (List.dropLast_concat_getLast c).symm⟩
    obtain ⟨u1, u2⟩ := hm u (by simp)
    have h5 : xs.length ≤ 100 := by simp at h4; omega
    rw [ss_sp_one] at hf
    refine ss_sp_no1 w B gh ch gs cs hs xs u nt hh hw hne h1 u1 u2 h3 h5 m (fun q => hf (by rw [if_pos q])) (fun q => hf ?_) (fun q => hf ?_) (fun q => hf ?_)
    · split
      · rfl
      · rfl
    · split
      · rfl
      · split
        · rfl
        · rfl
    · split
      · rfl
      · split
        · rfl
        · split
          · rfl
          · rfl
theorem ss_lit_row (w : World) {B : Nat} (hB : B ≤ w.heap.size) : ss_Rw (w.alloc (.cells #[] 3)) B w.heap.size 0 [] := ss_lit_own w hB
def ss_byteS (m : Int) : ByteArray := ⟨#[m.toNat.toUInt8]⟩
structure ss_Oks (ws : List Int) (nt : Int) (hs : List Int) : Prop where
  n0 : 1 ≤ nt
  n1 : nt ≤ hs.length + 1
  len : ws.length + 1 ≤ nt
  mem : ∀ x ∈ ws, 1 ≤ x ∧ x ≤ hs.length
theorem ss_oks_sp (m : Int) {ws : List Int} {nt : Int} {hs : List Int} (h : ss_Oks ws nt hs) : ss_Oks (ss_sp m ws nt hs).2.1 (ss_sp m ws nt hs).2.2.1 (ss_sp m ws nt hs).2.2.2 ∧ (ss_sp m ws nt hs).2.2.2.length = hs.length := by
  obtain ⟨a, b, c, d⟩ := h
  by_cases h2 : ws = []
  · subst h2
    rw [ss_sp_nil]
    split
    · rename_i q
      refine ⟨⟨by simp; omega, by simp; omega, by simp; omega, ?_⟩, rfl⟩
      intro x hx
      simp only [List.mem_singleton] at hx
      subst hx
      exact ⟨a, q.2⟩
    · exact ⟨⟨a, b, c, d⟩, rfl⟩
  · obtain ⟨xs, u, rfl⟩ : ∃ xs u, ws = xs ++ [u] := ⟨_, _, (List.dropLast_concat_getLast h2).symm⟩
    rw [ss_sp_one]
    simp only [List.length_append, List.length_cons, List.length_nil] at c
    have dx : ∀ x ∈ xs, 1 ≤ x ∧ x ≤ (hs.length : Int) := fun x hx => d x (by simp [hx])
    have du := d u (by simp)
    split
    · rename_i q
      refine ⟨⟨by simp; omega, by simp; omega, by simp; omega, ?_⟩, rfl⟩
      intro x hx
      simp only [List.mem_append, List.mem_cons, List.not_mem_nil, or_false] at hx
      rcases hx with hx | rfl | rfl
      · exact dx x hx
      · exact du
      · exact ⟨a, q.2⟩
    · split
      · exact ⟨⟨a, by simpa using b, by simp; omega, fun x hx => by simpa using dx x hx⟩, by simp⟩
      · split
        · rename_i q
          refine ⟨⟨by simp; omega, by simp; omega, by simp; omega, ?_⟩, by simp⟩
          intro x hx
          simp only [List.mem_append, List.mem_cons, List.not_mem_nil, or_false] at hx
          rcases hx with hx | rfl | rfl
          · simpa using dx x hx
          · simpa using du
          · simpa using And.intro a q.2
        · split
          · exact ⟨⟨a, b, by simp; omega, dx⟩, rfl⟩
          · exact ⟨⟨a, b, by simp; omega, d⟩, rfl⟩
end

/-! ### spec_l1In: function 93 -/
def spec_l1In.f (a0 : Int) (a1 : Int) (a2 : Int) : Option (Bool) := if a0 ≥ a1 then (some (decide (a0 ≤ a2))) else (some false)
set_option maxHeartbeats 8000000 in
set_option maxRecDepth 100000 in
theorem spec_l1In.calls (a0 : Int) (a1 : Int) (a2 : Int) (r : Bool) (w : World) (h : spec_l1In.f a0 a1 a2 = some r) :
    Calls Try.prog 93 #[.int .i64 a0, .int .i64 a1, .int .i64 a2] w fun e w' => e = .returned (.bool r) ∧ Drawn0 w w' := by
  have H : (if a0 ≥ a1 then (some (decide (a0 ≤ a2))) else (some false)) = some r := h
  clear h
  by_cases c4 : a0 ≥ a1
  · rw [if_pos c4] at H
    have c4b0 : decide (a1 ≤ a0) = true := decide_eq_true c4
    clear c4
    obtain rfl := Option.some.inj H
    go_enter Try.func93, Try.ntmps93
    go_wp2
    go_ret
    exact ⟨by first | rfl | (simp; done) | (simp [*]; done), by repeat (first | exact Drawn0.refl _ | apply Drawn0.step)⟩
  · rw [if_neg c4] at H
    have c4b0 : decide (a1 ≤ a0) = false := decide_eq_false c4
    clear c4
    obtain rfl := Option.some.inj H
    go_enter Try.func93, Try.ntmps93
    go_wp2
    go_ret
    exact ⟨by first | rfl | (simp; done) | (simp [*]; done), by repeat (first | exact Drawn0.refl _ | apply Drawn0.step)⟩

end Go.Proofs.Ytbbhdgpiocojaaa.LF
