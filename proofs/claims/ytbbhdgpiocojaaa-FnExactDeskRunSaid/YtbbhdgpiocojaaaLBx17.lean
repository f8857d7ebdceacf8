/- Printed by a program of this session (wip/lp/lp.py) out of the translation: functions with the same answers as the Go code, and their contracts; no conditions beyond those that each theorem names. -/
import Derived.Test.YtbbhdgpiocojaaaLBx0
import Derived.Test.YtbbhdgpiocojaaaLBx2
import Derived.Test.YtbbhdgpiocojaaaLBx3
import Derived.Test.YtbbhdgpiocojaaaLBx9
import Derived.Test.YtbbhdgpiocojaaaLBx10
import Derived.Test.YtbbhdgpiocojaaaLBx16
namespace Go.Proofs.Ytbbhdgpiocojaaa.LB
open Go.RowKit Go.Proofs.YtbbhdgpiocojaaaV.PrintWords Go.Proofs.YtbbhdgpiocojaaaV.PrintLast Go.Proofs.YtbbhdgpiocojaaaV.PrintMore
attribute [local go_sem] max2_int min2_int max_two min_two max_three min_three max_four min_four   -- for this text's walks alone
set_option linter.unusedVariables false
set_option linter.unusedSimpArgs false

/-! ### laws_eqDeedS: function 23 -/
def laws_eqDeedS.l0 : Nat → List (S33) → List (S33) → Int → Option (Bool)
  | 0, _, _, _ => none
  | k + 1, x0, x1, x5 => if x5 < (x0.length : Int) then (if 0 ≤ x5 then (if x5 < (x1.length : Int) then ((laws_eqDeed.f ((rd_T33 x0 x5).f0) ((rd_T33 x0 x5).f1) ((rd_T33 x0 x5).f2) ((rd_T33 x1 x5).f0) ((rd_T33 x1 x5).f1) ((rd_T33 x1 x5).f2)).bind fun t519 => (if t519 = true then (laws_eqDeedS.l0 k x0 x1 (wrap64 (x5 + 1))) else (some false))) else (none)) else (none)) else (some true)
def laws_eqDeedS.f (k : Nat) (l0 : List (S33)) (l1 : List (S33)) : Option (Bool) := if (l0.length : Int) = (l1.length : Int) then (laws_eqDeedS.l0 k l0 l1 0) else (some false)
theorem laws_eqDeedS.mono_l : ∀ k, (∀ y0 y1 y2, LeO (laws_eqDeedS.l0 k y0 y1 y2) (laws_eqDeedS.l0 (k + 1) y0 y1 y2))
  | 0 => fun _ _ _ r h => by simp [laws_eqDeedS.l0] at h
  | k + 1 => by
    have ih0 := laws_eqDeedS.mono_l k
    · intro y0 y1 y2
      unfold laws_eqDeedS.l0
      repeat' first
      | (with_reducible exact ih0 _ _ _)
      | (with_reducible exact LeO.refl _)
      | (with_reducible exact LeO.none _)
      | (with_reducible refine LeO.ite ?_ ?_)
      | (with_reducible refine LeO.bind ?_ (fun _ => ?_))
      | exact ih0 _ _ _
      | exact LeO.none _
      | refine LeO.ite ?_ ?_
      | refine LeO.bind ?_ (fun _ => ?_)
theorem laws_eqDeedS.mono : ∀ a0 a1 k, LeO (laws_eqDeedS.f k a0 a1) (laws_eqDeedS.f (k + 1) a0 a1) := by
  intro a0 a1 k
  have ih0 := laws_eqDeedS.mono_l k
  unfold laws_eqDeedS.f
  repeat' first
      | (with_reducible exact ih0 _ _ _)
      | (with_reducible exact LeO.refl _)
      | (with_reducible exact LeO.none _)
      | (with_reducible refine LeO.ite ?_ ?_)
      | (with_reducible refine LeO.bind ?_ (fun _ => ?_))
      | exact ih0 _ _ _
      | exact LeO.none _
      | refine LeO.ite ?_ ?_
      | refine LeO.bind ?_ (fun _ => ?_)
def laws_eqDeedS.T6 : Bool × List (List Nat × List Nat) := (true, [([], []), ([], []), ([0, 1], [0, 1]), ([2], [2]), ([], []), ([], []), ([4, 5], [4, 5]), ([6], [6]), ([3, 7], [3, 7]), ([8], [8])])
def laws_eqDeedS.B6 : List Nat := [0, 0, 3, 7, 0, 0, 48, 112, 255, 511]
theorem laws_eqDeedS.tab6 : rtab .any (opsOf Try.f23 6) = laws_eqDeedS.T6 := by kernel_rfl
theorem laws_eqDeedS.bits6 : waitsOk laws_eqDeedS.T6.2 laws_eqDeedS.B6 = true := by kernel_rfl
set_option maxHeartbeats 8000000 in
set_option maxRecDepth 100000 in
theorem laws_eqDeedS.calls (k : Nat) (A0 : Option Addr) (c0 : Nat) (l0 : List (S33)) (A1 : Option Addr) (c1 : Nat) (l1 : List (S33)) (r : Bool) (w : World) (hr0 : Kd.C k33 w A0 l0.length l0) (hc0 : l0.length ≤ c0) (hr1 : Kd.C k33 w A1 l1.length l1) (hc1 : l1.length ≤ c1) (h : laws_eqDeedS.f k l0 l1 = some r) :
    Calls Try.prog 23 #[.slice A0 l0.length c0, .slice A1 l1.length c1] w fun e w' => e = .returned (.bool r) ∧ Below w.heap.size w w' := by
  have hu33 := Try.underlying33
  have HR0 := Aside0.mk hr0
  have HC0 := Aside0.mk hc0
  clear hr0 hc0
  have HR1 := Aside0.mk hr1
  have HC1 := Aside0.mk hc1
  clear hr1 hc1
  have HB := Aside0.mk (Below.refl w.heap.size w)
  have H : (if (l0.length : Int) = (l1.length : Int) then (laws_eqDeedS.l0 k l0 l1 0) else (some false)) = some r := h
  clear h
  by_cases c3 : (l0.length : Int) = (l1.length : Int)
  · rw [if_pos c3] at H
    have c3b0 : ((l0.length : Int) == (l1.length : Int)) = true := beq_iff_eq.mpr c3
    have c3b1 : ((l0.length : Int) != (l1.length : Int)) = false := bne_eq_false_iff_eq.mpr c3
    have c3b2 : (l0.length == l1.length) = true := by first | simpa using c3 | (simp at c3 ⊢; omega)
    clear c3
    have H' := Aside0.mk H
    clear H
    go_enter Try.func23, Try.ntmps23
    go_wp2
    go_loopg [5] k (fun kq v5 w' => ∃ (x5_1 : Int), v5 = .int .i64 x5_1 ∧ Aside0 (laws_eqDeedS.l0 kq l0 l1 x5_1 = some r) ∧ Aside0 (kq ≤ k) ∧ Aside0 (Below w.heap.size w w'))
    case atStart => exact ⟨(0), (by first | rfl | (simp; done) | (simp [*]; done)), H', ⟨Nat.le_refl _⟩, ⟨by repeat (first | (with_reducible first | exact HB.out | apply below_alloc | apply pw_below_drewN | apply below_drew1) | exact HB.out)⟩⟩
    case round =>
      clear H'
      try clear c1
      try clear c2
      try clear p2
      try clear c3
      try clear c3b0
      try clear c3b1
      try clear c3b2
      obtain ⟨x5_1, rfl, HA, HK1, HB⟩ := hrel
      cases gk with
      | zero => exact absurd HA.out (by simp [laws_eqDeedS.l0])
      | succ k1 =>
        have H := HA.out
        clear HA
        simp only [laws_eqDeedS.l0] at H
        by_cases c4 : x5_1 < (l0.length : Int)
        · rw [if_pos c4] at H
          have c4b0 : decide (x5_1 < (l0.length : Int)) = true := decide_eq_true c4
          clear c4
          by_cases c5 : 0 ≤ x5_1
          · rw [if_pos c5] at H
            have c5b0 : decide (0 ≤ x5_1) = true := decide_eq_true c5
            clear c5
            by_cases c6 : x5_1 < (l1.length : Int)
            · rw [if_pos c6] at H
              have c6b0 : decide (x5_1 < (l1.length : Int)) = true := decide_eq_true c6
              clear c6
              replace H := Option.bind_eq_some_iff.mp H
              obtain ⟨t519, A70, H⟩ := H
              replace H : (if t519 = true then (laws_eqDeedS.l0 k1 l0 l1 (wrap64 (x5_1 + 1))) else (some false)) = some r := H
              have A7 := Aside0.mk A70
              clear A70
              by_cases c8 : t519 = true
              · subst c8
                have H1 : (laws_eqDeedS.l0 k1 l0 l1 (wrap64 (x5_1 + 1))) = some r := by rw [if_pos rfl] at H; exact H
                clear H
                have H := H1
                clear H1
                have H' := Aside0.mk H
                clear H
                try go_wp2
                have n0_ := Aside0.mk (below_drew1 HB.out)
                clear HB
                have HB := n0_
                clear n0_
                have p517 : 0 ≤ (x5_1 : Int) := of_decide_eq_true (by first | (with_reducible assumption) | assumption)
                have q517 : x5_1 < (l0.length : Int) := of_decide_eq_true (by first | (with_reducible assumption) | assumption)
                obtain ⟨ad517, e517, hx517_0, hx517_1, hx517_2⟩ := at_T33 HR0.out x5_1 p517 q517
                have hw517_2 := hx517_2
                have hw517_1 := hx517_1
                have hw517_0 := hx517_0
                cases e517
                replace hx517_0 := (HB.out.cell (World.block_lt_of_cell? w _ hx517_0)).trans hx517_0
                replace hx517_1 := (HB.out.cell (World.block_lt_of_cell? w _ hx517_1)).trans hx517_1
                replace hx517_2 := (HB.out.cell (World.block_lt_of_cell? w _ hx517_2)).trans hx517_2
                replace p517 := eq_true p517
                replace q517 := eq_true q517
                have p518 : 0 ≤ (x5_1 : Int) := of_decide_eq_true (by first | (with_reducible assumption) | assumption)
                have q518 : x5_1 < (l1.length : Int) := of_decide_eq_true (by first | (with_reducible assumption) | assumption)
                obtain ⟨ad518, e518, hx518_0, hx518_1, hx518_2⟩ := at_T33 HR1.out x5_1 p518 q518
                have hw518_2 := hx518_2
                have hw518_1 := hx518_1
                have hw518_0 := hx518_0
                cases e518
                replace hx518_0 := (HB.out.cell (World.block_lt_of_cell? w _ hx518_0)).trans hx518_0
                replace hx518_1 := (HB.out.cell (World.block_lt_of_cell? w _ hx518_1)).trans hx518_1
                replace hx518_2 := (HB.out.cell (World.block_lt_of_cell? w _ hx518_2)).trans hx518_2
                replace p518 := eq_true p518
                replace q518 := eq_true q518
                refine start_ (n := 10) (S := fun w' => w'.cell? (ad517.add ((x5_1).toNat * 3)) = some (.int .i64 ((rd_T33 l0 x5_1).f0)) ∧ w'.cell? ⟨(ad517.add ((x5_1).toNat * 3)).block, (ad517.add ((x5_1).toNat * 3)).off + 1, none⟩ = some (.int .i64 ((rd_T33 l0 x5_1).f1)) ∧ w'.cell? ⟨(ad517.add ((x5_1).toNat * 3)).block, (ad517.add ((x5_1).toNat * 3)).off + 2, none⟩ = some (.int .i64 ((rd_T33 l0 x5_1).f2)) ∧ w'.cell? (ad518.add ((x5_1).toNat * 3)) = some (.int .i64 ((rd_T33 l1 x5_1).f0)) ∧ w'.cell? ⟨(ad518.add ((x5_1).toNat * 3)).block, (ad518.add ((x5_1).toNat * 3)).off + 1, none⟩ = some (.int .i64 ((rd_T33 l1 x5_1).f1)) ∧ w'.cell? ⟨(ad518.add ((x5_1).toNat * 3)).block, (ad518.add ((x5_1).toNat * 3)).off + 2, none⟩ = some (.int .i64 ((rd_T33 l1 x5_1).f2))) (ds := []) #[false, false, false, false, false, false, false, false, false, false] (by kernel_rfl) rfl rfl ⟨((HB.out.cell (World.block_lt_of_cell? w _ hw517_0)).trans hw517_0), ((HB.out.cell (World.block_lt_of_cell? w _ hw517_1)).trans hw517_1), ((HB.out.cell (World.block_lt_of_cell? w _ hw517_2)).trans hw517_2), ((HB.out.cell (World.block_lt_of_cell? w _ hw518_0)).trans hw518_0), ((HB.out.cell (World.block_lt_of_cell? w _ hw518_1)).trans hw518_1), ((HB.out.cell (World.block_lt_of_cell? w _ hw518_2)).trans hw518_2)⟩ (fun hHeld => ?_); refine with_tabW laws_eqDeedS.tab6 laws_eqDeedS.bits6 (fun HT_ HW_ => ?_)
                generalize wr.drew = w9 at HB hx517_0 hx517_1 hx517_2 hx518_0 hx518_1 hx518_2 hHeld ⊢
                refine pure_ (i := 0) (N := some 17) (v := ?_) (a' := ?_) #[true, false, false, false, false, false, false, false, false, false] rfl rfl (any_of HT_.out (by kernel_rfl)) (fun _ _ _ h => h) (Or.inl ⟨by rfl, ?_⟩) ?_ ?_
                rotate_left
                · intro w'
                  go_simp
                  with_reducible rfl
                rotate_left
                · simp only [Act.put, List.setIfInBounds_toArray, List.set_cons_zero, List.set_cons_succ, i64_w, i32_w]
                  rfl
                refine pure_ (i := 1) (N := some 18) (v := ?_) (a' := ?_) #[true, true, false, false, false, false, false, false, false, false] rfl rfl (any_of HT_.out (by kernel_rfl)) (fun _ _ _ h => h) (Or.inl ⟨by rfl, ?_⟩) ?_ ?_
                rotate_left
                · intro w'
                  go_simp
                  with_reducible rfl
                rotate_left
                · simp only [Act.put, List.setIfInBounds_toArray, List.set_cons_zero, List.set_cons_succ, i64_w, i32_w]
                  rfl
                refine pure_ (i := 2) (N := some 19) (v := ?_) (a' := ?_) #[true, true, true, false, false, false, false, false, false, false] rfl rfl (any_of HT_.out (by kernel_rfl)) (fun _ _ _ h => h) (Or.inl ⟨by rfl, ?_⟩) ?_ ?_
                rotate_left
                · intro w'
                  go_simp
                  with_reducible rfl
                rotate_left
                · simp only [Act.put, List.setIfInBounds_toArray, List.set_cons_zero, List.set_cons_succ, i64_w, i32_w]
                  rfl
                refine pure_ (i := 4) (N := some 21) (v := ?_) (a' := ?_) #[true, true, true, false, true, false, false, false, false, false] rfl rfl (any_of HT_.out (by kernel_rfl)) (fun _ _ _ h => h) (Or.inl ⟨by rfl, ?_⟩) ?_ ?_
                rotate_left
                · intro w'
                  go_simp
                  with_reducible rfl
                rotate_left
                · simp only [Act.put, List.setIfInBounds_toArray, List.set_cons_zero, List.set_cons_succ, i64_w, i32_w]
                  rfl
                refine pure_ (i := 5) (N := some 22) (v := ?_) (a' := ?_) #[true, true, true, false, true, true, false, false, false, false] rfl rfl (any_of HT_.out (by kernel_rfl)) (fun _ _ _ h => h) (Or.inl ⟨by rfl, ?_⟩) ?_ ?_
                rotate_left
                · intro w'
                  go_simp
                  with_reducible rfl
                rotate_left
                · simp only [Act.put, List.setIfInBounds_toArray, List.set_cons_zero, List.set_cons_succ, i64_w, i32_w]
                  rfl
                refine pure_ (i := 6) (N := some 23) (v := ?_) (a' := ?_) #[true, true, true, false, true, true, true, false, false, false] rfl rfl (any_of HT_.out (by kernel_rfl)) (fun _ _ _ h => h) (Or.inl ⟨by rfl, ?_⟩) ?_ ?_
                rotate_left
                · intro w'
                  go_simp
                  with_reducible rfl
                rotate_left
                · simp only [Act.put, List.setIfInBounds_toArray, List.set_cons_zero, List.set_cons_succ, i64_w, i32_w]
                  rfl
                refine take_ (i := 3) (N := some 20) (v := ?_) (a' := ?_) #[true, true, true, true, true, true, true, false, false, false] rfl rfl (take_ofW HT_.out HW_.out (by kernel_rfl)) (fun _ _ _ h => h) (Or.inl ⟨by rfl, ?_⟩) hHeld ?_ ?_
                rotate_left
                · rintro w' ⟨s0, s1, s2, s3, s4, s5⟩
                  go_simp
                  with_reducible rfl
                rotate_left
                · simp only [Act.put, List.setIfInBounds_toArray, List.set_cons_zero, List.set_cons_succ, i64_w, i32_w]
                  rfl
                refine take_ (i := 7) (N := some 24) (v := ?_) (a' := ?_) #[true, true, true, true, true, true, true, true, false, false] rfl rfl (take_ofW HT_.out HW_.out (by kernel_rfl)) (fun _ _ _ h => h) (Or.inl ⟨by rfl, ?_⟩) hHeld ?_ ?_
                rotate_left
                · rintro w' ⟨s0, s1, s2, s3, s4, s5⟩
                  go_simp
                  with_reducible rfl
                rotate_left
                · simp only [Act.put, List.setIfInBounds_toArray, List.set_cons_zero, List.set_cons_succ, i64_w, i32_w]
                  rfl
                refine one_ (i := 8) (N := some 25) #[true, true, true, true, true, true, true, true, true, false] rfl rfl (one_of HT_.out (by kernel_rfl)) (by decide) (fun K hK => ?_)
                refine goes_ Try.func69 (by kernel_rfl) rfl #[.agg #[.int .i64 ((rd_T33 l0 x5_1).f0), .int .i64 ((rd_T33 l0 x5_1).f1), .int .i64 ((rd_T33 l0 x5_1).f2)], .agg #[.int .i64 ((rd_T33 l1 x5_1).f0), .int .i64 ((rd_T33 l1 x5_1).f1), .int .i64 ((rd_T33 l1 x5_1).f2)]] (by rfl) rfl rfl (by (try simp only [List.map_toArray, List.map_cons, List.map_nil]); first | done | rfl | (simp only [List.length_drop, List.length_take]; rfl)) ?_
                with_reducible refine (laws_eqDeed.calls ((rd_T33 l0 x5_1).f0) ((rd_T33 l0 x5_1).f1) ((rd_T33 l0 x5_1).f2) ((rd_T33 l1 x5_1).f0) ((rd_T33 l1 x5_1).f1) ((rd_T33 l1 x5_1).f2) true _ A7.out).mono ?_
                rintro e w10 ⟨rfl, hb⟩
                refine ⟨_, rfl, ?_⟩
                have n0_ := Aside0.mk (below_step (by repeat (first | (with_reducible first | exact HB.out | apply below_alloc | apply pw_below_drewN | apply below_drew1) | exact HB.out)) hb)
                clear HB
                have HB := n0_
                clear n0_
                (try clear hb)
                (try clear hb2)
                (try clear hk)
                (try clear hi)
                refine hK.out _ _ ⟨((HB.out.cell (World.block_lt_of_cell? w _ hw517_0)).trans hw517_0), ((HB.out.cell (World.block_lt_of_cell? w _ hw517_1)).trans hw517_1), ((HB.out.cell (World.block_lt_of_cell? w _ hw517_2)).trans hw517_2), ((HB.out.cell (World.block_lt_of_cell? w _ hw518_0)).trans hw518_0), ((HB.out.cell (World.block_lt_of_cell? w _ hw518_1)).trans hw518_1), ((HB.out.cell (World.block_lt_of_cell? w _ hw518_2)).trans hw518_2)⟩ (fun hHeld => ?_)
                clear hK K
                refine norm_ (a' := ?_) ?_ ?_
                rotate_left
                · show Act.put _ (some 25) _ = _
                  simp only [Act.put, List.setIfInBounds_toArray, List.set_cons_zero, List.set_cons_succ, i64_w, i32_w]
                  rfl
                refine pure_ (i := 9) (N := some 26) (v := ?_) (a' := ?_) #[true, true, true, true, true, true, true, true, true, true] rfl rfl (any_of HT_.out (by kernel_rfl)) (fun _ _ _ h => h) (Or.inl ⟨by rfl, ?_⟩) ?_ ?_
                rotate_left
                · intro w'
                  go_simp
                  with_reducible rfl
                rotate_left
                · simp only [Act.put, List.setIfInBounds_toArray, List.set_cons_zero, List.set_cons_succ, i64_w, i32_w]
                  rfl
                refine done_ (done_of HT_.out (by kernel_rfl)) ?_
                try go_wp2
                go_roundg k1
                case measure => have := HK1.out; omega
                case rel => exact ⟨(wrap64 (x5_1 + 1)), (by first | rfl | (simp; done) | (simp [*]; done)), H', ⟨by have := HK1.out; omega⟩, ⟨by repeat (first | (with_reducible first | exact HB.out | apply below_alloc | apply pw_below_drewN | apply below_drew1) | exact HB.out)⟩⟩
              · replace c8 := Bool.eq_false_iff.mpr c8
                subst c8
                have H1 : (some false) = some r := by rw [if_neg (show ¬ (false = true) by decide)] at H; exact H
                clear H
                have H := H1
                clear H1
                obtain rfl := Option.some.inj H
                try go_wp2
                have n0_ := Aside0.mk (below_drew1 HB.out)
                clear HB
                have HB := n0_
                clear n0_
                have p517 : 0 ≤ (x5_1 : Int) := of_decide_eq_true (by first | (with_reducible assumption) | assumption)
                have q517 : x5_1 < (l0.length : Int) := of_decide_eq_true (by first | (with_reducible assumption) | assumption)
                obtain ⟨ad517, e517, hx517_0, hx517_1, hx517_2⟩ := at_T33 HR0.out x5_1 p517 q517
                have hw517_2 := hx517_2
                have hw517_1 := hx517_1
                have hw517_0 := hx517_0
                cases e517
                replace hx517_0 := (HB.out.cell (World.block_lt_of_cell? w _ hx517_0)).trans hx517_0
                replace hx517_1 := (HB.out.cell (World.block_lt_of_cell? w _ hx517_1)).trans hx517_1
                replace hx517_2 := (HB.out.cell (World.block_lt_of_cell? w _ hx517_2)).trans hx517_2
                replace p517 := eq_true p517
                replace q517 := eq_true q517
                have p518 : 0 ≤ (x5_1 : Int) := of_decide_eq_true (by first | (with_reducible assumption) | assumption)
                have q518 : x5_1 < (l1.length : Int) := of_decide_eq_true (by first | (with_reducible assumption) | assumption)
                obtain ⟨ad518, e518, hx518_0, hx518_1, hx518_2⟩ := at_T33 HR1.out x5_1 p518 q518
                have hw518_2 := hx518_2
                have hw518_1 := hx518_1
                have hw518_0 := hx518_0
                cases e518
                replace hx518_0 := (HB.out.cell (World.block_lt_of_cell? w _ hx518_0)).trans hx518_0
                replace hx518_1 := (HB.out.cell (World.block_lt_of_cell? w _ hx518_1)).trans hx518_1
                replace hx518_2 := (HB.out.cell (World.block_lt_of_cell? w _ hx518_2)).trans hx518_2
                replace p518 := eq_true p518
                replace q518 := eq_true q518
                refine start_ (n := 10) (S := fun w' => w'.cell? (ad517.add ((x5_1).toNat * 3)) = some (.int .i64 ((rd_T33 l0 x5_1).f0)) ∧ w'.cell? ⟨(ad517.add ((x5_1).toNat * 3)).block, (ad517.add ((x5_1).toNat * 3)).off + 1, none⟩ = some (.int .i64 ((rd_T33 l0 x5_1).f1)) ∧ w'.cell? ⟨(ad517.add ((x5_1).toNat * 3)).block, (ad517.add ((x5_1).toNat * 3)).off + 2, none⟩ = some (.int .i64 ((rd_T33 l0 x5_1).f2)) ∧ w'.cell? (ad518.add ((x5_1).toNat * 3)) = some (.int .i64 ((rd_T33 l1 x5_1).f0)) ∧ w'.cell? ⟨(ad518.add ((x5_1).toNat * 3)).block, (ad518.add ((x5_1).toNat * 3)).off + 1, none⟩ = some (.int .i64 ((rd_T33 l1 x5_1).f1)) ∧ w'.cell? ⟨(ad518.add ((x5_1).toNat * 3)).block, (ad518.add ((x5_1).toNat * 3)).off + 2, none⟩ = some (.int .i64 ((rd_T33 l1 x5_1).f2))) (ds := []) #[false, false, false, false, false, false, false, false, false, false] (by kernel_rfl) rfl rfl ⟨((HB.out.cell (World.block_lt_of_cell? w _ hw517_0)).trans hw517_0), ((HB.out.cell (World.block_lt_of_cell? w _ hw517_1)).trans hw517_1), ((HB.out.cell (World.block_lt_of_cell? w _ hw517_2)).trans hw517_2), ((HB.out.cell (World.block_lt_of_cell? w _ hw518_0)).trans hw518_0), ((HB.out.cell (World.block_lt_of_cell? w _ hw518_1)).trans hw518_1), ((HB.out.cell (World.block_lt_of_cell? w _ hw518_2)).trans hw518_2)⟩ (fun hHeld => ?_); refine with_tabW laws_eqDeedS.tab6 laws_eqDeedS.bits6 (fun HT_ HW_ => ?_)
                generalize wr.drew = w11 at HB hx517_0 hx517_1 hx517_2 hx518_0 hx518_1 hx518_2 hHeld ⊢
                refine pure_ (i := 0) (N := some 17) (v := ?_) (a' := ?_) #[true, false, false, false, false, false, false, false, false, false] rfl rfl (any_of HT_.out (by kernel_rfl)) (fun _ _ _ h => h) (Or.inl ⟨by rfl, ?_⟩) ?_ ?_
                rotate_left
                · intro w'
                  go_simp
                  with_reducible rfl
                rotate_left
                · simp only [Act.put, List.setIfInBounds_toArray, List.set_cons_zero, List.set_cons_succ, i64_w, i32_w]
                  rfl
                refine pure_ (i := 1) (N := some 18) (v := ?_) (a' := ?_) #[true, true, false, false, false, false, false, false, false, false] rfl rfl (any_of HT_.out (by kernel_rfl)) (fun _ _ _ h => h) (Or.inl ⟨by rfl, ?_⟩) ?_ ?_
                rotate_left
                · intro w'
                  go_simp
                  with_reducible rfl
                rotate_left
                · simp only [Act.put, List.setIfInBounds_toArray, List.set_cons_zero, List.set_cons_succ, i64_w, i32_w]
                  rfl
                refine pure_ (i := 2) (N := some 19) (v := ?_) (a' := ?_) #[true, true, true, false, false, false, false, false, false, false] rfl rfl (any_of HT_.out (by kernel_rfl)) (fun _ _ _ h => h) (Or.inl ⟨by rfl, ?_⟩) ?_ ?_
                rotate_left
                · intro w'
                  go_simp
                  with_reducible rfl
                rotate_left
                · simp only [Act.put, List.setIfInBounds_toArray, List.set_cons_zero, List.set_cons_succ, i64_w, i32_w]
                  rfl
                refine pure_ (i := 4) (N := some 21) (v := ?_) (a' := ?_) #[true, true, true, false, true, false, false, false, false, false] rfl rfl (any_of HT_.out (by kernel_rfl)) (fun _ _ _ h => h) (Or.inl ⟨by rfl, ?_⟩) ?_ ?_
                rotate_left
                · intro w'
                  go_simp
                  with_reducible rfl
                rotate_left
                · simp only [Act.put, List.setIfInBounds_toArray, List.set_cons_zero, List.set_cons_succ, i64_w, i32_w]
                  rfl
                refine pure_ (i := 5) (N := some 22) (v := ?_) (a' := ?_) #[true, true, true, false, true, true, false, false, false, false] rfl rfl (any_of HT_.out (by kernel_rfl)) (fun _ _ _ h => h) (Or.inl ⟨by rfl, ?_⟩) ?_ ?_
                rotate_left
                · intro w'
                  go_simp
                  with_reducible rfl
                rotate_left
                · simp only [Act.put, List.setIfInBounds_toArray, List.set_cons_zero, List.set_cons_succ, i64_w, i32_w]
                  rfl
                refine pure_ (i := 6) (N := some 23) (v := ?_) (a' := ?_) #[true, true, true, false, true, true, true, false, false, false] rfl rfl (any_of HT_.out (by kernel_rfl)) (fun _ _ _ h => h) (Or.inl ⟨by rfl, ?_⟩) ?_ ?_
                rotate_left
                · intro w'
                  go_simp
                  with_reducible rfl
                rotate_left
                · simp only [Act.put, List.setIfInBounds_toArray, List.set_cons_zero, List.set_cons_succ, i64_w, i32_w]
                  rfl
                refine take_ (i := 3) (N := some 20) (v := ?_) (a' := ?_) #[true, true, true, true, true, true, true, false, false, false] rfl rfl (take_ofW HT_.out HW_.out (by kernel_rfl)) (fun _ _ _ h => h) (Or.inl ⟨by rfl, ?_⟩) hHeld ?_ ?_
                rotate_left
                · rintro w' ⟨s0, s1, s2, s3, s4, s5⟩
                  go_simp
                  with_reducible rfl
                rotate_left
                · simp only [Act.put, List.setIfInBounds_toArray, List.set_cons_zero, List.set_cons_succ, i64_w, i32_w]
                  rfl
                refine take_ (i := 7) (N := some 24) (v := ?_) (a' := ?_) #[true, true, true, true, true, true, true, true, false, false] rfl rfl (take_ofW HT_.out HW_.out (by kernel_rfl)) (fun _ _ _ h => h) (Or.inl ⟨by rfl, ?_⟩) hHeld ?_ ?_
                rotate_left
                · rintro w' ⟨s0, s1, s2, s3, s4, s5⟩
                  go_simp
                  with_reducible rfl
                rotate_left
                · simp only [Act.put, List.setIfInBounds_toArray, List.set_cons_zero, List.set_cons_succ, i64_w, i32_w]
                  rfl
                refine one_ (i := 8) (N := some 25) #[true, true, true, true, true, true, true, true, true, false] rfl rfl (one_of HT_.out (by kernel_rfl)) (by decide) (fun K hK => ?_)
                refine goes_ Try.func69 (by kernel_rfl) rfl #[.agg #[.int .i64 ((rd_T33 l0 x5_1).f0), .int .i64 ((rd_T33 l0 x5_1).f1), .int .i64 ((rd_T33 l0 x5_1).f2)], .agg #[.int .i64 ((rd_T33 l1 x5_1).f0), .int .i64 ((rd_T33 l1 x5_1).f1), .int .i64 ((rd_T33 l1 x5_1).f2)]] (by rfl) rfl rfl (by (try simp only [List.map_toArray, List.map_cons, List.map_nil]); first | done | rfl | (simp only [List.length_drop, List.length_take]; rfl)) ?_
                with_reducible refine (laws_eqDeed.calls ((rd_T33 l0 x5_1).f0) ((rd_T33 l0 x5_1).f1) ((rd_T33 l0 x5_1).f2) ((rd_T33 l1 x5_1).f0) ((rd_T33 l1 x5_1).f1) ((rd_T33 l1 x5_1).f2) false _ A7.out).mono ?_
                rintro e w12 ⟨rfl, hb⟩
                refine ⟨_, rfl, ?_⟩
                have n0_ := Aside0.mk (below_step (by repeat (first | (with_reducible first | exact HB.out | apply below_alloc | apply pw_below_drewN | apply below_drew1) | exact HB.out)) hb)
                clear HB
                have HB := n0_
                clear n0_
                (try clear hb)
                (try clear hb2)
                (try clear hk)
                (try clear hi)
                refine hK.out _ _ ⟨((HB.out.cell (World.block_lt_of_cell? w _ hw517_0)).trans hw517_0), ((HB.out.cell (World.block_lt_of_cell? w _ hw517_1)).trans hw517_1), ((HB.out.cell (World.block_lt_of_cell? w _ hw517_2)).trans hw517_2), ((HB.out.cell (World.block_lt_of_cell? w _ hw518_0)).trans hw518_0), ((HB.out.cell (World.block_lt_of_cell? w _ hw518_1)).trans hw518_1), ((HB.out.cell (World.block_lt_of_cell? w _ hw518_2)).trans hw518_2)⟩ (fun hHeld => ?_)
                clear hK K
                refine norm_ (a' := ?_) ?_ ?_
                rotate_left
                · show Act.put _ (some 25) _ = _
                  simp only [Act.put, List.setIfInBounds_toArray, List.set_cons_zero, List.set_cons_succ, i64_w, i32_w]
                  rfl
                refine pure_ (i := 9) (N := some 26) (v := ?_) (a' := ?_) #[true, true, true, true, true, true, true, true, true, true] rfl rfl (any_of HT_.out (by kernel_rfl)) (fun _ _ _ h => h) (Or.inl ⟨by rfl, ?_⟩) ?_ ?_
                rotate_left
                · intro w'
                  go_simp
                  with_reducible rfl
                rotate_left
                · simp only [Act.put, List.setIfInBounds_toArray, List.set_cons_zero, List.set_cons_succ, i64_w, i32_w]
                  rfl
                refine done_ (done_of HT_.out (by kernel_rfl)) ?_
                try go_wp2
                go_ret
                exact ⟨by first | rfl | (simp [errW_none, errW_some] <;> rfl) | (simp [*, errW_none, errW_some] <;> rfl), by repeat (first | (with_reducible first | exact HB.out | apply below_alloc | apply pw_below_drewN | apply below_drew1) | exact HB.out)⟩
            · rw [if_neg c6] at H
              exact absurd H (by simp)
          · rw [if_neg c5] at H
            exact absurd H (by simp)
        · rw [if_neg c4] at H
          have c4b0 : decide (x5_1 < (l0.length : Int)) = false := decide_eq_false c4
          clear c4
          obtain rfl := Option.some.inj H
          go_wp2
          go_ret
          exact ⟨by first | rfl | (simp [errW_none, errW_some] <;> rfl) | (simp [*, errW_none, errW_some] <;> rfl), by repeat (first | (with_reducible first | exact HB.out | apply below_alloc | apply pw_below_drewN | apply below_drew1) | exact HB.out)⟩
  · rw [if_neg c3] at H
    have c3b0 : ((l0.length : Int) == (l1.length : Int)) = false := beq_eq_false_iff_ne.mpr c3
    have c3b1 : ((l0.length : Int) != (l1.length : Int)) = true := bne_iff_ne.mpr c3
    have c3b2 : (l0.length == l1.length) = false := by first | simpa using c3 | (simp at c3 ⊢; omega)
    obtain rfl := Option.some.inj H
    go_enter Try.func23, Try.ntmps23
    go_wp2
    go_ret
    exact ⟨by first | rfl | (simp [errW_none, errW_some] <;> rfl) | (simp [*, errW_none, errW_some] <;> rfl), by repeat (first | (with_reducible first | exact HB.out | apply below_alloc | apply pw_below_drewN | apply below_drew1) | exact HB.out)⟩

/-! ### laws_markDeedS: function 24 -/
def laws_markDeedS.l0 : Nat → List (S33) → Int → Int → Option (Int × (List (S33)))
  | 0, _, _, _ => none
  | k + 1, x0, x1, x5 => if x5 < (x0.length : Int) then (if 0 ≤ x5 then ((some (x0.set (x5 : Int).toNat (⟨x1, (rd_T33 x0 x5).f1, (rd_T33 x0 x5).f2⟩ : S33) : List (S33))).bind fun y520 => ((some (y520.set (x5 : Int).toNat (⟨(rd_T33 y520 x5).f0, wrap64 (x1 + 1), (rd_T33 y520 x5).f2⟩ : S33) : List (S33))).bind fun y521 => (laws_markDeedS.l0 k (y521.set (x5 : Int).toNat (⟨(rd_T33 y521 x5).f0, (rd_T33 y521 x5).f1, wrap64 ((wrap64 (x1 + 1)) + 1)⟩ : S33)) (wrap64 ((wrap64 ((wrap64 (x1 + 1)) + 1)) + 1)) (wrap64 (x5 + 1))))) else (none)) else (some (x1, x0))
def laws_markDeedS.f (k : Nat) (l0 : List (S33)) (a1 : Int) : Option (Int × (List (S33))) := laws_markDeedS.l0 k l0 a1 0
theorem laws_markDeedS.mono_l : ∀ k, (∀ y0 y1 y2, LeO (laws_markDeedS.l0 k y0 y1 y2) (laws_markDeedS.l0 (k + 1) y0 y1 y2))
  | 0 => fun _ _ _ r h => by simp [laws_markDeedS.l0] at h
  | k + 1 => by
    have ih0 := laws_markDeedS.mono_l k
    · intro y0 y1 y2
      unfold laws_markDeedS.l0
      repeat' first
      | (with_reducible exact ih0 _ _ _)
      | (with_reducible exact LeO.refl _)
      | (with_reducible exact LeO.none _)
      | (with_reducible refine LeO.ite ?_ ?_)
      | (with_reducible refine LeO.bind ?_ (fun _ => ?_))
      | exact ih0 _ _ _
      | exact LeO.none _
      | refine LeO.ite ?_ ?_
      | refine LeO.bind ?_ (fun _ => ?_)
theorem laws_markDeedS.mono : ∀ a0 a1 k, LeO (laws_markDeedS.f k a0 a1) (laws_markDeedS.f (k + 1) a0 a1) := by
  intro a0 a1 k
  have ih0 := laws_markDeedS.mono_l k
  unfold laws_markDeedS.f
  repeat' first
      | (with_reducible exact ih0 _ _ _)
      | (with_reducible exact LeO.refl _)
      | (with_reducible exact LeO.none _)
      | (with_reducible refine LeO.ite ?_ ?_)
      | (with_reducible refine LeO.bind ?_ (fun _ => ?_))
      | exact ih0 _ _ _
      | exact LeO.none _
      | refine LeO.ite ?_ ?_
      | refine LeO.bind ?_ (fun _ => ?_)
set_option maxHeartbeats 8000000 in
set_option maxRecDepth 100000 in
theorem laws_markDeedS.calls (k : Nat) (P0_ : Nat → Prop) (u9000_ : Value) (l0 : List (S33)) (a1 : Int) (r1 : Int) (r2 : List (S33)) (w0 w : World) (hB : Below w0.heap.size w0 w) (ho0 : Kd.R k33 33 w w0.heap.size P0_ u9000_ l0) (h : laws_markDeedS.f k l0 a1 = some (r1, r2)) :
    Calls Try.prog 24 #[u9000_, .int .i64 a1] w fun e w' => e = .returned (.int .i64 r1) ∧ Kd.R k33 33 w' w0.heap.size (fun k_ => (P0_ k_ ∨ w.heap.size ≤ k_)) u9000_ r2 ∧ Below w0.heap.size w0 w' ∧ Kept w w' (fun k_ => P0_ k_) := by
  have HO0 := Aside0.mk (show Kd.R k33 33 w w0.heap.size (fun k_ => (P0_ k_ ∨ w.heap.size ≤ k_)) u9000_ l0 from Kd.R_mono ho0 (fun k_ hk => (.inl hk)))
  have HK := Aside0.mk (Kept.refl w (fun k_ => P0_ k_))
  have HW0 := Aside0.mk hB.size
  have HB := Aside0.mk hB
  clear hB
  have H : (laws_markDeedS.l0 k l0 a1 0) = some (r1, r2) := h
  clear h
  have H' := Aside0.mk H
  clear H
  go_enter Try.func24, Try.ntmps24
  go_wp2
  go_loopg [1, 5] k (fun kq v1 v5 w' => ∃ (x0_1 : List (S33)) (x1_1 : Int) (x5_1 : Int), v1 = .int .i64 x1_1 ∧ v5 = .int .i64 x5_1 ∧ Aside0 (laws_markDeedS.l0 kq x0_1 x1_1 x5_1 = some (r1, r2)) ∧ Aside0 (kq ≤ k) ∧ Aside0 (Kd.R k33 33 w' w0.heap.size (fun k_ => (P0_ k_ ∨ w.heap.size ≤ k_)) u9000_ x0_1) ∧ Aside0 (Kept w w' (fun k_ => P0_ k_)) ∧ Aside0 (Below w0.heap.size w0 w'))
  case atStart => exact ⟨(l0), (a1), (0), (by first | rfl | (simp; done) | (simp [*]; done)), (by first | rfl | (simp; done) | (simp [*]; done)), H', ⟨Nat.le_refl _⟩, ⟨by (with_reducible repeat (first | apply Kd.R_alloc | apply Kd.R_drewN | apply Kd.R_drew)); exact HO0.out⟩, ⟨by repeat (first | (with_reducible first | exact HK.out | apply Kept.alloc | apply Kept.drewN | apply Kept.drew) | exact HK.out)⟩, ⟨by repeat (first | (with_reducible first | exact HB.out | apply below_alloc | apply pw_below_drewN | apply below_drew1) | exact HB.out)⟩⟩
  case round =>
    clear H'
    try clear c2
    try clear p2
    obtain ⟨x0_1, x1_1, x5_1, rfl, rfl, HA, HK1, HO_0, HK, HB⟩ := hrel
    cases gk with
    | zero => exact absurd HA.out (by simp [laws_markDeedS.l0])
    | succ k1 =>
      have H := HA.out
      clear HA
      simp only [laws_markDeedS.l0] at H
      by_cases c3 : x5_1 < (x0_1.length : Int)
      · rw [if_pos c3] at H
        have c3b0 : decide (x5_1 < (x0_1.length : Int)) = true := decide_eq_true c3
        clear c3
        by_cases c4 : 0 ≤ x5_1
        · rw [if_pos c4] at H
          have c4b0 : decide (0 ≤ x5_1) = true := decide_eq_true c4
          clear c4
          obtain ⟨y520, hy520⟩ : ∃ y_ : List (S33), y_ = (x0_1.set (x5_1 : Int).toNat (⟨x1_1, (rd_T33 x0_1 x5_1).f1, (rd_T33 x0_1 x5_1).f2⟩ : S33)) := ⟨_, rfl⟩
          replace H : ((some (y520.set (x5_1 : Int).toNat (⟨(rd_T33 y520 x5_1).f0, wrap64 (x1_1 + 1), (rd_T33 y520 x5_1).f2⟩ : S33) : List (S33))).bind fun y521 => (laws_markDeedS.l0 k1 (y521.set (x5_1 : Int).toNat (⟨(rd_T33 y521 x5_1).f0, (rd_T33 y521 x5_1).f1, wrap64 ((wrap64 (x1_1 + 1)) + 1)⟩ : S33)) (wrap64 ((wrap64 ((wrap64 (x1_1 + 1)) + 1)) + 1)) (wrap64 (x5_1 + 1)))) = some (r1, r2) := by first | (rw [hy520]; with_reducible exact H) | (have H2_ := (Option.bind_some _ _).symm.trans H; rw [hy520]; with_reducible exact H2_) | (have H2_ := (Option.bind_some _ _).symm.trans H; with_reducible exact H2_) | with_reducible exact H | (rw [hy520]; exact H) | exact H
          have Ny520 := Aside0.mk hy520
          clear hy520
          obtain ⟨y521, hy521⟩ : ∃ y_ : List (S33), y_ = (y520.set (x5_1 : Int).toNat (⟨(rd_T33 y520 x5_1).f0, wrap64 (x1_1 + 1), (rd_T33 y520 x5_1).f2⟩ : S33)) := ⟨_, rfl⟩
          replace H : (laws_markDeedS.l0 k1 (y521.set (x5_1 : Int).toNat (⟨(rd_T33 y521 x5_1).f0, (rd_T33 y521 x5_1).f1, wrap64 ((wrap64 (x1_1 + 1)) + 1)⟩ : S33)) (wrap64 ((wrap64 ((wrap64 (x1_1 + 1)) + 1)) + 1)) (wrap64 (x5_1 + 1))) = some (r1, r2) := by first | (rw [hy521]; with_reducible exact H) | (have H2_ := (Option.bind_some _ _).symm.trans H; rw [hy521]; with_reducible exact H2_) | (have H2_ := (Option.bind_some _ _).symm.trans H; with_reducible exact H2_) | with_reducible exact H | (rw [hy521]; exact H) | exact H
          have Ny521 := Aside0.mk hy521
          clear hy521
          obtain ⟨y522, hy522⟩ : ∃ y_ : List (S33), y_ = (y521.set (x5_1 : Int).toNat (⟨(rd_T33 y521 x5_1).f0, (rd_T33 y521 x5_1).f1, wrap64 ((wrap64 (x1_1 + 1)) + 1)⟩ : S33)) := ⟨_, rfl⟩
          replace H : (laws_markDeedS.l0 k1 y522 (wrap64 ((wrap64 ((wrap64 (x1_1 + 1)) + 1)) + 1)) (wrap64 (x5_1 + 1))) = some (r1, r2) := by first | (rw [hy522]; with_reducible exact H) | (have H2_ := (Option.bind_some _ _).symm.trans H; rw [hy522]; with_reducible exact H2_) | (have H2_ := (Option.bind_some _ _).symm.trans H; with_reducible exact H2_) | with_reducible exact H | (rw [hy522]; exact H) | exact H
          have Ny522 := Aside0.mk hy522
          clear hy522
          have H' := Aside0.mk H
          clear H
          obtain ⟨Ao8, co8, eo8⟩ := Kd.R_slice HO_0.out
          subst eo8
          have p5 : 0 ≤ (x5_1 : Int) := of_decide_eq_true (by first | (with_reducible assumption) | assumption)
          have q5 : (x5_1 : Int) < ((x0_1.length : Int) : Int) := of_decide_eq_true (by first | (with_reducible assumption) | assumption)
          obtain ⟨go5, co5, eo5, gb5, gl5, cl5, HG5⟩ := Kd.R_form HO_0.out (by omega)
          (first | cases eo5 | (injection eo5 with ea_ en_ ec_; (first | subst ea_ | (injection ea_ with ea_; subst ea_)); subst ec_; clear en_))
          have GB5 := Aside0.mk gb5
          have GG5 := Aside0.mk HG5
          clear gb5 gl5 HG5
          have HMgo5 := Aside0.mk (show (P0_ go5 ∨ w.heap.size ≤ go5) from (HO_0.out.1 _ rfl))
          obtain ⟨ce5, hcl5, hM5, hcc5, hfr5⟩ := Kd.R_elem HO_0.out z33 (x5_1 : Int) p5 q5
          obtain rfl := k33_openM hM5
          have hx5_0 : wr.cell? ⟨go5, (x5_1 : Int).toNat * 3, none⟩ = some (.int .i64 ((rd_T33 x0_1 x5_1).f0)) := hcc5 0 _ rfl
          have hx5_1 : wr.cell? ⟨go5, (x5_1 : Int).toNat * 3 + 1, none⟩ = some (.int .i64 ((rd_T33 x0_1 x5_1).f1)) := hcc5 1 _ rfl
          have hx5_2 : wr.cell? ⟨go5, (x5_1 : Int).toNat * 3 + 2, none⟩ = some (.int .i64 ((rd_T33 x0_1 x5_1).f2)) := hcc5 2 _ rfl
          have hf5_0 : wr.frozen? ⟨go5, (x5_1 : Int).toNat * 3, none⟩ = false := hfr5 0
          have hf5_1 : wr.frozen? ⟨go5, (x5_1 : Int).toNat * 3 + 1, none⟩ = false := hfr5 1
          have hf5_2 : wr.frozen? ⟨go5, (x5_1 : Int).toNat * 3 + 2, none⟩ = false := hfr5 2
          clear hcl5 hcc5 hfr5; (try clear hM5)
          replace p5 := eq_true p5
          replace q5 := eq_true q5
          have HX9 := Aside0.mk (show Kd.R k33 33 wr w0.heap.size (fun k_ => (P0_ k_ ∨ w.heap.size ≤ k_)) (.slice (some ⟨go5, 0, none⟩) x0_1.length co8) x0_1 from (by (with_reducible repeat (first | apply Kd.R_alloc | apply Kd.R_drewN | apply Kd.R_drew)); exact HO_0.out))
          obtain ⟨ce9, hcl9, hM9, hcc9, hfr9⟩ := Kd.R_elem HX9.out z33 (x5_1 : Int) (of_decide_eq_true (by first | (with_reducible assumption) | assumption)) (by have h_ : (x5_1 : Int) < ((x0_1.length : Int) : Int) := of_decide_eq_true (by first | (with_reducible assumption) | assumption); first | exact h_ | (have e_ := (Kd.R_reads' HO_0.out).1; omega) | simpa using h_)
          obtain rfl := k33_openM hM9
          have HP9 := Kd.R_seg HX9.out (x5_1 : Int) (of_decide_eq_true (by first | (with_reducible assumption) | assumption)) (by have h_ : (x5_1 : Int) < ((x0_1.length : Int) : Int) := of_decide_eq_true (by first | (with_reducible assumption) | assumption); first | exact h_ | (have e_ := (Kd.R_reads' HO_0.out).1; omega) | simpa using h_) (seg := [.int .i64 x1_1]) (j := 0) hcl9 hcc9 (show 1 ≤ 3 from by decide) (x' := (⟨x1_1, (rd_T33 x0_1 x5_1).f1, (rd_T33 x0_1 x5_1).f2⟩ : S33)) (k33_mkM _ _ _ (⟨x1_1, (rd_T33 x0_1 x5_1).f1, (rd_T33 x0_1 x5_1).f2⟩ : S33) ) (fun _ hk => hk)
          have hx9_0 := hcc9 0 _ rfl
          (try simp only [show (k33).sz = 3 from rfl, Nat.mul_one, Nat.add_zero] at hx9_0)
          have hf9_0 := hfr9 0
          (try simp only [show (k33).sz = 3 from rfl, Nat.mul_one, Nat.add_zero] at hf9_0)
          clear hcl9 hcc9 hfr9; (try clear hM9)
          go_wp2_with (first | ((with_reducible refine gate_store (t := 3) (p := 16) rfl ?_); refine store_event (t := 3) (p := 16) (v := ?vo_w10) (w1 := (wr.setCell ⟨go5, (x5_1 : Int).toNat * 3, none⟩ (.int .i64 x1_1))) ?hg ?ho ?hn ?hr ?_; (case ho => rfl); (case hg => rfl); (case hn => rfl); (case hr => first | (go_simp; done) | (go_simp; rfl)); intro w10 hw; have hg : wr.grownBy w10 (some go5) := (by rw [hw]; exact HP9.2); have hp_ : Kd.R k33 33 w10 w0.heap.size (fun k_ => (P0_ k_ ∨ w.heap.size ≤ k_)) (.slice (some ⟨go5, 0, none⟩) x0_1.length co8) y520 := (by rw [hw, Ny520.out]; exact HP9.1); clear HP9; have n0_ := Aside0.mk (hp_); have n1_ := Aside0.mk ((by rw [hw]; exact below_set (HB.out) GB5.out : Below w0.heap.size w0 w10)); have n2_ := Aside0.mk (Kept.of_grown (S := (fun k_ => P0_ k_)) hg (by repeat (first | (with_reducible first | exact HK.out | apply Kept.alloc | apply Kept.drewN | apply Kept.drew) | exact HK.out)) (fun k_ e_ => (HO_0.out.1 k_ e_))); clear HO_0; clear HB; clear HK; have HO_0 := n0_; have HB := n1_; have HK := n2_; clear n0_ n1_ n2_; clear hg hw hp_; have p6 : 0 ≤ (x5_1 : Int) := of_decide_eq_true (by first | (with_reducible assumption) | assumption); have q6 : (x5_1 : Int) < ((x0_1.length : Int) : Int) := of_decide_eq_true (by first | (with_reducible assumption) | assumption); obtain ⟨ce6, hcl6, hM6, hcc6, hfr6⟩ := Kd.R_elem HO_0.out z33 (x5_1 : Int) p6 q6; obtain rfl := k33_openM hM6; have hx6_0 : w10.cell? ⟨go5, (x5_1 : Int).toNat * 3, none⟩ = some (.int .i64 ((rd_T33 y520 x5_1).f0)) := hcc6 0 _ rfl; have hx6_1 : w10.cell? ⟨go5, (x5_1 : Int).toNat * 3 + 1, none⟩ = some (.int .i64 ((rd_T33 y520 x5_1).f1)) := hcc6 1 _ rfl; have hx6_2 : w10.cell? ⟨go5, (x5_1 : Int).toNat * 3 + 2, none⟩ = some (.int .i64 ((rd_T33 y520 x5_1).f2)) := hcc6 2 _ rfl; have hf6_0 : w10.frozen? ⟨go5, (x5_1 : Int).toNat * 3, none⟩ = false := hfr6 0; have hf6_1 : w10.frozen? ⟨go5, (x5_1 : Int).toNat * 3 + 1, none⟩ = false := hfr6 1; have hf6_2 : w10.frozen? ⟨go5, (x5_1 : Int).toNat * 3 + 2, none⟩ = false := hfr6 2; clear hcl6 hcc6 hfr6; (try clear hM6); replace p6 := eq_true p6; replace q6 := eq_true q6; have HX11 := Aside0.mk (show Kd.R k33 33 w10 w0.heap.size (fun k_ => (P0_ k_ ∨ w.heap.size ≤ k_)) (.slice (some ⟨go5, 0, none⟩) x0_1.length co8) y520 from (by (with_reducible repeat (first | apply Kd.R_alloc | apply Kd.R_drewN | apply Kd.R_drew)); exact HO_0.out)); obtain ⟨ce11, hcl11, hM11, hcc11, hfr11⟩ := Kd.R_elem HX11.out z33 (x5_1 : Int) (of_decide_eq_true (by first | (with_reducible assumption) | assumption)) (by have h_ : (x5_1 : Int) < ((x0_1.length : Int) : Int) := of_decide_eq_true (by first | (with_reducible assumption) | assumption); first | exact h_ | (have e_ := (Kd.R_reads' HO_0.out).1; omega) | simpa using h_); obtain rfl := k33_openM hM11; have HP11 := Kd.R_seg HX11.out (x5_1 : Int) (of_decide_eq_true (by first | (with_reducible assumption) | assumption)) (by have h_ : (x5_1 : Int) < ((x0_1.length : Int) : Int) := of_decide_eq_true (by first | (with_reducible assumption) | assumption); first | exact h_ | (have e_ := (Kd.R_reads' HO_0.out).1; omega) | simpa using h_) (seg := [.int .i64 (wrap64 (x1_1 + 1))]) (j := 1) hcl11 hcc11 (show 2 ≤ 3 from by decide) (x' := (⟨(rd_T33 y520 x5_1).f0, wrap64 (x1_1 + 1), (rd_T33 y520 x5_1).f2⟩ : S33)) (k33_mkM _ _ _ (⟨(rd_T33 y520 x5_1).f0, wrap64 (x1_1 + 1), (rd_T33 y520 x5_1).f2⟩ : S33) ) (fun _ hk => hk); have hx11_1 := hcc11 1 _ rfl; (try simp only [show (k33).sz = 3 from rfl, Nat.mul_one, Nat.add_zero] at hx11_1); have hf11_1 := hfr11 1; (try simp only [show (k33).sz = 3 from rfl, Nat.mul_one, Nat.add_zero] at hf11_1); clear hcl11 hcc11 hfr11; (try clear hM11)) | ((with_reducible refine gate_store (t := 3) (p := 23) rfl ?_); refine store_event (t := 3) (p := 23) (v := ?vo_w12) (w1 := (w10.setCell ⟨go5, (x5_1 : Int).toNat * 3 + 1, none⟩ (.int .i64 (wrap64 (x1_1 + 1))))) ?hg ?ho ?hn ?hr ?_; (case ho => rfl); (case hg => rfl); (case hn => rfl); (case hr => first | (go_simp; done) | (go_simp; rfl)); intro w12 hw; have hg : w10.grownBy w12 (some go5) := (by rw [hw]; exact HP11.2); have hp_ : Kd.R k33 33 w12 w0.heap.size (fun k_ => (P0_ k_ ∨ w.heap.size ≤ k_)) (.slice (some ⟨go5, 0, none⟩) x0_1.length co8) y521 := (by rw [hw, Ny521.out]; exact HP11.1); clear HP11; have n0_ := Aside0.mk (hp_); have n1_ := Aside0.mk ((by rw [hw]; exact below_set (HB.out) GB5.out : Below w0.heap.size w0 w12)); have n2_ := Aside0.mk (Kept.of_grown (S := (fun k_ => P0_ k_)) hg (by repeat (first | (with_reducible first | exact HK.out | apply Kept.alloc | apply Kept.drewN | apply Kept.drew) | exact HK.out)) (fun k_ e_ => (HO_0.out.1 k_ e_))); clear HO_0; clear HB; clear HK; have HO_0 := n0_; have HB := n1_; have HK := n2_; clear n0_ n1_ n2_; clear hg hw hp_; have p7 : 0 ≤ (x5_1 : Int) := of_decide_eq_true (by first | (with_reducible assumption) | assumption); have q7 : (x5_1 : Int) < ((x0_1.length : Int) : Int) := of_decide_eq_true (by first | (with_reducible assumption) | assumption); obtain ⟨ce7, hcl7, hM7, hcc7, hfr7⟩ := Kd.R_elem HO_0.out z33 (x5_1 : Int) p7 q7; obtain rfl := k33_openM hM7; have hx7_0 : w12.cell? ⟨go5, (x5_1 : Int).toNat * 3, none⟩ = some (.int .i64 ((rd_T33 y521 x5_1).f0)) := hcc7 0 _ rfl; have hx7_1 : w12.cell? ⟨go5, (x5_1 : Int).toNat * 3 + 1, none⟩ = some (.int .i64 ((rd_T33 y521 x5_1).f1)) := hcc7 1 _ rfl; have hx7_2 : w12.cell? ⟨go5, (x5_1 : Int).toNat * 3 + 2, none⟩ = some (.int .i64 ((rd_T33 y521 x5_1).f2)) := hcc7 2 _ rfl; have hf7_0 : w12.frozen? ⟨go5, (x5_1 : Int).toNat * 3, none⟩ = false := hfr7 0; have hf7_1 : w12.frozen? ⟨go5, (x5_1 : Int).toNat * 3 + 1, none⟩ = false := hfr7 1; have hf7_2 : w12.frozen? ⟨go5, (x5_1 : Int).toNat * 3 + 2, none⟩ = false := hfr7 2; clear hcl7 hcc7 hfr7; (try clear hM7); replace p7 := eq_true p7; replace q7 := eq_true q7; have HX13 := Aside0.mk (show Kd.R k33 33 w12 w0.heap.size (fun k_ => (P0_ k_ ∨ w.heap.size ≤ k_)) (.slice (some ⟨go5, 0, none⟩) x0_1.length co8) y521 from (by (with_reducible repeat (first | apply Kd.R_alloc | apply Kd.R_drewN | apply Kd.R_drew)); exact HO_0.out)); obtain ⟨ce13, hcl13, hM13, hcc13, hfr13⟩ := Kd.R_elem HX13.out z33 (x5_1 : Int) (of_decide_eq_true (by first | (with_reducible assumption) | assumption)) (by have h_ : (x5_1 : Int) < ((x0_1.length : Int) : Int) := of_decide_eq_true (by first | (with_reducible assumption) | assumption); first | exact h_ | (have e_ := (Kd.R_reads' HO_0.out).1; omega) | simpa using h_); obtain rfl := k33_openM hM13; have HP13 := Kd.R_seg HX13.out (x5_1 : Int) (of_decide_eq_true (by first | (with_reducible assumption) | assumption)) (by have h_ : (x5_1 : Int) < ((x0_1.length : Int) : Int) := of_decide_eq_true (by first | (with_reducible assumption) | assumption); first | exact h_ | (have e_ := (Kd.R_reads' HO_0.out).1; omega) | simpa using h_) (seg := [.int .i64 (wrap64 ((wrap64 (x1_1 + 1)) + 1))]) (j := 2) hcl13 hcc13 (show 3 ≤ 3 from by decide) (x' := (⟨(rd_T33 y521 x5_1).f0, (rd_T33 y521 x5_1).f1, wrap64 ((wrap64 (x1_1 + 1)) + 1)⟩ : S33)) (k33_mkM _ _ _ (⟨(rd_T33 y521 x5_1).f0, (rd_T33 y521 x5_1).f1, wrap64 ((wrap64 (x1_1 + 1)) + 1)⟩ : S33) ) (fun _ hk => hk); have hx13_2 := hcc13 2 _ rfl; (try simp only [show (k33).sz = 3 from rfl, Nat.mul_one, Nat.add_zero] at hx13_2); have hf13_2 := hfr13 2; (try simp only [show (k33).sz = 3 from rfl, Nat.mul_one, Nat.add_zero] at hf13_2); clear hcl13 hcc13 hfr13; (try clear hM13)) | ((with_reducible refine gate_store (t := 3) (p := 30) rfl ?_); refine store_event (t := 3) (p := 30) (v := ?vo_w14) (w1 := (w12.setCell ⟨go5, (x5_1 : Int).toNat * 3 + 2, none⟩ (.int .i64 (wrap64 ((wrap64 (x1_1 + 1)) + 1))))) ?hg ?ho ?hn ?hr ?_; (case ho => rfl); (case hg => rfl); (case hn => rfl); (case hr => first | (go_simp; done) | (go_simp; rfl)); intro w14 hw; have hg : w12.grownBy w14 (some go5) := (by rw [hw]; exact HP13.2); have hp_ : Kd.R k33 33 w14 w0.heap.size (fun k_ => (P0_ k_ ∨ w.heap.size ≤ k_)) (.slice (some ⟨go5, 0, none⟩) x0_1.length co8) y522 := (by rw [hw, Ny522.out]; exact HP13.1); clear HP13; have n0_ := Aside0.mk (hp_); have n1_ := Aside0.mk ((by rw [hw]; exact below_set (HB.out) GB5.out : Below w0.heap.size w0 w14)); have n2_ := Aside0.mk (Kept.of_grown (S := (fun k_ => P0_ k_)) hg (by repeat (first | (with_reducible first | exact HK.out | apply Kept.alloc | apply Kept.drewN | apply Kept.drew) | exact HK.out)) (fun k_ e_ => (HO_0.out.1 k_ e_))); clear HO_0; clear HB; clear HK; have HO_0 := n0_; have HB := n1_; have HK := n2_; clear n0_ n1_ n2_; clear hg hw hp_))
          go_roundg k1
          case measure => have := HK1.out; omega
          case rel => exact ⟨(y522), (wrap64 ((wrap64 ((wrap64 (x1_1 + 1)) + 1)) + 1)), (wrap64 (x5_1 + 1)), (by first | rfl | (simp; done) | (simp [*]; done)), (by first | rfl | (simp; done) | (simp [*]; done)), H', ⟨by have := HK1.out; omega⟩, ⟨by (with_reducible repeat (first | apply Kd.R_alloc | apply Kd.R_drewN | apply Kd.R_drew)); exact HO_0.out⟩, ⟨by repeat (first | (with_reducible first | exact HK.out | apply Kept.alloc | apply Kept.drewN | apply Kept.drew) | exact HK.out)⟩, ⟨by repeat (first | (with_reducible first | exact HB.out | apply below_alloc | apply pw_below_drewN | apply below_drew1) | exact HB.out)⟩⟩
        · rw [if_neg c4] at H
          exact absurd H (by simp)
      · rw [if_neg c3] at H
        have c3b0 : decide (x5_1 < (x0_1.length : Int)) = false := decide_eq_false c3
        clear c3
        simp only [Option.some.injEq, Prod.mk.injEq] at H
        obtain ⟨rfl, rfl⟩ := H
        obtain ⟨Ao15, co15, eo15⟩ := Kd.R_slice HO_0.out
        subst eo15
        go_wp2
        go_ret
        exact ⟨by first | rfl | (simp [errW_none, errW_some] <;> rfl) | (simp [*, errW_none, errW_some] <;> rfl), by (with_reducible repeat (first | apply Kd.R_alloc | apply Kd.R_drewN | apply Kd.R_drew)); exact HO_0.out, by repeat (first | (with_reducible first | exact HB.out | apply below_alloc | apply pw_below_drewN | apply below_drew1) | exact HB.out), by repeat (first | (with_reducible first | exact HK.out | apply Kept.alloc | apply Kept.drewN | apply Kept.drew) | exact HK.out)⟩

/-! ### laws_FnExactDeskRun: function 4, told by hand -/
def laws_FnExactDeskRun.f (k : Nat) (l0 : List Int) (l1 : List (List Int)) (l2 : List S27) : Option Bool :=
  (laws_szDesk.f k l0 l1 1048576).bind fun t => if t < 0 then some true else
  (laws_szDeedS.f l2 t).bind fun t2 => if t2 < 0 then some true else
  (laws_toDesk.f k l0 l1).bind fun d1 => (laws_toDeedS.f k l2).bind fun a1 => (spec_DeskRun.f k d1.1 d1.2 a1).bind fun w => (laws_toDesk.f k l0 l1).bind fun d2 => (laws_toDeedS.f k l2).bind fun a2 => (impl_DeskRun.f k d2.1 d2.2 a2).bind fun g => (laws_eqDesk.f k g.1 g.2.1 w.1 w.2.1).bind fun e1 => (laws_toDesk.f k l0 l1).bind fun d3 => (laws_eqDesk.f k d2.1 d2.2 d3.1 d3.2).bind fun e2 => (laws_toDeedS.f k l2).bind fun a3 => (laws_eqDeedS.f k a2 a3).bind fun e4 =>
  (laws_markDesk.f k d2.1 d2.2 1).bind fun m1 => (laws_markDeedS.f k a2 m1.1).bind fun m3 => (laws_markDesk.f k g.1 g.2.1 1).bind fun m2 => (laws_heldDesk.f k m2.2.1 m2.2.2 1).bind fun q => (laws_toDesk.f k l0 l1).bind fun d4 => (laws_toDeedS.f k l2).bind fun a4 => (impl_DeskRun.f k d4.1 d4.2 a4).bind fun h => (laws_eqDesk.f k h.1 h.2.1 w.1 w.2.1).bind fun e3 =>
  if g.2.2 = w.2.2 ∧ h.2.2 = w.2.2 ∧ e1 = true ∧ e2 = true ∧ e4 = true ∧ e3 = true ∧ 0 ≤ m3.1 ∧ 0 ≤ q ∧ q = m2.1 then some true else none
set_option maxHeartbeats 16000000 in
set_option maxRecDepth 100000 in
theorem laws_FnExactDeskRun.calls (k : Nat) (A0 : Option Addr) (c0 : Nat) (l0 : List Int) (A1 : Option Addr) (c1 : Nat) (l1 : List (List Int)) (A2 : Option Addr) (c2 : Nat) (l2 : List S27) (r : Bool) (w : World) (hr0 : Kd.C (Kd.int .i64) w A0 l0.length l0) (hc0 : l0.length ≤ c0) (hr1 : Kd.C (Kd.slice 3 (Kd.int .i64)) w A1 l1.length l1) (hc1 : l1.length ≤ c1) (hr2 : Kd.C k27 w A2 l2.length l2) (hc2 : l2.length ≤ c2) (h : laws_FnExactDeskRun.f k l0 l1 l2 = some r) :
    Calls Try.prog 4 #[.agg #[.slice A0 l0.length c0, .slice A1 l1.length c1], .slice A2 l2.length c2] w fun e w' => e = .returned (.bool r) ∧ Below w.heap.size w w' := by
  have HR0 := Aside0.mk hr0
  have HC0 := Aside0.mk hc0
  have HR1 := Aside0.mk hr1
  have HC1 := Aside0.mk hc1
  have HR2 := Aside0.mk hr2
  have HC2 := Aside0.mk hc2
  clear hr0 hc0 hr1 hc1 hr2 hc2
  have HB := Aside0.mk (Below.refl w.heap.size w)
  have HZ := Aside0.mk (Nat.le_refl w.heap.size)
  unfold laws_FnExactDeskRun.f at h
  obtain ⟨t, e_, h⟩ := Option.bind_eq_some_iff.mp h
  have E1 := Aside0.mk e_
  clear e_
  by_cases c : t < 0
  · rw [if_pos c] at h
    obtain rfl := Option.some.inj h
    have cb : decide (t < 0) = true := decide_eq_true c
    clear c
    go_enter Try.func4, Try.ntmps4
    go_wp2_with (first | ((with_reducible refine gate_dst (N := 2) rfl ?_); refine box_event ?hg (N := 2) ?hd (cs := #[.slice A0 l0.length c0, .slice A1 l1.length c1]) (t := 25) ?hr ?_; (case hd => rfl); (case hg => rfl); (case hr => first | (go_simp; done) | (go_simp; rfl)); intro gb1 hg U1 hbox hb; have HQ1 := Aside0.mk (show _ ≤ gb1 from by rw [hg]; exact HZ.out); clear HZ; have HZ := Aside0.mk (show gb1 + 1 ≤ U1.heap.size from blk_lt hbox); have n_ := Aside0.mk (below_step HB.out hb); clear HB; have HB := n_; clear n_; have HXp := Aside0.mk hbox; have HXpa := cell2_0 HXp.out; have HXpb := cell2_1 HXp.out; clear hbox hb hg) | (go_at_call 11; (with_reducible refine (laws_szDesk.calls k _ _ l0 _ _ l1 1048576 t _ (Kd.C_below HR0.out HB.out) HC0.out (Kd.C_below HR1.out HB.out) HC1.out E1.out).mono ?_); clear E1; rintro e W1 ⟨rfl, hb⟩; have n_ := Aside0.mk (blk_below HXp.out hb); clear HXp HXpa HXpb; have HXp := n_; clear n_; have HXpa := cell2_0 HXp.out; have HXpb := cell2_1 HXp.out; have n_ := Aside0.mk (below_step HB.out hb); clear HB; have HB := n_; clear n_; have n_ := Aside0.mk (Nat.le_trans HZ.out hb.size); clear HZ; have HZ := n_; clear n_ hb))
    go_ret
    exact ⟨rfl, HB.out⟩
  · rw [if_neg c] at h
    have cb : decide (t < 0) = false := decide_eq_false c
    clear c
    obtain ⟨t2, e_, h⟩ := Option.bind_eq_some_iff.mp h
    have E2 := Aside0.mk e_
    clear e_
    by_cases c2 : t2 < 0
    · rw [if_pos c2] at h
      obtain rfl := Option.some.inj h
      have cb2 : decide (t2 < 0) = true := decide_eq_true c2
      clear c2
      go_enter Try.func4, Try.ntmps4
      go_wp2_with (first | ((with_reducible refine gate_dst (N := 2) rfl ?_); refine box_event ?hg (N := 2) ?hd (cs := #[.slice A0 l0.length c0, .slice A1 l1.length c1]) (t := 25) ?hr ?_; (case hd => rfl); (case hg => rfl); (case hr => first | (go_simp; done) | (go_simp; rfl)); intro gb1 hg U1 hbox hb; have HQ1 := Aside0.mk (show _ ≤ gb1 from by rw [hg]; exact HZ.out); clear HZ; have HZ := Aside0.mk (show gb1 + 1 ≤ U1.heap.size from blk_lt hbox); have n_ := Aside0.mk (below_step HB.out hb); clear HB; have HB := n_; clear n_; have HXp := Aside0.mk hbox; have HXpa := cell2_0 HXp.out; have HXpb := cell2_1 HXp.out; clear hbox hb hg) | (go_at_call 11; (with_reducible refine (laws_szDesk.calls k _ _ l0 _ _ l1 1048576 t _ (Kd.C_below HR0.out HB.out) HC0.out (Kd.C_below HR1.out HB.out) HC1.out E1.out).mono ?_); clear E1; rintro e W1 ⟨rfl, hb⟩; have n_ := Aside0.mk (blk_below HXp.out hb); clear HXp HXpa HXpb; have HXp := n_; clear n_; have HXpa := cell2_0 HXp.out; have HXpb := cell2_1 HXp.out; have n_ := Aside0.mk (below_step HB.out hb); clear HB; have HB := n_; clear n_; have n_ := Aside0.mk (Nat.le_trans HZ.out hb.size); clear HZ; have HZ := n_; clear n_ hb) | (go_at_call 19; (with_reducible refine (laws_szDeedS.calls _ _ l2 t t2 _ (Kd.C_below HR2.out HB.out) HC2.out E2.out).mono ?_); clear E2; rintro e W2 ⟨rfl, hd⟩; have hb := below_drawn hd; clear hd; have n_ := Aside0.mk (blk_below HXp.out hb); clear HXp HXpa HXpb; have HXp := n_; clear n_; have HXpa := cell2_0 HXp.out; have HXpb := cell2_1 HXp.out; have n_ := Aside0.mk (below_step HB.out hb); clear HB; have HB := n_; clear n_; have n_ := Aside0.mk (Nat.le_trans HZ.out hb.size); clear HZ; have HZ := n_; clear n_ hb))
      go_ret
      exact ⟨rfl, HB.out⟩
    rw [if_neg c2] at h
    have cb2 : decide (t2 < 0) = false := decide_eq_false c2
    clear c2
    obtain ⟨⟨d1, f1⟩, e3_, h⟩ := Option.bind_eq_some_iff.mp h
    obtain ⟨a1, e4_, h⟩ := Option.bind_eq_some_iff.mp h
    obtain ⟨⟨w1, w2, v⟩, e5_, h⟩ := Option.bind_eq_some_iff.mp h
    obtain ⟨⟨d2, f2⟩, e6_, h⟩ := Option.bind_eq_some_iff.mp h
    obtain ⟨a2, e7_, h⟩ := Option.bind_eq_some_iff.mp h
    obtain ⟨⟨g1, g2, b1⟩, e8_, h⟩ := Option.bind_eq_some_iff.mp h
    obtain ⟨q1, e9_, h⟩ := Option.bind_eq_some_iff.mp h
    obtain ⟨⟨d3, f3⟩, e10_, h⟩ := Option.bind_eq_some_iff.mp h
    obtain ⟨q2, e11_, h⟩ := Option.bind_eq_some_iff.mp h
    obtain ⟨a3, e12_, h⟩ := Option.bind_eq_some_iff.mp h
    obtain ⟨q5, e13_, h⟩ := Option.bind_eq_some_iff.mp h
    obtain ⟨⟨m1, y0, y1⟩, e14_, h⟩ := Option.bind_eq_some_iff.mp h
    obtain ⟨⟨m3, y4⟩, e15_, h⟩ := Option.bind_eq_some_iff.mp h
    obtain ⟨⟨m2, y2, y3⟩, e17_, h⟩ := Option.bind_eq_some_iff.mp h
    obtain ⟨q3, e18_, h⟩ := Option.bind_eq_some_iff.mp h
    obtain ⟨⟨d4, f4⟩, e19_, h⟩ := Option.bind_eq_some_iff.mp h
    obtain ⟨a4, e20_, h⟩ := Option.bind_eq_some_iff.mp h
    obtain ⟨⟨h1, h2, b2⟩, e21_, h⟩ := Option.bind_eq_some_iff.mp h
    obtain ⟨q4, e22_, h⟩ := Option.bind_eq_some_iff.mp h
    by_cases z : b1 = v ∧ b2 = v ∧ q1 = true ∧ q2 = true ∧ q5 = true ∧ q4 = true ∧ 0 ≤ m3 ∧ 0 ≤ q3 ∧ q3 = m2
    · rw [if_pos z] at h
      obtain rfl := Option.some.inj h
      obtain ⟨rfl, rfl, rfl, rfl, rfl, rfl, z1, z2, rfl⟩ := z
      have E3 := Aside0.mk e3_
      have E4 := Aside0.mk e4_
      have E5 := Aside0.mk e5_
      have E6 := Aside0.mk e6_
      have E7 := Aside0.mk e7_
      have E8 := Aside0.mk e8_
      have E9 := Aside0.mk e9_
      have E16 := Aside0.mk e9_
      have E10 := Aside0.mk e10_
      have E11 := Aside0.mk e11_
      have E12 := Aside0.mk e12_
      have E13 := Aside0.mk e13_
      have E14 := Aside0.mk e14_
      have E15 := Aside0.mk e15_
      have E17 := Aside0.mk e17_
      have E18 := Aside0.mk e18_
      have E23 := Aside0.mk e18_
      have E19 := Aside0.mk e19_
      have E20 := Aside0.mk e20_
      have E21 := Aside0.mk e21_
      have E22 := Aside0.mk e22_
      have zb1 : decide (m3 < 0) = false := decide_eq_false (by omega)
      have zb2 : decide (q3 < 0) = false := decide_eq_false (by omega)
      clear z1 z2
      clear h e3_ e4_ e5_ e6_ e7_ e8_ e9_ e10_ e11_ e12_ e13_ e14_ e15_ e17_ e18_ e19_ e20_ e21_ e22_
      go_enter Try.func4, Try.ntmps4
      go_upto_region 14 with (first
        | ((with_reducible refine gate_dst (N := 2) rfl ?_); refine box_event ?hg (N := 2) ?hd (cs := #[.slice A0 l0.length c0, .slice A1 l1.length c1]) (t := 25) ?hr ?_; (case hd => rfl); (case hg => rfl); (case hr => first | (go_simp; done) | (go_simp; rfl)); intro gb1 hg U1 hbox hb; have HQ1 := Aside0.mk (show _ ≤ gb1 from by rw [hg]; exact HZ.out); clear HZ; have HZ := Aside0.mk (show gb1 + 1 ≤ U1.heap.size from blk_lt hbox); have n_ := Aside0.mk (below_step HB.out hb); clear HB; have HB := n_; clear n_; have HXp := Aside0.mk hbox; have HXpa := cell2_0 HXp.out; have HXpb := cell2_1 HXp.out; clear hbox hb hg)
        | (go_at_call 11; (with_reducible refine (laws_szDesk.calls k _ _ l0 _ _ l1 1048576 t _ (Kd.C_below HR0.out HB.out) HC0.out (Kd.C_below HR1.out HB.out) HC1.out E1.out).mono ?_); clear E1; rintro e W1 ⟨rfl, hb⟩; have n_ := Aside0.mk (blk_below HXp.out hb); clear HXp HXpa HXpb; have HXp := n_; clear n_; have HXpa := cell2_0 HXp.out; have HXpb := cell2_1 HXp.out; have n_ := Aside0.mk (below_step HB.out hb); clear HB; have HB := n_; clear n_; have n_ := Aside0.mk (Nat.le_trans HZ.out hb.size); clear HZ; have HZ := n_; clear n_ hb)
        | (go_at_call 19; (with_reducible refine (laws_szDeedS.calls _ _ l2 t t2 _ (Kd.C_below HR2.out HB.out) HC2.out E2.out).mono ?_); clear E2; rintro e W2 ⟨rfl, hd⟩; have hb := below_drawn hd; clear hd; have n_ := Aside0.mk (blk_below HXp.out hb); clear HXp HXpa HXpb; have HXp := n_; clear n_; have HXpa := cell2_0 HXp.out; have HXpb := cell2_1 HXp.out; have n_ := Aside0.mk (below_step HB.out hb); clear HB; have HB := n_; clear n_; have n_ := Aside0.mk (Nat.le_trans HZ.out hb.size); clear HZ; have HZ := n_; clear n_ hb)
        | (go_at_call 13; (with_reducible refine (laws_toDesk.calls k _ _ l0 _ _ l1 d1 f1 _ (Kd.C_below HR0.out HB.out) HC0.out (Kd.C_below HR1.out HB.out) HC1.out E3.out).mono ?_); clear E3; rintro e W3 ⟨v2, u2, rfl, ho, ho2, hb⟩; obtain ⟨lo2, hq2, hn2, hm2⟩ := obj_D2 HB.out HZ.out ho ho2 hb; obtain ⟨A2, c2, rfl⟩ := Kd.R_slice hn2; obtain ⟨B2, cc2, rfl⟩ := Kd.S_slice hm2; clear ho ho2; have n_ := Aside0.mk (blk_below HXp.out hb); clear HXp HXpa HXpb; have HXp := n_; clear n_; have HXpa := cell2_0 HXp.out; have HXpb := cell2_1 HXp.out; have n_ := Aside0.mk (below_step HB.out hb); clear HB; have HB := n_; clear n_; have HQ2 := Aside0.mk hq2; clear HZ; have HZ := Aside0.mk (Nat.le_refl W3.heap.size); have HO2 := Aside0.mk hn2; have HP2 := Aside0.mk hm2; clear hb hq2 hn2 hm2)
        | (go_at_call 21; (with_reducible refine (laws_toDeedS.calls k _ _ l2 a1 _ (Kd.C_below HR2.out HB.out) HC2.out E4.out).mono ?_); clear E4; rintro e W4 ⟨v3, rfl, ho, hb⟩; obtain ⟨lo3, hi3, hq3, hz3, hn3⟩ := obj_R HB.out HZ.out ho hb; obtain ⟨A3, c3, rfl⟩ := Kd.R_slice hn3; have n_ := Aside0.mk (Kd.R_below HO2.out hb); clear HO2; have HO2 := n_; clear n_; have n_ := Aside0.mk (Kd.S_below HP2.out hb); clear HP2; have HP2 := n_; clear n_; have n_ := Aside0.mk (blk_below HXp.out hb); clear HXp HXpa HXpb; have HXp := n_; clear n_; have HXpa := cell2_0 HXp.out; have HXpb := cell2_1 HXp.out; have n_ := Aside0.mk (below_step HB.out hb); clear HB; have HB := n_; clear n_; have HQ3 := Aside0.mk hq3; clear HZ; have HZ := Aside0.mk hz3; have HO3 := Aside0.mk hn3; clear hb ho hq3 hz3 hn3)
        | (go_at_call 20; (with_reducible refine (spec_DeskRun.calls k _ _ d1 _ _ f1 _ _ a1 w1 w2 b2 _ (Kd.R_reads' HO2.out).2.2 (Kd.R_reads' HO2.out).2.1 (Kd.S_reads' HP2.out).2.2 (Kd.S_reads' HP2.out).2.1 (Kd.R_reads' HO3.out).2.2 (Kd.R_reads' HO3.out).2.1 E5.out).mono ?_); clear E5; rintro e W5 ⟨v4, u4, rfl, ho, ho2, hb⟩; obtain ⟨lo4, hq4, hn4, hm4⟩ := obj_DV HB.out HZ.out ho ho2 hb; obtain ⟨A4, c4, rfl⟩ := Kd.R_slice hn4; obtain ⟨B4, cc4, rfl⟩ := Kd.V_slice hm4; clear ho ho2; replace hb := below_alloc hb (.cells #[.slice A4 w1.length c4, .slice B4 w2.length cc4] 29); have n_ := Aside0.mk (Kd.R_below HO2.out hb); clear HO2; have HO2 := n_; clear n_; have n_ := Aside0.mk (Kd.S_below HP2.out hb); clear HP2; have HP2 := n_; clear n_; have n_ := Aside0.mk (Kd.R_below HO3.out hb); clear HO3; have HO3 := n_; clear n_; have n_ := Aside0.mk (blk_below HXp.out hb); clear HXp HXpa HXpb; have HXp := n_; clear n_; have HXpa := cell2_0 HXp.out; have HXpb := cell2_1 HXp.out; have n_ := Aside0.mk (below_step HB.out hb); clear HB; have HB := n_; clear n_; have HQ4 := Aside0.mk hq4; clear HZ; have HZ := Aside0.mk (alloc_size1 W5 (.cells #[.slice A4 w1.length c4, .slice B4 w2.length cc4] 29)); have HO4 := Aside0.mk (Kd.R_alloc hn4 (.cells #[.slice A4 w1.length c4, .slice B4 w2.length cc4] 29)); have HP4 := Aside0.mk (Kd.V_alloc hm4 (.cells #[.slice A4 w1.length c4, .slice B4 w2.length cc4] 29)); have HX4 := Aside0.mk (blk_new W5 (.cells #[.slice A4 w1.length c4, .slice B4 w2.length cc4] 29)); clear hb hq4 hn4 hm4)
        | (go_at_call 13; (with_reducible refine (laws_toDesk.calls k _ _ l0 _ _ l1 d2 f2 _ (Kd.C_below HR0.out HB.out) HC0.out (Kd.C_below HR1.out HB.out) HC1.out E6.out).mono ?_); clear E6; rintro e W6 ⟨v5, u5, rfl, ho, ho2, hb⟩; obtain ⟨lo5, hq5, hn5, hm5⟩ := obj_D2 HB.out HZ.out ho ho2 hb; obtain ⟨A5, c5, rfl⟩ := Kd.R_slice hn5; obtain ⟨B5, cc5, rfl⟩ := Kd.S_slice hm5; clear ho ho2; replace hb := below_alloc hb (.cells #[.slice A5 d2.length c5, .slice B5 f2.length cc5] 29); have n_ := Aside0.mk (Kd.R_below HO4.out hb); clear HO4; have HO4 := n_; clear n_; have n_ := Aside0.mk (Kd.V_below HP4.out hb); clear HP4; have HP4 := n_; clear n_; have n_ := Aside0.mk (blk_below HXp.out hb); clear HXp HXpa HXpb; have HXp := n_; clear n_; have HXpa := cell2_0 HXp.out; have HXpb := cell2_1 HXp.out; have n_ := Aside0.mk (blk_below HX4.out hb); clear HX4; have HX4 := n_; clear n_; have HX4a := cell2_0 HX4.out; have HX4b := cell2_1 HX4.out; have n_ := Aside0.mk (below_step HB.out hb); clear HB; have HB := n_; clear n_; have HQ5 := Aside0.mk hq5; clear HZ; have HZ := Aside0.mk (alloc_size1 W6 (.cells #[.slice A5 d2.length c5, .slice B5 f2.length cc5] 29)); have HO5 := Aside0.mk (Kd.R_alloc hn5 (.cells #[.slice A5 d2.length c5, .slice B5 f2.length cc5] 29)); have HP5 := Aside0.mk (Kd.S_alloc hm5 (.cells #[.slice A5 d2.length c5, .slice B5 f2.length cc5] 29)); have HX5 := Aside0.mk (blk_new W6 (.cells #[.slice A5 d2.length c5, .slice B5 f2.length cc5] 29)); clear hb hq5 hn5 hm5)
        | (go_at_call 21; (with_reducible refine (laws_toDeedS.calls k _ _ l2 a2 _ (Kd.C_below HR2.out HB.out) HC2.out E7.out).mono ?_); clear E7; rintro e W7 ⟨v6, rfl, ho, hb⟩; obtain ⟨lo6, hi6, hq6, hz6, hn6⟩ := obj_R HB.out HZ.out ho hb; obtain ⟨A6, c6, rfl⟩ := Kd.R_slice hn6; have n_ := Aside0.mk (Kd.R_below HO4.out hb); clear HO4; have HO4 := n_; clear n_; have n_ := Aside0.mk (Kd.V_below HP4.out hb); clear HP4; have HP4 := n_; clear n_; have n_ := Aside0.mk (Kd.R_below HO5.out hb); clear HO5; have HO5 := n_; clear n_; have n_ := Aside0.mk (Kd.S_below HP5.out hb); clear HP5; have HP5 := n_; clear n_; have n_ := Aside0.mk (blk_below HXp.out hb); clear HXp HXpa HXpb; have HXp := n_; clear n_; have HXpa := cell2_0 HXp.out; have HXpb := cell2_1 HXp.out; have n_ := Aside0.mk (blk_below HX4.out hb); clear HX4 HX4a HX4b; have HX4 := n_; clear n_; have HX4a := cell2_0 HX4.out; have HX4b := cell2_1 HX4.out; have n_ := Aside0.mk (blk_below HX5.out hb); clear HX5; have HX5 := n_; clear n_; have HX5a := cell2_0 HX5.out; have HX5b := cell2_1 HX5.out; have n_ := Aside0.mk (below_step HB.out hb); clear HB; have HB := n_; clear n_; have HQ6 := Aside0.mk hq6; clear HZ; have HZ := Aside0.mk hz6; have HO6 := Aside0.mk hn6; clear hb ho hq6 hz6 hn6)
        | (go_at_call 22; (with_reducible refine (impl_DeskRun.calls k _ _ d2 _ _ f2 _ _ a2 g1 g2 b2 _ (Kd.R_reads' HO5.out).2.2 (Kd.R_reads' HO5.out).2.1 (Kd.S_reads' HP5.out).2.2 (Kd.S_reads' HP5.out).2.1 (Kd.R_reads' HO6.out).2.2 (Kd.R_reads' HO6.out).2.1 E8.out).mono ?_); clear E8; rintro e W8 ⟨v7, u7, rfl, ho, ho2, hb⟩; obtain ⟨lo7, hq7, hn7, hm7⟩ := obj_D2 HB.out HZ.out ho ho2 hb; obtain ⟨A7, c7, rfl⟩ := Kd.R_slice hn7; obtain ⟨B7, cc7, rfl⟩ := Kd.S_slice hm7; clear ho ho2; replace hb := below_alloc hb (.cells #[.slice A7 g1.length c7, .slice B7 g2.length cc7] 29); have n_ := Aside0.mk (Kd.R_below HO4.out hb); clear HO4; have HO4 := n_; clear n_; have n_ := Aside0.mk (Kd.V_below HP4.out hb); clear HP4; have HP4 := n_; clear n_; have n_ := Aside0.mk (Kd.R_below HO5.out hb); clear HO5; have HO5 := n_; clear n_; have n_ := Aside0.mk (Kd.S_below HP5.out hb); clear HP5; have HP5 := n_; clear n_; have n_ := Aside0.mk (Kd.R_below HO6.out hb); clear HO6; have HO6 := n_; clear n_; have n_ := Aside0.mk (blk_below HXp.out hb); clear HXp HXpa HXpb; have HXp := n_; clear n_; have HXpa := cell2_0 HXp.out; have HXpb := cell2_1 HXp.out; have n_ := Aside0.mk (blk_below HX4.out hb); clear HX4 HX4a HX4b; have HX4 := n_; clear n_; have HX4a := cell2_0 HX4.out; have HX4b := cell2_1 HX4.out; have n_ := Aside0.mk (blk_below HX5.out hb); clear HX5 HX5a HX5b; have HX5 := n_; clear n_; have HX5a := cell2_0 HX5.out; have HX5b := cell2_1 HX5.out; have n_ := Aside0.mk (below_step HB.out hb); clear HB; have HB := n_; clear n_; have HQ7 := Aside0.mk hq7; clear HZ; have HZ := Aside0.mk (alloc_size1 W8 (.cells #[.slice A7 g1.length c7, .slice B7 g2.length cc7] 29)); have HO7 := Aside0.mk (Kd.R_alloc hn7 (.cells #[.slice A7 g1.length c7, .slice B7 g2.length cc7] 29)); have HP7 := Aside0.mk (Kd.S_alloc hm7 (.cells #[.slice A7 g1.length c7, .slice B7 g2.length cc7] 29)); have HX7 := Aside0.mk (blk_new W8 (.cells #[.slice A7 g1.length c7, .slice B7 g2.length cc7] 29)); clear hb hq7 hn7 hm7)
        | (go_at_call 16; (with_reducible refine (laws_eqDesk.calls k _ _ g1 _ _ g2 _ _ w1 _ _ w2 true _ (Kd.R_reads' HO7.out).2.2 (Kd.R_reads' HO7.out).2.1 (Kd.S_reads' HP7.out).2.2 (Kd.S_reads' HP7.out).2.1 (Kd.R_reads' HO4.out).2.2 (Kd.R_reads' HO4.out).2.1 (Kd.V_reads' HP4.out).2.2 (Kd.V_reads' HP4.out).2.1 E9.out).mono ?_); clear E9; rintro e W9 ⟨rfl, hb⟩; have n_ := Aside0.mk (Kd.R_below HO4.out hb); clear HO4; have HO4 := n_; clear n_; have n_ := Aside0.mk (Kd.V_below HP4.out hb); clear HP4; have HP4 := n_; clear n_; have n_ := Aside0.mk (Kd.R_below HO5.out hb); clear HO5; have HO5 := n_; clear n_; have n_ := Aside0.mk (Kd.S_below HP5.out hb); clear HP5; have HP5 := n_; clear n_; have n_ := Aside0.mk (Kd.R_below HO6.out hb); clear HO6; have HO6 := n_; clear n_; have n_ := Aside0.mk (Kd.R_below HO7.out hb); clear HO7; have HO7 := n_; clear n_; have n_ := Aside0.mk (Kd.S_below HP7.out hb); clear HP7; have HP7 := n_; clear n_; have n_ := Aside0.mk (blk_below HXp.out hb); clear HXp HXpa HXpb; have HXp := n_; clear n_; have HXpa := cell2_0 HXp.out; have HXpb := cell2_1 HXp.out; have n_ := Aside0.mk (blk_below HX4.out hb); clear HX4 HX4a HX4b; have HX4 := n_; clear n_; have HX4a := cell2_0 HX4.out; have HX4b := cell2_1 HX4.out; have n_ := Aside0.mk (blk_below HX5.out hb); clear HX5 HX5a HX5b; have HX5 := n_; clear n_; have HX5a := cell2_0 HX5.out; have HX5b := cell2_1 HX5.out; have n_ := Aside0.mk (blk_below HX7.out hb); clear HX7; have HX7 := n_; clear n_; have HX7a := cell2_0 HX7.out; have HX7b := cell2_1 HX7.out; have n_ := Aside0.mk (below_step HB.out hb); clear HB; have HB := n_; clear n_; have n_ := Aside0.mk (Nat.le_trans HZ.out hb.size); clear HZ; have HZ := n_; clear n_ hb))
      try go_wp2
      have n_ := Aside0.mk (Kd.R_drew HO4.out); clear HO4; have HO4 := n_; clear n_
      have n_ := Aside0.mk (Kd.V_drew HP4.out); clear HP4; have HP4 := n_; clear n_
      have n_ := Aside0.mk (Kd.R_drew HO5.out); clear HO5; have HO5 := n_; clear n_
      have n_ := Aside0.mk (Kd.S_drew HP5.out); clear HP5; have HP5 := n_; clear n_
      have n_ := Aside0.mk (Kd.R_drew HO6.out); clear HO6; have HO6 := n_; clear n_
      have n_ := Aside0.mk (Kd.R_drew HO7.out); clear HO7; have HO7 := n_; clear n_
      have n_ := Aside0.mk (Kd.S_drew HP7.out); clear HP7; have HP7 := n_; clear n_
      have n_ := Aside0.mk (blk_drew HXp.out); clear HXp HXpa HXpb; have HXp := n_; clear n_
      have n_ := Aside0.mk (blk_drew HX4.out); clear HX4 HX4a HX4b; have HX4 := n_; clear n_
      have n_ := Aside0.mk (blk_drew HX5.out); clear HX5 HX5a HX5b; have HX5 := n_; clear n_
      have n_ := Aside0.mk (blk_drew HX7.out); clear HX7 HX7a HX7b; have HX7 := n_; clear n_
      have n_ := Aside0.mk (below_drew1 HB.out); clear HB; have HB := n_; clear n_
      have n_ := Aside0.mk (show _ ≤ (World.drew W9).heap.size from HZ.out); clear HZ; have HZ := n_; clear n_
      refine start_ (n := 5) (S := fun w' => w'.cell? ⟨W6.heap.size, 0, none⟩ = some (.slice A5 d2.length c5) ∧ w'.cell? ⟨W6.heap.size, 1, none⟩ = some (.slice B5 f2.length cc5) ∧ w'.cell? ⟨gb1, 0, none⟩ = some (.slice A0 l0.length c0) ∧ w'.cell? ⟨gb1, 1, none⟩ = some (.slice A1 l1.length c1)) (ds := []) #[false, false, false, false, false] (by kernel_rfl) rfl rfl ⟨(blk_cell HX5.out 0).trans rfl, (blk_cell HX5.out 1).trans rfl, (blk_cell HXp.out 0).trans rfl, (blk_cell HXp.out 1).trans rfl⟩ (fun hHeld => ?_)
      generalize World.drew W9 = wr at HO4 HP4 HO5 HP5 HO6 HO7 HP7 HXp HX4 HX5 HX7 HB HZ hHeld ⊢
      refine take_ (i := 0) (N := some 54) (v := ?_) (a' := ?_) #[true, false, false, false, false] rfl rfl (by kernel_rfl) (fun _ _ _ h => h) (Or.inl ⟨by rfl, ?_⟩) hHeld ?_ ?_
      rotate_left
      · rintro w' ⟨s0, s1, s2, s3⟩
        go_simp
        with_reducible rfl
      rotate_left
      · simp only [Act.put, List.setIfInBounds_toArray, List.set_cons_zero, List.set_cons_succ, i64_w, i32_w]
        rfl
      refine take_ (i := 1) (N := some 55) (v := ?_) (a' := ?_) #[true, true, false, false, false] rfl rfl (by kernel_rfl) (fun _ _ _ h => h) (Or.inl ⟨by rfl, ?_⟩) hHeld ?_ ?_
      rotate_left
      · rintro w' ⟨s0, s1, s2, s3⟩
        go_simp
        with_reducible rfl
      rotate_left
      · simp only [Act.put, List.setIfInBounds_toArray, List.set_cons_zero, List.set_cons_succ, i64_w, i32_w]
        rfl
      refine one_ (i := 2) (N := some 56) #[true, true, true, false, false] rfl rfl (by kernel_rfl) (by decide) (fun K hK => ?_)
      refine goes_ Try.func13 (by kernel_rfl) rfl #[.agg #[.slice A0 l0.length c0, .slice A1 l1.length c1]] (by rfl) rfl rfl (by (try simp only [List.map_toArray, List.map_cons, List.map_nil]); first | done | rfl) ?_
      (with_reducible refine (laws_toDesk.calls k _ _ l0 _ _ l1 d3 f3 _ (Kd.C_below HR0.out HB.out) HC0.out (Kd.C_below HR1.out HB.out) HC1.out E10.out).mono ?_)
      clear E10
      rintro e W10 ⟨v8, u8, rfl, ho, ho2, hb⟩
      obtain ⟨lo8, hq8, hn8, hm8⟩ := obj_D2 HB.out HZ.out ho ho2 hb
      obtain ⟨A8, c8, rfl⟩ := Kd.R_slice hn8
      obtain ⟨B8, cc8, rfl⟩ := Kd.S_slice hm8
      clear ho ho2
      have n_ := Aside0.mk (Kd.R_below HO4.out hb)
      clear HO4
      have HO4 := n_
      clear n_
      have n_ := Aside0.mk (Kd.V_below HP4.out hb)
      clear HP4
      have HP4 := n_
      clear n_
      have n_ := Aside0.mk (Kd.R_below HO5.out hb)
      clear HO5
      have HO5 := n_
      clear n_
      have n_ := Aside0.mk (Kd.S_below HP5.out hb)
      clear HP5
      have HP5 := n_
      clear n_
      have n_ := Aside0.mk (Kd.R_below HO6.out hb)
      clear HO6
      have HO6 := n_
      clear n_
      have n_ := Aside0.mk (Kd.R_below HO7.out hb)
      clear HO7
      have HO7 := n_
      clear n_
      have n_ := Aside0.mk (Kd.S_below HP7.out hb)
      clear HP7
      have HP7 := n_
      clear n_
      have n_ := Aside0.mk (blk_below HXp.out hb)
      clear HXp
      have HXp := n_
      clear n_
      have HXpa := cell2_0 HXp.out
      have HXpb := cell2_1 HXp.out
      have n_ := Aside0.mk (blk_below HX4.out hb)
      clear HX4
      have HX4 := n_
      clear n_
      have HX4a := cell2_0 HX4.out
      have HX4b := cell2_1 HX4.out
      have n_ := Aside0.mk (blk_below HX5.out hb)
      clear HX5
      have HX5 := n_
      clear n_
      have HX5a := cell2_0 HX5.out
      have HX5b := cell2_1 HX5.out
      have n_ := Aside0.mk (blk_below HX7.out hb)
      clear HX7
      have HX7 := n_
      clear n_
      have HX7a := cell2_0 HX7.out
      have HX7b := cell2_1 HX7.out
      have n_ := Aside0.mk (below_step HB.out hb)
      clear HB
      have HB := n_
      clear n_
      have HQ8 := Aside0.mk hq8
      clear HZ
      have HZ := Aside0.mk (Nat.le_refl W10.heap.size)
      have HO8 := Aside0.mk hn8
      have HP8 := Aside0.mk hm8
      clear hb hq8 hn8 hm8
      refine ⟨_, rfl, ?_⟩
      refine hK.out _ _ ⟨(blk_cell HX5.out 0).trans rfl, (blk_cell HX5.out 1).trans rfl, (blk_cell HXp.out 0).trans rfl, (blk_cell HXp.out 1).trans rfl⟩ (fun hHeld => ?_)
      clear hK K
      refine norm_ (a' := ?_) ?_ ?_
      rotate_left
      · show Act.put _ (some 56) _ = _
        simp only [Act.put, List.setIfInBounds_toArray, List.set_cons_zero, List.set_cons_succ, i64_w, i32_w]
        rfl
      refine one_ (i := 3) (N := some 57) #[true, true, true, true, false] rfl rfl (by kernel_rfl) (by decide) (fun K hK => ?_)
      refine goes_ Try.func16 (by kernel_rfl) rfl #[.agg #[.slice A5 d2.length c5, .slice B5 f2.length cc5], .agg #[.slice A8 d3.length c8, .slice B8 f3.length cc8]] (by rfl) rfl rfl (by (try simp only [List.map_toArray, List.map_cons, List.map_nil]); first | done | rfl) ?_
      (with_reducible refine (laws_eqDesk.calls k _ _ d2 _ _ f2 _ _ d3 _ _ f3 true _ (Kd.R_reads' HO5.out).2.2 (Kd.R_reads' HO5.out).2.1 (Kd.S_reads' HP5.out).2.2 (Kd.S_reads' HP5.out).2.1 (Kd.R_reads' HO8.out).2.2 (Kd.R_reads' HO8.out).2.1 (Kd.S_reads' HP8.out).2.2 (Kd.S_reads' HP8.out).2.1 E11.out).mono ?_)
      clear E11
      rintro e W11 ⟨rfl, hb⟩
      have n_ := Aside0.mk (Kd.R_below HO4.out hb)
      clear HO4
      have HO4 := n_
      clear n_
      have n_ := Aside0.mk (Kd.V_below HP4.out hb)
      clear HP4
      have HP4 := n_
      clear n_
      have n_ := Aside0.mk (Kd.R_below HO5.out hb)
      clear HO5
      have HO5 := n_
      clear n_
      have n_ := Aside0.mk (Kd.S_below HP5.out hb)
      clear HP5
      have HP5 := n_
      clear n_
      have n_ := Aside0.mk (Kd.R_below HO6.out hb)
      clear HO6
      have HO6 := n_
      clear n_
      have n_ := Aside0.mk (Kd.R_below HO7.out hb)
      clear HO7
      have HO7 := n_
      clear n_
      have n_ := Aside0.mk (Kd.S_below HP7.out hb)
      clear HP7
      have HP7 := n_
      clear n_
      have n_ := Aside0.mk (Kd.R_below HO8.out hb)
      clear HO8
      have HO8 := n_
      clear n_
      have n_ := Aside0.mk (Kd.S_below HP8.out hb)
      clear HP8
      have HP8 := n_
      clear n_
      have n_ := Aside0.mk (blk_below HXp.out hb)
      clear HXp HXpa HXpb
      have HXp := n_
      clear n_
      have HXpa := cell2_0 HXp.out
      have HXpb := cell2_1 HXp.out
      have n_ := Aside0.mk (blk_below HX4.out hb)
      clear HX4 HX4a HX4b
      have HX4 := n_
      clear n_
      have HX4a := cell2_0 HX4.out
      have HX4b := cell2_1 HX4.out
      have n_ := Aside0.mk (blk_below HX5.out hb)
      clear HX5 HX5a HX5b
      have HX5 := n_
      clear n_
      have HX5a := cell2_0 HX5.out
      have HX5b := cell2_1 HX5.out
      have n_ := Aside0.mk (blk_below HX7.out hb)
      clear HX7 HX7a HX7b
      have HX7 := n_
      clear n_
      have HX7a := cell2_0 HX7.out
      have HX7b := cell2_1 HX7.out
      have n_ := Aside0.mk (below_step HB.out hb)
      clear HB
      have HB := n_
      clear n_
      have n_ := Aside0.mk (Nat.le_trans HZ.out hb.size)
      clear HZ
      have HZ := n_
      clear n_ hb
      refine ⟨_, rfl, ?_⟩
      refine hK.out _ _ ⟨(blk_cell HX5.out 0).trans rfl, (blk_cell HX5.out 1).trans rfl, (blk_cell HXp.out 0).trans rfl, (blk_cell HXp.out 1).trans rfl⟩ (fun hHeld => ?_)
      clear hK K
      refine norm_ (a' := ?_) ?_ ?_
      rotate_left
      · show Act.put _ (some 57) _ = _
        simp only [Act.put, List.setIfInBounds_toArray, List.set_cons_zero, List.set_cons_succ, i64_w, i32_w]
        rfl
      refine pure_ (i := 4) (N := some 58) (v := ?_) (a' := ?_) #[true, true, true, true, true] rfl rfl (by kernel_rfl) (fun _ _ _ h => h) (Or.inl ⟨by rfl, ?_⟩) ?_ ?_
      rotate_left
      · intro w'
        go_simp
        with_reducible rfl
      rotate_left
      · simp only [Act.put, List.setIfInBounds_toArray, List.set_cons_zero, List.set_cons_succ, i64_w, i32_w]
        rfl
      refine done_ (by kernel_rfl) ?_
      have HXpa := cell2_0 HXp.out
      have HXpb := cell2_1 HXp.out
      have HX4a := cell2_0 HX4.out
      have HX4b := cell2_1 HX4.out
      have HX5a := cell2_0 HX5.out
      have HX5b := cell2_1 HX5.out
      have HX7a := cell2_0 HX7.out
      have HX7b := cell2_1 HX7.out
      go_wp2_with (first
        | (go_at_call 21; (with_reducible refine (laws_toDeedS.calls k _ _ l2 a3 _ (Kd.C_below HR2.out HB.out) HC2.out E12.out).mono ?_); clear E12; rintro e W12 ⟨v9, rfl, ho, hb⟩; obtain ⟨lo9, hi9, hq9, hz9, hn9⟩ := obj_R HB.out HZ.out ho hb; obtain ⟨A9, c9, rfl⟩ := Kd.R_slice hn9; have n_ := Aside0.mk (Kd.R_below HO4.out hb); clear HO4; have HO4 := n_; clear n_; have n_ := Aside0.mk (Kd.V_below HP4.out hb); clear HP4; have HP4 := n_; clear n_; have n_ := Aside0.mk (Kd.R_below HO5.out hb); clear HO5; have HO5 := n_; clear n_; have n_ := Aside0.mk (Kd.S_below HP5.out hb); clear HP5; have HP5 := n_; clear n_; have n_ := Aside0.mk (Kd.R_below HO6.out hb); clear HO6; have HO6 := n_; clear n_; have n_ := Aside0.mk (Kd.R_below HO7.out hb); clear HO7; have HO7 := n_; clear n_; have n_ := Aside0.mk (Kd.S_below HP7.out hb); clear HP7; have HP7 := n_; clear n_; have n_ := Aside0.mk (blk_below HXp.out hb); clear HXp HXpa HXpb; have HXp := n_; clear n_; have HXpa := cell2_0 HXp.out; have HXpb := cell2_1 HXp.out; have n_ := Aside0.mk (blk_below HX4.out hb); clear HX4 HX4a HX4b; have HX4 := n_; clear n_; have HX4a := cell2_0 HX4.out; have HX4b := cell2_1 HX4.out; have n_ := Aside0.mk (blk_below HX5.out hb); clear HX5 HX5a HX5b; have HX5 := n_; clear n_; have HX5a := cell2_0 HX5.out; have HX5b := cell2_1 HX5.out; have n_ := Aside0.mk (blk_below HX7.out hb); clear HX7 HX7a HX7b; have HX7 := n_; clear n_; have HX7a := cell2_0 HX7.out; have HX7b := cell2_1 HX7.out; have n_ := Aside0.mk (below_step HB.out hb); clear HB; have HB := n_; clear n_; have HQ9 := Aside0.mk hq9; clear HZ; have HZ := Aside0.mk hz9; have HO9 := Aside0.mk hn9; clear hb ho hq9 hz9 hn9)
        | (go_at_call 23; (with_reducible refine (laws_eqDeedS.calls k _ _ a2 _ _ a3 true _ (Kd.R_reads' HO6.out).2.2 (Kd.R_reads' HO6.out).2.1 (Kd.R_reads' HO9.out).2.2 (Kd.R_reads' HO9.out).2.1 E13.out).mono ?_); clear E13; rintro e W13 ⟨rfl, hb⟩; have n_ := Aside0.mk (Kd.R_below HO4.out hb); clear HO4; have HO4 := n_; clear n_; have n_ := Aside0.mk (Kd.V_below HP4.out hb); clear HP4; have HP4 := n_; clear n_; have n_ := Aside0.mk (Kd.R_below HO5.out hb); clear HO5; have HO5 := n_; clear n_; have n_ := Aside0.mk (Kd.S_below HP5.out hb); clear HP5; have HP5 := n_; clear n_; have n_ := Aside0.mk (Kd.R_below HO6.out hb); clear HO6; have HO6 := n_; clear n_; have n_ := Aside0.mk (Kd.R_below HO7.out hb); clear HO7; have HO7 := n_; clear n_; have n_ := Aside0.mk (Kd.S_below HP7.out hb); clear HP7; have HP7 := n_; clear n_; have n_ := Aside0.mk (Kd.R_below HO9.out hb); clear HO9; have HO9 := n_; clear n_; have n_ := Aside0.mk (blk_below HXp.out hb); clear HXp HXpa HXpb; have HXp := n_; clear n_; have HXpa := cell2_0 HXp.out; have HXpb := cell2_1 HXp.out; have n_ := Aside0.mk (blk_below HX4.out hb); clear HX4 HX4a HX4b; have HX4 := n_; clear n_; have HX4a := cell2_0 HX4.out; have HX4b := cell2_1 HX4.out; have n_ := Aside0.mk (blk_below HX5.out hb); clear HX5 HX5a HX5b; have HX5 := n_; clear n_; have HX5a := cell2_0 HX5.out; have HX5b := cell2_1 HX5.out; have n_ := Aside0.mk (blk_below HX7.out hb); clear HX7 HX7a HX7b; have HX7 := n_; clear n_; have HX7a := cell2_0 HX7.out; have HX7b := cell2_1 HX7.out; have n_ := Aside0.mk (below_step HB.out hb); clear HB; have HB := n_; clear n_; have n_ := Aside0.mk (Nat.le_trans HZ.out hb.size); clear HZ; have HZ := n_; clear n_ hb)
        | (go_at_call 17; (with_reducible refine (laws_markDesk.calls k (fun k => (lo5 ≤ k ∧ k < W6.heap.size)) (fun k => (lo5 ≤ k ∧ k < W6.heap.size) ∧ some k ≠ ((.slice A5 d2.length c5) : Value).ownBlock) _ _ d2 f2 1 m1 y0 y1 w _ HB.out HO5.out HP5.out (fun k hk => hk.2) E14.out).mono ?_); clear E14; rintro e W14 ⟨rfl, hs, hs2, hb, hk⟩; have hl := (Kd.R_reads' hs).1; rw [hl] at hs hs2 hk; (try rw [hl]); (try rw [hl] at HX5); clear hl; have hl := (Kd.S_reads' hs2).1; rw [hl] at hs2; (try rw [hl]); (try rw [hl] at HX5); clear hl; replace hk := Kept.mono (S' := fun k => (lo5 ≤ k ∧ k < W6.heap.size) ∨ (lo5 ≤ k ∧ k < W6.heap.size)) hk (fun k hk => hk.elim (fun h => .inl h) (fun h => .inr h.1)); have n_ := Aside0.mk (Kd.R_kept HO4.out hk (fun k hk2 hj => by have q1 := HQ1.out; have q2 := HQ2.out; have q3 := HQ3.out; have q4 := HQ4.out; have q5 := HQ5.out; have q6 := HQ6.out; have q7 := HQ7.out; have q8 := HQ8.out; have q9 := HQ9.out; have h1 := hk2; have h2 := hj.elim id id; omega)); clear HO4; have HO4 := n_; clear n_; have n_ := Aside0.mk (Kd.V_kept HP4.out hk (fun k hk2 hj => by have q1 := HQ1.out; have q2 := HQ2.out; have q3 := HQ3.out; have q4 := HQ4.out; have q5 := HQ5.out; have q6 := HQ6.out; have q7 := HQ7.out; have q8 := HQ8.out; have q9 := HQ9.out; have h1 := hk2.1; have h2 := hj.elim id id; omega)); clear HP4; have HP4 := n_; clear n_; have n_ := Aside0.mk (Kd.R_kept HO6.out hk (fun k hk2 hj => by have q1 := HQ1.out; have q2 := HQ2.out; have q3 := HQ3.out; have q4 := HQ4.out; have q5 := HQ5.out; have q6 := HQ6.out; have q7 := HQ7.out; have q8 := HQ8.out; have q9 := HQ9.out; have h1 := hk2; have h2 := hj.elim id id; omega)); clear HO6; have HO6 := n_; clear n_; have n_ := Aside0.mk (Kd.R_kept HO7.out hk (fun k hk2 hj => by have q1 := HQ1.out; have q2 := HQ2.out; have q3 := HQ3.out; have q4 := HQ4.out; have q5 := HQ5.out; have q6 := HQ6.out; have q7 := HQ7.out; have q8 := HQ8.out; have q9 := HQ9.out; have h1 := hk2; have h2 := hj.elim id id; omega)); clear HO7; have HO7 := n_; clear n_; have n_ := Aside0.mk (Kd.S_kept HP7.out hk (fun k hk2 hj => by have q1 := HQ1.out; have q2 := HQ2.out; have q3 := HQ3.out; have q4 := HQ4.out; have q5 := HQ5.out; have q6 := HQ6.out; have q7 := HQ7.out; have q8 := HQ8.out; have q9 := HQ9.out; have h1 := hk2.1; have h2 := hj.elim id id; omega)); clear HP7; have HP7 := n_; clear n_; have n_ := Aside0.mk (blk_kept HXp.out hk (fun hj => by have q1 := HQ1.out; have q2 := HQ2.out; have q3 := HQ3.out; have q4 := HQ4.out; have q5 := HQ5.out; have q6 := HQ6.out; have q7 := HQ7.out; have q8 := HQ8.out; have q9 := HQ9.out; have h2 := hj.elim id id; omega)); clear HXp HXpa HXpb; have HXp := n_; clear n_; have HXpa := cell2_0 HXp.out; have HXpb := cell2_1 HXp.out; have n_ := Aside0.mk (blk_kept HX4.out hk (fun hj => by have q1 := HQ1.out; have q2 := HQ2.out; have q3 := HQ3.out; have q4 := HQ4.out; have q5 := HQ5.out; have q6 := HQ6.out; have q7 := HQ7.out; have q8 := HQ8.out; have q9 := HQ9.out; have h2 := hj.elim id id; omega)); clear HX4 HX4a HX4b; have HX4 := n_; clear n_; have HX4a := cell2_0 HX4.out; have HX4b := cell2_1 HX4.out; have n_ := Aside0.mk (blk_kept HX5.out hk (fun hj => by have q1 := HQ1.out; have q2 := HQ2.out; have q3 := HQ3.out; have q4 := HQ4.out; have q5 := HQ5.out; have q6 := HQ6.out; have q7 := HQ7.out; have q8 := HQ8.out; have q9 := HQ9.out; have h2 := hj.elim id id; omega)); clear HX5 HX5a HX5b; have HX5 := n_; clear n_; have HX5a := cell2_0 HX5.out; have HX5b := cell2_1 HX5.out; have n_ := Aside0.mk (blk_kept HX7.out hk (fun hj => by have q1 := HQ1.out; have q2 := HQ2.out; have q3 := HQ3.out; have q4 := HQ4.out; have q5 := HQ5.out; have q6 := HQ6.out; have q7 := HQ7.out; have q8 := HQ8.out; have q9 := HQ9.out; have h2 := hj.elim id id; omega)); clear HX7 HX7a HX7b; have HX7 := n_; clear n_; have HX7a := cell2_0 HX7.out; have HX7b := cell2_1 HX7.out; have HO_ := Aside0.mk hs; have HP_ := Aside0.mk hs2; clear HO5 HP5; have HO5 := HO_; have HP5 := HP_; clear HO_ HP_ hs hs2; have n_ := Aside0.mk (Nat.le_trans HZ.out hk.1); clear HZ; have HZ := n_; clear n_; have n_ := Aside0.mk hb; clear HB; have HB := n_; clear n_ hb hk)
        | (go_at_call 24; (with_reducible refine (laws_markDeedS.calls k (fun k => (lo6 ≤ k ∧ k < hi6)) _ a2 m1 m3 y4 w _ HB.out HO6.out E15.out).mono ?_); clear E15; rintro e W15 ⟨rfl, hs, hb, hk⟩; clear hs; have n_ := Aside0.mk (Kd.R_kept HO4.out hk (fun k hk2 hj => by have q1 := HQ1.out; have q2 := HQ2.out; have q3 := HQ3.out; have q4 := HQ4.out; have q5 := HQ5.out; have q6 := HQ6.out; have q7 := HQ7.out; have q8 := HQ8.out; have q9 := HQ9.out; have h1 := hk2; have h2 := hj; omega)); clear HO4; have HO4 := n_; clear n_; have n_ := Aside0.mk (Kd.V_kept HP4.out hk (fun k hk2 hj => by have q1 := HQ1.out; have q2 := HQ2.out; have q3 := HQ3.out; have q4 := HQ4.out; have q5 := HQ5.out; have q6 := HQ6.out; have q7 := HQ7.out; have q8 := HQ8.out; have q9 := HQ9.out; have h1 := hk2.1; have h2 := hj; omega)); clear HP4; have HP4 := n_; clear n_; have n_ := Aside0.mk (Kd.R_kept HO7.out hk (fun k hk2 hj => by have q1 := HQ1.out; have q2 := HQ2.out; have q3 := HQ3.out; have q4 := HQ4.out; have q5 := HQ5.out; have q6 := HQ6.out; have q7 := HQ7.out; have q8 := HQ8.out; have q9 := HQ9.out; have h1 := hk2; have h2 := hj; omega)); clear HO7; have HO7 := n_; clear n_; have n_ := Aside0.mk (Kd.S_kept HP7.out hk (fun k hk2 hj => by have q1 := HQ1.out; have q2 := HQ2.out; have q3 := HQ3.out; have q4 := HQ4.out; have q5 := HQ5.out; have q6 := HQ6.out; have q7 := HQ7.out; have q8 := HQ8.out; have q9 := HQ9.out; have h1 := hk2.1; have h2 := hj; omega)); clear HP7; have HP7 := n_; clear n_; have n_ := Aside0.mk (blk_kept HXp.out hk (fun hj => by have q1 := HQ1.out; have q2 := HQ2.out; have q3 := HQ3.out; have q4 := HQ4.out; have q5 := HQ5.out; have q6 := HQ6.out; have q7 := HQ7.out; have q8 := HQ8.out; have q9 := HQ9.out; have h2 := hj; omega)); clear HXp HXpa HXpb; have HXp := n_; clear n_; have HXpa := cell2_0 HXp.out; have HXpb := cell2_1 HXp.out; have n_ := Aside0.mk (blk_kept HX4.out hk (fun hj => by have q1 := HQ1.out; have q2 := HQ2.out; have q3 := HQ3.out; have q4 := HQ4.out; have q5 := HQ5.out; have q6 := HQ6.out; have q7 := HQ7.out; have q8 := HQ8.out; have q9 := HQ9.out; have h2 := hj; omega)); clear HX4 HX4a HX4b; have HX4 := n_; clear n_; have HX4a := cell2_0 HX4.out; have HX4b := cell2_1 HX4.out; have n_ := Aside0.mk (blk_kept HX5.out hk (fun hj => by have q1 := HQ1.out; have q2 := HQ2.out; have q3 := HQ3.out; have q4 := HQ4.out; have q5 := HQ5.out; have q6 := HQ6.out; have q7 := HQ7.out; have q8 := HQ8.out; have q9 := HQ9.out; have h2 := hj; omega)); clear HX5 HX5a HX5b; have HX5 := n_; clear n_; have HX5a := cell2_0 HX5.out; have HX5b := cell2_1 HX5.out; have n_ := Aside0.mk (blk_kept HX7.out hk (fun hj => by have q1 := HQ1.out; have q2 := HQ2.out; have q3 := HQ3.out; have q4 := HQ4.out; have q5 := HQ5.out; have q6 := HQ6.out; have q7 := HQ7.out; have q8 := HQ8.out; have q9 := HQ9.out; have h2 := hj; omega)); clear HX7 HX7a HX7b; have HX7 := n_; clear n_; have HX7a := cell2_0 HX7.out; have HX7b := cell2_1 HX7.out; clear HO6; have n_ := Aside0.mk (Nat.le_trans HZ.out hk.1); clear HZ; have HZ := n_; clear n_; have n_ := Aside0.mk hb; clear HB; have HB := n_; clear n_ hb hk)
        | (go_at_call 16; (with_reducible refine (laws_eqDesk.calls k _ _ g1 _ _ g2 _ _ w1 _ _ w2 true _ (Kd.R_reads' HO7.out).2.2 (Kd.R_reads' HO7.out).2.1 (Kd.S_reads' HP7.out).2.2 (Kd.S_reads' HP7.out).2.1 (Kd.R_reads' HO4.out).2.2 (Kd.R_reads' HO4.out).2.1 (Kd.V_reads' HP4.out).2.2 (Kd.V_reads' HP4.out).2.1 E16.out).mono ?_); clear E16; rintro e W16 ⟨rfl, hb⟩; have n_ := Aside0.mk (Kd.R_below HO4.out hb); clear HO4; have HO4 := n_; clear n_; have n_ := Aside0.mk (Kd.V_below HP4.out hb); clear HP4; have HP4 := n_; clear n_; have n_ := Aside0.mk (Kd.R_below HO7.out hb); clear HO7; have HO7 := n_; clear n_; have n_ := Aside0.mk (Kd.S_below HP7.out hb); clear HP7; have HP7 := n_; clear n_; have n_ := Aside0.mk (blk_below HXp.out hb); clear HXp HXpa HXpb; have HXp := n_; clear n_; have HXpa := cell2_0 HXp.out; have HXpb := cell2_1 HXp.out; have n_ := Aside0.mk (blk_below HX4.out hb); clear HX4 HX4a HX4b; have HX4 := n_; clear n_; have HX4a := cell2_0 HX4.out; have HX4b := cell2_1 HX4.out; have n_ := Aside0.mk (blk_below HX5.out hb); clear HX5 HX5a HX5b; have HX5 := n_; clear n_; have HX5a := cell2_0 HX5.out; have HX5b := cell2_1 HX5.out; have n_ := Aside0.mk (blk_below HX7.out hb); clear HX7 HX7a HX7b; have HX7 := n_; clear n_; have HX7a := cell2_0 HX7.out; have HX7b := cell2_1 HX7.out; have n_ := Aside0.mk (below_step HB.out hb); clear HB; have HB := n_; clear n_; have n_ := Aside0.mk (Nat.le_trans HZ.out hb.size); clear HZ; have HZ := n_; clear n_ hb)
        | (go_at_call 17; (with_reducible refine (laws_markDesk.calls k (fun k => (lo7 ≤ k ∧ k < W8.heap.size)) (fun k => (lo7 ≤ k ∧ k < W8.heap.size) ∧ some k ≠ ((.slice A7 g1.length c7) : Value).ownBlock) _ _ g1 g2 1 q3 y2 y3 w _ HB.out HO7.out HP7.out (fun k hk => hk.2) E17.out).mono ?_); clear E17; rintro e W17 ⟨rfl, hs, hs2, hb, hk⟩; have hl := (Kd.R_reads' hs).1; rw [hl] at hs hs2 hk; (try rw [hl]); (try rw [hl] at HX7); clear hl; have hl := (Kd.S_reads' hs2).1; rw [hl] at hs2; (try rw [hl]); (try rw [hl] at HX7); clear hl; replace hk := Kept.mono (S' := fun k => (lo7 ≤ k ∧ k < W8.heap.size) ∨ (lo7 ≤ k ∧ k < W8.heap.size)) hk (fun k hk => hk.elim (fun h => .inl h) (fun h => .inr h.1)); have n_ := Aside0.mk (Kd.R_kept HO4.out hk (fun k hk2 hj => by have q1 := HQ1.out; have q2 := HQ2.out; have q3 := HQ3.out; have q4 := HQ4.out; have q5 := HQ5.out; have q6 := HQ6.out; have q7 := HQ7.out; have q8 := HQ8.out; have q9 := HQ9.out; have h1 := hk2; have h2 := hj.elim id id; omega)); clear HO4; have HO4 := n_; clear n_; have n_ := Aside0.mk (Kd.V_kept HP4.out hk (fun k hk2 hj => by have q1 := HQ1.out; have q2 := HQ2.out; have q3 := HQ3.out; have q4 := HQ4.out; have q5 := HQ5.out; have q6 := HQ6.out; have q7 := HQ7.out; have q8 := HQ8.out; have q9 := HQ9.out; have h1 := hk2.1; have h2 := hj.elim id id; omega)); clear HP4; have HP4 := n_; clear n_; have n_ := Aside0.mk (blk_kept HXp.out hk (fun hj => by have q1 := HQ1.out; have q2 := HQ2.out; have q3 := HQ3.out; have q4 := HQ4.out; have q5 := HQ5.out; have q6 := HQ6.out; have q7 := HQ7.out; have q8 := HQ8.out; have q9 := HQ9.out; have h2 := hj.elim id id; omega)); clear HXp HXpa HXpb; have HXp := n_; clear n_; have HXpa := cell2_0 HXp.out; have HXpb := cell2_1 HXp.out; have n_ := Aside0.mk (blk_kept HX4.out hk (fun hj => by have q1 := HQ1.out; have q2 := HQ2.out; have q3 := HQ3.out; have q4 := HQ4.out; have q5 := HQ5.out; have q6 := HQ6.out; have q7 := HQ7.out; have q8 := HQ8.out; have q9 := HQ9.out; have h2 := hj.elim id id; omega)); clear HX4 HX4a HX4b; have HX4 := n_; clear n_; have HX4a := cell2_0 HX4.out; have HX4b := cell2_1 HX4.out; have n_ := Aside0.mk (blk_kept HX5.out hk (fun hj => by have q1 := HQ1.out; have q2 := HQ2.out; have q3 := HQ3.out; have q4 := HQ4.out; have q5 := HQ5.out; have q6 := HQ6.out; have q7 := HQ7.out; have q8 := HQ8.out; have q9 := HQ9.out; have h2 := hj.elim id id; omega)); clear HX5 HX5a HX5b; have HX5 := n_; clear n_; have HX5a := cell2_0 HX5.out; have HX5b := cell2_1 HX5.out; have n_ := Aside0.mk (blk_kept HX7.out hk (fun hj => by have q1 := HQ1.out; have q2 := HQ2.out; have q3 := HQ3.out; have q4 := HQ4.out; have q5 := HQ5.out; have q6 := HQ6.out; have q7 := HQ7.out; have q8 := HQ8.out; have q9 := HQ9.out; have h2 := hj.elim id id; omega)); clear HX7 HX7a HX7b; have HX7 := n_; clear n_; have HX7a := cell2_0 HX7.out; have HX7b := cell2_1 HX7.out; have HO_ := Aside0.mk hs; have HP_ := Aside0.mk hs2; clear HO7 HP7; have HO7 := HO_; have HP7 := HP_; clear HO_ HP_ hs hs2; have n_ := Aside0.mk (Nat.le_trans HZ.out hk.1); clear HZ; have HZ := n_; clear n_; have n_ := Aside0.mk hb; clear HB; have HB := n_; clear n_ hb hk)
        | (go_at_call 18; (with_reducible refine (laws_heldDesk.calls k _ _ y2 _ _ y3 1 q3 _ (Kd.R_reads' HO7.out).2.2 (Kd.R_reads' HO7.out).2.1 (Kd.S_reads' HP7.out).2.2 (Kd.S_reads' HP7.out).2.1 E18.out).mono ?_); clear E18; rintro e W18 ⟨rfl, hb⟩; have n_ := Aside0.mk (Kd.R_below HO4.out hb); clear HO4; have HO4 := n_; clear n_; have n_ := Aside0.mk (Kd.V_below HP4.out hb); clear HP4; have HP4 := n_; clear n_; have n_ := Aside0.mk (Kd.R_below HO7.out hb); clear HO7; have HO7 := n_; clear n_; have n_ := Aside0.mk (Kd.S_below HP7.out hb); clear HP7; have HP7 := n_; clear n_; have n_ := Aside0.mk (blk_below HXp.out hb); clear HXp HXpa HXpb; have HXp := n_; clear n_; have HXpa := cell2_0 HXp.out; have HXpb := cell2_1 HXp.out; have n_ := Aside0.mk (blk_below HX4.out hb); clear HX4 HX4a HX4b; have HX4 := n_; clear n_; have HX4a := cell2_0 HX4.out; have HX4b := cell2_1 HX4.out; have n_ := Aside0.mk (blk_below HX5.out hb); clear HX5 HX5a HX5b; have HX5 := n_; clear n_; have HX5a := cell2_0 HX5.out; have HX5b := cell2_1 HX5.out; have n_ := Aside0.mk (blk_below HX7.out hb); clear HX7 HX7a HX7b; have HX7 := n_; clear n_; have HX7a := cell2_0 HX7.out; have HX7b := cell2_1 HX7.out; have n_ := Aside0.mk (below_step HB.out hb); clear HB; have HB := n_; clear n_; have n_ := Aside0.mk (Nat.le_trans HZ.out hb.size); clear HZ; have HZ := n_; clear n_ hb)
        | (go_at_call 13; (with_reducible refine (laws_toDesk.calls k _ _ l0 _ _ l1 d4 f4 _ (Kd.C_below HR0.out HB.out) HC0.out (Kd.C_below HR1.out HB.out) HC1.out E19.out).mono ?_); clear E19; rintro e W19 ⟨v10, u10, rfl, ho, ho2, hb⟩; obtain ⟨lo10, hq10, hn10, hm10⟩ := obj_D2 HB.out HZ.out ho ho2 hb; obtain ⟨A10, c10, rfl⟩ := Kd.R_slice hn10; obtain ⟨B10, cc10, rfl⟩ := Kd.S_slice hm10; clear ho ho2; have n_ := Aside0.mk (Kd.R_below HO4.out hb); clear HO4; have HO4 := n_; clear n_; have n_ := Aside0.mk (Kd.V_below HP4.out hb); clear HP4; have HP4 := n_; clear n_; have n_ := Aside0.mk (Kd.R_below HO7.out hb); clear HO7; have HO7 := n_; clear n_; have n_ := Aside0.mk (Kd.S_below HP7.out hb); clear HP7; have HP7 := n_; clear n_; have n_ := Aside0.mk (blk_below HXp.out hb); clear HXp HXpa HXpb; have HXp := n_; clear n_; have HXpa := cell2_0 HXp.out; have HXpb := cell2_1 HXp.out; have n_ := Aside0.mk (blk_below HX4.out hb); clear HX4 HX4a HX4b; have HX4 := n_; clear n_; have HX4a := cell2_0 HX4.out; have HX4b := cell2_1 HX4.out; have n_ := Aside0.mk (blk_below HX5.out hb); clear HX5 HX5a HX5b; have HX5 := n_; clear n_; have HX5a := cell2_0 HX5.out; have HX5b := cell2_1 HX5.out; have n_ := Aside0.mk (blk_below HX7.out hb); clear HX7 HX7a HX7b; have HX7 := n_; clear n_; have HX7a := cell2_0 HX7.out; have HX7b := cell2_1 HX7.out; have n_ := Aside0.mk (below_step HB.out hb); clear HB; have HB := n_; clear n_; have HQ10 := Aside0.mk hq10; clear HZ; have HZ := Aside0.mk (Nat.le_refl W19.heap.size); have HO10 := Aside0.mk hn10; have HP10 := Aside0.mk hm10; clear hb hq10 hn10 hm10)
        | (go_at_call 21; (with_reducible refine (laws_toDeedS.calls k _ _ l2 a4 _ (Kd.C_below HR2.out HB.out) HC2.out E20.out).mono ?_); clear E20; rintro e W20 ⟨v11, rfl, ho, hb⟩; obtain ⟨lo11, hi11, hq11, hz11, hn11⟩ := obj_R HB.out HZ.out ho hb; obtain ⟨A11, c11, rfl⟩ := Kd.R_slice hn11; have n_ := Aside0.mk (Kd.R_below HO4.out hb); clear HO4; have HO4 := n_; clear n_; have n_ := Aside0.mk (Kd.V_below HP4.out hb); clear HP4; have HP4 := n_; clear n_; have n_ := Aside0.mk (Kd.R_below HO7.out hb); clear HO7; have HO7 := n_; clear n_; have n_ := Aside0.mk (Kd.S_below HP7.out hb); clear HP7; have HP7 := n_; clear n_; have n_ := Aside0.mk (Kd.R_below HO10.out hb); clear HO10; have HO10 := n_; clear n_; have n_ := Aside0.mk (Kd.S_below HP10.out hb); clear HP10; have HP10 := n_; clear n_; have n_ := Aside0.mk (blk_below HXp.out hb); clear HXp HXpa HXpb; have HXp := n_; clear n_; have HXpa := cell2_0 HXp.out; have HXpb := cell2_1 HXp.out; have n_ := Aside0.mk (blk_below HX4.out hb); clear HX4 HX4a HX4b; have HX4 := n_; clear n_; have HX4a := cell2_0 HX4.out; have HX4b := cell2_1 HX4.out; have n_ := Aside0.mk (blk_below HX5.out hb); clear HX5 HX5a HX5b; have HX5 := n_; clear n_; have HX5a := cell2_0 HX5.out; have HX5b := cell2_1 HX5.out; have n_ := Aside0.mk (blk_below HX7.out hb); clear HX7 HX7a HX7b; have HX7 := n_; clear n_; have HX7a := cell2_0 HX7.out; have HX7b := cell2_1 HX7.out; have n_ := Aside0.mk (below_step HB.out hb); clear HB; have HB := n_; clear n_; have HQ11 := Aside0.mk hq11; clear HZ; have HZ := Aside0.mk hz11; have HO11 := Aside0.mk hn11; clear hb ho hq11 hz11 hn11)
        | (go_at_call 22; (with_reducible refine (impl_DeskRun.calls k _ _ d4 _ _ f4 _ _ a4 h1 h2 b2 _ (Kd.R_reads' HO10.out).2.2 (Kd.R_reads' HO10.out).2.1 (Kd.S_reads' HP10.out).2.2 (Kd.S_reads' HP10.out).2.1 (Kd.R_reads' HO11.out).2.2 (Kd.R_reads' HO11.out).2.1 E21.out).mono ?_); clear E21; rintro e W21 ⟨v12, u12, rfl, ho, ho2, hb⟩; obtain ⟨lo12, hq12, hn12, hm12⟩ := obj_D2 HB.out HZ.out ho ho2 hb; obtain ⟨A12, c12, rfl⟩ := Kd.R_slice hn12; obtain ⟨B12, cc12, rfl⟩ := Kd.S_slice hm12; clear ho ho2; replace hb := below_alloc hb (.cells #[.slice A12 h1.length c12, .slice B12 h2.length cc12] 29); have n_ := Aside0.mk (Kd.R_below HO4.out hb); clear HO4; have HO4 := n_; clear n_; have n_ := Aside0.mk (Kd.V_below HP4.out hb); clear HP4; have HP4 := n_; clear n_; have n_ := Aside0.mk (Kd.R_below HO7.out hb); clear HO7; have HO7 := n_; clear n_; have n_ := Aside0.mk (Kd.S_below HP7.out hb); clear HP7; have HP7 := n_; clear n_; have n_ := Aside0.mk (Kd.R_below HO10.out hb); clear HO10; have HO10 := n_; clear n_; have n_ := Aside0.mk (Kd.S_below HP10.out hb); clear HP10; have HP10 := n_; clear n_; have n_ := Aside0.mk (Kd.R_below HO11.out hb); clear HO11; have HO11 := n_; clear n_; have n_ := Aside0.mk (blk_below HXp.out hb); clear HXp HXpa HXpb; have HXp := n_; clear n_; have HXpa := cell2_0 HXp.out; have HXpb := cell2_1 HXp.out; have n_ := Aside0.mk (blk_below HX4.out hb); clear HX4 HX4a HX4b; have HX4 := n_; clear n_; have HX4a := cell2_0 HX4.out; have HX4b := cell2_1 HX4.out; have n_ := Aside0.mk (blk_below HX5.out hb); clear HX5 HX5a HX5b; have HX5 := n_; clear n_; have HX5a := cell2_0 HX5.out; have HX5b := cell2_1 HX5.out; have n_ := Aside0.mk (blk_below HX7.out hb); clear HX7 HX7a HX7b; have HX7 := n_; clear n_; have HX7a := cell2_0 HX7.out; have HX7b := cell2_1 HX7.out; have n_ := Aside0.mk (below_step HB.out hb); clear HB; have HB := n_; clear n_; have HQ12 := Aside0.mk hq12; clear HZ; have HZ := Aside0.mk (alloc_size1 W21 (.cells #[.slice A12 h1.length c12, .slice B12 h2.length cc12] 29)); have HO12 := Aside0.mk (Kd.R_alloc hn12 (.cells #[.slice A12 h1.length c12, .slice B12 h2.length cc12] 29)); have HP12 := Aside0.mk (Kd.S_alloc hm12 (.cells #[.slice A12 h1.length c12, .slice B12 h2.length cc12] 29)); have HX12 := Aside0.mk (blk_new W21 (.cells #[.slice A12 h1.length c12, .slice B12 h2.length cc12] 29)); clear hb hq12 hn12 hm12)
        | (go_at_call 16; (with_reducible refine (laws_eqDesk.calls k _ _ h1 _ _ h2 _ _ w1 _ _ w2 true _ (Kd.R_reads' HO12.out).2.2 (Kd.R_reads' HO12.out).2.1 (Kd.S_reads' HP12.out).2.2 (Kd.S_reads' HP12.out).2.1 (Kd.R_reads' HO4.out).2.2 (Kd.R_reads' HO4.out).2.1 (Kd.V_reads' HP4.out).2.2 (Kd.V_reads' HP4.out).2.1 E22.out).mono ?_); clear E22; rintro e W22 ⟨rfl, hb⟩; have n_ := Aside0.mk (Kd.R_below HO4.out hb); clear HO4; have HO4 := n_; clear n_; have n_ := Aside0.mk (Kd.V_below HP4.out hb); clear HP4; have HP4 := n_; clear n_; have n_ := Aside0.mk (Kd.R_below HO7.out hb); clear HO7; have HO7 := n_; clear n_; have n_ := Aside0.mk (Kd.S_below HP7.out hb); clear HP7; have HP7 := n_; clear n_; have n_ := Aside0.mk (Kd.R_below HO12.out hb); clear HO12; have HO12 := n_; clear n_; have n_ := Aside0.mk (Kd.S_below HP12.out hb); clear HP12; have HP12 := n_; clear n_; have n_ := Aside0.mk (blk_below HXp.out hb); clear HXp HXpa HXpb; have HXp := n_; clear n_; have HXpa := cell2_0 HXp.out; have HXpb := cell2_1 HXp.out; have n_ := Aside0.mk (blk_below HX4.out hb); clear HX4 HX4a HX4b; have HX4 := n_; clear n_; have HX4a := cell2_0 HX4.out; have HX4b := cell2_1 HX4.out; have n_ := Aside0.mk (blk_below HX5.out hb); clear HX5 HX5a HX5b; have HX5 := n_; clear n_; have HX5a := cell2_0 HX5.out; have HX5b := cell2_1 HX5.out; have n_ := Aside0.mk (blk_below HX7.out hb); clear HX7 HX7a HX7b; have HX7 := n_; clear n_; have HX7a := cell2_0 HX7.out; have HX7b := cell2_1 HX7.out; have n_ := Aside0.mk (blk_below HX12.out hb); clear HX12; have HX12 := n_; clear n_; have HX12a := cell2_0 HX12.out; have HX12b := cell2_1 HX12.out; have n_ := Aside0.mk (below_step HB.out hb); clear HB; have HB := n_; clear n_; have n_ := Aside0.mk (Nat.le_trans HZ.out hb.size); clear HZ; have HZ := n_; clear n_ hb)
        | (go_at_call 18; (with_reducible refine (laws_heldDesk.calls k _ _ y2 _ _ y3 1 q3 _ (Kd.R_reads' HO7.out).2.2 (Kd.R_reads' HO7.out).2.1 (Kd.S_reads' HP7.out).2.2 (Kd.S_reads' HP7.out).2.1 E23.out).mono ?_); clear E23; rintro e W23 ⟨rfl, hb⟩; have n_ := Aside0.mk (Kd.R_below HO4.out hb); clear HO4; have HO4 := n_; clear n_; have n_ := Aside0.mk (Kd.V_below HP4.out hb); clear HP4; have HP4 := n_; clear n_; have n_ := Aside0.mk (Kd.R_below HO7.out hb); clear HO7; have HO7 := n_; clear n_; have n_ := Aside0.mk (Kd.S_below HP7.out hb); clear HP7; have HP7 := n_; clear n_; have n_ := Aside0.mk (Kd.R_below HO12.out hb); clear HO12; have HO12 := n_; clear n_; have n_ := Aside0.mk (Kd.S_below HP12.out hb); clear HP12; have HP12 := n_; clear n_; have n_ := Aside0.mk (blk_below HXp.out hb); clear HXp HXpa HXpb; have HXp := n_; clear n_; have HXpa := cell2_0 HXp.out; have HXpb := cell2_1 HXp.out; have n_ := Aside0.mk (blk_below HX4.out hb); clear HX4 HX4a HX4b; have HX4 := n_; clear n_; have HX4a := cell2_0 HX4.out; have HX4b := cell2_1 HX4.out; have n_ := Aside0.mk (blk_below HX5.out hb); clear HX5 HX5a HX5b; have HX5 := n_; clear n_; have HX5a := cell2_0 HX5.out; have HX5b := cell2_1 HX5.out; have n_ := Aside0.mk (blk_below HX7.out hb); clear HX7 HX7a HX7b; have HX7 := n_; clear n_; have HX7a := cell2_0 HX7.out; have HX7b := cell2_1 HX7.out; have n_ := Aside0.mk (blk_below HX12.out hb); clear HX12 HX12a HX12b; have HX12 := n_; clear n_; have HX12a := cell2_0 HX12.out; have HX12b := cell2_1 HX12.out; have n_ := Aside0.mk (below_step HB.out hb); clear HB; have HB := n_; clear n_; have n_ := Aside0.mk (Nat.le_trans HZ.out hb.size); clear HZ; have HZ := n_; clear n_ hb))
      go_ret
      exact ⟨rfl, HB.out⟩
    · rw [if_neg z] at h
      cases h

end Go.Proofs.Ytbbhdgpiocojaaa.LB
