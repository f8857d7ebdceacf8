/- Printed by a program of this session (wip/lp/lp.py) out of the translation: functions with the same answers as the Go code, and their contracts; no conditions beyond those that each theorem names. -/
import Derived.Test.YtopfhdhdpnenpaaDoorLGx0
import Derived.Test.YtopfhdhdpnenpaaDoorLGx8
import Derived.Test.YtopfhdhdpnenpaaDoorLGx9
import Derived.Test.YtopfhdhdpnenpaaDoorLGx11
namespace Go.Proofs.YtopfhdhdpnenpaaDoor.LG
open Go.RowKit Go.Proofs.YtopfhdhdpnenpaaDoorV.PrintWords Go.Proofs.YtopfhdhdpnenpaaDoorV.PrintLast Go.Proofs.YtopfhdhdpnenpaaDoorV.PrintMore
attribute [local go_sem] max2_int min2_int max_two min_two max_three min_three max_four min_four   -- for this text's walks alone
set_option linter.unusedVariables false
set_option linter.unusedSimpArgs false

/-! ### spec_l20Tree: function 50 -/
def spec_l20Tree.l0 : Nat → Int → Int → List Int → List Int → Int → Int → List Int → Int → Option (List Int × Int)
 | 0, _, _, _, _, _, _, _, _ => none
 | k + 1, x1, x5, x6, x7, x8, x9, x1000, x1001 => if x9 < x5 then ((spec_l20Rd_pick.f k x1000 x1001 x9).bind fun bt296 => (if x8 = 1 then ((spec_l20Rd_pick.f k x1000 bt296.2 2).bind fun bt298 => (if bt298.1 = 0 then (if 0 ≤ x9 then (if x9 < (x6.length : Int) then (if 0 ≤ (wrap64 (x9 - 1)) then (if (wrap64 (x9 - 1)) < (x6.length : Int) then (if 0 ≤ (wrap64 ((rd x6 x9) - 1)) then (if (wrap64 ((rd x6 x9) - 1)) < (x7.length : Int) then (spec_l20Tree.l0 k x1 x5 x6 (x7.set ((wrap64 ((rd x6 x9) - 1)) : Int).toNat (rd x6 (wrap64 (x9 - 1)))) x8 (wrap64 (x9 + 1)) x1000 bt298.2) else (none)) else (none)) else (none)) else (none)) else (none)) else (none)) else (if 0 ≤ x9 then (if x9 < (x6.length : Int) then (if 0 ≤ bt296.1 then (if bt296.1 < (x6.length : Int) then (if 0 ≤ (wrap64 ((rd x6 x9) - 1)) then (if (wrap64 ((rd x6 x9) - 1)) < (x7.length : Int) then (spec_l20Tree.l0 k x1 x5 x6 (x7.set ((wrap64 ((rd x6 x9) - 1)) : Int).toNat (rd x6 bt296.1)) x8 (wrap64 (x9 + 1)) x1000 bt298.2) else (none)) else (none)) else (none)) else (none)) else (none)) else (none)))) else (if 0 ≤ x9 then (if x9 < (x6.length : Int) then (if 0 ≤ bt296.1 then (if bt296.1 < (x6.length : Int) then (if 0 ≤ (wrap64 ((rd x6 x9) - 1)) then (if (wrap64 ((rd x6 x9) - 1)) < (x7.length : Int) then (spec_l20Tree.l0 k x1 x5 x6 (x7.set ((wrap64 ((rd x6 x9) - 1)) : Int).toNat (rd x6 bt296.1)) x8 (wrap64 (x9 + 1)) x1000 bt296.2) else (none)) else (none)) else (none)) else (none)) else (none)) else (none)))) else ((spec_l20Rd_odd.f k x1000 x1001 x1).bind fun bt309 => (if bt309.1 = true then ((spec_l20Rd_pick.f k x1000 bt309.2 4).bind fun bt311 => (if bt311.1 = 0 then (some ((([] : List Int)), bt311.2)) else (if bt311.1 = 1 then (some ((([2, 1, 0] : List Int)), bt311.2)) else (if bt311.1 = 2 then ((spec_l20Rd_pick.f k x1000 bt311.2 x5).bind fun bt319 => (if 0 ≤ bt319.1 then (if bt319.1 < (x7.length : Int) then ((some (x7.set (bt319.1 : Int).toNat 0 : List Int)).bind fun y321 => (if y321.length < 17592186044416 then (some ((y321 ++ [0]), bt319.2)) else (none))) else (none)) else (none))) else ((some (([1, wrap64 (x5 + 1), (-1)] : List Int) : List Int)).bind fun y325 => ((spec_l20Rd_pick.f k x1000 bt311.2 3).bind fun bt328 => (if 0 ≤ bt328.1 then (if bt328.1 < (y325.length : Int) then (if 0 < (x7.length : Int) then (some ((x7.set (0 : Int).toNat (rd y325 bt328.1)), bt328.2)) else (none)) else (none)) else (none)))))))) else (some (x7, bt309.2))))
def spec_l20Tree.f (k : Nat) (s0_0 : List Int) (s0_1 : Int) (a1 : Int) : Option (List Int × Int) := (spec_l20Rd_pick.f k s0_0 s0_1 7).bind fun bt285 => ((spec_l20Order.f k s0_0 bt285.2 (wrap64 (1 + bt285.1))).bind fun bt287 => (if 0 ≤ (wrap64 (1 + bt285.1)) then (if (wrap64 (1 + bt285.1) : Int).toNat ≤ 35184372088832 then ((spec_l20Rd_pick.f k s0_0 bt287.2 2).bind fun bt294 => (spec_l20Tree.l0 k a1 (wrap64 (1 + bt285.1)) bt287.1 (List.replicate (wrap64 (1 + bt285.1) : Int).toNat 0) bt294.1 1 s0_0 bt294.2)) else (none)) else (none)))
theorem spec_l20Tree.mono_l : ∀ k, (∀ y0 y1 y2 y3 y4 y5 y6 y7, LeO (spec_l20Tree.l0 k y0 y1 y2 y3 y4 y5 y6 y7) (spec_l20Tree.l0 (k + 1) y0 y1 y2 y3 y4 y5 y6 y7))
 | 0 => fun _ _ _ _ _ _ _ _ r h => by simp [spec_l20Tree.l0] at h
 | k + 1 => by
  have ih0 := spec_l20Tree.mono_l k
  ·intro y0 y1 y2 y3 y4 y5 y6 y7
   unfold spec_l20Tree.l0
   have := @spec_l20Order.mono; have := @spec_l20Rd_odd.mono; have := @spec_l20Rd_pick.mono; exact zmono
theorem spec_l20Tree.mono : ∀ a0 a1 a2 k, LeO (spec_l20Tree.f k a0 a1 a2) (spec_l20Tree.f (k + 1) a0 a1 a2) := by
 intro a0 a1 a2 k
 have ih0 := spec_l20Tree.mono_l k
 unfold spec_l20Tree.f
 have := @spec_l20Order.mono; have := @spec_l20Rd_odd.mono; have := @spec_l20Rd_pick.mono; exact zmono
def spec_l20Tree.T11 : Bool × List (List Nat × List Nat) := (true, [([], []), ([], []), ([], []), ([1, 2], [1, 2]), ([3], [3]), ([4], [4]), ([], []), ([], []), ([6, 7], [6, 7]), ([8], [8]), ([0, 5, 0, 1, 2, 3, 4, 5, 6, 7, 8, 9], [0, 5]), ([10, 9, 0, 1, 2, 3, 4, 5, 6, 7, 8, 9], [9, 10])])
def spec_l20Tree.B11 : List Nat := [0, 0, 0, 6, 14, 30, 0, 0, 192, 448, 1023, 2047]
theorem spec_l20Tree.tab11 : rtab .any (opsOf Tryd.f50 11) = spec_l20Tree.T11 := by kernel_rfl
theorem spec_l20Tree.bits11 : waitsOk spec_l20Tree.T11.2 spec_l20Tree.B11 = true := by kernel_rfl
set_option maxHeartbeats 8000000 in
set_option maxRecDepth 100000 in
theorem spec_l20Tree.calls (k : Nat) (g : Nat) (s0_0 : List Int) (s0_1 : Int) (a1 : Int) (r1 : List Int) (r2 : Int) (w0 w : World) (hI : IsS73 w0 w g s0_0 s0_1) (hB : Below w0.heap.size w0 w) (h : spec_l20Tree.f k s0_0 s0_1 a1 = some (r1, r2)) :
  Calls Tryd.prog 50 #[.pointer (some ⟨g, 0, none⟩), .int .i64 a1] w fun e w' => ∃ v0_ : Value, e = .returned (v0_) ∧ Kd.R (Kd.int .i64) 3 w' w.heap.size (fun _ => True) v0_ r1 ∧ IsS73 w0 w' g s0_0 r2 ∧ Below w0.heap.size w0 w' ∧ KeepBut w w' g none := by
 have HI0:=zM hI
 have HK:=zM (KeepBut.refl w g none)
 have HL:=zM hB.size
 clear hI
 have HW0:=zM hB.size
 have HB:=zM hB
 clear hB
 have H : ((spec_l20Rd_pick.f k s0_0 s0_1 7).bind fun bt285 => ((spec_l20Order.f k s0_0 bt285.2 (wrap64 (1 + bt285.1))).bind fun bt287 => (if 0 ≤ (wrap64 (1 + bt285.1)) then (if (wrap64 (1 + bt285.1) : Int).toNat ≤ 35184372088832 then ((spec_l20Rd_pick.f k s0_0 bt287.2 2).bind fun bt294 => (spec_l20Tree.l0 k a1 (wrap64 (1 + bt285.1)) bt287.1 (List.replicate (wrap64 (1 + bt285.1) : Int).toNat 0) bt294.1 1 s0_0 bt294.2)) else (none)) else (none)))) = some (r1, r2) := h
 clear h
 replace H := zb H; obtain ⟨⟨t285, t286⟩, A3, H⟩ := H; try dsimp only at H
 replace H := zb H; obtain ⟨⟨t287, t290⟩, A4, H⟩ := H; try dsimp only at H
 obtain ⟨ji5, hji5⟩ : ∃ j_ : Int, (wrap64 (1 + t285)) = j_ := ⟨_, rfl⟩
 replace H : (if 0 ≤ (ji5) then (if (ji5 : Int).toNat ≤ 35184372088832 then ((spec_l20Rd_pick.f k s0_0 t290 2).bind fun bt294 => (spec_l20Tree.l0 k a1 ji5 t287 (List.replicate (ji5 : Int).toNat 0) bt294.1 1 s0_0 bt294.2)) else (none)) else (none)) = some (r1, r2) := by first | (rw [hji5] at H; exact H) | (simp only [hji5] at H ⊢; exact H)
 (try rw [hji5] at A3)
 (try rw [hji5] at A4)
 have hji5w : (IntKind.i64.wrap (1 + t285)) = ji5 := (i64_w _).trans hji5
 by_cases c6 : 0 ≤ (ji5)
 ·rw [if_pos c6] at H
  have c6b0 := eq_true c6
  have c6b1 := decide_eq_true c6
  clear c6
  by_cases c7 : (ji5 : Int).toNat ≤ 35184372088832
  ·rw [if_pos c7] at H
   have c7b0 := eq_true c7
   have c7b1 := decide_eq_true c7
   clear c7
   obtain ⟨y291, hy291⟩ : ∃ y_ : List Int, y_ = (List.replicate (ji5 : Int).toNat 0) := ⟨_, rfl⟩
   replace H : ((spec_l20Rd_pick.f k s0_0 t290 2).bind fun bt294 => (spec_l20Tree.l0 k a1 ji5 t287 y291 bt294.1 1 s0_0 bt294.2)) = some (r1, r2) := by first | (rw [hy291]; with_reducible exact H) | (have H2_ := (Option.bind_some _ _).symm.trans H; rw [hy291]; with_reducible exact H2_) | (have H2_ := (Option.bind_some _ _).symm.trans H; with_reducible exact H2_) | with_reducible exact H | (rw [hy291]; exact H) | exact H
   have Ny291:=zM hy291
   clear hy291
   replace H := zb H; obtain ⟨⟨t294, t295⟩, A8, H⟩ := H; try dsimp only at H
   have H':=zM H
   clear H
   go_enter Tryd.func50, Tryd.ntmps50
   go_wp2_with (first | (refine zg 43 (some 12) Tryd.func43 #[.pointer (some ⟨g, 0, none⟩), .int .i64 7] ?_; (with_reducible refine (spec_l20Rd_pick.calls k g s0_0 s0_1 7 t285 t286 w0 _ (zs14 HI0.out) (zs16 HB.out HI0.out) A3.out).mono ?_); rintro e w9 ⟨rfl, hi, hb, hk⟩; refine ⟨_, rfl, ?_⟩; replace HK:=zM (KeepBut.trans (zs15 HK.out) hk (.inl rfl)); replace HB:=zM (hb); replace HI0:=zM (hi); clear hb hk hi) | (refine zg 53 (some 16) Tryd.func53 #[.pointer (some ⟨g, 0, none⟩), .int .i64 ji5] ?_ (hargs := by (try simp only [List.map_toArray, List.map_cons, List.map_nil]); first | done | (simp only [hji5]; rfl) | rfl); (with_reducible refine (spec_l20Order.calls k g s0_0 t286 ji5 t287 t290 w0 _ (zs14 HI0.out) (zs16 HB.out HI0.out) A4.out).mono ?_); rintro e w10 ⟨v288, rfl, ho0, hi, hb, hk⟩; refine ⟨_, rfl, ?_⟩; have HO289:=zM (Kd.R_lower ho0 (keep_size (w := w) (g := g) (row := none) (zs15 HK.out))); replace HK:=zM (KeepBut.trans (zs15 HK.out) hk (.inl rfl)); replace HB:=zM (hb); replace HI0:=zM (hi); clear hb hk hi ho0) | ((with_reducible refine gate_dst (N := 18) rfl ?_); refine Kd.R_make (Kd.int .i64) _ 3 rfl (N := 18) rfl 54 _ _ rfl ji5 rfl rfl Tryd.underlying54 (.int .i64 0) 8 info3 rfl (by decide) (by omega) 0 (ok := fun _ => True) (okp := fun _ => True) rfl (fun _ hk => hk) trivial (of_decide_eq_true zs8) (Nat.le_trans (Nat.mul_le_mul_right _ (of_decide_eq_true zs8 : ji5.toNat ≤ 35184372088832)) (by omega)) (Below.refl _ _) (Nat.le_refl _) ?_; intro v292 w11 ho12 hb hg_ hnew_; clear hg_ hnew_; (first | rw [← Ny291.out] at ho12 | (simp only [Int.reduceToNat] at ho12; rw [← Ny291.out] at ho12)); have HO293:=zM (Kd.R_lower (Kd.R_new' ho12 (Kd.R_lt (zs11 HO289.out))) (keep_size (w := w) (g := g) (row := none) (zs15 HK.out))); replace HO289:=zM (Kd.R_elder' (zs11 HO289.out) (Kd.R_base ho12) hb); replace HK:=zM (KeepBut.trans (zs15 HK.out) (KeepBut.of_below hb g none) (.inl rfl)); replace HB:=zM (below_step (zs16 HB.out HI0.out) hb); replace HI0:=zM (IsS73.below (zs14 HI0.out) hb); clear hb ho12) | (refine zg 43 (some 20) Tryd.func43 #[.pointer (some ⟨g, 0, none⟩), .int .i64 2] ?_; (with_reducible refine (spec_l20Rd_pick.calls k g s0_0 t290 2 t294 t295 w0 _ (zs14 HI0.out) (zs16 HB.out HI0.out) A8.out).mono ?_); rintro e w13 ⟨rfl, hi, hb, hk⟩; refine ⟨_, rfl, ?_⟩; replace HO289:=zM (Kd.R_mono (Kd.R_keep (IsS73.apart (show IsS73 w0 _ g s0_0 t290 from (zs14 HI0.out)) (zs11 HO289.out) (by decide)) hk (fun _ h => h.2)) (fun _ h => h.1)); replace HO293:=zM (Kd.R_mono (Kd.R_keep (IsS73.apart (show IsS73 w0 _ g s0_0 t290 from (zs14 HI0.out)) (zs11 HO293.out) (by decide)) hk (fun _ h => h.2)) (fun _ h => h.1)); replace HK:=zM (KeepBut.trans (zs15 HK.out) hk (.inl rfl)); replace HB:=zM (hb); replace HI0:=zM (hi); clear hb hk hi))
   go_loopg [9] k (fun kq v9 w' => ∃ (x7_1 : List Int) (x9_1 : Int) (x1001_1 : Int), v9 = .int .i64 x9_1 ∧ Aside0 (spec_l20Tree.l0 kq a1 ji5 t287 x7_1 t294 x9_1 s0_0 x1001_1 = some (r1, r2)) ∧ Aside0 (kq ≤ k) ∧ Aside0 (Kd.R (Kd.int .i64) 3 w' w.heap.size (fun k_ => some k_ ≠ (v292 : Value).ownBlock) v288 t287) ∧ Aside0 (Kd.R (Kd.int .i64) 3 w' w.heap.size (fun k_ => some k_ ≠ (v288 : Value).ownBlock) v292 x7_1) ∧ Aside0 (IsS73 w0 w' g s0_0 x1001_1) ∧ Aside0 (KeepBut w w' g none) ∧ Aside0 (Below w0.heap.size w0 w'))
   case atStart => exact ⟨(y291), (1), (t295), zs6, H', ⟨Nat.le_refl _⟩, ⟨by (with_reducible repeat (first | apply Kd.R_alloc | apply Kd.R_drewN | apply Kd.R_drew)); exact Kd.R_mono HO289.out (fun _ hk => hk.2)⟩, ⟨by (with_reducible repeat (first | apply Kd.R_alloc | apply Kd.R_drewN | apply Kd.R_drew)); exact Kd.R_mono HO293.out (fun _ hk => hk.2)⟩, ⟨(zs14 HI0.out)⟩, ⟨(zs15 HK.out)⟩, ⟨(zs16 HB.out HI0.out)⟩⟩
   case round =>
    clear H'
    try clear p2
    try clear c4
    try clear c5
    try clear c6
    try clear c6b0
    try clear c6b1
    try clear p6
    try clear c7
    try clear c7b0
    try clear c7b1
    obtain ⟨x7_1, x9_1, x1001_1, rfl, HA, HK1, HO_6, HO_7, HI0, HK, HB⟩ := hrel
    cases gk with
    | zero => exact absurd HA.out (by simp [spec_l20Tree.l0])
    | succ k1 =>
     have H := HA.out
     clear HA
     simp only [spec_l20Tree.l0] at H
     by_cases c14 : x9_1 < ji5
     ·rw [if_pos c14] at H
      have c14b0 := decide_eq_true c14
      clear c14
      replace H := zb H; obtain ⟨⟨t296, t297⟩, A15, H⟩ := H; try dsimp only at H
      by_cases c16 : t294 = 1
      ·rw [if_pos c16] at H
       have c16b0 := beq_iff_eq.mpr c16
       have c16b1 := bne_eq_false_iff_eq.mpr c16
       clear c16
       replace H := zb H; obtain ⟨⟨t298, t299⟩, A17, H⟩ := H; try dsimp only at H
       by_cases c18 : t298 = 0
       ·rw [if_pos c18] at H
        have c18b0 := beq_iff_eq.mpr c18
        have c18b1 := bne_eq_false_iff_eq.mpr c18
        clear c18
        by_cases c19 : 0 ≤ x9_1
        ·rw [if_pos c19] at H
         have c19b0 := decide_eq_true c19
         clear c19
         by_cases c20 : x9_1 < (t287.length : Int)
         ·rw [if_pos c20] at H
          have c20b0 := decide_eq_true c20
          clear c20
          obtain ⟨ji21, hji21⟩ : ∃ j_ : Int, (wrap64 (x9_1 - 1)) = j_ := ⟨_, rfl⟩
          replace H : (if 0 ≤ (ji21) then (if (ji21) < (t287.length : Int) then (if 0 ≤ (wrap64 ((rd t287 x9_1) - 1)) then (if (wrap64 ((rd t287 x9_1) - 1)) < (x7_1.length : Int) then (spec_l20Tree.l0 k1 a1 ji5 t287 (x7_1.set ((wrap64 ((rd t287 x9_1) - 1)) : Int).toNat (rd t287 (ji21))) t294 (wrap64 (x9_1 + 1)) s0_0 t299) else (none)) else (none)) else (none)) else (none)) = some (r1, r2) := by first | (rw [hji21] at H; exact H) | (simp only [hji21] at H ⊢; exact H)
          (try rw [hji21] at A15)
          (try rw [hji21] at A17)
          have hji21w : (IntKind.i64.wrap (x9_1 - 1)) = ji21 := (i64_w _).trans hji21
          by_cases c22 : 0 ≤ (ji21)
          ·rw [if_pos c22] at H
           have c22b0 := decide_eq_true c22
           clear c22
           by_cases c23 : (ji21) < (t287.length : Int)
           ·rw [if_pos c23] at H
            have c23b0 := decide_eq_true c23
            clear c23
            obtain ⟨ji24, hji24⟩ : ∃ j_ : Int, (wrap64 ((rd t287 x9_1) - 1)) = j_ := ⟨_, rfl⟩
            replace H : (if 0 ≤ (ji24) then (if (ji24) < (x7_1.length : Int) then (spec_l20Tree.l0 k1 a1 ji5 t287 (x7_1.set ((ji24) : Int).toNat (rd t287 (ji21))) t294 (wrap64 (x9_1 + 1)) s0_0 t299) else (none)) else (none)) = some (r1, r2) := by first | (rw [hji24] at H; exact H) | (simp only [hji24] at H ⊢; exact H)
            (try rw [hji24] at A15)
            (try rw [hji24] at A17)
            have hji24w : (IntKind.i64.wrap ((rd t287 x9_1) - 1)) = ji24 := (i64_w _).trans hji24
            by_cases c25 : 0 ≤ (ji24)
            ·rw [if_pos c25] at H
             have c25b0 := decide_eq_true c25
             clear c25
             by_cases c26 : (ji24) < (x7_1.length : Int)
             ·rw [if_pos c26] at H
              have c26b0 := decide_eq_true c26
              clear c26
              obtain ⟨y302, hy302⟩ : ∃ y_ : List Int, y_ = (x7_1.set ((ji24) : Int).toNat (rd t287 (ji21))) := ⟨_, rfl⟩
              replace H : (spec_l20Tree.l0 k1 a1 ji5 t287 y302 t294 (wrap64 (x9_1 + 1)) s0_0 t299) = some (r1, r2) := by first | (rw [hy302]; with_reducible exact H) | (have H2_ := (Option.bind_some _ _).symm.trans H; rw [hy302]; with_reducible exact H2_) | (have H2_ := (Option.bind_some _ _).symm.trans H; with_reducible exact H2_) | with_reducible exact H | (rw [hy302]; exact H) | exact H
              have Ny302:=zM hy302
              clear hy302
              have H':=zM H
              clear H
              try go_wp2_with (first | (refine zg 43 (some 28) Tryd.func43 #[.pointer (some ⟨g, 0, none⟩), .int .i64 x9_1] ?_; (with_reducible refine (spec_l20Rd_pick.calls k1 g s0_0 x1001_1 x9_1 t296 t297 w0 _ (zs14 HI0.out) (zs16 HB.out HI0.out) A15.out).mono ?_); rintro e w28 ⟨rfl, hi, hb, hk⟩; refine ⟨_, rfl, ?_⟩; replace HO_6:=zM (Kd.R_mono (Kd.R_keep (IsS73.apart (show IsS73 w0 _ g s0_0 x1001_1 from (zs14 HI0.out)) (zs11 HO_6.out) (by decide)) hk (fun _ h => h.2)) (fun _ h => h.1)); replace HO_7:=zM (Kd.R_mono (Kd.R_keep (IsS73.apart (show IsS73 w0 _ g s0_0 x1001_1 from (zs14 HI0.out)) (zs11 HO_7.out) (by decide)) hk (fun _ h => h.2)) (fun _ h => h.1)); replace HK:=zM (KeepBut.trans (zs15 HK.out) hk (.inl rfl)); replace HB:=zM (hb); replace HI0:=zM (hi); clear hb hk hi) | (go_at_call 43; (with_reducible refine (spec_l20Rd_pick.calls k1 g s0_0 t297 2 t298 t299 w0 _ (zs14 HI0.out) (zs16 HB.out HI0.out) A17.out).mono ?_); rintro e w29 ⟨rfl, hi, hb, hk⟩; replace HO_6:=zM (Kd.R_mono (Kd.R_keep (IsS73.apart (show IsS73 w0 _ g s0_0 t297 from (zs14 HI0.out)) (zs11 HO_6.out) (by decide)) hk (fun _ h => h.2)) (fun _ h => h.1)); replace HO_7:=zM (Kd.R_mono (Kd.R_keep (IsS73.apart (show IsS73 w0 _ g s0_0 t297 from (zs14 HI0.out)) (zs11 HO_7.out) (by decide)) hk (fun _ h => h.2)) (fun _ h => h.1)); replace HK:=zM (KeepBut.trans (zs15 HK.out) hk (.inl rfl)); replace HB:=zM (hb); replace HI0:=zM (hi); clear hb hk hi))
              replace HO_6:=zM (Kd.R_drew HO_6.out)
              replace HO_7:=zM (Kd.R_drew HO_7.out)
              replace HI0:=zM (IsS73.drew HI0.out)
              replace HK:=zM (keep_drew HK.out)
              replace HB:=zM (zC HB.out)
              obtain ⟨Ao31, co31, eo31⟩ := Kd.R_slice HO_6.out
              (first | subst eo31 | (injection eo31 with f1_ f2_ f3_; have f4_ := f1_.symm; have f5_ := f3_.symm; clear f1_ f2_ f3_; subst f4_; subst f5_))
              have p300 : 0 ≤ (x9_1 : Int) := of_decide_eq_true zs8
              have q300 : x9_1 < (t287.length : Int) := of_decide_eq_true zs8
              obtain ⟨ad300, e300, hx300_0⟩ := Kd.at_int (Kd.R_reads' HO_6.out).2.2 x9_1 p300 q300
              cases e300
              replace p300 := eq_true p300
              replace q300 := eq_true q300
              have p301 : 0 ≤ ((ji21) : Int) := of_decide_eq_true zs8
              have q301 : (ji21) < (t287.length : Int) := of_decide_eq_true zs8
              obtain ⟨ad301, e301, hx301_0⟩ := Kd.at_int (Kd.R_reads' HO_6.out).2.2 (ji21) p301 q301
              obtain rfl : ad300 = ad301 := (by injection e301)
              replace p301 := eq_true p301
              replace q301 := eq_true q301
              have p27 : 0 ≤ ((ji24) : Int) := of_decide_eq_true zs8
              have q27 : ((ji24) : Int) < ((x7_1.length : Int) : Int) := of_decide_eq_true zs8
              obtain ⟨go27, co27, eo27, gb27, gl27, cl27, HG27⟩ := Kd.R_form HO_7.out (by omega)
              (first | cases eo27 | (injection eo27 with ea_ en_ ec_; (first | subst ea_ | (injection ea_ with ea_; subst ea_)); subst ec_; clear en_))
              have GB27:=zM gb27
              have GG27:=zM HG27
              clear gb27 gl27 HG27
              obtain ⟨hx27_0, hf27_0⟩ := Kd.R_celln 0 HO_7.out ((ji24) : Int) p27 q27
              replace p27 := eq_true p27
              replace q27 := eq_true q27
              have HN0_go27:=zM (show g ≠ go27 from by have h_ := IsS73.own_ne HI0.out HO_7.out (by decide); intro e_; exact h_ (by rw [e_]; rfl))
              have HP32 := Kd.R_putn HO_7.out ((ji24) : Int) (rd t287 (ji21))
              rw [← Ny302.out] at HP32
              have HQ32:=zM HP32
              clear HP32
              refine start_ (n := 12) (S := fun w' => w'.cell? (ad300.add (x9_1).toNat) = some (.int .i64 (rd t287 x9_1)) ∧ w'.cell? (ad300.add ((ji21)).toNat) = some (.int .i64 (rd t287 (ji21)))) (ds := [11]) (zL 12 0) (by kernel_rfl) rfl rfl ⟨hx300_0, hx301_0⟩ (fun hHeld => ?_); refine with_tabW spec_l20Tree.tab11 spec_l20Tree.bits11 (fun HT_ HW_ => ?_)
              generalize w29.drew = w30 at HO_6 HO_7 HI0 HK HB GG27 HQ32 hf27_0 hx27_0 hx300_0 hx301_0 hHeld ⊢
              refine zp 0 (some 38) (zL 12 1) HT_ ?_
              refine zp 1 (some 39) (zL 12 3) HT_ ?_
              refine zp 2 (some 40) (zL 12 7) HT_ ?_
              refine zp 3 (some 41) (zL 12 15) HT_ ?_
              refine zp 6 (some 44) (zL 12 79) HT_ ?_
              refine zp 7 (some 45) (zL 12 207) HT_ ?_
              refine zp 8 (some 46) (zL 12 463) HT_ ?_
              refine take_ (i := 4) (N := some 42) (v := ?_) (a' := ?_) (zL 12 479) rfl rfl (take_ofW HT_.out HW_.out (by kernel_rfl)) (fun _ _ _ h => h) (Or.inl ⟨by rfl, ?_⟩) hHeld ?_ ?_
              rotate_left
              ·rintro w' ⟨s0, s1⟩
               go_simp
               with_reducible rfl
              rotate_left
              ·simp only [Act.put, zE, zF, zG, i64_w, i32_w]
               rfl
              refine zp 5 (some 43) (zL 12 511) HT_ ?_
              refine take_ (i := 9) (N := some 47) (v := ?_) (a' := ?_) (zL 12 1023) rfl rfl (take_ofW HT_.out HW_.out (by kernel_rfl)) (fun _ _ _ h => h) (Or.inl ⟨by rfl, ?_⟩) hHeld ?_ ?_
              rotate_left
              ·rintro w' ⟨s0, s1⟩
               go_simp
               with_reducible rfl
              rotate_left
              ·simp only [Act.put, zE, zF, zG, i64_w, i32_w]
               rfl
              refine zp 10 (some 48) (zL 12 2047) HT_ ?_
              refine last_ (i := 11) (N := none) (zL 12 4095) rfl rfl (one_of HT_.out (by kernel_rfl)) (by decide) (fun K hK => ?_)
              refine skip_ (w1 := ?_) (by rfl) rfl ?_ ?_
              rotate_left
              ·go_simp
               rfl
              refine hK.out _ _ ?_
              clear hK K
              refine done_ (done_of HT_.out (by kernel_rfl)) ?_
              try go_wp2
              go_roundg k1
              case measure => have := HK1.out; omega
              case rel => exact ⟨(y302), (wrap64 (x9_1 + 1)), (t299), zs6, H', ⟨by have := HK1.out; omega⟩, ⟨by (with_reducible repeat (first | apply Kd.R_alloc | apply Kd.R_drewN | apply Kd.R_drew)); exact Kd.R_mono (Kd.R_far (p := ⟨go27, ((ji24) : Int).toNat, none⟩) (Kd.R_mono HO_6.out (fun k_ hk => (⟨hk, fun e_ => hk (by rw [e_]; rfl)⟩ : _ ∧ k_ ≠ go27))) (fun _ hk => hk.2) (.int .i64 (rd t287 (ji21)))) (fun _ hk => hk.1)⟩, ⟨by (with_reducible repeat (first | apply Kd.R_alloc | apply Kd.R_drewN | apply Kd.R_drew)); exact HQ32.out⟩, ⟨(zs19 HI0.out HN0_go27.out)⟩, ⟨(zs17 HK.out GB27.out)⟩, ⟨(zs24 HB.out HL.out GB27.out HI0.out)⟩⟩
             ·rw [if_neg c26] at H
              exact absurd H (by simp)
            ·rw [if_neg c25] at H
             exact absurd H (by simp)
           ·rw [if_neg c23] at H
            exact absurd H (by simp)
          ·rw [if_neg c22] at H
           exact absurd H (by simp)
         ·rw [if_neg c20] at H
          exact absurd H (by simp)
        ·rw [if_neg c19] at H
         exact absurd H (by simp)
       ·rw [if_neg c18] at H
        have c18b0 := beq_eq_false_iff_ne.mpr c18
        have c18b1 := bne_iff_ne.mpr c18
        by_cases c33 : 0 ≤ x9_1
        ·rw [if_pos c33] at H
         have c33b0 := decide_eq_true c33
         clear c33
         by_cases c34 : x9_1 < (t287.length : Int)
         ·rw [if_pos c34] at H
          have c34b0 := decide_eq_true c34
          clear c34
          by_cases c35 : 0 ≤ t296
          ·rw [if_pos c35] at H
           have c35b0 := decide_eq_true c35
           clear c35
           by_cases c36 : t296 < (t287.length : Int)
           ·rw [if_pos c36] at H
            have c36b0 := decide_eq_true c36
            clear c36
            obtain ⟨ji37, hji37⟩ : ∃ j_ : Int, (wrap64 ((rd t287 x9_1) - 1)) = j_ := ⟨_, rfl⟩
            replace H : (if 0 ≤ (ji37) then (if (ji37) < (x7_1.length : Int) then (spec_l20Tree.l0 k1 a1 ji5 t287 (x7_1.set ((ji37) : Int).toNat (rd t287 t296)) t294 (wrap64 (x9_1 + 1)) s0_0 t299) else (none)) else (none)) = some (r1, r2) := by first | (rw [hji37] at H; exact H) | (simp only [hji37] at H ⊢; exact H)
            (try rw [hji37] at A15)
            (try rw [hji37] at A17)
            have hji37w : (IntKind.i64.wrap ((rd t287 x9_1) - 1)) = ji37 := (i64_w _).trans hji37
            by_cases c38 : 0 ≤ (ji37)
            ·rw [if_pos c38] at H
             have c38b0 := decide_eq_true c38
             clear c38
             by_cases c39 : (ji37) < (x7_1.length : Int)
             ·rw [if_pos c39] at H
              have c39b0 := decide_eq_true c39
              clear c39
              obtain ⟨y305, hy305⟩ : ∃ y_ : List Int, y_ = (x7_1.set ((ji37) : Int).toNat (rd t287 t296)) := ⟨_, rfl⟩
              replace H : (spec_l20Tree.l0 k1 a1 ji5 t287 y305 t294 (wrap64 (x9_1 + 1)) s0_0 t299) = some (r1, r2) := by first | (rw [hy305]; with_reducible exact H) | (have H2_ := (Option.bind_some _ _).symm.trans H; rw [hy305]; with_reducible exact H2_) | (have H2_ := (Option.bind_some _ _).symm.trans H; with_reducible exact H2_) | with_reducible exact H | (rw [hy305]; exact H) | exact H
              have Ny305:=zM hy305
              clear hy305
              have H':=zM H
              clear H
              try go_wp2_with (first | (refine zg 43 (some 28) Tryd.func43 #[.pointer (some ⟨g, 0, none⟩), .int .i64 x9_1] ?_; (with_reducible refine (spec_l20Rd_pick.calls k1 g s0_0 x1001_1 x9_1 t296 t297 w0 _ (zs14 HI0.out) (zs16 HB.out HI0.out) A15.out).mono ?_); rintro e w41 ⟨rfl, hi, hb, hk⟩; refine ⟨_, rfl, ?_⟩; replace HO_6:=zM (Kd.R_mono (Kd.R_keep (IsS73.apart (show IsS73 w0 _ g s0_0 x1001_1 from (zs14 HI0.out)) (zs11 HO_6.out) (by decide)) hk (fun _ h => h.2)) (fun _ h => h.1)); replace HO_7:=zM (Kd.R_mono (Kd.R_keep (IsS73.apart (show IsS73 w0 _ g s0_0 x1001_1 from (zs14 HI0.out)) (zs11 HO_7.out) (by decide)) hk (fun _ h => h.2)) (fun _ h => h.1)); replace HK:=zM (KeepBut.trans (zs15 HK.out) hk (.inl rfl)); replace HB:=zM (hb); replace HI0:=zM (hi); clear hb hk hi) | (go_at_call 43; (with_reducible refine (spec_l20Rd_pick.calls k1 g s0_0 t297 2 t298 t299 w0 _ (zs14 HI0.out) (zs16 HB.out HI0.out) A17.out).mono ?_); rintro e w42 ⟨rfl, hi, hb, hk⟩; replace HO_6:=zM (Kd.R_mono (Kd.R_keep (IsS73.apart (show IsS73 w0 _ g s0_0 t297 from (zs14 HI0.out)) (zs11 HO_6.out) (by decide)) hk (fun _ h => h.2)) (fun _ h => h.1)); replace HO_7:=zM (Kd.R_mono (Kd.R_keep (IsS73.apart (show IsS73 w0 _ g s0_0 t297 from (zs14 HI0.out)) (zs11 HO_7.out) (by decide)) hk (fun _ h => h.2)) (fun _ h => h.1)); replace HK:=zM (KeepBut.trans (zs15 HK.out) hk (.inl rfl)); replace HB:=zM (hb); replace HI0:=zM (hi); clear hb hk hi))
              replace HO_6:=zM (Kd.R_drew HO_6.out)
              replace HO_7:=zM (Kd.R_drew HO_7.out)
              replace HI0:=zM (IsS73.drew HI0.out)
              replace HK:=zM (keep_drew HK.out)
              replace HB:=zM (zC HB.out)
              obtain ⟨Ao44, co44, eo44⟩ := Kd.R_slice HO_6.out
              (first | subst eo44 | (injection eo44 with f1_ f2_ f3_; have f4_ := f1_.symm; have f5_ := f3_.symm; clear f1_ f2_ f3_; subst f4_; subst f5_))
              have p303 : 0 ≤ (x9_1 : Int) := of_decide_eq_true zs8
              have q303 : x9_1 < (t287.length : Int) := of_decide_eq_true zs8
              obtain ⟨ad303, e303, hx303_0⟩ := Kd.at_int (Kd.R_reads' HO_6.out).2.2 x9_1 p303 q303
              cases e303
              replace p303 := eq_true p303
              replace q303 := eq_true q303
              have p304 : 0 ≤ (t296 : Int) := of_decide_eq_true zs8
              have q304 : t296 < (t287.length : Int) := of_decide_eq_true zs8
              obtain ⟨ad304, e304, hx304_0⟩ := Kd.at_int (Kd.R_reads' HO_6.out).2.2 t296 p304 q304
              obtain rfl : ad303 = ad304 := (by injection e304)
              replace p304 := eq_true p304
              replace q304 := eq_true q304
              have p40 : 0 ≤ ((ji37) : Int) := of_decide_eq_true zs8
              have q40 : ((ji37) : Int) < ((x7_1.length : Int) : Int) := of_decide_eq_true zs8
              obtain ⟨go40, co40, eo40, gb40, gl40, cl40, HG40⟩ := Kd.R_form HO_7.out (by omega)
              (first | cases eo40 | (injection eo40 with ea_ en_ ec_; (first | subst ea_ | (injection ea_ with ea_; subst ea_)); subst ec_; clear en_))
              have GB40:=zM gb40
              have GG40:=zM HG40
              clear gb40 gl40 HG40
              obtain ⟨hx40_0, hf40_0⟩ := Kd.R_celln 0 HO_7.out ((ji37) : Int) p40 q40
              replace p40 := eq_true p40
              replace q40 := eq_true q40
              have HN0_go40:=zM (show g ≠ go40 from by have h_ := IsS73.own_ne HI0.out HO_7.out (by decide); intro e_; exact h_ (by rw [e_]; rfl))
              have HP45 := Kd.R_putn HO_7.out ((ji37) : Int) (rd t287 t296)
              rw [← Ny305.out] at HP45
              have HQ45:=zM HP45
              clear HP45
              refine start_ (n := 12) (S := fun w' => w'.cell? (ad303.add (x9_1).toNat) = some (.int .i64 (rd t287 x9_1)) ∧ w'.cell? (ad303.add (t296).toNat) = some (.int .i64 (rd t287 t296))) (ds := [11]) (zL 12 0) (by kernel_rfl) rfl rfl ⟨hx303_0, hx304_0⟩ (fun hHeld => ?_); refine with_tabW spec_l20Tree.tab11 spec_l20Tree.bits11 (fun HT_ HW_ => ?_)
              generalize w42.drew = w43 at HO_6 HO_7 HI0 HK HB GG40 HQ45 hf40_0 hx303_0 hx304_0 hx40_0 hHeld ⊢
              refine zp 0 (some 38) (zL 12 1) HT_ ?_
              refine zp 1 (some 39) (zL 12 3) HT_ ?_
              refine zp 2 (some 40) (zL 12 7) HT_ ?_
              refine zp 3 (some 41) (zL 12 15) HT_ ?_
              refine zp 6 (some 44) (zL 12 79) HT_ ?_
              refine zp 7 (some 45) (zL 12 207) HT_ ?_
              refine zp 8 (some 46) (zL 12 463) HT_ ?_
              refine take_ (i := 4) (N := some 42) (v := ?_) (a' := ?_) (zL 12 479) rfl rfl (take_ofW HT_.out HW_.out (by kernel_rfl)) (fun _ _ _ h => h) (Or.inl ⟨by rfl, ?_⟩) hHeld ?_ ?_
              rotate_left
              ·rintro w' ⟨s0, s1⟩
               go_simp
               with_reducible rfl
              rotate_left
              ·simp only [Act.put, zE, zF, zG, i64_w, i32_w]
               rfl
              refine zp 5 (some 43) (zL 12 511) HT_ ?_
              refine take_ (i := 9) (N := some 47) (v := ?_) (a' := ?_) (zL 12 1023) rfl rfl (take_ofW HT_.out HW_.out (by kernel_rfl)) (fun _ _ _ h => h) (Or.inl ⟨by rfl, ?_⟩) hHeld ?_ ?_
              rotate_left
              ·rintro w' ⟨s0, s1⟩
               go_simp
               with_reducible rfl
              rotate_left
              ·simp only [Act.put, zE, zF, zG, i64_w, i32_w]
               rfl
              refine zp 10 (some 48) (zL 12 2047) HT_ ?_
              refine last_ (i := 11) (N := none) (zL 12 4095) rfl rfl (one_of HT_.out (by kernel_rfl)) (by decide) (fun K hK => ?_)
              refine skip_ (w1 := ?_) (by rfl) rfl ?_ ?_
              rotate_left
              ·go_simp
               rfl
              refine hK.out _ _ ?_
              clear hK K
              refine done_ (done_of HT_.out (by kernel_rfl)) ?_
              try go_wp2
              go_roundg k1
              case measure => have := HK1.out; omega
              case rel => exact ⟨(y305), (wrap64 (x9_1 + 1)), (t299), zs6, H', ⟨by have := HK1.out; omega⟩, ⟨by (with_reducible repeat (first | apply Kd.R_alloc | apply Kd.R_drewN | apply Kd.R_drew)); exact Kd.R_mono (Kd.R_far (p := ⟨go40, ((ji37) : Int).toNat, none⟩) (Kd.R_mono HO_6.out (fun k_ hk => (⟨hk, fun e_ => hk (by rw [e_]; rfl)⟩ : _ ∧ k_ ≠ go40))) (fun _ hk => hk.2) (.int .i64 (rd t287 t296))) (fun _ hk => hk.1)⟩, ⟨by (with_reducible repeat (first | apply Kd.R_alloc | apply Kd.R_drewN | apply Kd.R_drew)); exact HQ45.out⟩, ⟨(zs19 HI0.out HN0_go40.out)⟩, ⟨(zs17 HK.out GB40.out)⟩, ⟨(zs24 HB.out HL.out GB40.out HI0.out)⟩⟩
             ·rw [if_neg c39] at H
              exact absurd H (by simp)
            ·rw [if_neg c38] at H
             exact absurd H (by simp)
           ·rw [if_neg c36] at H
            exact absurd H (by simp)
          ·rw [if_neg c35] at H
           exact absurd H (by simp)
         ·rw [if_neg c34] at H
          exact absurd H (by simp)
        ·rw [if_neg c33] at H
         exact absurd H (by simp)
      ·rw [if_neg c16] at H
       have c16b0 := beq_eq_false_iff_ne.mpr c16
       have c16b1 := bne_iff_ne.mpr c16
       by_cases c46 : 0 ≤ x9_1
       ·rw [if_pos c46] at H
        have c46b0 := decide_eq_true c46
        clear c46
        by_cases c47 : x9_1 < (t287.length : Int)
        ·rw [if_pos c47] at H
         have c47b0 := decide_eq_true c47
         clear c47
         by_cases c48 : 0 ≤ t296
         ·rw [if_pos c48] at H
          have c48b0 := decide_eq_true c48
          clear c48
          by_cases c49 : t296 < (t287.length : Int)
          ·rw [if_pos c49] at H
           have c49b0 := decide_eq_true c49
           clear c49
           obtain ⟨ji50, hji50⟩ : ∃ j_ : Int, (wrap64 ((rd t287 x9_1) - 1)) = j_ := ⟨_, rfl⟩
           replace H : (if 0 ≤ (ji50) then (if (ji50) < (x7_1.length : Int) then (spec_l20Tree.l0 k1 a1 ji5 t287 (x7_1.set ((ji50) : Int).toNat (rd t287 t296)) t294 (wrap64 (x9_1 + 1)) s0_0 t297) else (none)) else (none)) = some (r1, r2) := by first | (rw [hji50] at H; exact H) | (simp only [hji50] at H ⊢; exact H)
           (try rw [hji50] at A15)
           have hji50w : (IntKind.i64.wrap ((rd t287 x9_1) - 1)) = ji50 := (i64_w _).trans hji50
           by_cases c51 : 0 ≤ (ji50)
           ·rw [if_pos c51] at H
            have c51b0 := decide_eq_true c51
            clear c51
            by_cases c52 : (ji50) < (x7_1.length : Int)
            ·rw [if_pos c52] at H
             have c52b0 := decide_eq_true c52
             clear c52
             obtain ⟨y308, hy308⟩ : ∃ y_ : List Int, y_ = (x7_1.set ((ji50) : Int).toNat (rd t287 t296)) := ⟨_, rfl⟩
             replace H : (spec_l20Tree.l0 k1 a1 ji5 t287 y308 t294 (wrap64 (x9_1 + 1)) s0_0 t297) = some (r1, r2) := by first | (rw [hy308]; with_reducible exact H) | (have H2_ := (Option.bind_some _ _).symm.trans H; rw [hy308]; with_reducible exact H2_) | (have H2_ := (Option.bind_some _ _).symm.trans H; with_reducible exact H2_) | with_reducible exact H | (rw [hy308]; exact H) | exact H
             have Ny308:=zM hy308
             clear hy308
             have H':=zM H
             clear H
             try go_wp2_with (first | (refine zg 43 (some 28) Tryd.func43 #[.pointer (some ⟨g, 0, none⟩), .int .i64 x9_1] ?_; (with_reducible refine (spec_l20Rd_pick.calls k1 g s0_0 x1001_1 x9_1 t296 t297 w0 _ (zs14 HI0.out) (zs16 HB.out HI0.out) A15.out).mono ?_); rintro e w54 ⟨rfl, hi, hb, hk⟩; refine ⟨_, rfl, ?_⟩; replace HO_6:=zM (Kd.R_mono (Kd.R_keep (IsS73.apart (show IsS73 w0 _ g s0_0 x1001_1 from (zs14 HI0.out)) (zs11 HO_6.out) (by decide)) hk (fun _ h => h.2)) (fun _ h => h.1)); replace HO_7:=zM (Kd.R_mono (Kd.R_keep (IsS73.apart (show IsS73 w0 _ g s0_0 x1001_1 from (zs14 HI0.out)) (zs11 HO_7.out) (by decide)) hk (fun _ h => h.2)) (fun _ h => h.1)); replace HK:=zM (KeepBut.trans (zs15 HK.out) hk (.inl rfl)); replace HB:=zM (hb); replace HI0:=zM (hi); clear hb hk hi))
             replace HO_6:=zM (Kd.R_drew HO_6.out)
             replace HO_7:=zM (Kd.R_drew HO_7.out)
             replace HI0:=zM (IsS73.drew HI0.out)
             replace HK:=zM (keep_drew HK.out)
             replace HB:=zM (zC HB.out)
             obtain ⟨Ao56, co56, eo56⟩ := Kd.R_slice HO_6.out
             (first | subst eo56 | (injection eo56 with f1_ f2_ f3_; have f4_ := f1_.symm; have f5_ := f3_.symm; clear f1_ f2_ f3_; subst f4_; subst f5_))
             have p306 : 0 ≤ (x9_1 : Int) := of_decide_eq_true zs8
             have q306 : x9_1 < (t287.length : Int) := of_decide_eq_true zs8
             obtain ⟨ad306, e306, hx306_0⟩ := Kd.at_int (Kd.R_reads' HO_6.out).2.2 x9_1 p306 q306
             cases e306
             replace p306 := eq_true p306
             replace q306 := eq_true q306
             have p307 : 0 ≤ (t296 : Int) := of_decide_eq_true zs8
             have q307 : t296 < (t287.length : Int) := of_decide_eq_true zs8
             obtain ⟨ad307, e307, hx307_0⟩ := Kd.at_int (Kd.R_reads' HO_6.out).2.2 t296 p307 q307
             obtain rfl : ad306 = ad307 := (by injection e307)
             replace p307 := eq_true p307
             replace q307 := eq_true q307
             have p53 : 0 ≤ ((ji50) : Int) := of_decide_eq_true zs8
             have q53 : ((ji50) : Int) < ((x7_1.length : Int) : Int) := of_decide_eq_true zs8
             obtain ⟨go53, co53, eo53, gb53, gl53, cl53, HG53⟩ := Kd.R_form HO_7.out (by omega)
             (first | cases eo53 | (injection eo53 with ea_ en_ ec_; (first | subst ea_ | (injection ea_ with ea_; subst ea_)); subst ec_; clear en_))
             have GB53:=zM gb53
             have GG53:=zM HG53
             clear gb53 gl53 HG53
             obtain ⟨hx53_0, hf53_0⟩ := Kd.R_celln 0 HO_7.out ((ji50) : Int) p53 q53
             replace p53 := eq_true p53
             replace q53 := eq_true q53
             have HN0_go53:=zM (show g ≠ go53 from by have h_ := IsS73.own_ne HI0.out HO_7.out (by decide); intro e_; exact h_ (by rw [e_]; rfl))
             have HP57 := Kd.R_putn HO_7.out ((ji50) : Int) (rd t287 t296)
             rw [← Ny308.out] at HP57
             have HQ57:=zM HP57
             clear HP57
             refine start_ (n := 12) (S := fun w' => w'.cell? (ad306.add (x9_1).toNat) = some (.int .i64 (rd t287 x9_1)) ∧ w'.cell? (ad306.add (t296).toNat) = some (.int .i64 (rd t287 t296))) (ds := [11]) (zL 12 0) (by kernel_rfl) rfl rfl ⟨hx306_0, hx307_0⟩ (fun hHeld => ?_); refine with_tabW spec_l20Tree.tab11 spec_l20Tree.bits11 (fun HT_ HW_ => ?_)
             generalize w54.drew = w55 at HO_6 HO_7 HI0 HK HB GG53 HQ57 hf53_0 hx306_0 hx307_0 hx53_0 hHeld ⊢
             refine zp 0 (some 38) (zL 12 1) HT_ ?_
             refine zp 1 (some 39) (zL 12 3) HT_ ?_
             refine zp 2 (some 40) (zL 12 7) HT_ ?_
             refine zp 3 (some 41) (zL 12 15) HT_ ?_
             refine zp 6 (some 44) (zL 12 79) HT_ ?_
             refine zp 7 (some 45) (zL 12 207) HT_ ?_
             refine zp 8 (some 46) (zL 12 463) HT_ ?_
             refine take_ (i := 4) (N := some 42) (v := ?_) (a' := ?_) (zL 12 479) rfl rfl (take_ofW HT_.out HW_.out (by kernel_rfl)) (fun _ _ _ h => h) (Or.inl ⟨by rfl, ?_⟩) hHeld ?_ ?_
             rotate_left
             ·rintro w' ⟨s0, s1⟩
              go_simp
              with_reducible rfl
             rotate_left
             ·simp only [Act.put, zE, zF, zG, i64_w, i32_w]
              rfl
             refine zp 5 (some 43) (zL 12 511) HT_ ?_
             refine take_ (i := 9) (N := some 47) (v := ?_) (a' := ?_) (zL 12 1023) rfl rfl (take_ofW HT_.out HW_.out (by kernel_rfl)) (fun _ _ _ h => h) (Or.inl ⟨by rfl, ?_⟩) hHeld ?_ ?_
             rotate_left
             ·rintro w' ⟨s0, s1⟩
              go_simp
              with_reducible rfl
             rotate_left
             ·simp only [Act.put, zE, zF, zG, i64_w, i32_w]
              rfl
             refine zp 10 (some 48) (zL 12 2047) HT_ ?_
             refine last_ (i := 11) (N := none) (zL 12 4095) rfl rfl (one_of HT_.out (by kernel_rfl)) (by decide) (fun K hK => ?_)
             refine skip_ (w1 := ?_) (by rfl) rfl ?_ ?_
             rotate_left
             ·go_simp
              rfl
             refine hK.out _ _ ?_
             clear hK K
             refine done_ (done_of HT_.out (by kernel_rfl)) ?_
             try go_wp2
             go_roundg k1
             case measure => have := HK1.out; omega
             case rel => exact ⟨(y308), (wrap64 (x9_1 + 1)), (t297), zs6, H', ⟨by have := HK1.out; omega⟩, ⟨by (with_reducible repeat (first | apply Kd.R_alloc | apply Kd.R_drewN | apply Kd.R_drew)); exact Kd.R_mono (Kd.R_far (p := ⟨go53, ((ji50) : Int).toNat, none⟩) (Kd.R_mono HO_6.out (fun k_ hk => (⟨hk, fun e_ => hk (by rw [e_]; rfl)⟩ : _ ∧ k_ ≠ go53))) (fun _ hk => hk.2) (.int .i64 (rd t287 t296))) (fun _ hk => hk.1)⟩, ⟨by (with_reducible repeat (first | apply Kd.R_alloc | apply Kd.R_drewN | apply Kd.R_drew)); exact HQ57.out⟩, ⟨(zs19 HI0.out HN0_go53.out)⟩, ⟨(zs17 HK.out GB53.out)⟩, ⟨(zs24 HB.out HL.out GB53.out HI0.out)⟩⟩
            ·rw [if_neg c52] at H
             exact absurd H (by simp)
           ·rw [if_neg c51] at H
            exact absurd H (by simp)
          ·rw [if_neg c49] at H
           exact absurd H (by simp)
         ·rw [if_neg c48] at H
          exact absurd H (by simp)
        ·rw [if_neg c47] at H
         exact absurd H (by simp)
       ·rw [if_neg c46] at H
        exact absurd H (by simp)
     ·rw [if_neg c14] at H
      have c14b0 := decide_eq_false c14
      clear c14
      replace H := zb H; obtain ⟨⟨t309, t310⟩, A58, H⟩ := H; try dsimp only at H
      by_cases c59 : t309 = true
      ·subst c59
       have H1 : ((spec_l20Rd_pick.f k1 s0_0 t310 4).bind fun bt311 => (if bt311.1 = 0 then (some ((([] : List Int)), bt311.2)) else (if bt311.1 = 1 then (some ((([2, 1, 0] : List Int)), bt311.2)) else (if bt311.1 = 2 then ((spec_l20Rd_pick.f k1 s0_0 bt311.2 ji5).bind fun bt319 => (if 0 ≤ bt319.1 then (if bt319.1 < (x7_1.length : Int) then ((some (x7_1.set (bt319.1 : Int).toNat 0 : List Int)).bind fun y321 => (if y321.length < 17592186044416 then (some ((y321 ++ [0]), bt319.2)) else (none))) else (none)) else (none))) else ((some (([1, wrap64 (ji5 + 1), (-1)] : List Int) : List Int)).bind fun y325 => ((spec_l20Rd_pick.f k1 s0_0 bt311.2 3).bind fun bt328 => (if 0 ≤ bt328.1 then (if bt328.1 < (y325.length : Int) then (if 0 < (x7_1.length : Int) then (some ((x7_1.set (0 : Int).toNat (rd y325 bt328.1)), bt328.2)) else (none)) else (none)) else (none)))))))) = some (r1, r2) := by rw [if_pos rfl] at H; exact H
       clear H
       have H := H1
       clear H1
       replace H := zb H; obtain ⟨⟨t311, t312⟩, A60, H⟩ := H; try dsimp only at H
       by_cases c61 : t311 = 0
       ·rw [if_pos c61] at H
        have c61b0 := beq_iff_eq.mpr c61
        have c61b1 := bne_eq_false_iff_eq.mpr c61
        clear c61
        obtain ⟨y313, hy313⟩ : ∃ y_ : List Int, y_ = (([] : List Int)) := ⟨_, rfl⟩
        replace H : (some (y313, t312)) = some (r1, r2) := by first | (rw [hy313]; with_reducible exact H) | (have H2_ := (Option.bind_some _ _).symm.trans H; rw [hy313]; with_reducible exact H2_) | (have H2_ := (Option.bind_some _ _).symm.trans H; with_reducible exact H2_) | with_reducible exact H | (rw [hy313]; exact H) | exact H
        have Ny313:=zM hy313
        clear hy313
        simp only [Option.some.injEq, Prod.mk.injEq] at H
        obtain ⟨rfl, rfl⟩ := H
        go_wp2_with (first | (refine zg 46 (some 51) Tryd.func46 #[.pointer (some ⟨g, 0, none⟩), .int .i64 a1] ?_; (with_reducible refine (spec_l20Rd_odd.calls k1 g s0_0 x1001_1 a1 true t310 w0 _ (zs14 HI0.out) (zs16 HB.out HI0.out) A58.out).mono ?_); rintro e w62 ⟨rfl, hi, hb, hk⟩; refine ⟨_, rfl, ?_⟩; replace HO_6:=zM (Kd.R_mono (Kd.R_keep (IsS73.apart (show IsS73 w0 _ g s0_0 x1001_1 from (zs14 HI0.out)) (zs11 HO_6.out) (by decide)) hk (fun _ h => h.2)) (fun _ h => h.1)); replace HO_7:=zM (Kd.R_mono (Kd.R_keep (IsS73.apart (show IsS73 w0 _ g s0_0 x1001_1 from (zs14 HI0.out)) (zs11 HO_7.out) (by decide)) hk (fun _ h => h.2)) (fun _ h => h.1)); replace HK:=zM (KeepBut.trans (zs15 HK.out) hk (.inl rfl)); replace HB:=zM (hb); replace HI0:=zM (hi); clear hb hk hi) | (refine zg 43 (some 53) Tryd.func43 #[.pointer (some ⟨g, 0, none⟩), .int .i64 4] ?_; (with_reducible refine (spec_l20Rd_pick.calls k1 g s0_0 t310 4 t311 t312 w0 _ (zs14 HI0.out) (zs16 HB.out HI0.out) A60.out).mono ?_); rintro e w63 ⟨rfl, hi, hb, hk⟩; refine ⟨_, rfl, ?_⟩; replace HO_6:=zM (Kd.R_mono (Kd.R_keep (IsS73.apart (show IsS73 w0 _ g s0_0 t310 from (zs14 HI0.out)) (zs11 HO_6.out) (by decide)) hk (fun _ h => h.2)) (fun _ h => h.1)); replace HO_7:=zM (Kd.R_mono (Kd.R_keep (IsS73.apart (show IsS73 w0 _ g s0_0 t310 from (zs14 HI0.out)) (zs11 HO_7.out) (by decide)) hk (fun _ h => h.2)) (fun _ h => h.1)); replace HK:=zM (KeepBut.trans (zs15 HK.out) hk (.inl rfl)); replace HB:=zM (hb); replace HI0:=zM (hi); clear hb hk hi) | ((with_reducible refine gate_dst (N := 65) rfl ?_); refine Kd.R_lit (Kd.int .i64) _ 3 zs0 (N := 65) zs0 (xs := ([] : List Int)) (inner := []) (ok := fun _ => True) (okp := fun _ => True) zs1 ?hp (fun _ hk => hk) trivial (Below.refl _ _) (Nat.le_refl _) (by simp) ?_; (case hp => exact (Reps.none _ _)); intro v314 w64 ho65 hb hg_ hnew_; clear hg_ hnew_; (first | rw [← Ny313.out] at ho65 | (simp only [Int.reduceToNat] at ho65; rw [← Ny313.out] at ho65)); have HO315:=zM (Kd.R_lower (Kd.R_new' (Kd.R_new' ho65 (Kd.R_lt (zs11 HO_6.out))) (Kd.R_lt (zs11 HO_7.out))) (keep_size (w := w) (g := g) (row := none) (zs15 HK.out))); replace HO_6:=zM (Kd.R_elder' (zs11 HO_6.out) (Kd.R_base ho65) hb); replace HO_7:=zM (Kd.R_elder' (zs11 HO_7.out) (Kd.R_base ho65) hb); replace HK:=zM (KeepBut.trans (zs15 HK.out) (KeepBut.of_below hb g none) (.inl rfl)); replace HB:=zM (below_step (zs16 HB.out HI0.out) hb); replace HI0:=zM (IsS73.below (zs14 HI0.out) hb); clear hb ho65))
        go_ret
        exact ⟨_, by first | rfl | (simp [errW_none, errW_some] <;> rfl) | (simp only [← hji5]; first | rfl | (simp [errW_none, errW_some] <;> rfl)) | (simp [*, errW_none, errW_some] <;> rfl), by (with_reducible repeat (first | apply Kd.R_alloc | apply Kd.R_drewN | apply Kd.R_drew)); exact Kd.R_mono HO315.out (fun _ hk => trivial), (zs14 HI0.out), (zs16 HB.out HI0.out), (zs15 HK.out)⟩
       ·rw [if_neg c61] at H
        have c61b0 := beq_eq_false_iff_ne.mpr c61
        have c61b1 := bne_iff_ne.mpr c61
        by_cases c66 : t311 = 1
        ·rw [if_pos c66] at H
         have c66b0 := beq_iff_eq.mpr c66
         have c66b1 := bne_eq_false_iff_eq.mpr c66
         clear c66
         obtain ⟨y316, hy316⟩ : ∃ y_ : List Int, y_ = (([2, 1, 0] : List Int)) := ⟨_, rfl⟩
         replace H : (some (y316, t312)) = some (r1, r2) := by first | (rw [hy316]; with_reducible exact H) | (have H2_ := (Option.bind_some _ _).symm.trans H; rw [hy316]; with_reducible exact H2_) | (have H2_ := (Option.bind_some _ _).symm.trans H; with_reducible exact H2_) | with_reducible exact H | (rw [hy316]; exact H) | exact H
         have Ny316:=zM hy316
         clear hy316
         simp only [Option.some.injEq, Prod.mk.injEq] at H
         obtain ⟨rfl, rfl⟩ := H
         go_wp2_with (first | (refine zg 46 (some 51) Tryd.func46 #[.pointer (some ⟨g, 0, none⟩), .int .i64 a1] ?_; (with_reducible refine (spec_l20Rd_odd.calls k1 g s0_0 x1001_1 a1 true t310 w0 _ (zs14 HI0.out) (zs16 HB.out HI0.out) A58.out).mono ?_); rintro e w67 ⟨rfl, hi, hb, hk⟩; refine ⟨_, rfl, ?_⟩; replace HO_6:=zM (Kd.R_mono (Kd.R_keep (IsS73.apart (show IsS73 w0 _ g s0_0 x1001_1 from (zs14 HI0.out)) (zs11 HO_6.out) (by decide)) hk (fun _ h => h.2)) (fun _ h => h.1)); replace HO_7:=zM (Kd.R_mono (Kd.R_keep (IsS73.apart (show IsS73 w0 _ g s0_0 x1001_1 from (zs14 HI0.out)) (zs11 HO_7.out) (by decide)) hk (fun _ h => h.2)) (fun _ h => h.1)); replace HK:=zM (KeepBut.trans (zs15 HK.out) hk (.inl rfl)); replace HB:=zM (hb); replace HI0:=zM (hi); clear hb hk hi) | (refine zg 43 (some 53) Tryd.func43 #[.pointer (some ⟨g, 0, none⟩), .int .i64 4] ?_; (with_reducible refine (spec_l20Rd_pick.calls k1 g s0_0 t310 4 t311 t312 w0 _ (zs14 HI0.out) (zs16 HB.out HI0.out) A60.out).mono ?_); rintro e w68 ⟨rfl, hi, hb, hk⟩; refine ⟨_, rfl, ?_⟩; replace HO_6:=zM (Kd.R_mono (Kd.R_keep (IsS73.apart (show IsS73 w0 _ g s0_0 t310 from (zs14 HI0.out)) (zs11 HO_6.out) (by decide)) hk (fun _ h => h.2)) (fun _ h => h.1)); replace HO_7:=zM (Kd.R_mono (Kd.R_keep (IsS73.apart (show IsS73 w0 _ g s0_0 t310 from (zs14 HI0.out)) (zs11 HO_7.out) (by decide)) hk (fun _ h => h.2)) (fun _ h => h.1)); replace HK:=zM (KeepBut.trans (zs15 HK.out) hk (.inl rfl)); replace HB:=zM (hb); replace HI0:=zM (hi); clear hb hk hi) | ((with_reducible refine gate_dst (N := 68) rfl ?_); refine Kd.R_lit (Kd.int .i64) _ 3 zs0 (N := 68) zs0 (xs := ([2, 1, 0] : List Int)) (inner := [.int .i64 2, .int .i64 1, .int .i64 0]) (ok := fun _ => True) (okp := fun _ => True) zs1 ?hp (fun _ hk => hk) trivial (Below.refl _ _) (Nat.le_refl _) (by simp) ?_; (case hp => exact (Reps.one (show Kd.M (Kd.int .i64) _ _ _ 2 [.int .i64 2] from rfl) (Reps.one (show Kd.M (Kd.int .i64) _ _ _ 1 [.int .i64 1] from rfl) (Reps.one (show Kd.M (Kd.int .i64) _ _ _ 0 [.int .i64 0] from rfl) (Reps.none _ _))))); intro v317 w69 ho70 hb hg_ hnew_; clear hg_ hnew_; (first | rw [← Ny316.out] at ho70 | (simp only [Int.reduceToNat] at ho70; rw [← Ny316.out] at ho70)); have HO318:=zM (Kd.R_lower (Kd.R_new' (Kd.R_new' ho70 (Kd.R_lt (zs11 HO_6.out))) (Kd.R_lt (zs11 HO_7.out))) (keep_size (w := w) (g := g) (row := none) (zs15 HK.out))); replace HO_6:=zM (Kd.R_elder' (zs11 HO_6.out) (Kd.R_base ho70) hb); replace HO_7:=zM (Kd.R_elder' (zs11 HO_7.out) (Kd.R_base ho70) hb); replace HK:=zM (KeepBut.trans (zs15 HK.out) (KeepBut.of_below hb g none) (.inl rfl)); replace HB:=zM (below_step (zs16 HB.out HI0.out) hb); replace HI0:=zM (IsS73.below (zs14 HI0.out) hb); clear hb ho70))
         go_ret
         exact ⟨_, by first | rfl | (simp [errW_none, errW_some] <;> rfl) | (simp only [← hji5]; first | rfl | (simp [errW_none, errW_some] <;> rfl)) | (simp [*, errW_none, errW_some] <;> rfl), by (with_reducible repeat (first | apply Kd.R_alloc | apply Kd.R_drewN | apply Kd.R_drew)); exact Kd.R_mono HO318.out (fun _ hk => trivial), (zs14 HI0.out), (zs16 HB.out HI0.out), (zs15 HK.out)⟩
        ·rw [if_neg c66] at H
         have c66b0 := beq_eq_false_iff_ne.mpr c66
         have c66b1 := bne_iff_ne.mpr c66
         by_cases c71 : t311 = 2
         ·rw [if_pos c71] at H
          have c71b0 := beq_iff_eq.mpr c71
          have c71b1 := bne_eq_false_iff_eq.mpr c71
          clear c71
          replace H := zb H; obtain ⟨⟨t319, t320⟩, A72, H⟩ := H; try dsimp only at H
          by_cases c73 : 0 ≤ t319
          ·rw [if_pos c73] at H
           have c73b0 := decide_eq_true c73
           clear c73
           by_cases c74 : t319 < (x7_1.length : Int)
           ·rw [if_pos c74] at H
            have c74b0 := decide_eq_true c74
            clear c74
            replace H := zy H; obtain ⟨y321, Ny321, H⟩ := H; try dsimp only at H
            by_cases c76 : y321.length < 17592186044416
            ·rw [if_pos c76] at H
             have LMc76:=zM c76
             clear c76
             obtain ⟨y322, hy322⟩ : ∃ y_ : List Int, y_ = (y321 ++ [0]) := ⟨_, rfl⟩
             replace H : (some (y322, t320)) = some (r1, r2) := by first | (rw [hy322]; with_reducible exact H) | (have H2_ := (Option.bind_some _ _).symm.trans H; rw [hy322]; with_reducible exact H2_) | (have H2_ := (Option.bind_some _ _).symm.trans H; with_reducible exact H2_) | with_reducible exact H | (rw [hy322]; exact H) | exact H
             have Ny322:=zM hy322
             clear hy322
             simp only [Option.some.injEq, Prod.mk.injEq] at H
             obtain ⟨rfl, rfl⟩ := H
             go_wp2_with (first | (refine zg 46 (some 51) Tryd.func46 #[.pointer (some ⟨g, 0, none⟩), .int .i64 a1] ?_; (with_reducible refine (spec_l20Rd_odd.calls k1 g s0_0 x1001_1 a1 true t310 w0 _ (zs14 HI0.out) (zs16 HB.out HI0.out) A58.out).mono ?_); rintro e w77 ⟨rfl, hi, hb, hk⟩; refine ⟨_, rfl, ?_⟩; replace HO_6:=zM (Kd.R_mono (Kd.R_keep (IsS73.apart (show IsS73 w0 _ g s0_0 x1001_1 from (zs14 HI0.out)) (zs11 HO_6.out) (by decide)) hk (fun _ h => h.2)) (fun _ h => h.1)); replace HO_7:=zM (Kd.R_mono (Kd.R_keep (IsS73.apart (show IsS73 w0 _ g s0_0 x1001_1 from (zs14 HI0.out)) (zs11 HO_7.out) (by decide)) hk (fun _ h => h.2)) (fun _ h => h.1)); replace HK:=zM (KeepBut.trans (zs15 HK.out) hk (.inl rfl)); replace HB:=zM (hb); replace HI0:=zM (hi); clear hb hk hi) | (refine zg 43 (some 53) Tryd.func43 #[.pointer (some ⟨g, 0, none⟩), .int .i64 4] ?_; (with_reducible refine (spec_l20Rd_pick.calls k1 g s0_0 t310 4 t311 t312 w0 _ (zs14 HI0.out) (zs16 HB.out HI0.out) A60.out).mono ?_); rintro e w78 ⟨rfl, hi, hb, hk⟩; refine ⟨_, rfl, ?_⟩; replace HO_6:=zM (Kd.R_mono (Kd.R_keep (IsS73.apart (show IsS73 w0 _ g s0_0 t310 from (zs14 HI0.out)) (zs11 HO_6.out) (by decide)) hk (fun _ h => h.2)) (fun _ h => h.1)); replace HO_7:=zM (Kd.R_mono (Kd.R_keep (IsS73.apart (show IsS73 w0 _ g s0_0 t310 from (zs14 HI0.out)) (zs11 HO_7.out) (by decide)) hk (fun _ h => h.2)) (fun _ h => h.1)); replace HK:=zM (KeepBut.trans (zs15 HK.out) hk (.inl rfl)); replace HB:=zM (hb); replace HI0:=zM (hi); clear hb hk hi) | (refine zg 43 (some 74) Tryd.func43 #[.pointer (some ⟨g, 0, none⟩), .int .i64 ji5] ?_ (hargs := by (try simp only [List.map_toArray, List.map_cons, List.map_nil]); first | done | (simp only [hji5]; rfl) | rfl); (with_reducible refine (spec_l20Rd_pick.calls k1 g s0_0 t312 ji5 t319 t320 w0 _ (zs14 HI0.out) (zs16 HB.out HI0.out) A72.out).mono ?_); rintro e w79 ⟨rfl, hi, hb, hk⟩; refine ⟨_, rfl, ?_⟩; replace HO_6:=zM (Kd.R_mono (Kd.R_keep (IsS73.apart (show IsS73 w0 _ g s0_0 t312 from (zs14 HI0.out)) (zs11 HO_6.out) (by decide)) hk (fun _ h => h.2)) (fun _ h => h.1)); replace HO_7:=zM (Kd.R_mono (Kd.R_keep (IsS73.apart (show IsS73 w0 _ g s0_0 t312 from (zs14 HI0.out)) (zs11 HO_7.out) (by decide)) hk (fun _ h => h.2)) (fun _ h => h.1)); replace HK:=zM (KeepBut.trans (zs15 HK.out) hk (.inl rfl)); replace HB:=zM (hb); replace HI0:=zM (hi); clear hb hk hi; have p75 : 0 ≤ (t319 : Int) := of_decide_eq_true zs8; have q75 : (t319 : Int) < ((x7_1.length : Int) : Int) := of_decide_eq_true zs8; obtain ⟨go75, co75, eo75, gb75, gl75, cl75, HG75⟩ := Kd.R_form HO_7.out (by omega); (first | cases eo75 | (injection eo75 with ea_ en_ ec_; (first | subst ea_ | (injection ea_ with ea_; subst ea_)); subst ec_; clear en_)); have GB75:=zM gb75; have GG75:=zM HG75; clear gb75 gl75 HG75; obtain ⟨hx75_0, hf75_0⟩ := Kd.R_celln 0 HO_7.out (t319 : Int) p75 q75; replace p75 := eq_true p75; replace q75 := eq_true q75; obtain ⟨hy80_, hz80_⟩ := Kd.R_celln 0 HO_7.out (t319 : Int) (of_decide_eq_true zs8) (of_decide_eq_true zs8); have HP80 := Kd.R_putg HO_7.out (t319 : Int) 0) | ((with_reducible refine gate_store (t := 3) (p := 75) rfl ?_); refine store_event (t := 3) (p := 75) (v := ?vo_w81) (w1 := (w79.setCell ⟨go75, (t319 : Int).toNat, none⟩ (.int .i64 0))) ?hg ?ho ?hn ?hr ?_; (case ho => rfl); (case hg => rfl); (case hn => rfl); (case hr => first | (go_simp; done) | (go_simp; rfl)); intro w81 hw; have hg : w79.grownBy w81 (some go75) := (by rw [hw]; exact HP80.2); have hp_ : Kd.R (Kd.int .i64) 3 w81 w.heap.size (fun k_ => some k_ ≠ (v288 : Value).ownBlock) (.slice (some ⟨go75, 0, none⟩) x7_1.length co75) y321 := (by rw [hw, Ny321.out]; exact HP80.1); clear HP80; replace HO_6:=zM (Kd.R_after (v := (.slice (some ⟨go75, 0, none⟩) x7_1.length co75)) (v1 := (.slice (some ⟨go75, 0, none⟩) x7_1.length co75)) (ok := (fun _ => True)) (by (with_reducible repeat (first | apply Kd.R_alloc | apply Kd.R_drewN | apply Kd.R_drew)); exact Kd.R_mono HO_6.out (fun _ hk => ⟨trivial, hk⟩)) hg (.inl rfl)); replace HI0:=zM (IsS73.grown (zs14 HI0.out) hg (IsS73.own_ne HI0.out HO_7.out (by decide))); replace HB:=zM ((by rw [hw]; exact zD (HB.out) (Nat.le_trans HL.out GB75.out) : Below w0.heap.size w0 w81)); replace HK:=zM (KeepBut.trans (zs15 HK.out) (KeepBut.of_grown hg g) (Kd.R_base2 HO_7.out)); replace HO_7:=zM (hp_); clear hg hw hp_) | ((with_reducible refine gate_builtin (b := .append) (xs := #[.tmp 76, .tmp 77]) rfl ?_); at_builtin; refine Kd.R_append (Kd.int .i64) w.heap.size rfl (.tmp 76) (.tmp 77) 54 3 (.int .i64 0) 8 rfl Tryd.underlying54 info3 rfl (by decide) (by omega) (.slice (some ⟨go75, 0, none⟩) x7_1.length co75) y321 0 [.int .i64 0] (fun k_ => some k_ ≠ (v288 : Value).ownBlock) (fun _ => False) rfl rfl ?aP (fun _ hk => hk.elim) ?aF ?aO (Below.refl _ _) ?aS ?aL ?_; (case aP => exact rfl); (case aF => exact (fun k_ hk => Kd.fresh' (Kd.R_lt (zs11 HO_6.out)) k_ hk)); (case aO => exact (zs11 HO_7.out)); (case aS => exact (keep_size (w := w) (g := g) (row := none) (zs15 HK.out))); (case aL => have := LMc76.out; omega); intro v323 w82 ho hb hg hat; rw [← Ny322.out] at ho; replace HO_6:=zM (Kd.R_after (ok := (fun _ => True)) (zs11 HO_6.out) hg hat); replace HB:=zM (below_weaken (zs16 HB.out HI0.out) HL.out hb); replace HI0:=zM (IsS73.grown (zs14 HI0.out) hg (IsS73.own_ne HI0.out HO_7.out (by decide))); replace HK:=zM (KeepBut.trans (zs15 HK.out) (KeepBut.of_grown hg g) (Kd.R_base2 HO_7.out)); have HO324:=zM (ho); clear HO_7; clear ho hb hg hat))
             go_ret
             exact ⟨_, by first | rfl | (simp [errW_none, errW_some] <;> rfl) | (simp only [← hji5]; first | rfl | (simp [errW_none, errW_some] <;> rfl)) | (simp [*, errW_none, errW_some] <;> rfl), by (with_reducible repeat (first | apply Kd.R_alloc | apply Kd.R_drewN | apply Kd.R_drew)); exact Kd.R_mono HO324.out (fun _ hk => trivial), (zs14 HI0.out), (zs16 HB.out HI0.out), (zs15 HK.out)⟩
            ·rw [if_neg c76] at H
             exact absurd H (by simp)
           ·rw [if_neg c74] at H
            exact absurd H (by simp)
          ·rw [if_neg c73] at H
           exact absurd H (by simp)
         ·rw [if_neg c71] at H
          have c71b0 := beq_eq_false_iff_ne.mpr c71
          have c71b1 := bne_iff_ne.mpr c71
          replace H := zy H; obtain ⟨y325, Ny325, H⟩ := H; try dsimp only at H
          replace H := zb H; obtain ⟨⟨t328, t329⟩, A83, H⟩ := H; try dsimp only at H
          by_cases c84 : 0 ≤ t328
          ·rw [if_pos c84] at H
           have c84b0 := decide_eq_true c84
           clear c84
           by_cases c85 : t328 < (y325.length : Int)
           ·rw [if_pos c85] at H
            have c85b0 := decide_eq_true c85
            clear c85
            by_cases c86 : 0 < (x7_1.length : Int)
            ·rw [if_pos c86] at H
             have c86b0 := decide_eq_true c86
             have c86b1 : decide (0 < x7_1.length) = true := decide_eq_true (by omega)
             clear c86
             obtain ⟨y331, hy331⟩ : ∃ y_ : List Int, y_ = (x7_1.set (0 : Int).toNat (rd y325 t328)) := ⟨_, rfl⟩
             replace H : (some (y331, t329)) = some (r1, r2) := by first | (rw [hy331]; with_reducible exact H) | (have H2_ := (Option.bind_some _ _).symm.trans H; rw [hy331]; with_reducible exact H2_) | (have H2_ := (Option.bind_some _ _).symm.trans H; with_reducible exact H2_) | with_reducible exact H | (rw [hy331]; exact H) | exact H
             have Ny331:=zM hy331
             clear hy331
             simp only [Option.some.injEq, Prod.mk.injEq] at H
             obtain ⟨rfl, rfl⟩ := H
             go_wp2_with (first | (refine zg 46 (some 51) Tryd.func46 #[.pointer (some ⟨g, 0, none⟩), .int .i64 a1] ?_; (with_reducible refine (spec_l20Rd_odd.calls k1 g s0_0 x1001_1 a1 true t310 w0 _ (zs14 HI0.out) (zs16 HB.out HI0.out) A58.out).mono ?_); rintro e w88 ⟨rfl, hi, hb, hk⟩; refine ⟨_, rfl, ?_⟩; replace HO_6:=zM (Kd.R_mono (Kd.R_keep (IsS73.apart (show IsS73 w0 _ g s0_0 x1001_1 from (zs14 HI0.out)) (zs11 HO_6.out) (by decide)) hk (fun _ h => h.2)) (fun _ h => h.1)); replace HO_7:=zM (Kd.R_mono (Kd.R_keep (IsS73.apart (show IsS73 w0 _ g s0_0 x1001_1 from (zs14 HI0.out)) (zs11 HO_7.out) (by decide)) hk (fun _ h => h.2)) (fun _ h => h.1)); replace HK:=zM (KeepBut.trans (zs15 HK.out) hk (.inl rfl)); replace HB:=zM (hb); replace HI0:=zM (hi); clear hb hk hi) | (refine zg 43 (some 53) Tryd.func43 #[.pointer (some ⟨g, 0, none⟩), .int .i64 4] ?_; (with_reducible refine (spec_l20Rd_pick.calls k1 g s0_0 t310 4 t311 t312 w0 _ (zs14 HI0.out) (zs16 HB.out HI0.out) A60.out).mono ?_); rintro e w89 ⟨rfl, hi, hb, hk⟩; refine ⟨_, rfl, ?_⟩; replace HO_6:=zM (Kd.R_mono (Kd.R_keep (IsS73.apart (show IsS73 w0 _ g s0_0 t310 from (zs14 HI0.out)) (zs11 HO_6.out) (by decide)) hk (fun _ h => h.2)) (fun _ h => h.1)); replace HO_7:=zM (Kd.R_mono (Kd.R_keep (IsS73.apart (show IsS73 w0 _ g s0_0 t310 from (zs14 HI0.out)) (zs11 HO_7.out) (by decide)) hk (fun _ h => h.2)) (fun _ h => h.1)); replace HK:=zM (KeepBut.trans (zs15 HK.out) hk (.inl rfl)); replace HB:=zM (hb); replace HI0:=zM (hi); clear hb hk hi) | ((with_reducible refine gate_dst (N := 57) rfl ?_); refine Kd.R_lit (Kd.int .i64) _ 3 zs0 (N := 57) zs0 (xs := ([1, wrap64 (ji5 + 1), (-1)] : List Int)) (inner := [.int .i64 1, .int .i64 (wrap64 (ji5 + 1)), .int .i64 (-1)]) (ok := fun _ => True) (okp := fun _ => True) zs1 ?hp (fun _ hk => hk) trivial (Below.refl _ _) (Nat.le_refl _) (by simp) ?_; (case hp => exact (Reps.one (show Kd.M (Kd.int .i64) _ _ _ 1 [.int .i64 1] from rfl) (Reps.one (show Kd.M (Kd.int .i64) _ _ _ (wrap64 (ji5 + 1)) [.int .i64 (wrap64 (ji5 + 1))] from rfl) (Reps.one (show Kd.M (Kd.int .i64) _ _ _ (-1) [.int .i64 (-1)] from rfl) (Reps.none _ _))))); intro v326 w90 ho91 hb hg_ hnew_; clear hg_ hnew_; (first | rw [← Ny325.out] at ho91 | (simp only [Int.reduceToNat] at ho91; rw [← Ny325.out] at ho91)); have HO327:=zM (Kd.R_lower (Kd.R_new' (Kd.R_new' ho91 (Kd.R_lt (zs11 HO_6.out))) (Kd.R_lt (zs11 HO_7.out))) (keep_size (w := w) (g := g) (row := none) (zs15 HK.out))); replace HO_6:=zM (Kd.R_elder' (zs11 HO_6.out) (Kd.R_base ho91) hb); replace HO_7:=zM (Kd.R_elder' (zs11 HO_7.out) (Kd.R_base ho91) hb); replace HK:=zM (KeepBut.trans (zs15 HK.out) (KeepBut.of_below hb g none) (.inl rfl)); replace HB:=zM (below_step (zs16 HB.out HI0.out) hb); replace HI0:=zM (IsS73.below (zs14 HI0.out) hb); clear hb ho91) | (refine zg 43 (some 59) Tryd.func43 #[.pointer (some ⟨g, 0, none⟩), .int .i64 3] ?_; (with_reducible refine (spec_l20Rd_pick.calls k1 g s0_0 t312 3 t328 t329 w0 _ (zs14 HI0.out) (zs16 HB.out HI0.out) A83.out).mono ?_); rintro e w92 ⟨rfl, hi, hb, hk⟩; refine ⟨_, rfl, ?_⟩; replace HO_6:=zM (Kd.R_mono (Kd.R_keep (IsS73.apart (show IsS73 w0 _ g s0_0 t312 from (zs14 HI0.out)) (zs11 HO_6.out) (by decide)) hk (fun _ h => h.2)) (fun _ h => h.1)); replace HO_7:=zM (Kd.R_mono (Kd.R_keep (IsS73.apart (show IsS73 w0 _ g s0_0 t312 from (zs14 HI0.out)) (zs11 HO_7.out) (by decide)) hk (fun _ h => h.2)) (fun _ h => h.1)); replace HO327:=zM (Kd.R_mono (Kd.R_keep (IsS73.apart (show IsS73 w0 _ g s0_0 t312 from (zs14 HI0.out)) (zs11 HO327.out) (by decide)) hk (fun _ h => h.2)) (fun _ h => h.1)); replace HK:=zM (KeepBut.trans (zs15 HK.out) hk (.inl rfl)); replace HB:=zM (hb); replace HI0:=zM (hi); clear hb hk hi; obtain ⟨Ao93, co93, eo93⟩ := Kd.R_slice HO327.out; subst eo93; have p330 : 0 ≤ (t328 : Int) := of_decide_eq_true zs8; have q330 : t328 < (y325.length : Int) := of_decide_eq_true zs8; obtain ⟨ad330, e330, hx330_0⟩ := Kd.at_int (Kd.R_reads' HO327.out).2.2 t328 p330 q330; cases e330; replace p330 := eq_true p330; replace q330 := eq_true q330; have p87 : 0 ≤ (0 : Int) := (by omega); have q87 : (0 : Int) < ((x7_1.length : Int) : Int) := of_decide_eq_true zs8; have qi87 : (0 < x7_1.length) = True := eq_true (by omega); obtain ⟨go87, co87, eo87, gb87, gl87, cl87, HG87⟩ := Kd.R_form HO_7.out (by omega); (first | cases eo87 | (injection eo87 with ea_ en_ ec_; (first | subst ea_ | (injection ea_ with ea_; subst ea_)); subst ec_; clear en_)); have GB87:=zM gb87; have GG87:=zM HG87; clear gb87 gl87 HG87; obtain ⟨hx87_0, hf87_0⟩ := Kd.R_celln 0 HO_7.out (0 : Int) p87 q87; (try rw [show ((0 : Int)).toNat = 0 from rfl] at hx87_0); (try simp only [Nat.reduceMul, Nat.zero_mul, Nat.zero_add, Nat.reduceAdd] at hx87_0); (try rw [show ((0 : Int)).toNat = 0 from rfl] at hf87_0); (try simp only [Nat.reduceMul, Nat.zero_mul, Nat.zero_add, Nat.reduceAdd] at hf87_0); replace p87 := eq_true p87; replace q87 := eq_true q87; obtain ⟨hy94_, hz94_⟩ := Kd.R_celln 0 HO_7.out (0 : Int) (by omega) (of_decide_eq_true zs8); (try simp only [Int.reduceToNat, Int.toNat_zero, Int.toNat_ofNat, Nat.reduceMul, Nat.zero_mul, Nat.zero_add] at hy94_ hz94_); (try rw [show ((0 : Int)).toNat = 0 from rfl] at hy94_); (try rw [show ((0 : Int)).toNat = 0 from rfl] at hz94_); have HP94 := Kd.R_putg HO_7.out (0 : Int) (rd y325 t328)) | ((with_reducible refine gate_store (t := 3) (p := 62) rfl ?_); refine store_event (t := 3) (p := 62) (v := ?vo_w95) (w1 := (w92.setCell ⟨go87, (0 : Int).toNat, none⟩ (.int .i64 (rd y325 t328)))) ?hg ?ho ?hn ?hr ?_; (case ho => rfl); (case hg => rfl); (case hn => rfl); (case hr => first | (go_simp; done) | (go_simp; rfl)); intro w95 hw; have hg : w92.grownBy w95 (some go87) := (by rw [hw]; exact HP94.2); have hp_ : Kd.R (Kd.int .i64) 3 w95 w.heap.size (fun k_ => some k_ ≠ (v288 : Value).ownBlock ∧ some k_ ≠ (.slice (some ad330) y325.length co93 : Value).ownBlock) (.slice (some ⟨go87, 0, none⟩) x7_1.length co87) y331 := (by rw [hw, Ny331.out]; exact HP94.1); clear HP94; replace HO_6:=zM (Kd.R_after (v := (.slice (some ⟨go87, 0, none⟩) x7_1.length co87)) (v1 := (.slice (some ⟨go87, 0, none⟩) x7_1.length co87)) (ok := (fun k_ => some k_ ≠ (.slice (some ad330) y325.length co93 : Value).ownBlock)) (by (with_reducible repeat (first | apply Kd.R_alloc | apply Kd.R_drewN | apply Kd.R_drew)); exact Kd.R_mono HO_6.out (fun _ hk => ⟨hk.2, hk.1⟩)) hg (.inl rfl)); replace HI0:=zM (IsS73.grown (zs14 HI0.out) hg (IsS73.own_ne HI0.out HO_7.out (by decide))); replace HO327:=zM (Kd.R_after (v := (.slice (some ⟨go87, 0, none⟩) x7_1.length co87)) (v1 := (.slice (some ⟨go87, 0, none⟩) x7_1.length co87)) (ok := (fun k_ => some k_ ≠ (v288 : Value).ownBlock)) (by (with_reducible repeat (first | apply Kd.R_alloc | apply Kd.R_drewN | apply Kd.R_drew)); exact Kd.R_mono HO327.out (fun _ hk => ⟨hk.1.2, hk.2⟩)) hg (.inl rfl)); replace HB:=zM ((by rw [hw]; exact zD (HB.out) (Nat.le_trans HL.out GB87.out) : Below w0.heap.size w0 w95)); replace HK:=zM (KeepBut.trans (zs15 HK.out) (KeepBut.of_grown hg g) (Kd.R_base2 HO_7.out)); replace HO_7:=zM (hp_); clear hg hw hp_))
             go_ret
             exact ⟨_, by first | rfl | (simp [errW_none, errW_some] <;> rfl) | (simp only [← hji5]; first | rfl | (simp [errW_none, errW_some] <;> rfl)) | (simp [*, errW_none, errW_some] <;> rfl), by (with_reducible repeat (first | apply Kd.R_alloc | apply Kd.R_drewN | apply Kd.R_drew)); exact Kd.R_mono HO_7.out (fun _ hk => trivial), (zs14 HI0.out), (zs16 HB.out HI0.out), (zs15 HK.out)⟩
            ·rw [if_neg c86] at H
             exact absurd H (by simp)
           ·rw [if_neg c85] at H
            exact absurd H (by simp)
          ·rw [if_neg c84] at H
           exact absurd H (by simp)
      ·replace c59 := Bool.eq_false_iff.mpr c59
       subst c59
       have H1 : (some (x7_1, t310)) = some (r1, r2) := by rw [if_neg (show ¬ (false = true) by decide)] at H; exact H
       clear H
       have H := H1
       clear H1
       simp only [Option.some.injEq, Prod.mk.injEq] at H
       obtain ⟨rfl, rfl⟩ := H
       go_wp2_with (first | (refine zg 46 (some 51) Tryd.func46 #[.pointer (some ⟨g, 0, none⟩), .int .i64 a1] ?_; (with_reducible refine (spec_l20Rd_odd.calls k1 g s0_0 x1001_1 a1 false t310 w0 _ (zs14 HI0.out) (zs16 HB.out HI0.out) A58.out).mono ?_); rintro e w96 ⟨rfl, hi, hb, hk⟩; refine ⟨_, rfl, ?_⟩; replace HO_6:=zM (Kd.R_mono (Kd.R_keep (IsS73.apart (show IsS73 w0 _ g s0_0 x1001_1 from (zs14 HI0.out)) (zs11 HO_6.out) (by decide)) hk (fun _ h => h.2)) (fun _ h => h.1)); replace HO_7:=zM (Kd.R_mono (Kd.R_keep (IsS73.apart (show IsS73 w0 _ g s0_0 x1001_1 from (zs14 HI0.out)) (zs11 HO_7.out) (by decide)) hk (fun _ h => h.2)) (fun _ h => h.1)); replace HK:=zM (KeepBut.trans (zs15 HK.out) hk (.inl rfl)); replace HB:=zM (hb); replace HI0:=zM (hi); clear hb hk hi))
       go_ret
       exact ⟨_, by first | rfl | (simp [errW_none, errW_some] <;> rfl) | (simp only [← hji5]; first | rfl | (simp [errW_none, errW_some] <;> rfl)) | (simp [*, errW_none, errW_some] <;> rfl), by (with_reducible repeat (first | apply Kd.R_alloc | apply Kd.R_drewN | apply Kd.R_drew)); exact Kd.R_mono HO_7.out (fun _ hk => trivial), (zs14 HI0.out), (zs16 HB.out HI0.out), (zs15 HK.out)⟩
  ·rw [if_neg c7] at H
   exact absurd H (by simp)
 ·rw [if_neg c6] at H
  exact absurd H (by simp)

end Go.Proofs.YtopfhdhdpnenpaaDoor.LG
