/- Printed by a program of this session (wip/lp/lp.py) out of the translation: functions with the same answers as the Go code, and their contracts; no conditions beyond those that each theorem names. -/
import Derived.Test.YtopfhdhdpnenpaaDoorLFx0
import Derived.Test.YtopfhdhdpnenpaaDoorLFx4
import Derived.Test.YtopfhdhdpnenpaaDoorLFx6
namespace Go.Proofs.YtopfhdhdpnenpaaDoor.LF
open Go.RowKit Go.Proofs.YtopfhdhdpnenpaaDoorV.PrintWords Go.Proofs.YtopfhdhdpnenpaaDoorV.PrintLast Go.Proofs.YtopfhdhdpnenpaaDoorV.PrintMore
attribute [local go_sem] max2_int min2_int max_two min_two max_three min_three max_four min_four   -- for this text's walks alone
set_option linter.unusedVariables false
set_option linter.unusedSimpArgs false

/-! ### spec_l20Tree: function 50 -/
def spec_l20Tree.l0 : Nat → Int → Int → List Int → List Int → Int → Int → List Int → Int → Option (List Int × Int)
 | 0, _, _, _, _, _, _, _, _ => none
 | k + 1, x1, x5, x6, x7, x8, x9, x1000, x1001 => if x9 < x5 then ((spec_l20Rd_pick.f k x1000 x1001 x9).bind fun bt237 => (if x8 = 1 then ((spec_l20Rd_pick.f k x1000 bt237.2 2).bind fun bt239 => (if bt239.1 = 0 then (if 0 ≤ x9 then (if x9 < (x6.length : Int) then (if 0 ≤ (wrap64 (x9 - 1)) then (if (wrap64 (x9 - 1)) < (x6.length : Int) then (if 0 ≤ (wrap64 ((rd x6 x9) - 1)) then (if (wrap64 ((rd x6 x9) - 1)) < (x7.length : Int) then (spec_l20Tree.l0 k x1 x5 x6 (x7.set ((wrap64 ((rd x6 x9) - 1)) : Int).toNat (rd x6 (wrap64 (x9 - 1)))) x8 (wrap64 (x9 + 1)) x1000 bt239.2) else (none)) else (none)) else (none)) else (none)) else (none)) else (none)) else (if 0 ≤ x9 then (if x9 < (x6.length : Int) then (if 0 ≤ bt237.1 then (if bt237.1 < (x6.length : Int) then (if 0 ≤ (wrap64 ((rd x6 x9) - 1)) then (if (wrap64 ((rd x6 x9) - 1)) < (x7.length : Int) then (spec_l20Tree.l0 k x1 x5 x6 (x7.set ((wrap64 ((rd x6 x9) - 1)) : Int).toNat (rd x6 bt237.1)) x8 (wrap64 (x9 + 1)) x1000 bt239.2) else (none)) else (none)) else (none)) else (none)) else (none)) else (none)))) else (if 0 ≤ x9 then (if x9 < (x6.length : Int) then (if 0 ≤ bt237.1 then (if bt237.1 < (x6.length : Int) then (if 0 ≤ (wrap64 ((rd x6 x9) - 1)) then (if (wrap64 ((rd x6 x9) - 1)) < (x7.length : Int) then (spec_l20Tree.l0 k x1 x5 x6 (x7.set ((wrap64 ((rd x6 x9) - 1)) : Int).toNat (rd x6 bt237.1)) x8 (wrap64 (x9 + 1)) x1000 bt237.2) else (none)) else (none)) else (none)) else (none)) else (none)) else (none)))) else ((spec_l20Rd_odd.f k x1000 x1001 x1).bind fun bt250 => (if bt250.1 = true then ((spec_l20Rd_pick.f k x1000 bt250.2 4).bind fun bt252 => (if bt252.1 = 0 then (some ((([] : List Int)), bt252.2)) else (if bt252.1 = 1 then (some ((([2, 1, 0] : List Int)), bt252.2)) else (if bt252.1 = 2 then ((spec_l20Rd_pick.f k x1000 bt252.2 x5).bind fun bt260 => (if 0 ≤ bt260.1 then (if bt260.1 < (x7.length : Int) then ((some (x7.set (bt260.1 : Int).toNat 0 : List Int)).bind fun y262 => (if y262.length < 17592186044416 then (some ((y262 ++ [0]), bt260.2)) else (none))) else (none)) else (none))) else ((some (([1, wrap64 (x5 + 1), (-1)] : List Int) : List Int)).bind fun y266 => ((spec_l20Rd_pick.f k x1000 bt252.2 3).bind fun bt269 => (if 0 ≤ bt269.1 then (if bt269.1 < (y266.length : Int) then (if 0 < (x7.length : Int) then (some ((x7.set (0 : Int).toNat (rd y266 bt269.1)), bt269.2)) else (none)) else (none)) else (none)))))))) else (some (x7, bt250.2))))
def spec_l20Tree.f (k : Nat) (s0_0 : List Int) (s0_1 : Int) (a1 : Int) : Option (List Int × Int) := (spec_l20Rd_pick.f k s0_0 s0_1 7).bind fun bt226 => ((spec_l20Order.f k s0_0 bt226.2 (wrap64 (1 + bt226.1))).bind fun bt228 => (if 0 ≤ (wrap64 (1 + bt226.1)) then (if (wrap64 (1 + bt226.1) : Int).toNat ≤ 35184372088832 then ((spec_l20Rd_pick.f k s0_0 bt228.2 2).bind fun bt235 => (spec_l20Tree.l0 k a1 (wrap64 (1 + bt226.1)) bt228.1 (List.replicate (wrap64 (1 + bt226.1) : Int).toNat 0) bt235.1 1 s0_0 bt235.2)) else (none)) else (none)))
theorem spec_l20Tree.mono_l : ∀ k, (∀ y0 y1 y2 y3 y4 y5 y6 y7, LeO (spec_l20Tree.l0 k y0 y1 y2 y3 y4 y5 y6 y7) (spec_l20Tree.l0 (k + 1) y0 y1 y2 y3 y4 y5 y6 y7))
 | 0 => fun _ _ _ _ _ _ _ _ r h => by simp [spec_l20Tree.l0] at h
 | k + 1 => by
  have ih0 := spec_l20Tree.mono_l k
  ·intro y0 y1 y2 y3 y4 y5 y6 y7
   unfold spec_l20Tree.l0
   repeat' first
   | (with_reducible exact ih0 _ _ _ _ _ _ _ _)
   | (with_reducible exact spec_l20Order.mono _ _ _ _)
   | (with_reducible exact spec_l20Rd_odd.mono _ _ _ _)
   | (with_reducible exact spec_l20Rd_pick.mono _ _ _ _)
   | (with_reducible exact LeO.refl _)
   | (with_reducible exact LeO.none _)
   | (with_reducible refine LeO.ite ?_ ?_)
   | (with_reducible refine LeO.bind ?_ (fun _ => ?_))
   | refine LeO.ite ?_ ?_
   | refine LeO.bind ?_ (fun _ => ?_)
theorem spec_l20Tree.mono : ∀ a0 a1 a2 k, LeO (spec_l20Tree.f k a0 a1 a2) (spec_l20Tree.f (k + 1) a0 a1 a2) := by
 intro a0 a1 a2 k
 have ih0 := spec_l20Tree.mono_l k
 unfold spec_l20Tree.f
 repeat' first
   | (with_reducible exact ih0 _ _ _ _ _ _ _ _)
   | (with_reducible exact spec_l20Order.mono _ _ _ _)
   | (with_reducible exact spec_l20Rd_odd.mono _ _ _ _)
   | (with_reducible exact spec_l20Rd_pick.mono _ _ _ _)
   | (with_reducible exact LeO.refl _)
   | (with_reducible exact LeO.none _)
   | (with_reducible refine LeO.ite ?_ ?_)
   | (with_reducible refine LeO.bind ?_ (fun _ => ?_))
   | refine LeO.ite ?_ ?_
   | refine LeO.bind ?_ (fun _ => ?_)
def spec_l20Tree.T11 : Bool × List (List Nat × List Nat) := (true, [([], []), ([], []), ([], []), ([1, 2], [1, 2]), ([3], [3]), ([4], [4]), ([], []), ([], []), ([6, 7], [6, 7]), ([8], [8]), ([0, 5, 0, 1, 2, 3, 4, 5, 6, 7, 8, 9], [0, 5]), ([10, 9, 0, 1, 2, 3, 4, 5, 6, 7, 8, 9], [9, 10])])
def spec_l20Tree.B11 : List Nat := [0, 0, 0, 6, 14, 30, 0, 0, 192, 448, 1023, 2047]
theorem spec_l20Tree.tab11 : rtab .any (opsOf Tryd.f50 11) = spec_l20Tree.T11 := by kernel_rfl
theorem spec_l20Tree.bits11 : waitsOk spec_l20Tree.T11.2 spec_l20Tree.B11 = true := by kernel_rfl
set_option maxHeartbeats 8000000 in
set_option maxRecDepth 100000 in
theorem spec_l20Tree.calls (k : Nat) (g : Nat) (s0_0 : List Int) (s0_1 : Int) (a1 : Int) (r1 : List Int) (r2 : Int) (w0 w : World) (hI : Z73 w0 w g s0_0 s0_1) (hB : Below w0.heap.size w0 w) (h : spec_l20Tree.f k s0_0 s0_1 a1 = some (r1, r2)) :
  Calls Tryd.prog 50 #[.pointer (some ⟨g, 0, none⟩), .int .i64 a1] w fun e w' => ∃ v0_ : Value, e = .returned (v0_) ∧ Kd.R (Kd.int .i64) 3 w' w.heap.size (fun _ => True) v0_ r1 ∧ Z73 w0 w' g s0_0 r2 ∧ Below w0.heap.size w0 w' ∧ KeepBut w w' g none := by
 have HI0 := zM hI
 have HK := zM (KeepBut.refl w g none)
 have HL := zM hB.size
 clear hI
 have HW0 := zM hB.size
 have HB := zM hB
 clear hB
 have H : ((spec_l20Rd_pick.f k s0_0 s0_1 7).bind fun bt226 => ((spec_l20Order.f k s0_0 bt226.2 (wrap64 (1 + bt226.1))).bind fun bt228 => (if 0 ≤ (wrap64 (1 + bt226.1)) then (if (wrap64 (1 + bt226.1) : Int).toNat ≤ 35184372088832 then ((spec_l20Rd_pick.f k s0_0 bt228.2 2).bind fun bt235 => (spec_l20Tree.l0 k a1 (wrap64 (1 + bt226.1)) bt228.1 (List.replicate (wrap64 (1 + bt226.1) : Int).toNat 0) bt235.1 1 s0_0 bt235.2)) else (none)) else (none)))) = some (r1, r2) := h
 clear h
 replace H := Option.bind_eq_some_iff.mp H
 obtain ⟨⟨t226, t227⟩, A30, H⟩ := H
 replace H : ((spec_l20Order.f k s0_0 t227 (wrap64 (1 + t226))).bind fun bt228 => (if 0 ≤ (wrap64 (1 + t226)) then (if (wrap64 (1 + t226) : Int).toNat ≤ 35184372088832 then ((spec_l20Rd_pick.f k s0_0 bt228.2 2).bind fun bt235 => (spec_l20Tree.l0 k a1 (wrap64 (1 + t226)) bt228.1 (List.replicate (wrap64 (1 + t226) : Int).toNat 0) bt235.1 1 s0_0 bt235.2)) else (none)) else (none))) = some (r1, r2) := H
 have A3 := zM A30
 clear A30
 replace H := Option.bind_eq_some_iff.mp H
 obtain ⟨⟨t228, t231⟩, A40, H⟩ := H
 replace H : (if 0 ≤ (wrap64 (1 + t226)) then (if (wrap64 (1 + t226) : Int).toNat ≤ 35184372088832 then ((spec_l20Rd_pick.f k s0_0 t231 2).bind fun bt235 => (spec_l20Tree.l0 k a1 (wrap64 (1 + t226)) t228 (List.replicate (wrap64 (1 + t226) : Int).toNat 0) bt235.1 1 s0_0 bt235.2)) else (none)) else (none)) = some (r1, r2) := H
 have A4 := zM A40
 clear A40
 obtain ⟨ji5, hji5⟩ : ∃ j_ : Int, (wrap64 (1 + t226)) = j_ := ⟨_, rfl⟩
 replace H : (if 0 ≤ (ji5) then (if (ji5 : Int).toNat ≤ 35184372088832 then ((spec_l20Rd_pick.f k s0_0 t231 2).bind fun bt235 => (spec_l20Tree.l0 k a1 ji5 t228 (List.replicate (ji5 : Int).toNat 0) bt235.1 1 s0_0 bt235.2)) else (none)) else (none)) = some (r1, r2) := by first | (rw [hji5] at H; exact H) | (simp only [hji5] at H ⊢; exact H)
 (try rw [hji5] at A3)
 (try rw [hji5] at A4)
 have hji5w : (IntKind.i64.wrap (1 + t226)) = ji5 := (i64_w _).trans hji5
 by_cases c6 : 0 ≤ (ji5)
 ·rw [if_pos c6] at H
  have c6b0 := eq_true c6
  have c6b1 : decide (0 ≤ (ji5)) = true := decide_eq_true c6
  clear c6
  by_cases c7 : (ji5 : Int).toNat ≤ 35184372088832
  ·rw [if_pos c7] at H
   have c7b0 := eq_true c7
   have c7b1 : decide ((ji5 : Int).toNat ≤ 35184372088832) = true := decide_eq_true c7
   clear c7
   obtain ⟨y232, hy232⟩ : ∃ y_ : List Int, y_ = (List.replicate (ji5 : Int).toNat 0) := ⟨_, rfl⟩
   replace H : ((spec_l20Rd_pick.f k s0_0 t231 2).bind fun bt235 => (spec_l20Tree.l0 k a1 ji5 t228 y232 bt235.1 1 s0_0 bt235.2)) = some (r1, r2) := by first | (rw [hy232]; with_reducible exact H) | (have H2_ := (Option.bind_some _ _).symm.trans H; rw [hy232]; with_reducible exact H2_) | (have H2_ := (Option.bind_some _ _).symm.trans H; with_reducible exact H2_) | with_reducible exact H | (rw [hy232]; exact H) | exact H
   have Ny232 := zM hy232
   clear hy232
   replace H := Option.bind_eq_some_iff.mp H
   obtain ⟨⟨t235, t236⟩, A80, H⟩ := H
   replace H : (spec_l20Tree.l0 k a1 ji5 t228 y232 t235 1 s0_0 t236) = some (r1, r2) := H
   have A8 := zM A80
   clear A80
   have H' := zM H
   clear H
   go_enter Tryd.func50, Tryd.ntmps50
   go_wp2_with (first | ((with_reducible refine gate_callee (f := 43) rfl ?_); refine goesL_ (some 12) rfl rfl Tryd.func43 (by kernel_rfl) rfl #[.pointer (some ⟨g, 0, none⟩), .int .i64 7] rfl (by (try simp only [List.map_toArray, List.map_cons, List.map_nil]); first | done | rfl | (simp only [List.length_drop, List.length_take]; rfl)) ?_; (with_reducible refine (spec_l20Rd_pick.calls k g s0_0 s0_1 7 t226 t227 w0 _ ?side1 ?side2 A3.out).mono ?_); (case side1 => repeat (first | (with_reducible first | exact HI0.out | apply Z73.alloc | apply Z73.drewN | apply Z73.drew | apply Z73.set_1) | exact HI0.out)); (case side2 => repeat (first | (with_reducible first | exact HB.out | apply zB | apply zA | apply zC | refine zD ?_ (Z73.ge HI0.out)) | exact HB.out)); rintro e w9 ⟨rfl, hi, hb, hk⟩; refine ⟨_, rfl, ?_⟩; have n0_ := zM (KeepBut.trans (by repeat (first | (with_reducible first | exact HK.out | apply zK | apply keep_drewN | apply keep_drew | apply keep_alloc) | exact HK.out)) hk (.inl rfl)); have n1_ := zM (hb); have n2_ := zM (hi); clear HK; clear HB; clear HI0; have HK := n0_; have HB := n1_; have HI0 := n2_; clear n0_ n1_ n2_; (try clear hb); (try clear hb2); (try clear hk); (try clear hi)) | ((with_reducible refine gate_callee (f := 53) rfl ?_); refine goesL_ (some 16) rfl rfl Tryd.func53 (by kernel_rfl) rfl #[.pointer (some ⟨g, 0, none⟩), .int .i64 ji5] rfl (by (try simp only [List.map_toArray, List.map_cons, List.map_nil]); first | done | (simp only [hji5]; rfl) | rfl | (simp only [List.length_drop, List.length_take]; rfl)) ?_; (with_reducible refine (spec_l20Order.calls k g s0_0 t227 ji5 t228 t231 w0 _ ?side1 ?side2 A4.out).mono ?_); (case side1 => repeat (first | (with_reducible first | exact HI0.out | apply Z73.alloc | apply Z73.drewN | apply Z73.drew | apply Z73.set_1) | exact HI0.out)); (case side2 => repeat (first | (with_reducible first | exact HB.out | apply zB | apply zA | apply zC | refine zD ?_ (Z73.ge HI0.out)) | exact HB.out)); rintro e w10 ⟨v229, rfl, ho0, hi, hb, hk⟩; refine ⟨_, rfl, ?_⟩; have n0_ := zM (Kd.R_lower ho0 (keep_size (w := w) (g := g) (row := none) (by repeat (first | (with_reducible first | exact HK.out | apply zK | apply keep_drewN | apply keep_drew | apply keep_alloc) | exact HK.out)))); have n1_ := zM (KeepBut.trans (by repeat (first | (with_reducible first | exact HK.out | apply zK | apply keep_drewN | apply keep_drew | apply keep_alloc) | exact HK.out)) hk (.inl rfl)); have n2_ := zM (hb); have n3_ := zM (hi); clear HK; clear HB; clear HI0; have HO230 := n0_; have HK := n1_; have HB := n2_; have HI0 := n3_; clear n0_ n1_ n2_ n3_; (try clear hb); (try clear hb2); (try clear hk); (try clear hi); (try clear ho0)) | ((with_reducible refine gate_dst (N := 18) rfl ?_); refine Kd.R_make (Kd.int .i64) _ 3 rfl (N := 18) rfl 54 _ _ rfl ji5 rfl rfl Tryd.underlying54 (.int .i64 0) 8 info3 rfl (by decide) (by omega) 0 (ok := fun _ => True) (okp := fun _ => True) rfl (fun _ hk => hk) trivial (of_decide_eq_true (by first | (with_reducible assumption) | assumption)) (Nat.le_trans (Nat.mul_le_mul_right _ (of_decide_eq_true (by first | (with_reducible assumption) | assumption) : ji5.toNat ≤ 35184372088832)) (by omega)) (Below.refl _ _) (Nat.le_refl _) ?_; intro v233 w11 ho12 hb hg_ hnew_; clear hg_ hnew_; (first | rw [← Ny232.out] at ho12 | (simp only [Int.reduceToNat] at ho12; rw [← Ny232.out] at ho12)); have n0_ := zM (Kd.R_elder' (by exact HO230.out) (Kd.R_base ho12) hb); have n1_ := zM (Kd.R_lower (Kd.R_new' ho12 (Kd.R_lt (by exact HO230.out))) (keep_size (w := w) (g := g) (row := none) (by repeat (first | (with_reducible first | exact HK.out | apply zK | apply keep_drewN | apply keep_drew | apply keep_alloc) | exact HK.out)))); have n2_ := zM (Z73.below (by repeat (first | (with_reducible first | exact HI0.out | apply Z73.alloc | apply Z73.drewN | apply Z73.drew | apply Z73.set_1) | exact HI0.out)) hb); have n3_ := zM (KeepBut.trans (by repeat (first | (with_reducible first | exact HK.out | apply zK | apply keep_drewN | apply keep_drew | apply keep_alloc) | exact HK.out)) (KeepBut.of_below hb g none) (.inl rfl)); have n4_ := zM (below_step (by repeat (first | (with_reducible first | exact HB.out | apply zB | apply zA | apply zC | refine zD ?_ (Z73.ge HI0.out)) | exact HB.out)) hb); clear HO230; clear HI0; clear HK; clear HB; have HO230 := n0_; have HO234 := n1_; have HI0 := n2_; have HK := n3_; have HB := n4_; clear n0_ n1_ n2_ n3_ n4_; clear hb ho12) | ((with_reducible refine gate_callee (f := 43) rfl ?_); refine goesL_ (some 20) rfl rfl Tryd.func43 (by kernel_rfl) rfl #[.pointer (some ⟨g, 0, none⟩), .int .i64 2] rfl (by (try simp only [List.map_toArray, List.map_cons, List.map_nil]); first | done | rfl | (simp only [List.length_drop, List.length_take]; rfl)) ?_; (with_reducible refine (spec_l20Rd_pick.calls k g s0_0 t231 2 t235 t236 w0 _ ?side1 ?side2 A8.out).mono ?_); (case side1 => repeat (first | (with_reducible first | exact HI0.out | apply Z73.alloc | apply Z73.drewN | apply Z73.drew | apply Z73.set_1) | exact HI0.out)); (case side2 => repeat (first | (with_reducible first | exact HB.out | apply zB | apply zA | apply zC | refine zD ?_ (Z73.ge HI0.out)) | exact HB.out)); rintro e w13 ⟨rfl, hi, hb, hk⟩; refine ⟨_, rfl, ?_⟩; have n0_ := zM (Kd.R_mono (Kd.R_keep (Z73.apart (show Z73 w0 _ g s0_0 t231 from by repeat (first | (with_reducible first | exact HI0.out | apply Z73.alloc | apply Z73.drewN | apply Z73.drew | apply Z73.set_1) | exact HI0.out)) (by exact HO230.out) (by decide)) hk (fun _ h => h.2)) (fun _ h => h.1)); have n1_ := zM (Kd.R_mono (Kd.R_keep (Z73.apart (show Z73 w0 _ g s0_0 t231 from by repeat (first | (with_reducible first | exact HI0.out | apply Z73.alloc | apply Z73.drewN | apply Z73.drew | apply Z73.set_1) | exact HI0.out)) (by exact HO234.out) (by decide)) hk (fun _ h => h.2)) (fun _ h => h.1)); have n2_ := zM (KeepBut.trans (by repeat (first | (with_reducible first | exact HK.out | apply zK | apply keep_drewN | apply keep_drew | apply keep_alloc) | exact HK.out)) hk (.inl rfl)); have n3_ := zM (hb); have n4_ := zM (hi); clear HO230; clear HO234; clear HK; clear HB; clear HI0; have HO230 := n0_; have HO234 := n1_; have HK := n2_; have HB := n3_; have HI0 := n4_; clear n0_ n1_ n2_ n3_ n4_; (try clear hb); (try clear hb2); (try clear hk); (try clear hi)))
   go_loopg [9] k (fun kq v9 w' => ∃ (x7_1 : List Int) (x9_1 : Int) (x1001_1 : Int), v9 = .int .i64 x9_1 ∧ Aside0 (spec_l20Tree.l0 kq a1 ji5 t228 x7_1 t235 x9_1 s0_0 x1001_1 = some (r1, r2)) ∧ Aside0 (kq ≤ k) ∧ Aside0 (Kd.R (Kd.int .i64) 3 w' w.heap.size (fun k_ => some k_ ≠ (v233 : Value).ownBlock) v229 t228) ∧ Aside0 (Kd.R (Kd.int .i64) 3 w' w.heap.size (fun k_ => some k_ ≠ (v229 : Value).ownBlock) v233 x7_1) ∧ Aside0 (Z73 w0 w' g s0_0 x1001_1) ∧ Aside0 (KeepBut w w' g none) ∧ Aside0 (Below w0.heap.size w0 w'))
   case atStart => exact ⟨(y232), (1), (t236), (by first | rfl | (simp; done) | (simp [*]; done)), H', ⟨Nat.le_refl _⟩, ⟨by exact Kd.R_mono HO230.out (fun _ hk => hk.2)⟩, ⟨by exact Kd.R_mono HO234.out (fun _ hk => hk.2)⟩, ⟨by repeat (first | (with_reducible first | exact HI0.out | apply Z73.alloc | apply Z73.drewN | apply Z73.drew | apply Z73.set_1) | exact HI0.out)⟩, ⟨by repeat (first | (with_reducible first | exact HK.out | apply zK | apply keep_drewN | apply keep_drew | apply keep_alloc) | exact HK.out)⟩, ⟨by repeat (first | (with_reducible first | exact HB.out | apply zB | apply zA | apply zC | refine zD ?_ (Z73.ge HI0.out)) | exact HB.out)⟩⟩
   case round =>
    clear H'
    try clear p2
    try clear c4
    try clear c5
    try clear c6
    try clear c6b0
    try clear c6b1
    try clear p6
    try clear c7
    try clear c7b0
    try clear c7b1
    obtain ⟨x7_1, x9_1, x1001_1, rfl, HA, HK1, HO_6, HO_7, HI0, HK, HB⟩ := hrel
    cases gk with
    | zero => exact absurd HA.out (by simp [spec_l20Tree.l0])
    | succ k1 =>
     have H := HA.out
     clear HA
     simp only [spec_l20Tree.l0] at H
     by_cases c14 : x9_1 < ji5
     ·rw [if_pos c14] at H
      have c14b0 : decide (x9_1 < ji5) = true := decide_eq_true c14
      clear c14
      replace H := Option.bind_eq_some_iff.mp H
      obtain ⟨⟨t237, t238⟩, A150, H⟩ := H
      replace H : (if t235 = 1 then ((spec_l20Rd_pick.f k1 s0_0 t238 2).bind fun bt239 => (if bt239.1 = 0 then (if 0 ≤ x9_1 then (if x9_1 < (t228.length : Int) then (if 0 ≤ (wrap64 (x9_1 - 1)) then (if (wrap64 (x9_1 - 1)) < (t228.length : Int) then (if 0 ≤ (wrap64 ((rd t228 x9_1) - 1)) then (if (wrap64 ((rd t228 x9_1) - 1)) < (x7_1.length : Int) then (spec_l20Tree.l0 k1 a1 ji5 t228 (x7_1.set ((wrap64 ((rd t228 x9_1) - 1)) : Int).toNat (rd t228 (wrap64 (x9_1 - 1)))) t235 (wrap64 (x9_1 + 1)) s0_0 bt239.2) else (none)) else (none)) else (none)) else (none)) else (none)) else (none)) else (if 0 ≤ x9_1 then (if x9_1 < (t228.length : Int) then (if 0 ≤ t237 then (if t237 < (t228.length : Int) then (if 0 ≤ (wrap64 ((rd t228 x9_1) - 1)) then (if (wrap64 ((rd t228 x9_1) - 1)) < (x7_1.length : Int) then (spec_l20Tree.l0 k1 a1 ji5 t228 (x7_1.set ((wrap64 ((rd t228 x9_1) - 1)) : Int).toNat (rd t228 t237)) t235 (wrap64 (x9_1 + 1)) s0_0 bt239.2) else (none)) else (none)) else (none)) else (none)) else (none)) else (none)))) else (if 0 ≤ x9_1 then (if x9_1 < (t228.length : Int) then (if 0 ≤ t237 then (if t237 < (t228.length : Int) then (if 0 ≤ (wrap64 ((rd t228 x9_1) - 1)) then (if (wrap64 ((rd t228 x9_1) - 1)) < (x7_1.length : Int) then (spec_l20Tree.l0 k1 a1 ji5 t228 (x7_1.set ((wrap64 ((rd t228 x9_1) - 1)) : Int).toNat (rd t228 t237)) t235 (wrap64 (x9_1 + 1)) s0_0 t238) else (none)) else (none)) else (none)) else (none)) else (none)) else (none))) = some (r1, r2) := H
      have A15 := zM A150
      clear A150
      by_cases c16 : t235 = 1
      ·rw [if_pos c16] at H
       have c16b0 : (t235 == 1) = true := beq_iff_eq.mpr c16
       have c16b1 : (t235 != 1) = false := bne_eq_false_iff_eq.mpr c16
       clear c16
       replace H := Option.bind_eq_some_iff.mp H
       obtain ⟨⟨t239, t240⟩, A170, H⟩ := H
       replace H : (if t239 = 0 then (if 0 ≤ x9_1 then (if x9_1 < (t228.length : Int) then (if 0 ≤ (wrap64 (x9_1 - 1)) then (if (wrap64 (x9_1 - 1)) < (t228.length : Int) then (if 0 ≤ (wrap64 ((rd t228 x9_1) - 1)) then (if (wrap64 ((rd t228 x9_1) - 1)) < (x7_1.length : Int) then (spec_l20Tree.l0 k1 a1 ji5 t228 (x7_1.set ((wrap64 ((rd t228 x9_1) - 1)) : Int).toNat (rd t228 (wrap64 (x9_1 - 1)))) t235 (wrap64 (x9_1 + 1)) s0_0 t240) else (none)) else (none)) else (none)) else (none)) else (none)) else (none)) else (if 0 ≤ x9_1 then (if x9_1 < (t228.length : Int) then (if 0 ≤ t237 then (if t237 < (t228.length : Int) then (if 0 ≤ (wrap64 ((rd t228 x9_1) - 1)) then (if (wrap64 ((rd t228 x9_1) - 1)) < (x7_1.length : Int) then (spec_l20Tree.l0 k1 a1 ji5 t228 (x7_1.set ((wrap64 ((rd t228 x9_1) - 1)) : Int).toNat (rd t228 t237)) t235 (wrap64 (x9_1 + 1)) s0_0 t240) else (none)) else (none)) else (none)) else (none)) else (none)) else (none))) = some (r1, r2) := H
       have A17 := zM A170
       clear A170
       by_cases c18 : t239 = 0
       ·rw [if_pos c18] at H
        have c18b0 : (t239 == 0) = true := beq_iff_eq.mpr c18
        have c18b1 : (t239 != 0) = false := bne_eq_false_iff_eq.mpr c18
        clear c18
        by_cases c19 : 0 ≤ x9_1
        ·rw [if_pos c19] at H
         have c19b0 : decide (0 ≤ x9_1) = true := decide_eq_true c19
         clear c19
         by_cases c20 : x9_1 < (t228.length : Int)
         ·rw [if_pos c20] at H
          have c20b0 : decide (x9_1 < (t228.length : Int)) = true := decide_eq_true c20
          clear c20
          obtain ⟨ji21, hji21⟩ : ∃ j_ : Int, (wrap64 (x9_1 - 1)) = j_ := ⟨_, rfl⟩
          replace H : (if 0 ≤ (ji21) then (if (ji21) < (t228.length : Int) then (if 0 ≤ (wrap64 ((rd t228 x9_1) - 1)) then (if (wrap64 ((rd t228 x9_1) - 1)) < (x7_1.length : Int) then (spec_l20Tree.l0 k1 a1 ji5 t228 (x7_1.set ((wrap64 ((rd t228 x9_1) - 1)) : Int).toNat (rd t228 (ji21))) t235 (wrap64 (x9_1 + 1)) s0_0 t240) else (none)) else (none)) else (none)) else (none)) = some (r1, r2) := by first | (rw [hji21] at H; exact H) | (simp only [hji21] at H ⊢; exact H)
          (try rw [hji21] at A15)
          (try rw [hji21] at A17)
          have hji21w : (IntKind.i64.wrap (x9_1 - 1)) = ji21 := (i64_w _).trans hji21
          by_cases c22 : 0 ≤ (ji21)
          ·rw [if_pos c22] at H
           have c22b0 : decide (0 ≤ (ji21)) = true := decide_eq_true c22
           clear c22
           by_cases c23 : (ji21) < (t228.length : Int)
           ·rw [if_pos c23] at H
            have c23b0 : decide ((ji21) < (t228.length : Int)) = true := decide_eq_true c23
            clear c23
            obtain ⟨ji24, hji24⟩ : ∃ j_ : Int, (wrap64 ((rd t228 x9_1) - 1)) = j_ := ⟨_, rfl⟩
            replace H : (if 0 ≤ (ji24) then (if (ji24) < (x7_1.length : Int) then (spec_l20Tree.l0 k1 a1 ji5 t228 (x7_1.set ((ji24) : Int).toNat (rd t228 (ji21))) t235 (wrap64 (x9_1 + 1)) s0_0 t240) else (none)) else (none)) = some (r1, r2) := by first | (rw [hji24] at H; exact H) | (simp only [hji24] at H ⊢; exact H)
            (try rw [hji24] at A15)
            (try rw [hji24] at A17)
            have hji24w : (IntKind.i64.wrap ((rd t228 x9_1) - 1)) = ji24 := (i64_w _).trans hji24
            by_cases c25 : 0 ≤ (ji24)
            ·rw [if_pos c25] at H
             have c25b0 : decide (0 ≤ (ji24)) = true := decide_eq_true c25
             clear c25
             by_cases c26 : (ji24) < (x7_1.length : Int)
             ·rw [if_pos c26] at H
              have c26b0 : decide ((ji24) < (x7_1.length : Int)) = true := decide_eq_true c26
              clear c26
              obtain ⟨y243, hy243⟩ : ∃ y_ : List Int, y_ = (x7_1.set ((ji24) : Int).toNat (rd t228 (ji21))) := ⟨_, rfl⟩
              replace H : (spec_l20Tree.l0 k1 a1 ji5 t228 y243 t235 (wrap64 (x9_1 + 1)) s0_0 t240) = some (r1, r2) := by first | (rw [hy243]; with_reducible exact H) | (have H2_ := (Option.bind_some _ _).symm.trans H; rw [hy243]; with_reducible exact H2_) | (have H2_ := (Option.bind_some _ _).symm.trans H; with_reducible exact H2_) | with_reducible exact H | (rw [hy243]; exact H) | exact H
              have Ny243 := zM hy243
              clear hy243
              have H' := zM H
              clear H
              try go_wp2_with (first | ((with_reducible refine gate_callee (f := 43) rfl ?_); refine goesL_ (some 28) rfl rfl Tryd.func43 (by kernel_rfl) rfl #[.pointer (some ⟨g, 0, none⟩), .int .i64 x9_1] rfl (by (try simp only [List.map_toArray, List.map_cons, List.map_nil]); first | done | rfl | (simp only [List.length_drop, List.length_take]; rfl)) ?_; (with_reducible refine (spec_l20Rd_pick.calls k1 g s0_0 x1001_1 x9_1 t237 t238 w0 _ ?side1 ?side2 A15.out).mono ?_); (case side1 => repeat (first | (with_reducible first | exact HI0.out | apply Z73.alloc | apply Z73.drewN | apply Z73.drew | apply Z73.set_1) | exact HI0.out)); (case side2 => repeat (first | (with_reducible first | exact HB.out | apply zB | apply zA | apply zC | refine zD ?_ (Z73.ge HI0.out)) | exact HB.out)); rintro e w28 ⟨rfl, hi, hb, hk⟩; refine ⟨_, rfl, ?_⟩; have n0_ := zM (Kd.R_mono (Kd.R_keep (Z73.apart (show Z73 w0 _ g s0_0 x1001_1 from by repeat (first | (with_reducible first | exact HI0.out | apply Z73.alloc | apply Z73.drewN | apply Z73.drew | apply Z73.set_1) | exact HI0.out)) (by exact HO_6.out) (by decide)) hk (fun _ h => h.2)) (fun _ h => h.1)); have n1_ := zM (Kd.R_mono (Kd.R_keep (Z73.apart (show Z73 w0 _ g s0_0 x1001_1 from by repeat (first | (with_reducible first | exact HI0.out | apply Z73.alloc | apply Z73.drewN | apply Z73.drew | apply Z73.set_1) | exact HI0.out)) (by exact HO_7.out) (by decide)) hk (fun _ h => h.2)) (fun _ h => h.1)); have n2_ := zM (KeepBut.trans (by repeat (first | (with_reducible first | exact HK.out | apply zK | apply keep_drewN | apply keep_drew | apply keep_alloc) | exact HK.out)) hk (.inl rfl)); have n3_ := zM (hb); have n4_ := zM (hi); clear HO_6; clear HO_7; clear HK; clear HB; clear HI0; have HO_6 := n0_; have HO_7 := n1_; have HK := n2_; have HB := n3_; have HI0 := n4_; clear n0_ n1_ n2_ n3_ n4_; (try clear hb); (try clear hb2); (try clear hk); (try clear hi)) | (go_at_call 43; (with_reducible refine (spec_l20Rd_pick.calls k1 g s0_0 t238 2 t239 t240 w0 _ ?side1 ?side2 A17.out).mono ?_); (case side1 => repeat (first | (with_reducible first | exact HI0.out | apply Z73.alloc | apply Z73.drewN | apply Z73.drew | apply Z73.set_1) | exact HI0.out)); (case side2 => repeat (first | (with_reducible first | exact HB.out | apply zB | apply zA | apply zC | refine zD ?_ (Z73.ge HI0.out)) | exact HB.out)); rintro e w29 ⟨rfl, hi, hb, hk⟩; have n0_ := zM (Kd.R_mono (Kd.R_keep (Z73.apart (show Z73 w0 _ g s0_0 t238 from by repeat (first | (with_reducible first | exact HI0.out | apply Z73.alloc | apply Z73.drewN | apply Z73.drew | apply Z73.set_1) | exact HI0.out)) (by exact HO_6.out) (by decide)) hk (fun _ h => h.2)) (fun _ h => h.1)); have n1_ := zM (Kd.R_mono (Kd.R_keep (Z73.apart (show Z73 w0 _ g s0_0 t238 from by repeat (first | (with_reducible first | exact HI0.out | apply Z73.alloc | apply Z73.drewN | apply Z73.drew | apply Z73.set_1) | exact HI0.out)) (by exact HO_7.out) (by decide)) hk (fun _ h => h.2)) (fun _ h => h.1)); have n2_ := zM (KeepBut.trans (by repeat (first | (with_reducible first | exact HK.out | apply zK | apply keep_drewN | apply keep_drew | apply keep_alloc) | exact HK.out)) hk (.inl rfl)); have n3_ := zM (hb); have n4_ := zM (hi); clear HO_6; clear HO_7; clear HK; clear HB; clear HI0; have HO_6 := n0_; have HO_7 := n1_; have HK := n2_; have HB := n3_; have HI0 := n4_; clear n0_ n1_ n2_ n3_ n4_; (try clear hb); (try clear hb2); (try clear hk); (try clear hi)))
              have n0_ := zM (Kd.R_drew HO_6.out)
              have n1_ := zM (Kd.R_drew HO_7.out)
              have n2_ := zM (Z73.drew HI0.out)
              have n3_ := zM (keep_drew HK.out)
              have n4_ := zM (zC HB.out)
              clear HO_6
              clear HO_7
              clear HI0
              clear HK
              clear HB
              have HO_6 := n0_
              have HO_7 := n1_
              have HI0 := n2_
              have HK := n3_
              have HB := n4_
              clear n0_ n1_ n2_ n3_ n4_
              obtain ⟨Ao31, co31, eo31⟩ := Kd.R_slice HO_6.out
              (first | subst eo31 | (injection eo31 with f1_ f2_ f3_; have f4_ := f1_.symm; have f5_ := f3_.symm; clear f1_ f2_ f3_; subst f4_; subst f5_))
              have p241 : 0 ≤ (x9_1 : Int) := of_decide_eq_true (by first | (with_reducible assumption) | assumption)
              have q241 : x9_1 < (t228.length : Int) := of_decide_eq_true (by first | (with_reducible assumption) | assumption)
              obtain ⟨ad241, e241, hx241_0⟩ := Kd.at_int (Kd.R_reads' HO_6.out).2.2 x9_1 p241 q241
              cases e241
              replace p241 := eq_true p241
              replace q241 := eq_true q241
              have p242 : 0 ≤ ((ji21) : Int) := of_decide_eq_true (by first | (with_reducible assumption) | assumption)
              have q242 : (ji21) < (t228.length : Int) := of_decide_eq_true (by first | (with_reducible assumption) | assumption)
              obtain ⟨ad242, e242, hx242_0⟩ := Kd.at_int (Kd.R_reads' HO_6.out).2.2 (ji21) p242 q242
              obtain rfl : ad241 = ad242 := (by injection e242)
              replace p242 := eq_true p242
              replace q242 := eq_true q242
              have p27 : 0 ≤ ((ji24) : Int) := of_decide_eq_true (by first | (with_reducible assumption) | assumption)
              have q27 : ((ji24) : Int) < ((x7_1.length : Int) : Int) := of_decide_eq_true (by first | (with_reducible assumption) | assumption)
              obtain ⟨go27, co27, eo27, gb27, gl27, cl27, HG27⟩ := Kd.R_form HO_7.out (by omega)
              (first | cases eo27 | (injection eo27 with ea_ en_ ec_; (first | subst ea_ | (injection ea_ with ea_; subst ea_)); subst ec_; clear en_))
              have GB27 := zM gb27
              have GG27 := zM HG27
              clear gb27 gl27 HG27
              obtain ⟨hx27_0, hf27_0⟩ := Kd.R_celln 0 HO_7.out ((ji24) : Int) p27 q27
              replace p27 := eq_true p27
              replace q27 := eq_true q27
              have HN0_go27 := zM (show g ≠ go27 from by have h_ := Z73.own_ne HI0.out HO_7.out (by decide); intro e_; exact h_ (by rw [e_]; rfl))
              have HP32 := Kd.R_putn HO_7.out ((ji24) : Int) (rd t228 (ji21))
              rw [← Ny243.out] at HP32
              have HQ32 := zM HP32
              clear HP32
              refine start_ (n := 12) (S := fun w' => w'.cell? (ad241.add (x9_1).toNat) = some (.int .i64 (rd t228 x9_1)) ∧ w'.cell? (ad241.add ((ji21)).toNat) = some (.int .i64 (rd t228 (ji21)))) (ds := [11]) #[false, false, false, false, false, false, false, false, false, false, false, false] (by kernel_rfl) rfl rfl ⟨hx241_0, hx242_0⟩ (fun hHeld => ?_); refine with_tabW spec_l20Tree.tab11 spec_l20Tree.bits11 (fun HT_ HW_ => ?_)
              generalize w29.drew = w30 at HO_6 HO_7 HI0 HK HB GG27 HQ32 hf27_0 hx241_0 hx242_0 hx27_0 hHeld ⊢
              refine pure_ (i := 0) (N := some 38) (v := ?_) (a' := ?_) #[true, false, false, false, false, false, false, false, false, false, false, false] rfl rfl (any_of HT_.out (by kernel_rfl)) (fun _ _ _ h => h) (Or.inl ⟨by rfl, ?_⟩) ?_ ?_
              rotate_left
              ·intro w'
               go_simp
               with_reducible rfl
              rotate_left
              ·simp only [Act.put, zE, zF, zG, i64_w, i32_w]
               rfl
              refine pure_ (i := 1) (N := some 39) (v := ?_) (a' := ?_) #[true, true, false, false, false, false, false, false, false, false, false, false] rfl rfl (any_of HT_.out (by kernel_rfl)) (fun _ _ _ h => h) (Or.inl ⟨by rfl, ?_⟩) ?_ ?_
              rotate_left
              ·intro w'
               go_simp
               with_reducible rfl
              rotate_left
              ·simp only [Act.put, zE, zF, zG, i64_w, i32_w]
               rfl
              refine pure_ (i := 2) (N := some 40) (v := ?_) (a' := ?_) #[true, true, true, false, false, false, false, false, false, false, false, false] rfl rfl (any_of HT_.out (by kernel_rfl)) (fun _ _ _ h => h) (Or.inl ⟨by rfl, ?_⟩) ?_ ?_
              rotate_left
              ·intro w'
               go_simp
               with_reducible rfl
              rotate_left
              ·simp only [Act.put, zE, zF, zG, i64_w, i32_w]
               rfl
              refine pure_ (i := 3) (N := some 41) (v := ?_) (a' := ?_) #[true, true, true, true, false, false, false, false, false, false, false, false] rfl rfl (any_of HT_.out (by kernel_rfl)) (fun _ _ _ h => h) (Or.inl ⟨by rfl, ?_⟩) ?_ ?_
              rotate_left
              ·intro w'
               go_simp
               with_reducible rfl
              rotate_left
              ·simp only [Act.put, zE, zF, zG, i64_w, i32_w]
               rfl
              refine pure_ (i := 6) (N := some 44) (v := ?_) (a' := ?_) #[true, true, true, true, false, false, true, false, false, false, false, false] rfl rfl (any_of HT_.out (by kernel_rfl)) (fun _ _ _ h => h) (Or.inl ⟨by rfl, ?_⟩) ?_ ?_
              rotate_left
              ·intro w'
               go_simp
               with_reducible rfl
              rotate_left
              ·simp only [Act.put, zE, zF, zG, i64_w, i32_w]
               rfl
              refine pure_ (i := 7) (N := some 45) (v := ?_) (a' := ?_) #[true, true, true, true, false, false, true, true, false, false, false, false] rfl rfl (any_of HT_.out (by kernel_rfl)) (fun _ _ _ h => h) (Or.inl ⟨by rfl, ?_⟩) ?_ ?_
              rotate_left
              ·intro w'
               go_simp
               with_reducible rfl
              rotate_left
              ·simp only [Act.put, zE, zF, zG, i64_w, i32_w]
               rfl
              refine pure_ (i := 8) (N := some 46) (v := ?_) (a' := ?_) #[true, true, true, true, false, false, true, true, true, false, false, false] rfl rfl (any_of HT_.out (by kernel_rfl)) (fun _ _ _ h => h) (Or.inl ⟨by rfl, ?_⟩) ?_ ?_
              rotate_left
              ·intro w'
               go_simp
               with_reducible rfl
              rotate_left
              ·simp only [Act.put, zE, zF, zG, i64_w, i32_w]
               rfl
              refine take_ (i := 4) (N := some 42) (v := ?_) (a' := ?_) #[true, true, true, true, true, false, true, true, true, false, false, false] rfl rfl (take_ofW HT_.out HW_.out (by kernel_rfl)) (fun _ _ _ h => h) (Or.inl ⟨by rfl, ?_⟩) hHeld ?_ ?_
              rotate_left
              ·rintro w' ⟨s0, s1⟩
               go_simp
               with_reducible rfl
              rotate_left
              ·simp only [Act.put, zE, zF, zG, i64_w, i32_w]
               rfl
              refine pure_ (i := 5) (N := some 43) (v := ?_) (a' := ?_) #[true, true, true, true, true, true, true, true, true, false, false, false] rfl rfl (any_of HT_.out (by kernel_rfl)) (fun _ _ _ h => h) (Or.inl ⟨by rfl, ?_⟩) ?_ ?_
              rotate_left
              ·intro w'
               go_simp
               with_reducible rfl
              rotate_left
              ·simp only [Act.put, zE, zF, zG, i64_w, i32_w]
               rfl
              refine take_ (i := 9) (N := some 47) (v := ?_) (a' := ?_) #[true, true, true, true, true, true, true, true, true, true, false, false] rfl rfl (take_ofW HT_.out HW_.out (by kernel_rfl)) (fun _ _ _ h => h) (Or.inl ⟨by rfl, ?_⟩) hHeld ?_ ?_
              rotate_left
              ·rintro w' ⟨s0, s1⟩
               go_simp
               with_reducible rfl
              rotate_left
              ·simp only [Act.put, zE, zF, zG, i64_w, i32_w]
               rfl
              refine pure_ (i := 10) (N := some 48) (v := ?_) (a' := ?_) #[true, true, true, true, true, true, true, true, true, true, true, false] rfl rfl (any_of HT_.out (by kernel_rfl)) (fun _ _ _ h => h) (Or.inl ⟨by rfl, ?_⟩) ?_ ?_
              rotate_left
              ·intro w'
               go_simp
               with_reducible rfl
              rotate_left
              ·simp only [Act.put, zE, zF, zG, i64_w, i32_w]
               rfl
              refine last_ (i := 11) (N := none) #[true, true, true, true, true, true, true, true, true, true, true, true] rfl rfl (one_of HT_.out (by kernel_rfl)) (by decide) (fun K hK => ?_)
              refine skip_ (w1 := ?_) (by rfl) rfl ?_ ?_
              rotate_left
              ·go_simp
               rfl
              refine hK.out _ _ ?_
              clear hK K
              refine done_ (done_of HT_.out (by kernel_rfl)) ?_
              try go_wp2
              go_roundg k1
              case measure => have := HK1.out; omega
              case rel => exact ⟨(y243), (wrap64 (x9_1 + 1)), (t240), (by first | rfl | (simp; done) | (simp [*]; done)), H', ⟨by have := HK1.out; omega⟩, ⟨by exact Kd.R_mono (Kd.R_far (p := ⟨go27, ((ji24) : Int).toNat, none⟩) (Kd.R_mono HO_6.out (fun k_ hk => (⟨hk, fun e_ => hk (by rw [e_]; rfl)⟩ : _ ∧ k_ ≠ go27))) (fun _ hk => hk.2) (.int .i64 (rd t228 (ji21)))) (fun _ hk => hk.1)⟩, ⟨by exact HQ32.out⟩, ⟨by repeat (first | (with_reducible first | exact HI0.out | apply Z73.alloc | apply Z73.drewN | apply Z73.drew | apply Z73.set_1 | refine Z73.far ?_ HN0_go27.out _) | exact HI0.out)⟩, ⟨by repeat (first | (with_reducible first | exact HK.out | apply zK | apply keep_drewN | apply keep_drew | apply keep_alloc | refine keep_far ?_ GB27.out _) | exact HK.out)⟩, ⟨by repeat (first | (with_reducible first | exact HB.out | apply zB | apply zA | apply zC | refine zD ?_ (Nat.le_trans HL.out GB27.out) | refine zD ?_ (Z73.ge HI0.out)) | exact HB.out)⟩⟩
             ·rw [if_neg c26] at H
              exact absurd H (by simp)
            ·rw [if_neg c25] at H
             exact absurd H (by simp)
           ·rw [if_neg c23] at H
            exact absurd H (by simp)
          ·rw [if_neg c22] at H
           exact absurd H (by simp)
         ·rw [if_neg c20] at H
          exact absurd H (by simp)
        ·rw [if_neg c19] at H
         exact absurd H (by simp)
       ·rw [if_neg c18] at H
        have c18b0 : (t239 == 0) = false := beq_eq_false_iff_ne.mpr c18
        have c18b1 : (t239 != 0) = true := bne_iff_ne.mpr c18
        by_cases c33 : 0 ≤ x9_1
        ·rw [if_pos c33] at H
         have c33b0 : decide (0 ≤ x9_1) = true := decide_eq_true c33
         clear c33
         by_cases c34 : x9_1 < (t228.length : Int)
         ·rw [if_pos c34] at H
          have c34b0 : decide (x9_1 < (t228.length : Int)) = true := decide_eq_true c34
          clear c34
          by_cases c35 : 0 ≤ t237
          ·rw [if_pos c35] at H
           have c35b0 : decide (0 ≤ t237) = true := decide_eq_true c35
           clear c35
           by_cases c36 : t237 < (t228.length : Int)
           ·rw [if_pos c36] at H
            have c36b0 : decide (t237 < (t228.length : Int)) = true := decide_eq_true c36
            clear c36
            obtain ⟨ji37, hji37⟩ : ∃ j_ : Int, (wrap64 ((rd t228 x9_1) - 1)) = j_ := ⟨_, rfl⟩
            replace H : (if 0 ≤ (ji37) then (if (ji37) < (x7_1.length : Int) then (spec_l20Tree.l0 k1 a1 ji5 t228 (x7_1.set ((ji37) : Int).toNat (rd t228 t237)) t235 (wrap64 (x9_1 + 1)) s0_0 t240) else (none)) else (none)) = some (r1, r2) := by first | (rw [hji37] at H; exact H) | (simp only [hji37] at H ⊢; exact H)
            (try rw [hji37] at A15)
            (try rw [hji37] at A17)
            have hji37w : (IntKind.i64.wrap ((rd t228 x9_1) - 1)) = ji37 := (i64_w _).trans hji37
            by_cases c38 : 0 ≤ (ji37)
            ·rw [if_pos c38] at H
             have c38b0 : decide (0 ≤ (ji37)) = true := decide_eq_true c38
             clear c38
             by_cases c39 : (ji37) < (x7_1.length : Int)
             ·rw [if_pos c39] at H
              have c39b0 : decide ((ji37) < (x7_1.length : Int)) = true := decide_eq_true c39
              clear c39
              obtain ⟨y246, hy246⟩ : ∃ y_ : List Int, y_ = (x7_1.set ((ji37) : Int).toNat (rd t228 t237)) := ⟨_, rfl⟩
              replace H : (spec_l20Tree.l0 k1 a1 ji5 t228 y246 t235 (wrap64 (x9_1 + 1)) s0_0 t240) = some (r1, r2) := by first | (rw [hy246]; with_reducible exact H) | (have H2_ := (Option.bind_some _ _).symm.trans H; rw [hy246]; with_reducible exact H2_) | (have H2_ := (Option.bind_some _ _).symm.trans H; with_reducible exact H2_) | with_reducible exact H | (rw [hy246]; exact H) | exact H
              have Ny246 := zM hy246
              clear hy246
              have H' := zM H
              clear H
              try go_wp2_with (first | ((with_reducible refine gate_callee (f := 43) rfl ?_); refine goesL_ (some 28) rfl rfl Tryd.func43 (by kernel_rfl) rfl #[.pointer (some ⟨g, 0, none⟩), .int .i64 x9_1] rfl (by (try simp only [List.map_toArray, List.map_cons, List.map_nil]); first | done | rfl | (simp only [List.length_drop, List.length_take]; rfl)) ?_; (with_reducible refine (spec_l20Rd_pick.calls k1 g s0_0 x1001_1 x9_1 t237 t238 w0 _ ?side1 ?side2 A15.out).mono ?_); (case side1 => repeat (first | (with_reducible first | exact HI0.out | apply Z73.alloc | apply Z73.drewN | apply Z73.drew | apply Z73.set_1) | exact HI0.out)); (case side2 => repeat (first | (with_reducible first | exact HB.out | apply zB | apply zA | apply zC | refine zD ?_ (Z73.ge HI0.out)) | exact HB.out)); rintro e w41 ⟨rfl, hi, hb, hk⟩; refine ⟨_, rfl, ?_⟩; have n0_ := zM (Kd.R_mono (Kd.R_keep (Z73.apart (show Z73 w0 _ g s0_0 x1001_1 from by repeat (first | (with_reducible first | exact HI0.out | apply Z73.alloc | apply Z73.drewN | apply Z73.drew | apply Z73.set_1) | exact HI0.out)) (by exact HO_6.out) (by decide)) hk (fun _ h => h.2)) (fun _ h => h.1)); have n1_ := zM (Kd.R_mono (Kd.R_keep (Z73.apart (show Z73 w0 _ g s0_0 x1001_1 from by repeat (first | (with_reducible first | exact HI0.out | apply Z73.alloc | apply Z73.drewN | apply Z73.drew | apply Z73.set_1) | exact HI0.out)) (by exact HO_7.out) (by decide)) hk (fun _ h => h.2)) (fun _ h => h.1)); have n2_ := zM (KeepBut.trans (by repeat (first | (with_reducible first | exact HK.out | apply zK | apply keep_drewN | apply keep_drew | apply keep_alloc) | exact HK.out)) hk (.inl rfl)); have n3_ := zM (hb); have n4_ := zM (hi); clear HO_6; clear HO_7; clear HK; clear HB; clear HI0; have HO_6 := n0_; have HO_7 := n1_; have HK := n2_; have HB := n3_; have HI0 := n4_; clear n0_ n1_ n2_ n3_ n4_; (try clear hb); (try clear hb2); (try clear hk); (try clear hi)) | (go_at_call 43; (with_reducible refine (spec_l20Rd_pick.calls k1 g s0_0 t238 2 t239 t240 w0 _ ?side1 ?side2 A17.out).mono ?_); (case side1 => repeat (first | (with_reducible first | exact HI0.out | apply Z73.alloc | apply Z73.drewN | apply Z73.drew | apply Z73.set_1) | exact HI0.out)); (case side2 => repeat (first | (with_reducible first | exact HB.out | apply zB | apply zA | apply zC | refine zD ?_ (Z73.ge HI0.out)) | exact HB.out)); rintro e w42 ⟨rfl, hi, hb, hk⟩; have n0_ := zM (Kd.R_mono (Kd.R_keep (Z73.apart (show Z73 w0 _ g s0_0 t238 from by repeat (first | (with_reducible first | exact HI0.out | apply Z73.alloc | apply Z73.drewN | apply Z73.drew | apply Z73.set_1) | exact HI0.out)) (by exact HO_6.out) (by decide)) hk (fun _ h => h.2)) (fun _ h => h.1)); have n1_ := zM (Kd.R_mono (Kd.R_keep (Z73.apart (show Z73 w0 _ g s0_0 t238 from by repeat (first | (with_reducible first | exact HI0.out | apply Z73.alloc | apply Z73.drewN | apply Z73.drew | apply Z73.set_1) | exact HI0.out)) (by exact HO_7.out) (by decide)) hk (fun _ h => h.2)) (fun _ h => h.1)); have n2_ := zM (KeepBut.trans (by repeat (first | (with_reducible first | exact HK.out | apply zK | apply keep_drewN | apply keep_drew | apply keep_alloc) | exact HK.out)) hk (.inl rfl)); have n3_ := zM (hb); have n4_ := zM (hi); clear HO_6; clear HO_7; clear HK; clear HB; clear HI0; have HO_6 := n0_; have HO_7 := n1_; have HK := n2_; have HB := n3_; have HI0 := n4_; clear n0_ n1_ n2_ n3_ n4_; (try clear hb); (try clear hb2); (try clear hk); (try clear hi)))
              have n0_ := zM (Kd.R_drew HO_6.out)
              have n1_ := zM (Kd.R_drew HO_7.out)
              have n2_ := zM (Z73.drew HI0.out)
              have n3_ := zM (keep_drew HK.out)
              have n4_ := zM (zC HB.out)
              clear HO_6
              clear HO_7
              clear HI0
              clear HK
              clear HB
              have HO_6 := n0_
              have HO_7 := n1_
              have HI0 := n2_
              have HK := n3_
              have HB := n4_
              clear n0_ n1_ n2_ n3_ n4_
              obtain ⟨Ao44, co44, eo44⟩ := Kd.R_slice HO_6.out
              (first | subst eo44 | (injection eo44 with f1_ f2_ f3_; have f4_ := f1_.symm; have f5_ := f3_.symm; clear f1_ f2_ f3_; subst f4_; subst f5_))
              have p244 : 0 ≤ (x9_1 : Int) := of_decide_eq_true (by first | (with_reducible assumption) | assumption)
              have q244 : x9_1 < (t228.length : Int) := of_decide_eq_true (by first | (with_reducible assumption) | assumption)
              obtain ⟨ad244, e244, hx244_0⟩ := Kd.at_int (Kd.R_reads' HO_6.out).2.2 x9_1 p244 q244
              cases e244
              replace p244 := eq_true p244
              replace q244 := eq_true q244
              have p245 : 0 ≤ (t237 : Int) := of_decide_eq_true (by first | (with_reducible assumption) | assumption)
              have q245 : t237 < (t228.length : Int) := of_decide_eq_true (by first | (with_reducible assumption) | assumption)
              obtain ⟨ad245, e245, hx245_0⟩ := Kd.at_int (Kd.R_reads' HO_6.out).2.2 t237 p245 q245
              obtain rfl : ad244 = ad245 := (by injection e245)
              replace p245 := eq_true p245
              replace q245 := eq_true q245
              have p40 : 0 ≤ ((ji37) : Int) := of_decide_eq_true (by first | (with_reducible assumption) | assumption)
              have q40 : ((ji37) : Int) < ((x7_1.length : Int) : Int) := of_decide_eq_true (by first | (with_reducible assumption) | assumption)
              obtain ⟨go40, co40, eo40, gb40, gl40, cl40, HG40⟩ := Kd.R_form HO_7.out (by omega)
              (first | cases eo40 | (injection eo40 with ea_ en_ ec_; (first | subst ea_ | (injection ea_ with ea_; subst ea_)); subst ec_; clear en_))
              have GB40 := zM gb40
              have GG40 := zM HG40
              clear gb40 gl40 HG40
              obtain ⟨hx40_0, hf40_0⟩ := Kd.R_celln 0 HO_7.out ((ji37) : Int) p40 q40
              replace p40 := eq_true p40
              replace q40 := eq_true q40
              have HN0_go40 := zM (show g ≠ go40 from by have h_ := Z73.own_ne HI0.out HO_7.out (by decide); intro e_; exact h_ (by rw [e_]; rfl))
              have HP45 := Kd.R_putn HO_7.out ((ji37) : Int) (rd t228 t237)
              rw [← Ny246.out] at HP45
              have HQ45 := zM HP45
              clear HP45
              refine start_ (n := 12) (S := fun w' => w'.cell? (ad244.add (x9_1).toNat) = some (.int .i64 (rd t228 x9_1)) ∧ w'.cell? (ad244.add (t237).toNat) = some (.int .i64 (rd t228 t237))) (ds := [11]) #[false, false, false, false, false, false, false, false, false, false, false, false] (by kernel_rfl) rfl rfl ⟨hx244_0, hx245_0⟩ (fun hHeld => ?_); refine with_tabW spec_l20Tree.tab11 spec_l20Tree.bits11 (fun HT_ HW_ => ?_)
              generalize w42.drew = w43 at HO_6 HO_7 HI0 HK HB GG40 HQ45 hf40_0 hx244_0 hx245_0 hx40_0 hHeld ⊢
              refine pure_ (i := 0) (N := some 38) (v := ?_) (a' := ?_) #[true, false, false, false, false, false, false, false, false, false, false, false] rfl rfl (any_of HT_.out (by kernel_rfl)) (fun _ _ _ h => h) (Or.inl ⟨by rfl, ?_⟩) ?_ ?_
              rotate_left
              ·intro w'
               go_simp
               with_reducible rfl
              rotate_left
              ·simp only [Act.put, zE, zF, zG, i64_w, i32_w]
               rfl
              refine pure_ (i := 1) (N := some 39) (v := ?_) (a' := ?_) #[true, true, false, false, false, false, false, false, false, false, false, false] rfl rfl (any_of HT_.out (by kernel_rfl)) (fun _ _ _ h => h) (Or.inl ⟨by rfl, ?_⟩) ?_ ?_
              rotate_left
              ·intro w'
               go_simp
               with_reducible rfl
              rotate_left
              ·simp only [Act.put, zE, zF, zG, i64_w, i32_w]
               rfl
              refine pure_ (i := 2) (N := some 40) (v := ?_) (a' := ?_) #[true, true, true, false, false, false, false, false, false, false, false, false] rfl rfl (any_of HT_.out (by kernel_rfl)) (fun _ _ _ h => h) (Or.inl ⟨by rfl, ?_⟩) ?_ ?_
              rotate_left
              ·intro w'
               go_simp
               with_reducible rfl
              rotate_left
              ·simp only [Act.put, zE, zF, zG, i64_w, i32_w]
               rfl
              refine pure_ (i := 3) (N := some 41) (v := ?_) (a' := ?_) #[true, true, true, true, false, false, false, false, false, false, false, false] rfl rfl (any_of HT_.out (by kernel_rfl)) (fun _ _ _ h => h) (Or.inl ⟨by rfl, ?_⟩) ?_ ?_
              rotate_left
              ·intro w'
               go_simp
               with_reducible rfl
              rotate_left
              ·simp only [Act.put, zE, zF, zG, i64_w, i32_w]
               rfl
              refine pure_ (i := 6) (N := some 44) (v := ?_) (a' := ?_) #[true, true, true, true, false, false, true, false, false, false, false, false] rfl rfl (any_of HT_.out (by kernel_rfl)) (fun _ _ _ h => h) (Or.inl ⟨by rfl, ?_⟩) ?_ ?_
              rotate_left
              ·intro w'
               go_simp
               with_reducible rfl
              rotate_left
              ·simp only [Act.put, zE, zF, zG, i64_w, i32_w]
               rfl
              refine pure_ (i := 7) (N := some 45) (v := ?_) (a' := ?_) #[true, true, true, true, false, false, true, true, false, false, false, false] rfl rfl (any_of HT_.out (by kernel_rfl)) (fun _ _ _ h => h) (Or.inl ⟨by rfl, ?_⟩) ?_ ?_
              rotate_left
              ·intro w'
               go_simp
               with_reducible rfl
              rotate_left
              ·simp only [Act.put, zE, zF, zG, i64_w, i32_w]
               rfl
              refine pure_ (i := 8) (N := some 46) (v := ?_) (a' := ?_) #[true, true, true, true, false, false, true, true, true, false, false, false] rfl rfl (any_of HT_.out (by kernel_rfl)) (fun _ _ _ h => h) (Or.inl ⟨by rfl, ?_⟩) ?_ ?_
              rotate_left
              ·intro w'
               go_simp
               with_reducible rfl
              rotate_left
              ·simp only [Act.put, zE, zF, zG, i64_w, i32_w]
               rfl
              refine take_ (i := 4) (N := some 42) (v := ?_) (a' := ?_) #[true, true, true, true, true, false, true, true, true, false, false, false] rfl rfl (take_ofW HT_.out HW_.out (by kernel_rfl)) (fun _ _ _ h => h) (Or.inl ⟨by rfl, ?_⟩) hHeld ?_ ?_
              rotate_left
              ·rintro w' ⟨s0, s1⟩
               go_simp
               with_reducible rfl
              rotate_left
              ·simp only [Act.put, zE, zF, zG, i64_w, i32_w]
               rfl
              refine pure_ (i := 5) (N := some 43) (v := ?_) (a' := ?_) #[true, true, true, true, true, true, true, true, true, false, false, false] rfl rfl (any_of HT_.out (by kernel_rfl)) (fun _ _ _ h => h) (Or.inl ⟨by rfl, ?_⟩) ?_ ?_
              rotate_left
              ·intro w'
               go_simp
               with_reducible rfl
              rotate_left
              ·simp only [Act.put, zE, zF, zG, i64_w, i32_w]
               rfl
              refine take_ (i := 9) (N := some 47) (v := ?_) (a' := ?_) #[true, true, true, true, true, true, true, true, true, true, false, false] rfl rfl (take_ofW HT_.out HW_.out (by kernel_rfl)) (fun _ _ _ h => h) (Or.inl ⟨by rfl, ?_⟩) hHeld ?_ ?_
              rotate_left
              ·rintro w' ⟨s0, s1⟩
               go_simp
               with_reducible rfl
              rotate_left
              ·simp only [Act.put, zE, zF, zG, i64_w, i32_w]
               rfl
              refine pure_ (i := 10) (N := some 48) (v := ?_) (a' := ?_) #[true, true, true, true, true, true, true, true, true, true, true, false] rfl rfl (any_of HT_.out (by kernel_rfl)) (fun _ _ _ h => h) (Or.inl ⟨by rfl, ?_⟩) ?_ ?_
              rotate_left
              ·intro w'
               go_simp
               with_reducible rfl
              rotate_left
              ·simp only [Act.put, zE, zF, zG, i64_w, i32_w]
               rfl
              refine last_ (i := 11) (N := none) #[true, true, true, true, true, true, true, true, true, true, true, true] rfl rfl (one_of HT_.out (by kernel_rfl)) (by decide) (fun K hK => ?_)
              refine skip_ (w1 := ?_) (by rfl) rfl ?_ ?_
              rotate_left
              ·go_simp
               rfl
              refine hK.out _ _ ?_
              clear hK K
              refine done_ (done_of HT_.out (by kernel_rfl)) ?_
              try go_wp2
              go_roundg k1
              case measure => have := HK1.out; omega
              case rel => exact ⟨(y246), (wrap64 (x9_1 + 1)), (t240), (by first | rfl | (simp; done) | (simp [*]; done)), H', ⟨by have := HK1.out; omega⟩, ⟨by exact Kd.R_mono (Kd.R_far (p := ⟨go40, ((ji37) : Int).toNat, none⟩) (Kd.R_mono HO_6.out (fun k_ hk => (⟨hk, fun e_ => hk (by rw [e_]; rfl)⟩ : _ ∧ k_ ≠ go40))) (fun _ hk => hk.2) (.int .i64 (rd t228 t237))) (fun _ hk => hk.1)⟩, ⟨by exact HQ45.out⟩, ⟨by repeat (first | (with_reducible first | exact HI0.out | apply Z73.alloc | apply Z73.drewN | apply Z73.drew | apply Z73.set_1 | refine Z73.far ?_ HN0_go40.out _) | exact HI0.out)⟩, ⟨by repeat (first | (with_reducible first | exact HK.out | apply zK | apply keep_drewN | apply keep_drew | apply keep_alloc | refine keep_far ?_ GB40.out _) | exact HK.out)⟩, ⟨by repeat (first | (with_reducible first | exact HB.out | apply zB | apply zA | apply zC | refine zD ?_ (Nat.le_trans HL.out GB40.out) | refine zD ?_ (Z73.ge HI0.out)) | exact HB.out)⟩⟩
             ·rw [if_neg c39] at H
              exact absurd H (by simp)
            ·rw [if_neg c38] at H
             exact absurd H (by simp)
           ·rw [if_neg c36] at H
            exact absurd H (by simp)
          ·rw [if_neg c35] at H
           exact absurd H (by simp)
         ·rw [if_neg c34] at H
          exact absurd H (by simp)
        ·rw [if_neg c33] at H
         exact absurd H (by simp)
      ·rw [if_neg c16] at H
       have c16b0 : (t235 == 1) = false := beq_eq_false_iff_ne.mpr c16
       have c16b1 : (t235 != 1) = true := bne_iff_ne.mpr c16
       by_cases c46 : 0 ≤ x9_1
       ·rw [if_pos c46] at H
        have c46b0 : decide (0 ≤ x9_1) = true := decide_eq_true c46
        clear c46
        by_cases c47 : x9_1 < (t228.length : Int)
        ·rw [if_pos c47] at H
         have c47b0 : decide (x9_1 < (t228.length : Int)) = true := decide_eq_true c47
         clear c47
         by_cases c48 : 0 ≤ t237
         ·rw [if_pos c48] at H
          have c48b0 : decide (0 ≤ t237) = true := decide_eq_true c48
          clear c48
          by_cases c49 : t237 < (t228.length : Int)
          ·rw [if_pos c49] at H
           have c49b0 : decide (t237 < (t228.length : Int)) = true := decide_eq_true c49
           clear c49
           obtain ⟨ji50, hji50⟩ : ∃ j_ : Int, (wrap64 ((rd t228 x9_1) - 1)) = j_ := ⟨_, rfl⟩
           replace H : (if 0 ≤ (ji50) then (if (ji50) < (x7_1.length : Int) then (spec_l20Tree.l0 k1 a1 ji5 t228 (x7_1.set ((ji50) : Int).toNat (rd t228 t237)) t235 (wrap64 (x9_1 + 1)) s0_0 t238) else (none)) else (none)) = some (r1, r2) := by first | (rw [hji50] at H; exact H) | (simp only [hji50] at H ⊢; exact H)
           (try rw [hji50] at A15)
           have hji50w : (IntKind.i64.wrap ((rd t228 x9_1) - 1)) = ji50 := (i64_w _).trans hji50
           by_cases c51 : 0 ≤ (ji50)
           ·rw [if_pos c51] at H
            have c51b0 : decide (0 ≤ (ji50)) = true := decide_eq_true c51
            clear c51
            by_cases c52 : (ji50) < (x7_1.length : Int)
            ·rw [if_pos c52] at H
             have c52b0 : decide ((ji50) < (x7_1.length : Int)) = true := decide_eq_true c52
             clear c52
             obtain ⟨y249, hy249⟩ : ∃ y_ : List Int, y_ = (x7_1.set ((ji50) : Int).toNat (rd t228 t237)) := ⟨_, rfl⟩
             replace H : (spec_l20Tree.l0 k1 a1 ji5 t228 y249 t235 (wrap64 (x9_1 + 1)) s0_0 t238) = some (r1, r2) := by first | (rw [hy249]; with_reducible exact H) | (have H2_ := (Option.bind_some _ _).symm.trans H; rw [hy249]; with_reducible exact H2_) | (have H2_ := (Option.bind_some _ _).symm.trans H; with_reducible exact H2_) | with_reducible exact H | (rw [hy249]; exact H) | exact H
             have Ny249 := zM hy249
             clear hy249
             have H' := zM H
             clear H
             try go_wp2_with (first | ((with_reducible refine gate_callee (f := 43) rfl ?_); refine goesL_ (some 28) rfl rfl Tryd.func43 (by kernel_rfl) rfl #[.pointer (some ⟨g, 0, none⟩), .int .i64 x9_1] rfl (by (try simp only [List.map_toArray, List.map_cons, List.map_nil]); first | done | rfl | (simp only [List.length_drop, List.length_take]; rfl)) ?_; (with_reducible refine (spec_l20Rd_pick.calls k1 g s0_0 x1001_1 x9_1 t237 t238 w0 _ ?side1 ?side2 A15.out).mono ?_); (case side1 => repeat (first | (with_reducible first | exact HI0.out | apply Z73.alloc | apply Z73.drewN | apply Z73.drew | apply Z73.set_1) | exact HI0.out)); (case side2 => repeat (first | (with_reducible first | exact HB.out | apply zB | apply zA | apply zC | refine zD ?_ (Z73.ge HI0.out)) | exact HB.out)); rintro e w54 ⟨rfl, hi, hb, hk⟩; refine ⟨_, rfl, ?_⟩; have n0_ := zM (Kd.R_mono (Kd.R_keep (Z73.apart (show Z73 w0 _ g s0_0 x1001_1 from by repeat (first | (with_reducible first | exact HI0.out | apply Z73.alloc | apply Z73.drewN | apply Z73.drew | apply Z73.set_1) | exact HI0.out)) (by exact HO_6.out) (by decide)) hk (fun _ h => h.2)) (fun _ h => h.1)); have n1_ := zM (Kd.R_mono (Kd.R_keep (Z73.apart (show Z73 w0 _ g s0_0 x1001_1 from by repeat (first | (with_reducible first | exact HI0.out | apply Z73.alloc | apply Z73.drewN | apply Z73.drew | apply Z73.set_1) | exact HI0.out)) (by exact HO_7.out) (by decide)) hk (fun _ h => h.2)) (fun _ h => h.1)); have n2_ := zM (KeepBut.trans (by repeat (first | (with_reducible first | exact HK.out | apply zK | apply keep_drewN | apply keep_drew | apply keep_alloc) | exact HK.out)) hk (.inl rfl)); have n3_ := zM (hb); have n4_ := zM (hi); clear HO_6; clear HO_7; clear HK; clear HB; clear HI0; have HO_6 := n0_; have HO_7 := n1_; have HK := n2_; have HB := n3_; have HI0 := n4_; clear n0_ n1_ n2_ n3_ n4_; (try clear hb); (try clear hb2); (try clear hk); (try clear hi)))
             have n0_ := zM (Kd.R_drew HO_6.out)
             have n1_ := zM (Kd.R_drew HO_7.out)
             have n2_ := zM (Z73.drew HI0.out)
             have n3_ := zM (keep_drew HK.out)
             have n4_ := zM (zC HB.out)
             clear HO_6
             clear HO_7
             clear HI0
             clear HK
             clear HB
             have HO_6 := n0_
             have HO_7 := n1_
             have HI0 := n2_
             have HK := n3_
             have HB := n4_
             clear n0_ n1_ n2_ n3_ n4_
             obtain ⟨Ao56, co56, eo56⟩ := Kd.R_slice HO_6.out
             (first | subst eo56 | (injection eo56 with f1_ f2_ f3_; have f4_ := f1_.symm; have f5_ := f3_.symm; clear f1_ f2_ f3_; subst f4_; subst f5_))
             have p247 : 0 ≤ (x9_1 : Int) := of_decide_eq_true (by first | (with_reducible assumption) | assumption)
             have q247 : x9_1 < (t228.length : Int) := of_decide_eq_true (by first | (with_reducible assumption) | assumption)
             obtain ⟨ad247, e247, hx247_0⟩ := Kd.at_int (Kd.R_reads' HO_6.out).2.2 x9_1 p247 q247
             cases e247
             replace p247 := eq_true p247
             replace q247 := eq_true q247
             have p248 : 0 ≤ (t237 : Int) := of_decide_eq_true (by first | (with_reducible assumption) | assumption)
             have q248 : t237 < (t228.length : Int) := of_decide_eq_true (by first | (with_reducible assumption) | assumption)
             obtain ⟨ad248, e248, hx248_0⟩ := Kd.at_int (Kd.R_reads' HO_6.out).2.2 t237 p248 q248
             obtain rfl : ad247 = ad248 := (by injection e248)
             replace p248 := eq_true p248
             replace q248 := eq_true q248
             have p53 : 0 ≤ ((ji50) : Int) := of_decide_eq_true (by first | (with_reducible assumption) | assumption)
             have q53 : ((ji50) : Int) < ((x7_1.length : Int) : Int) := of_decide_eq_true (by first | (with_reducible assumption) | assumption)
             obtain ⟨go53, co53, eo53, gb53, gl53, cl53, HG53⟩ := Kd.R_form HO_7.out (by omega)
             (first | cases eo53 | (injection eo53 with ea_ en_ ec_; (first | subst ea_ | (injection ea_ with ea_; subst ea_)); subst ec_; clear en_))
             have GB53 := zM gb53
             have GG53 := zM HG53
             clear gb53 gl53 HG53
             obtain ⟨hx53_0, hf53_0⟩ := Kd.R_celln 0 HO_7.out ((ji50) : Int) p53 q53
             replace p53 := eq_true p53
             replace q53 := eq_true q53
             have HN0_go53 := zM (show g ≠ go53 from by have h_ := Z73.own_ne HI0.out HO_7.out (by decide); intro e_; exact h_ (by rw [e_]; rfl))
             have HP57 := Kd.R_putn HO_7.out ((ji50) : Int) (rd t228 t237)
             rw [← Ny249.out] at HP57
             have HQ57 := zM HP57
             clear HP57
             refine start_ (n := 12) (S := fun w' => w'.cell? (ad247.add (x9_1).toNat) = some (.int .i64 (rd t228 x9_1)) ∧ w'.cell? (ad247.add (t237).toNat) = some (.int .i64 (rd t228 t237))) (ds := [11]) #[false, false, false, false, false, false, false, false, false, false, false, false] (by kernel_rfl) rfl rfl ⟨hx247_0, hx248_0⟩ (fun hHeld => ?_); refine with_tabW spec_l20Tree.tab11 spec_l20Tree.bits11 (fun HT_ HW_ => ?_)
             generalize w54.drew = w55 at HO_6 HO_7 HI0 HK HB GG53 HQ57 hf53_0 hx247_0 hx248_0 hx53_0 hHeld ⊢
             refine pure_ (i := 0) (N := some 38) (v := ?_) (a' := ?_) #[true, false, false, false, false, false, false, false, false, false, false, false] rfl rfl (any_of HT_.out (by kernel_rfl)) (fun _ _ _ h => h) (Or.inl ⟨by rfl, ?_⟩) ?_ ?_
             rotate_left
             ·intro w'
              go_simp
              with_reducible rfl
             rotate_left
             ·simp only [Act.put, zE, zF, zG, i64_w, i32_w]
              rfl
             refine pure_ (i := 1) (N := some 39) (v := ?_) (a' := ?_) #[true, true, false, false, false, false, false, false, false, false, false, false] rfl rfl (any_of HT_.out (by kernel_rfl)) (fun _ _ _ h => h) (Or.inl ⟨by rfl, ?_⟩) ?_ ?_
             rotate_left
             ·intro w'
              go_simp
              with_reducible rfl
             rotate_left
             ·simp only [Act.put, zE, zF, zG, i64_w, i32_w]
              rfl
             refine pure_ (i := 2) (N := some 40) (v := ?_) (a' := ?_) #[true, true, true, false, false, false, false, false, false, false, false, false] rfl rfl (any_of HT_.out (by kernel_rfl)) (fun _ _ _ h => h) (Or.inl ⟨by rfl, ?_⟩) ?_ ?_
             rotate_left
             ·intro w'
              go_simp
              with_reducible rfl
             rotate_left
             ·simp only [Act.put, zE, zF, zG, i64_w, i32_w]
              rfl
             refine pure_ (i := 3) (N := some 41) (v := ?_) (a' := ?_) #[true, true, true, true, false, false, false, false, false, false, false, false] rfl rfl (any_of HT_.out (by kernel_rfl)) (fun _ _ _ h => h) (Or.inl ⟨by rfl, ?_⟩) ?_ ?_
             rotate_left
             ·intro w'
              go_simp
              with_reducible rfl
             rotate_left
             ·simp only [Act.put, zE, zF, zG, i64_w, i32_w]
              rfl
             refine pure_ (i := 6) (N := some 44) (v := ?_) (a' := ?_) #[true, true, true, true, false, false, true, false, false, false, false, false] rfl rfl (any_of HT_.out (by kernel_rfl)) (fun _ _ _ h => h) (Or.inl ⟨by rfl, ?_⟩) ?_ ?_
             rotate_left
             ·intro w'
              go_simp
              with_reducible rfl
             rotate_left
             ·simp only [Act.put, zE, zF, zG, i64_w, i32_w]
              rfl
             refine pure_ (i := 7) (N := some 45) (v := ?_) (a' := ?_) #[true, true, true, true, false, false, true, true, false, false, false, false] rfl rfl (any_of HT_.out (by kernel_rfl)) (fun _ _ _ h => h) (Or.inl ⟨by rfl, ?_⟩) ?_ ?_
             rotate_left
             ·intro w'
              go_simp
              with_reducible rfl
             rotate_left
             ·simp only [Act.put, zE, zF, zG, i64_w, i32_w]
              rfl
             refine pure_ (i := 8) (N := some 46) (v := ?_) (a' := ?_) #[true, true, true, true, false, false, true, true, true, false, false, false] rfl rfl (any_of HT_.out (by kernel_rfl)) (fun _ _ _ h => h) (Or.inl ⟨by rfl, ?_⟩) ?_ ?_
             rotate_left
             ·intro w'
              go_simp
              with_reducible rfl
             rotate_left
             ·simp only [Act.put, zE, zF, zG, i64_w, i32_w]
              rfl
             refine take_ (i := 4) (N := some 42) (v := ?_) (a' := ?_) #[true, true, true, true, true, false, true, true, true, false, false, false] rfl rfl (take_ofW HT_.out HW_.out (by kernel_rfl)) (fun _ _ _ h => h) (Or.inl ⟨by rfl, ?_⟩) hHeld ?_ ?_
             rotate_left
             ·rintro w' ⟨s0, s1⟩
              go_simp
              with_reducible rfl
             rotate_left
             ·simp only [Act.put, zE, zF, zG, i64_w, i32_w]
              rfl
             refine pure_ (i := 5) (N := some 43) (v := ?_) (a' := ?_) #[true, true, true, true, true, true, true, true, true, false, false, false] rfl rfl (any_of HT_.out (by kernel_rfl)) (fun _ _ _ h => h) (Or.inl ⟨by rfl, ?_⟩) ?_ ?_
             rotate_left
             ·intro w'
              go_simp
              with_reducible rfl
             rotate_left
             ·simp only [Act.put, zE, zF, zG, i64_w, i32_w]
              rfl
             refine take_ (i := 9) (N := some 47) (v := ?_) (a' := ?_) #[true, true, true, true, true, true, true, true, true, true, false, false] rfl rfl (take_ofW HT_.out HW_.out (by kernel_rfl)) (fun _ _ _ h => h) (Or.inl ⟨by rfl, ?_⟩) hHeld ?_ ?_
             rotate_left
             ·rintro w' ⟨s0, s1⟩
              go_simp
              with_reducible rfl
             rotate_left
             ·simp only [Act.put, zE, zF, zG, i64_w, i32_w]
              rfl
             refine pure_ (i := 10) (N := some 48) (v := ?_) (a' := ?_) #[true, true, true, true, true, true, true, true, true, true, true, false] rfl rfl (any_of HT_.out (by kernel_rfl)) (fun _ _ _ h => h) (Or.inl ⟨by rfl, ?_⟩) ?_ ?_
             rotate_left
             ·intro w'
              go_simp
              with_reducible rfl
             rotate_left
             ·simp only [Act.put, zE, zF, zG, i64_w, i32_w]
              rfl
             refine last_ (i := 11) (N := none) #[true, true, true, true, true, true, true, true, true, true, true, true] rfl rfl (one_of HT_.out (by kernel_rfl)) (by decide) (fun K hK => ?_)
             refine skip_ (w1 := ?_) (by rfl) rfl ?_ ?_
             rotate_left
             ·go_simp
              rfl
             refine hK.out _ _ ?_
             clear hK K
             refine done_ (done_of HT_.out (by kernel_rfl)) ?_
             try go_wp2
             go_roundg k1
             case measure => have := HK1.out; omega
             case rel => exact ⟨(y249), (wrap64 (x9_1 + 1)), (t238), (by first | rfl | (simp; done) | (simp [*]; done)), H', ⟨by have := HK1.out; omega⟩, ⟨by exact Kd.R_mono (Kd.R_far (p := ⟨go53, ((ji50) : Int).toNat, none⟩) (Kd.R_mono HO_6.out (fun k_ hk => (⟨hk, fun e_ => hk (by rw [e_]; rfl)⟩ : _ ∧ k_ ≠ go53))) (fun _ hk => hk.2) (.int .i64 (rd t228 t237))) (fun _ hk => hk.1)⟩, ⟨by exact HQ57.out⟩, ⟨by repeat (first | (with_reducible first | exact HI0.out | apply Z73.alloc | apply Z73.drewN | apply Z73.drew | apply Z73.set_1 | refine Z73.far ?_ HN0_go53.out _) | exact HI0.out)⟩, ⟨by repeat (first | (with_reducible first | exact HK.out | apply zK | apply keep_drewN | apply keep_drew | apply keep_alloc | refine keep_far ?_ GB53.out _) | exact HK.out)⟩, ⟨by repeat (first | (with_reducible first | exact HB.out | apply zB | apply zA | apply zC | refine zD ?_ (Nat.le_trans HL.out GB53.out) | refine zD ?_ (Z73.ge HI0.out)) | exact HB.out)⟩⟩
            ·rw [if_neg c52] at H
             exact absurd H (by simp)
           ·rw [if_neg c51] at H
            exact absurd H (by simp)
          ·rw [if_neg c49] at H
           exact absurd H (by simp)
         ·rw [if_neg c48] at H
          exact absurd H (by simp)
        ·rw [if_neg c47] at H
         exact absurd H (by simp)
       ·rw [if_neg c46] at H
        exact absurd H (by simp)
     ·rw [if_neg c14] at H
      have c14b0 : decide (x9_1 < ji5) = false := decide_eq_false c14
      clear c14
      replace H := Option.bind_eq_some_iff.mp H
      obtain ⟨⟨t250, t251⟩, A580, H⟩ := H
      replace H : (if t250 = true then ((spec_l20Rd_pick.f k1 s0_0 t251 4).bind fun bt252 => (if bt252.1 = 0 then (some ((([] : List Int)), bt252.2)) else (if bt252.1 = 1 then (some ((([2, 1, 0] : List Int)), bt252.2)) else (if bt252.1 = 2 then ((spec_l20Rd_pick.f k1 s0_0 bt252.2 ji5).bind fun bt260 => (if 0 ≤ bt260.1 then (if bt260.1 < (x7_1.length : Int) then ((some (x7_1.set (bt260.1 : Int).toNat 0 : List Int)).bind fun y262 => (if y262.length < 17592186044416 then (some ((y262 ++ [0]), bt260.2)) else (none))) else (none)) else (none))) else ((some (([1, wrap64 (ji5 + 1), (-1)] : List Int) : List Int)).bind fun y266 => ((spec_l20Rd_pick.f k1 s0_0 bt252.2 3).bind fun bt269 => (if 0 ≤ bt269.1 then (if bt269.1 < (y266.length : Int) then (if 0 < (x7_1.length : Int) then (some ((x7_1.set (0 : Int).toNat (rd y266 bt269.1)), bt269.2)) else (none)) else (none)) else (none)))))))) else (some (x7_1, t251))) = some (r1, r2) := H
      have A58 := zM A580
      clear A580
      by_cases c59 : t250 = true
      ·subst c59
       have H1 : ((spec_l20Rd_pick.f k1 s0_0 t251 4).bind fun bt252 => (if bt252.1 = 0 then (some ((([] : List Int)), bt252.2)) else (if bt252.1 = 1 then (some ((([2, 1, 0] : List Int)), bt252.2)) else (if bt252.1 = 2 then ((spec_l20Rd_pick.f k1 s0_0 bt252.2 ji5).bind fun bt260 => (if 0 ≤ bt260.1 then (if bt260.1 < (x7_1.length : Int) then ((some (x7_1.set (bt260.1 : Int).toNat 0 : List Int)).bind fun y262 => (if y262.length < 17592186044416 then (some ((y262 ++ [0]), bt260.2)) else (none))) else (none)) else (none))) else ((some (([1, wrap64 (ji5 + 1), (-1)] : List Int) : List Int)).bind fun y266 => ((spec_l20Rd_pick.f k1 s0_0 bt252.2 3).bind fun bt269 => (if 0 ≤ bt269.1 then (if bt269.1 < (y266.length : Int) then (if 0 < (x7_1.length : Int) then (some ((x7_1.set (0 : Int).toNat (rd y266 bt269.1)), bt269.2)) else (none)) else (none)) else (none)))))))) = some (r1, r2) := by rw [if_pos rfl] at H; exact H
       clear H
       have H := H1
       clear H1
       replace H := Option.bind_eq_some_iff.mp H
       obtain ⟨⟨t252, t253⟩, A600, H⟩ := H
       replace H : (if t252 = 0 then (some ((([] : List Int)), t253)) else (if t252 = 1 then (some ((([2, 1, 0] : List Int)), t253)) else (if t252 = 2 then ((spec_l20Rd_pick.f k1 s0_0 t253 ji5).bind fun bt260 => (if 0 ≤ bt260.1 then (if bt260.1 < (x7_1.length : Int) then ((some (x7_1.set (bt260.1 : Int).toNat 0 : List Int)).bind fun y262 => (if y262.length < 17592186044416 then (some ((y262 ++ [0]), bt260.2)) else (none))) else (none)) else (none))) else ((some (([1, wrap64 (ji5 + 1), (-1)] : List Int) : List Int)).bind fun y266 => ((spec_l20Rd_pick.f k1 s0_0 t253 3).bind fun bt269 => (if 0 ≤ bt269.1 then (if bt269.1 < (y266.length : Int) then (if 0 < (x7_1.length : Int) then (some ((x7_1.set (0 : Int).toNat (rd y266 bt269.1)), bt269.2)) else (none)) else (none)) else (none))))))) = some (r1, r2) := H
       have A60 := zM A600
       clear A600
       by_cases c61 : t252 = 0
       ·rw [if_pos c61] at H
        have c61b0 : (t252 == 0) = true := beq_iff_eq.mpr c61
        have c61b1 : (t252 != 0) = false := bne_eq_false_iff_eq.mpr c61
        clear c61
        obtain ⟨y254, hy254⟩ : ∃ y_ : List Int, y_ = (([] : List Int)) := ⟨_, rfl⟩
        replace H : (some (y254, t253)) = some (r1, r2) := by first | (rw [hy254]; with_reducible exact H) | (have H2_ := (Option.bind_some _ _).symm.trans H; rw [hy254]; with_reducible exact H2_) | (have H2_ := (Option.bind_some _ _).symm.trans H; with_reducible exact H2_) | with_reducible exact H | (rw [hy254]; exact H) | exact H
        have Ny254 := zM hy254
        clear hy254
        simp only [Option.some.injEq, Prod.mk.injEq] at H
        obtain ⟨rfl, rfl⟩ := H
        go_wp2_with (first | ((with_reducible refine gate_callee (f := 46) rfl ?_); refine goesL_ (some 51) rfl rfl Tryd.func46 (by kernel_rfl) rfl #[.pointer (some ⟨g, 0, none⟩), .int .i64 a1] rfl (by (try simp only [List.map_toArray, List.map_cons, List.map_nil]); first | done | rfl | (simp only [List.length_drop, List.length_take]; rfl)) ?_; (with_reducible refine (spec_l20Rd_odd.calls k1 g s0_0 x1001_1 a1 true t251 w0 _ ?side1 ?side2 A58.out).mono ?_); (case side1 => repeat (first | (with_reducible first | exact HI0.out | apply Z73.alloc | apply Z73.drewN | apply Z73.drew | apply Z73.set_1) | exact HI0.out)); (case side2 => repeat (first | (with_reducible first | exact HB.out | apply zB | apply zA | apply zC | refine zD ?_ (Z73.ge HI0.out)) | exact HB.out)); rintro e w62 ⟨rfl, hi, hb, hk⟩; refine ⟨_, rfl, ?_⟩; have n0_ := zM (Kd.R_mono (Kd.R_keep (Z73.apart (show Z73 w0 _ g s0_0 x1001_1 from by repeat (first | (with_reducible first | exact HI0.out | apply Z73.alloc | apply Z73.drewN | apply Z73.drew | apply Z73.set_1) | exact HI0.out)) (by exact HO_6.out) (by decide)) hk (fun _ h => h.2)) (fun _ h => h.1)); have n1_ := zM (Kd.R_mono (Kd.R_keep (Z73.apart (show Z73 w0 _ g s0_0 x1001_1 from by repeat (first | (with_reducible first | exact HI0.out | apply Z73.alloc | apply Z73.drewN | apply Z73.drew | apply Z73.set_1) | exact HI0.out)) (by exact HO_7.out) (by decide)) hk (fun _ h => h.2)) (fun _ h => h.1)); have n2_ := zM (KeepBut.trans (by repeat (first | (with_reducible first | exact HK.out | apply zK | apply keep_drewN | apply keep_drew | apply keep_alloc) | exact HK.out)) hk (.inl rfl)); have n3_ := zM (hb); have n4_ := zM (hi); clear HO_6; clear HO_7; clear HK; clear HB; clear HI0; have HO_6 := n0_; have HO_7 := n1_; have HK := n2_; have HB := n3_; have HI0 := n4_; clear n0_ n1_ n2_ n3_ n4_; (try clear hb); (try clear hb2); (try clear hk); (try clear hi)) | ((with_reducible refine gate_callee (f := 43) rfl ?_); refine goesL_ (some 53) rfl rfl Tryd.func43 (by kernel_rfl) rfl #[.pointer (some ⟨g, 0, none⟩), .int .i64 4] rfl (by (try simp only [List.map_toArray, List.map_cons, List.map_nil]); first | done | rfl | (simp only [List.length_drop, List.length_take]; rfl)) ?_; (with_reducible refine (spec_l20Rd_pick.calls k1 g s0_0 t251 4 t252 t253 w0 _ ?side1 ?side2 A60.out).mono ?_); (case side1 => repeat (first | (with_reducible first | exact HI0.out | apply Z73.alloc | apply Z73.drewN | apply Z73.drew | apply Z73.set_1) | exact HI0.out)); (case side2 => repeat (first | (with_reducible first | exact HB.out | apply zB | apply zA | apply zC | refine zD ?_ (Z73.ge HI0.out)) | exact HB.out)); rintro e w63 ⟨rfl, hi, hb, hk⟩; refine ⟨_, rfl, ?_⟩; have n0_ := zM (Kd.R_mono (Kd.R_keep (Z73.apart (show Z73 w0 _ g s0_0 t251 from by repeat (first | (with_reducible first | exact HI0.out | apply Z73.alloc | apply Z73.drewN | apply Z73.drew | apply Z73.set_1) | exact HI0.out)) (by exact HO_6.out) (by decide)) hk (fun _ h => h.2)) (fun _ h => h.1)); have n1_ := zM (Kd.R_mono (Kd.R_keep (Z73.apart (show Z73 w0 _ g s0_0 t251 from by repeat (first | (with_reducible first | exact HI0.out | apply Z73.alloc | apply Z73.drewN | apply Z73.drew | apply Z73.set_1) | exact HI0.out)) (by exact HO_7.out) (by decide)) hk (fun _ h => h.2)) (fun _ h => h.1)); have n2_ := zM (KeepBut.trans (by repeat (first | (with_reducible first | exact HK.out | apply zK | apply keep_drewN | apply keep_drew | apply keep_alloc) | exact HK.out)) hk (.inl rfl)); have n3_ := zM (hb); have n4_ := zM (hi); clear HO_6; clear HO_7; clear HK; clear HB; clear HI0; have HO_6 := n0_; have HO_7 := n1_; have HK := n2_; have HB := n3_; have HI0 := n4_; clear n0_ n1_ n2_ n3_ n4_; (try clear hb); (try clear hb2); (try clear hk); (try clear hi)) | ((with_reducible refine gate_dst (N := 65) rfl ?_); refine Kd.R_lit (Kd.int .i64) _ 3 ?hg (N := 65) ?hd (xs := ([] : List Int)) (inner := []) (ok := fun _ => True) (okp := fun _ => True) ?hr ?hp (fun _ hk => hk) trivial (Below.refl _ _) (Nat.le_refl _) (by simp) ?_; (case hd => rfl); (case hg => rfl); (case hr => first | (go_simp; done) | (go_simp; rfl)); (case hp => exact (Reps.none _ _)); intro v255 w64 ho65 hb hg_ hnew_; clear hg_ hnew_; (first | rw [← Ny254.out] at ho65 | (simp only [Int.reduceToNat] at ho65; rw [← Ny254.out] at ho65)); have n0_ := zM (Kd.R_elder' (by exact HO_6.out) (Kd.R_base ho65) hb); have n1_ := zM (Kd.R_elder' (by exact HO_7.out) (Kd.R_base ho65) hb); have n2_ := zM (Kd.R_lower (Kd.R_new' (Kd.R_new' ho65 (Kd.R_lt (by exact HO_6.out))) (Kd.R_lt (by exact HO_7.out))) (keep_size (w := w) (g := g) (row := none) (by repeat (first | (with_reducible first | exact HK.out | apply zK | apply keep_drewN | apply keep_drew | apply keep_alloc) | exact HK.out)))); have n3_ := zM (Z73.below (by repeat (first | (with_reducible first | exact HI0.out | apply Z73.alloc | apply Z73.drewN | apply Z73.drew | apply Z73.set_1) | exact HI0.out)) hb); have n4_ := zM (KeepBut.trans (by repeat (first | (with_reducible first | exact HK.out | apply zK | apply keep_drewN | apply keep_drew | apply keep_alloc) | exact HK.out)) (KeepBut.of_below hb g none) (.inl rfl)); have n5_ := zM (below_step (by repeat (first | (with_reducible first | exact HB.out | apply zB | apply zA | apply zC | refine zD ?_ (Z73.ge HI0.out)) | exact HB.out)) hb); clear HO_6; clear HO_7; clear HI0; clear HK; clear HB; have HO_6 := n0_; have HO_7 := n1_; have HO256 := n2_; have HI0 := n3_; have HK := n4_; have HB := n5_; clear n0_ n1_ n2_ n3_ n4_ n5_; clear hb ho65))
        go_ret
        exact ⟨_, by first | rfl | (simp [errW_none, errW_some] <;> rfl) | (simp only [← hji5]; first | rfl | (simp [errW_none, errW_some] <;> rfl)) | (simp [*, errW_none, errW_some] <;> rfl), by exact Kd.R_mono HO256.out (fun _ hk => trivial), by repeat (first | (with_reducible first | exact HI0.out | apply Z73.alloc | apply Z73.drewN | apply Z73.drew | apply Z73.set_1) | exact HI0.out), by repeat (first | (with_reducible first | exact HB.out | apply zB | apply zA | apply zC | refine zD ?_ (Z73.ge HI0.out)) | exact HB.out), by repeat (first | (with_reducible first | exact HK.out | apply zK | apply keep_drewN | apply keep_drew | apply keep_alloc) | exact HK.out)⟩
       ·rw [if_neg c61] at H
        have c61b0 : (t252 == 0) = false := beq_eq_false_iff_ne.mpr c61
        have c61b1 : (t252 != 0) = true := bne_iff_ne.mpr c61
        by_cases c66 : t252 = 1
        ·rw [if_pos c66] at H
         have c66b0 : (t252 == 1) = true := beq_iff_eq.mpr c66
         have c66b1 : (t252 != 1) = false := bne_eq_false_iff_eq.mpr c66
         clear c66
         obtain ⟨y257, hy257⟩ : ∃ y_ : List Int, y_ = (([2, 1, 0] : List Int)) := ⟨_, rfl⟩
         replace H : (some (y257, t253)) = some (r1, r2) := by first | (rw [hy257]; with_reducible exact H) | (have H2_ := (Option.bind_some _ _).symm.trans H; rw [hy257]; with_reducible exact H2_) | (have H2_ := (Option.bind_some _ _).symm.trans H; with_reducible exact H2_) | with_reducible exact H | (rw [hy257]; exact H) | exact H
         have Ny257 := zM hy257
         clear hy257
         simp only [Option.some.injEq, Prod.mk.injEq] at H
         obtain ⟨rfl, rfl⟩ := H
         go_wp2_with (first | ((with_reducible refine gate_callee (f := 46) rfl ?_); refine goesL_ (some 51) rfl rfl Tryd.func46 (by kernel_rfl) rfl #[.pointer (some ⟨g, 0, none⟩), .int .i64 a1] rfl (by (try simp only [List.map_toArray, List.map_cons, List.map_nil]); first | done | rfl | (simp only [List.length_drop, List.length_take]; rfl)) ?_; (with_reducible refine (spec_l20Rd_odd.calls k1 g s0_0 x1001_1 a1 true t251 w0 _ ?side1 ?side2 A58.out).mono ?_); (case side1 => repeat (first | (with_reducible first | exact HI0.out | apply Z73.alloc | apply Z73.drewN | apply Z73.drew | apply Z73.set_1) | exact HI0.out)); (case side2 => repeat (first | (with_reducible first | exact HB.out | apply zB | apply zA | apply zC | refine zD ?_ (Z73.ge HI0.out)) | exact HB.out)); rintro e w67 ⟨rfl, hi, hb, hk⟩; refine ⟨_, rfl, ?_⟩; have n0_ := zM (Kd.R_mono (Kd.R_keep (Z73.apart (show Z73 w0 _ g s0_0 x1001_1 from by repeat (first | (with_reducible first | exact HI0.out | apply Z73.alloc | apply Z73.drewN | apply Z73.drew | apply Z73.set_1) | exact HI0.out)) (by exact HO_6.out) (by decide)) hk (fun _ h => h.2)) (fun _ h => h.1)); have n1_ := zM (Kd.R_mono (Kd.R_keep (Z73.apart (show Z73 w0 _ g s0_0 x1001_1 from by repeat (first | (with_reducible first | exact HI0.out | apply Z73.alloc | apply Z73.drewN | apply Z73.drew | apply Z73.set_1) | exact HI0.out)) (by exact HO_7.out) (by decide)) hk (fun _ h => h.2)) (fun _ h => h.1)); have n2_ := zM (KeepBut.trans (by repeat (first | (with_reducible first | exact HK.out | apply zK | apply keep_drewN | apply keep_drew | apply keep_alloc) | exact HK.out)) hk (.inl rfl)); have n3_ := zM (hb); have n4_ := zM (hi); clear HO_6; clear HO_7; clear HK; clear HB; clear HI0; have HO_6 := n0_; have HO_7 := n1_; have HK := n2_; have HB := n3_; have HI0 := n4_; clear n0_ n1_ n2_ n3_ n4_; (try clear hb); (try clear hb2); (try clear hk); (try clear hi)) | ((with_reducible refine gate_callee (f := 43) rfl ?_); refine goesL_ (some 53) rfl rfl Tryd.func43 (by kernel_rfl) rfl #[.pointer (some ⟨g, 0, none⟩), .int .i64 4] rfl (by (try simp only [List.map_toArray, List.map_cons, List.map_nil]); first | done | rfl | (simp only [List.length_drop, List.length_take]; rfl)) ?_; (with_reducible refine (spec_l20Rd_pick.calls k1 g s0_0 t251 4 t252 t253 w0 _ ?side1 ?side2 A60.out).mono ?_); (case side1 => repeat (first | (with_reducible first | exact HI0.out | apply Z73.alloc | apply Z73.drewN | apply Z73.drew | apply Z73.set_1) | exact HI0.out)); (case side2 => repeat (first | (with_reducible first | exact HB.out | apply zB | apply zA | apply zC | refine zD ?_ (Z73.ge HI0.out)) | exact HB.out)); rintro e w68 ⟨rfl, hi, hb, hk⟩; refine ⟨_, rfl, ?_⟩; have n0_ := zM (Kd.R_mono (Kd.R_keep (Z73.apart (show Z73 w0 _ g s0_0 t251 from by repeat (first | (with_reducible first | exact HI0.out | apply Z73.alloc | apply Z73.drewN | apply Z73.drew | apply Z73.set_1) | exact HI0.out)) (by exact HO_6.out) (by decide)) hk (fun _ h => h.2)) (fun _ h => h.1)); have n1_ := zM (Kd.R_mono (Kd.R_keep (Z73.apart (show Z73 w0 _ g s0_0 t251 from by repeat (first | (with_reducible first | exact HI0.out | apply Z73.alloc | apply Z73.drewN | apply Z73.drew | apply Z73.set_1) | exact HI0.out)) (by exact HO_7.out) (by decide)) hk (fun _ h => h.2)) (fun _ h => h.1)); have n2_ := zM (KeepBut.trans (by repeat (first | (with_reducible first | exact HK.out | apply zK | apply keep_drewN | apply keep_drew | apply keep_alloc) | exact HK.out)) hk (.inl rfl)); have n3_ := zM (hb); have n4_ := zM (hi); clear HO_6; clear HO_7; clear HK; clear HB; clear HI0; have HO_6 := n0_; have HO_7 := n1_; have HK := n2_; have HB := n3_; have HI0 := n4_; clear n0_ n1_ n2_ n3_ n4_; (try clear hb); (try clear hb2); (try clear hk); (try clear hi)) | ((with_reducible refine gate_dst (N := 68) rfl ?_); refine Kd.R_lit (Kd.int .i64) _ 3 ?hg (N := 68) ?hd (xs := ([2, 1, 0] : List Int)) (inner := [.int .i64 2, .int .i64 1, .int .i64 0]) (ok := fun _ => True) (okp := fun _ => True) ?hr ?hp (fun _ hk => hk) trivial (Below.refl _ _) (Nat.le_refl _) (by simp) ?_; (case hd => rfl); (case hg => rfl); (case hr => first | (go_simp; done) | (go_simp; rfl)); (case hp => exact (Reps.one (show Kd.M (Kd.int .i64) _ _ _ 2 [.int .i64 2] from rfl) (Reps.one (show Kd.M (Kd.int .i64) _ _ _ 1 [.int .i64 1] from rfl) (Reps.one (show Kd.M (Kd.int .i64) _ _ _ 0 [.int .i64 0] from rfl) (Reps.none _ _))))); intro v258 w69 ho70 hb hg_ hnew_; clear hg_ hnew_; (first | rw [← Ny257.out] at ho70 | (simp only [Int.reduceToNat] at ho70; rw [← Ny257.out] at ho70)); have n0_ := zM (Kd.R_elder' (by exact HO_6.out) (Kd.R_base ho70) hb); have n1_ := zM (Kd.R_elder' (by exact HO_7.out) (Kd.R_base ho70) hb); have n2_ := zM (Kd.R_lower (Kd.R_new' (Kd.R_new' ho70 (Kd.R_lt (by exact HO_6.out))) (Kd.R_lt (by exact HO_7.out))) (keep_size (w := w) (g := g) (row := none) (by repeat (first | (with_reducible first | exact HK.out | apply zK | apply keep_drewN | apply keep_drew | apply keep_alloc) | exact HK.out)))); have n3_ := zM (Z73.below (by repeat (first | (with_reducible first | exact HI0.out | apply Z73.alloc | apply Z73.drewN | apply Z73.drew | apply Z73.set_1) | exact HI0.out)) hb); have n4_ := zM (KeepBut.trans (by repeat (first | (with_reducible first | exact HK.out | apply zK | apply keep_drewN | apply keep_drew | apply keep_alloc) | exact HK.out)) (KeepBut.of_below hb g none) (.inl rfl)); have n5_ := zM (below_step (by repeat (first | (with_reducible first | exact HB.out | apply zB | apply zA | apply zC | refine zD ?_ (Z73.ge HI0.out)) | exact HB.out)) hb); clear HO_6; clear HO_7; clear HI0; clear HK; clear HB; have HO_6 := n0_; have HO_7 := n1_; have HO259 := n2_; have HI0 := n3_; have HK := n4_; have HB := n5_; clear n0_ n1_ n2_ n3_ n4_ n5_; clear hb ho70))
         go_ret
         exact ⟨_, by first | rfl | (simp [errW_none, errW_some] <;> rfl) | (simp only [← hji5]; first | rfl | (simp [errW_none, errW_some] <;> rfl)) | (simp [*, errW_none, errW_some] <;> rfl), by exact Kd.R_mono HO259.out (fun _ hk => trivial), by repeat (first | (with_reducible first | exact HI0.out | apply Z73.alloc | apply Z73.drewN | apply Z73.drew | apply Z73.set_1) | exact HI0.out), by repeat (first | (with_reducible first | exact HB.out | apply zB | apply zA | apply zC | refine zD ?_ (Z73.ge HI0.out)) | exact HB.out), by repeat (first | (with_reducible first | exact HK.out | apply zK | apply keep_drewN | apply keep_drew | apply keep_alloc) | exact HK.out)⟩
        ·rw [if_neg c66] at H
         have c66b0 : (t252 == 1) = false := beq_eq_false_iff_ne.mpr c66
         have c66b1 : (t252 != 1) = true := bne_iff_ne.mpr c66
         by_cases c71 : t252 = 2
         ·rw [if_pos c71] at H
          have c71b0 : (t252 == 2) = true := beq_iff_eq.mpr c71
          have c71b1 : (t252 != 2) = false := bne_eq_false_iff_eq.mpr c71
          clear c71
          replace H := Option.bind_eq_some_iff.mp H
          obtain ⟨⟨t260, t261⟩, A720, H⟩ := H
          replace H : (if 0 ≤ t260 then (if t260 < (x7_1.length : Int) then ((some (x7_1.set (t260 : Int).toNat 0 : List Int)).bind fun y262 => (if y262.length < 17592186044416 then (some ((y262 ++ [0]), t261)) else (none))) else (none)) else (none)) = some (r1, r2) := H
          have A72 := zM A720
          clear A720
          by_cases c73 : 0 ≤ t260
          ·rw [if_pos c73] at H
           have c73b0 : decide (0 ≤ t260) = true := decide_eq_true c73
           clear c73
           by_cases c74 : t260 < (x7_1.length : Int)
           ·rw [if_pos c74] at H
            have c74b0 : decide (t260 < (x7_1.length : Int)) = true := decide_eq_true c74
            clear c74
            obtain ⟨y262, hy262⟩ : ∃ y_ : List Int, y_ = (x7_1.set (t260 : Int).toNat 0) := ⟨_, rfl⟩
            replace H : (if y262.length < 17592186044416 then (some ((y262 ++ [0]), t261)) else (none)) = some (r1, r2) := by first | (rw [hy262]; with_reducible exact H) | (have H2_ := (Option.bind_some _ _).symm.trans H; rw [hy262]; with_reducible exact H2_) | (have H2_ := (Option.bind_some _ _).symm.trans H; with_reducible exact H2_) | with_reducible exact H | (rw [hy262]; exact H) | exact H
            have Ny262 := zM hy262
            clear hy262
            by_cases c76 : y262.length < 17592186044416
            ·rw [if_pos c76] at H
             have LMc76 := zM c76
             clear c76
             obtain ⟨y263, hy263⟩ : ∃ y_ : List Int, y_ = (y262 ++ [0]) := ⟨_, rfl⟩
             replace H : (some (y263, t261)) = some (r1, r2) := by first | (rw [hy263]; with_reducible exact H) | (have H2_ := (Option.bind_some _ _).symm.trans H; rw [hy263]; with_reducible exact H2_) | (have H2_ := (Option.bind_some _ _).symm.trans H; with_reducible exact H2_) | with_reducible exact H | (rw [hy263]; exact H) | exact H
             have Ny263 := zM hy263
             clear hy263
             simp only [Option.some.injEq, Prod.mk.injEq] at H
             obtain ⟨rfl, rfl⟩ := H
             go_wp2_with (first | ((with_reducible refine gate_callee (f := 46) rfl ?_); refine goesL_ (some 51) rfl rfl Tryd.func46 (by kernel_rfl) rfl #[.pointer (some ⟨g, 0, none⟩), .int .i64 a1] rfl (by (try simp only [List.map_toArray, List.map_cons, List.map_nil]); first | done | rfl | (simp only [List.length_drop, List.length_take]; rfl)) ?_; (with_reducible refine (spec_l20Rd_odd.calls k1 g s0_0 x1001_1 a1 true t251 w0 _ ?side1 ?side2 A58.out).mono ?_); (case side1 => repeat (first | (with_reducible first | exact HI0.out | apply Z73.alloc | apply Z73.drewN | apply Z73.drew | apply Z73.set_1) | exact HI0.out)); (case side2 => repeat (first | (with_reducible first | exact HB.out | apply zB | apply zA | apply zC | refine zD ?_ (Z73.ge HI0.out)) | exact HB.out)); rintro e w77 ⟨rfl, hi, hb, hk⟩; refine ⟨_, rfl, ?_⟩; have n0_ := zM (Kd.R_mono (Kd.R_keep (Z73.apart (show Z73 w0 _ g s0_0 x1001_1 from by repeat (first | (with_reducible first | exact HI0.out | apply Z73.alloc | apply Z73.drewN | apply Z73.drew | apply Z73.set_1) | exact HI0.out)) (by exact HO_6.out) (by decide)) hk (fun _ h => h.2)) (fun _ h => h.1)); have n1_ := zM (Kd.R_mono (Kd.R_keep (Z73.apart (show Z73 w0 _ g s0_0 x1001_1 from by repeat (first | (with_reducible first | exact HI0.out | apply Z73.alloc | apply Z73.drewN | apply Z73.drew | apply Z73.set_1) | exact HI0.out)) (by exact HO_7.out) (by decide)) hk (fun _ h => h.2)) (fun _ h => h.1)); have n2_ := zM (KeepBut.trans (by repeat (first | (with_reducible first | exact HK.out | apply zK | apply keep_drewN | apply keep_drew | apply keep_alloc) | exact HK.out)) hk (.inl rfl)); have n3_ := zM (hb); have n4_ := zM (hi); clear HO_6; clear HO_7; clear HK; clear HB; clear HI0; have HO_6 := n0_; have HO_7 := n1_; have HK := n2_; have HB := n3_; have HI0 := n4_; clear n0_ n1_ n2_ n3_ n4_; (try clear hb); (try clear hb2); (try clear hk); (try clear hi)) | ((with_reducible refine gate_callee (f := 43) rfl ?_); refine goesL_ (some 53) rfl rfl Tryd.func43 (by kernel_rfl) rfl #[.pointer (some ⟨g, 0, none⟩), .int .i64 4] rfl (by (try simp only [List.map_toArray, List.map_cons, List.map_nil]); first | done | rfl | (simp only [List.length_drop, List.length_take]; rfl)) ?_; (with_reducible refine (spec_l20Rd_pick.calls k1 g s0_0 t251 4 t252 t253 w0 _ ?side1 ?side2 A60.out).mono ?_); (case side1 => repeat (first | (with_reducible first | exact HI0.out | apply Z73.alloc | apply Z73.drewN | apply Z73.drew | apply Z73.set_1) | exact HI0.out)); (case side2 => repeat (first | (with_reducible first | exact HB.out | apply zB | apply zA | apply zC | refine zD ?_ (Z73.ge HI0.out)) | exact HB.out)); rintro e w78 ⟨rfl, hi, hb, hk⟩; refine ⟨_, rfl, ?_⟩; have n0_ := zM (Kd.R_mono (Kd.R_keep (Z73.apart (show Z73 w0 _ g s0_0 t251 from by repeat (first | (with_reducible first | exact HI0.out | apply Z73.alloc | apply Z73.drewN | apply Z73.drew | apply Z73.set_1) | exact HI0.out)) (by exact HO_6.out) (by decide)) hk (fun _ h => h.2)) (fun _ h => h.1)); have n1_ := zM (Kd.R_mono (Kd.R_keep (Z73.apart (show Z73 w0 _ g s0_0 t251 from by repeat (first | (with_reducible first | exact HI0.out | apply Z73.alloc | apply Z73.drewN | apply Z73.drew | apply Z73.set_1) | exact HI0.out)) (by exact HO_7.out) (by decide)) hk (fun _ h => h.2)) (fun _ h => h.1)); have n2_ := zM (KeepBut.trans (by repeat (first | (with_reducible first | exact HK.out | apply zK | apply keep_drewN | apply keep_drew | apply keep_alloc) | exact HK.out)) hk (.inl rfl)); have n3_ := zM (hb); have n4_ := zM (hi); clear HO_6; clear HO_7; clear HK; clear HB; clear HI0; have HO_6 := n0_; have HO_7 := n1_; have HK := n2_; have HB := n3_; have HI0 := n4_; clear n0_ n1_ n2_ n3_ n4_; (try clear hb); (try clear hb2); (try clear hk); (try clear hi)) | ((with_reducible refine gate_callee (f := 43) rfl ?_); refine goesL_ (some 74) rfl rfl Tryd.func43 (by kernel_rfl) rfl #[.pointer (some ⟨g, 0, none⟩), .int .i64 ji5] rfl (by (try simp only [List.map_toArray, List.map_cons, List.map_nil]); first | done | (simp only [hji5]; rfl) | rfl | (simp only [List.length_drop, List.length_take]; rfl)) ?_; (with_reducible refine (spec_l20Rd_pick.calls k1 g s0_0 t253 ji5 t260 t261 w0 _ ?side1 ?side2 A72.out).mono ?_); (case side1 => repeat (first | (with_reducible first | exact HI0.out | apply Z73.alloc | apply Z73.drewN | apply Z73.drew | apply Z73.set_1) | exact HI0.out)); (case side2 => repeat (first | (with_reducible first | exact HB.out | apply zB | apply zA | apply zC | refine zD ?_ (Z73.ge HI0.out)) | exact HB.out)); rintro e w79 ⟨rfl, hi, hb, hk⟩; refine ⟨_, rfl, ?_⟩; have n0_ := zM (Kd.R_mono (Kd.R_keep (Z73.apart (show Z73 w0 _ g s0_0 t253 from by repeat (first | (with_reducible first | exact HI0.out | apply Z73.alloc | apply Z73.drewN | apply Z73.drew | apply Z73.set_1) | exact HI0.out)) (by exact HO_6.out) (by decide)) hk (fun _ h => h.2)) (fun _ h => h.1)); have n1_ := zM (Kd.R_mono (Kd.R_keep (Z73.apart (show Z73 w0 _ g s0_0 t253 from by repeat (first | (with_reducible first | exact HI0.out | apply Z73.alloc | apply Z73.drewN | apply Z73.drew | apply Z73.set_1) | exact HI0.out)) (by exact HO_7.out) (by decide)) hk (fun _ h => h.2)) (fun _ h => h.1)); have n2_ := zM (KeepBut.trans (by repeat (first | (with_reducible first | exact HK.out | apply zK | apply keep_drewN | apply keep_drew | apply keep_alloc) | exact HK.out)) hk (.inl rfl)); have n3_ := zM (hb); have n4_ := zM (hi); clear HO_6; clear HO_7; clear HK; clear HB; clear HI0; have HO_6 := n0_; have HO_7 := n1_; have HK := n2_; have HB := n3_; have HI0 := n4_; clear n0_ n1_ n2_ n3_ n4_; (try clear hb); (try clear hb2); (try clear hk); (try clear hi); have p75 : 0 ≤ (t260 : Int) := of_decide_eq_true (by first | (with_reducible assumption) | assumption); have q75 : (t260 : Int) < ((x7_1.length : Int) : Int) := of_decide_eq_true (by first | (with_reducible assumption) | assumption); obtain ⟨go75, co75, eo75, gb75, gl75, cl75, HG75⟩ := Kd.R_form HO_7.out (by omega); (first | cases eo75 | (injection eo75 with ea_ en_ ec_; (first | subst ea_ | (injection ea_ with ea_; subst ea_)); subst ec_; clear en_)); have GB75 := zM gb75; have GG75 := zM HG75; clear gb75 gl75 HG75; obtain ⟨hx75_0, hf75_0⟩ := Kd.R_celln 0 HO_7.out (t260 : Int) p75 q75; replace p75 := eq_true p75; replace q75 := eq_true q75; obtain ⟨hy80_, hz80_⟩ := Kd.R_celln 0 HO_7.out (t260 : Int) (of_decide_eq_true (by first | (with_reducible assumption) | assumption)) (of_decide_eq_true (by first | (with_reducible assumption) | assumption)); have HP80 := Kd.R_putg HO_7.out (t260 : Int) 0) | ((with_reducible refine gate_store (t := 3) (p := 75) rfl ?_); refine store_event (t := 3) (p := 75) (v := ?vo_w81) (w1 := (w79.setCell ⟨go75, (t260 : Int).toNat, none⟩ (.int .i64 0))) ?hg ?ho ?hn ?hr ?_; (case ho => rfl); (case hg => rfl); (case hn => rfl); (case hr => first | (go_simp; done) | (go_simp; rfl)); intro w81 hw; have hg : w79.grownBy w81 (some go75) := (by rw [hw]; exact HP80.2); have hp_ : Kd.R (Kd.int .i64) 3 w81 w.heap.size (fun k_ => some k_ ≠ (v229 : Value).ownBlock) (.slice (some ⟨go75, 0, none⟩) x7_1.length co75) y262 := (by rw [hw, Ny262.out]; exact HP80.1); clear HP80; have n0_ := zM (Kd.R_after (v := (.slice (some ⟨go75, 0, none⟩) x7_1.length co75)) (v1 := (.slice (some ⟨go75, 0, none⟩) x7_1.length co75)) (ok := (fun _ => True)) (by exact Kd.R_mono HO_6.out (fun _ hk => ⟨trivial, hk⟩)) hg (.inl rfl)); have n1_ := zM (hp_); have n2_ := zM (Z73.grown (by repeat (first | (with_reducible first | exact HI0.out | apply Z73.alloc | apply Z73.drewN | apply Z73.drew | apply Z73.set_1) | exact HI0.out)) hg (Z73.own_ne HI0.out HO_7.out (by decide))); have n3_ := zM ((by rw [hw]; exact zD (HB.out) (Nat.le_trans HL.out GB75.out) : Below w0.heap.size w0 w81)); have n4_ := zM (KeepBut.trans (by repeat (first | (with_reducible first | exact HK.out | apply zK | apply keep_drewN | apply keep_drew | apply keep_alloc) | exact HK.out)) (KeepBut.of_grown hg g) (Kd.R_base2 HO_7.out)); clear HO_6; clear HO_7; clear HI0; clear HB; clear HK; have HO_6 := n0_; have HO_7 := n1_; have HI0 := n2_; have HB := n3_; have HK := n4_; clear n0_ n1_ n2_ n3_ n4_; clear hg hw hp_) | ((with_reducible refine gate_builtin (b := .append) (xs := #[.tmp 76, .tmp 77]) rfl ?_); at_builtin; refine Kd.R_append (Kd.int .i64) w.heap.size rfl (.tmp 76) (.tmp 77) 54 3 (.int .i64 0) 8 rfl Tryd.underlying54 info3 rfl (by decide) (by omega) (.slice (some ⟨go75, 0, none⟩) x7_1.length co75) y262 0 [.int .i64 0] (fun k_ => some k_ ≠ (v229 : Value).ownBlock) (fun _ => False) rfl rfl ?aP (fun _ hk => hk.elim) ?aF ?aO (Below.refl _ _) ?aS ?aL ?_; (case aP => exact rfl); (case aF => exact (fun k_ hk => Kd.fresh' (Kd.R_lt (by exact HO_6.out)) k_ hk)); (case aO => exact (by exact HO_7.out)); (case aS => exact (keep_size (w := w) (g := g) (row := none) (by repeat (first | (with_reducible first | exact HK.out | apply zK | apply keep_drewN | apply keep_drew | apply keep_alloc) | exact HK.out)))); (case aL => have := LMc76.out; omega); intro v264 w82 ho hb hg hat; rw [← Ny263.out] at ho; have n0_ := zM (Kd.R_after (ok := (fun _ => True)) (by exact HO_6.out) hg hat); have n1_ := zM (Z73.grown (by repeat (first | (with_reducible first | exact HI0.out | apply Z73.alloc | apply Z73.drewN | apply Z73.drew | apply Z73.set_1) | exact HI0.out)) hg (Z73.own_ne HI0.out HO_7.out (by decide))); have n2_ := zM (below_weaken (by repeat (first | (with_reducible first | exact HB.out | apply zB | apply zA | apply zC | refine zD ?_ (Z73.ge HI0.out)) | exact HB.out)) HL.out hb); have n3_ := zM (KeepBut.trans (by repeat (first | (with_reducible first | exact HK.out | apply zK | apply keep_drewN | apply keep_drew | apply keep_alloc) | exact HK.out)) (KeepBut.of_grown hg g) (Kd.R_base2 HO_7.out)); have n4_ := zM (ho); clear HO_6; clear HI0; clear HB; clear HK; clear HO_7; have HO_6 := n0_; have HI0 := n1_; have HB := n2_; have HK := n3_; have HO265 := n4_; clear n0_ n1_ n2_ n3_ n4_; clear ho hb hg hat))
             go_ret
             exact ⟨_, by first | rfl | (simp [errW_none, errW_some] <;> rfl) | (simp only [← hji5]; first | rfl | (simp [errW_none, errW_some] <;> rfl)) | (simp [*, errW_none, errW_some] <;> rfl), by exact Kd.R_mono HO265.out (fun _ hk => trivial), by repeat (first | (with_reducible first | exact HI0.out | apply Z73.alloc | apply Z73.drewN | apply Z73.drew | apply Z73.set_1) | exact HI0.out), by repeat (first | (with_reducible first | exact HB.out | apply zB | apply zA | apply zC | refine zD ?_ (Z73.ge HI0.out)) | exact HB.out), by repeat (first | (with_reducible first | exact HK.out | apply zK | apply keep_drewN | apply keep_drew | apply keep_alloc) | exact HK.out)⟩
            ·rw [if_neg c76] at H
             exact absurd H (by simp)
           ·rw [if_neg c74] at H
            exact absurd H (by simp)
          ·rw [if_neg c73] at H
           exact absurd H (by simp)
         ·rw [if_neg c71] at H
          have c71b0 : (t252 == 2) = false := beq_eq_false_iff_ne.mpr c71
          have c71b1 : (t252 != 2) = true := bne_iff_ne.mpr c71
          obtain ⟨y266, hy266⟩ : ∃ y_ : List Int, y_ = (([1, wrap64 (ji5 + 1), (-1)] : List Int)) := ⟨_, rfl⟩
          replace H : ((spec_l20Rd_pick.f k1 s0_0 t253 3).bind fun bt269 => (if 0 ≤ bt269.1 then (if bt269.1 < (y266.length : Int) then (if 0 < (x7_1.length : Int) then (some ((x7_1.set (0 : Int).toNat (rd y266 bt269.1)), bt269.2)) else (none)) else (none)) else (none))) = some (r1, r2) := by first | (rw [hy266]; with_reducible exact H) | (have H2_ := (Option.bind_some _ _).symm.trans H; rw [hy266]; with_reducible exact H2_) | (have H2_ := (Option.bind_some _ _).symm.trans H; with_reducible exact H2_) | with_reducible exact H | (rw [hy266]; exact H) | exact H
          have Ny266 := zM hy266
          clear hy266
          replace H := Option.bind_eq_some_iff.mp H
          obtain ⟨⟨t269, t270⟩, A830, H⟩ := H
          replace H : (if 0 ≤ t269 then (if t269 < (y266.length : Int) then (if 0 < (x7_1.length : Int) then (some ((x7_1.set (0 : Int).toNat (rd y266 t269)), t270)) else (none)) else (none)) else (none)) = some (r1, r2) := H
          have A83 := zM A830
          clear A830
          by_cases c84 : 0 ≤ t269
          ·rw [if_pos c84] at H
           have c84b0 : decide (0 ≤ t269) = true := decide_eq_true c84
           clear c84
           by_cases c85 : t269 < (y266.length : Int)
           ·rw [if_pos c85] at H
            have c85b0 : decide (t269 < (y266.length : Int)) = true := decide_eq_true c85
            clear c85
            by_cases c86 : 0 < (x7_1.length : Int)
            ·rw [if_pos c86] at H
             have c86b0 : decide (0 < (x7_1.length : Int)) = true := decide_eq_true c86
             have c86b1 : decide (0 < x7_1.length) = true := decide_eq_true (by omega)
             clear c86
             obtain ⟨y272, hy272⟩ : ∃ y_ : List Int, y_ = (x7_1.set (0 : Int).toNat (rd y266 t269)) := ⟨_, rfl⟩
             replace H : (some (y272, t270)) = some (r1, r2) := by first | (rw [hy272]; with_reducible exact H) | (have H2_ := (Option.bind_some _ _).symm.trans H; rw [hy272]; with_reducible exact H2_) | (have H2_ := (Option.bind_some _ _).symm.trans H; with_reducible exact H2_) | with_reducible exact H | (rw [hy272]; exact H) | exact H
             have Ny272 := zM hy272
             clear hy272
             simp only [Option.some.injEq, Prod.mk.injEq] at H
             obtain ⟨rfl, rfl⟩ := H
             go_wp2_with (first | ((with_reducible refine gate_callee (f := 46) rfl ?_); refine goesL_ (some 51) rfl rfl Tryd.func46 (by kernel_rfl) rfl #[.pointer (some ⟨g, 0, none⟩), .int .i64 a1] rfl (by (try simp only [List.map_toArray, List.map_cons, List.map_nil]); first | done | rfl | (simp only [List.length_drop, List.length_take]; rfl)) ?_; (with_reducible refine (spec_l20Rd_odd.calls k1 g s0_0 x1001_1 a1 true t251 w0 _ ?side1 ?side2 A58.out).mono ?_); (case side1 => repeat (first | (with_reducible first | exact HI0.out | apply Z73.alloc | apply Z73.drewN | apply Z73.drew | apply Z73.set_1) | exact HI0.out)); (case side2 => repeat (first | (with_reducible first | exact HB.out | apply zB | apply zA | apply zC | refine zD ?_ (Z73.ge HI0.out)) | exact HB.out)); rintro e w88 ⟨rfl, hi, hb, hk⟩; refine ⟨_, rfl, ?_⟩; have n0_ := zM (Kd.R_mono (Kd.R_keep (Z73.apart (show Z73 w0 _ g s0_0 x1001_1 from by repeat (first | (with_reducible first | exact HI0.out | apply Z73.alloc | apply Z73.drewN | apply Z73.drew | apply Z73.set_1) | exact HI0.out)) (by exact HO_6.out) (by decide)) hk (fun _ h => h.2)) (fun _ h => h.1)); have n1_ := zM (Kd.R_mono (Kd.R_keep (Z73.apart (show Z73 w0 _ g s0_0 x1001_1 from by repeat (first | (with_reducible first | exact HI0.out | apply Z73.alloc | apply Z73.drewN | apply Z73.drew | apply Z73.set_1) | exact HI0.out)) (by exact HO_7.out) (by decide)) hk (fun _ h => h.2)) (fun _ h => h.1)); have n2_ := zM (KeepBut.trans (by repeat (first | (with_reducible first | exact HK.out | apply zK | apply keep_drewN | apply keep_drew | apply keep_alloc) | exact HK.out)) hk (.inl rfl)); have n3_ := zM (hb); have n4_ := zM (hi); clear HO_6; clear HO_7; clear HK; clear HB; clear HI0; have HO_6 := n0_; have HO_7 := n1_; have HK := n2_; have HB := n3_; have HI0 := n4_; clear n0_ n1_ n2_ n3_ n4_; (try clear hb); (try clear hb2); (try clear hk); (try clear hi)) | ((with_reducible refine gate_callee (f := 43) rfl ?_); refine goesL_ (some 53) rfl rfl Tryd.func43 (by kernel_rfl) rfl #[.pointer (some ⟨g, 0, none⟩), .int .i64 4] rfl (by (try simp only [List.map_toArray, List.map_cons, List.map_nil]); first | done | rfl | (simp only [List.length_drop, List.length_take]; rfl)) ?_; (with_reducible refine (spec_l20Rd_pick.calls k1 g s0_0 t251 4 t252 t253 w0 _ ?side1 ?side2 A60.out).mono ?_); (case side1 => repeat (first | (with_reducible first | exact HI0.out | apply Z73.alloc | apply Z73.drewN | apply Z73.drew | apply Z73.set_1) | exact HI0.out)); (case side2 => repeat (first | (with_reducible first | exact HB.out | apply zB | apply zA | apply zC | refine zD ?_ (Z73.ge HI0.out)) | exact HB.out)); rintro e w89 ⟨rfl, hi, hb, hk⟩; refine ⟨_, rfl, ?_⟩; have n0_ := zM (Kd.R_mono (Kd.R_keep (Z73.apart (show Z73 w0 _ g s0_0 t251 from by repeat (first | (with_reducible first | exact HI0.out | apply Z73.alloc | apply Z73.drewN | apply Z73.drew | apply Z73.set_1) | exact HI0.out)) (by exact HO_6.out) (by decide)) hk (fun _ h => h.2)) (fun _ h => h.1)); have n1_ := zM (Kd.R_mono (Kd.R_keep (Z73.apart (show Z73 w0 _ g s0_0 t251 from by repeat (first | (with_reducible first | exact HI0.out | apply Z73.alloc | apply Z73.drewN | apply Z73.drew | apply Z73.set_1) | exact HI0.out)) (by exact HO_7.out) (by decide)) hk (fun _ h => h.2)) (fun _ h => h.1)); have n2_ := zM (KeepBut.trans (by repeat (first | (with_reducible first | exact HK.out | apply zK | apply keep_drewN | apply keep_drew | apply keep_alloc) | exact HK.out)) hk (.inl rfl)); have n3_ := zM (hb); have n4_ := zM (hi); clear HO_6; clear HO_7; clear HK; clear HB; clear HI0; have HO_6 := n0_; have HO_7 := n1_; have HK := n2_; have HB := n3_; have HI0 := n4_; clear n0_ n1_ n2_ n3_ n4_; (try clear hb); (try clear hb2); (try clear hk); (try clear hi)) | ((with_reducible refine gate_dst (N := 57) rfl ?_); refine Kd.R_lit (Kd.int .i64) _ 3 ?hg (N := 57) ?hd (xs := ([1, wrap64 (ji5 + 1), (-1)] : List Int)) (inner := [.int .i64 1, .int .i64 (wrap64 (ji5 + 1)), .int .i64 (-1)]) (ok := fun _ => True) (okp := fun _ => True) ?hr ?hp (fun _ hk => hk) trivial (Below.refl _ _) (Nat.le_refl _) (by simp) ?_; (case hd => rfl); (case hg => rfl); (case hr => first | (go_simp; done) | (go_simp; rfl)); (case hp => exact (Reps.one (show Kd.M (Kd.int .i64) _ _ _ 1 [.int .i64 1] from rfl) (Reps.one (show Kd.M (Kd.int .i64) _ _ _ (wrap64 (ji5 + 1)) [.int .i64 (wrap64 (ji5 + 1))] from rfl) (Reps.one (show Kd.M (Kd.int .i64) _ _ _ (-1) [.int .i64 (-1)] from rfl) (Reps.none _ _))))); intro v267 w90 ho91 hb hg_ hnew_; clear hg_ hnew_; (first | rw [← Ny266.out] at ho91 | (simp only [Int.reduceToNat] at ho91; rw [← Ny266.out] at ho91)); have n0_ := zM (Kd.R_elder' (by exact HO_6.out) (Kd.R_base ho91) hb); have n1_ := zM (Kd.R_elder' (by exact HO_7.out) (Kd.R_base ho91) hb); have n2_ := zM (Kd.R_lower (Kd.R_new' (Kd.R_new' ho91 (Kd.R_lt (by exact HO_6.out))) (Kd.R_lt (by exact HO_7.out))) (keep_size (w := w) (g := g) (row := none) (by repeat (first | (with_reducible first | exact HK.out | apply zK | apply keep_drewN | apply keep_drew | apply keep_alloc) | exact HK.out)))); have n3_ := zM (Z73.below (by repeat (first | (with_reducible first | exact HI0.out | apply Z73.alloc | apply Z73.drewN | apply Z73.drew | apply Z73.set_1) | exact HI0.out)) hb); have n4_ := zM (KeepBut.trans (by repeat (first | (with_reducible first | exact HK.out | apply zK | apply keep_drewN | apply keep_drew | apply keep_alloc) | exact HK.out)) (KeepBut.of_below hb g none) (.inl rfl)); have n5_ := zM (below_step (by repeat (first | (with_reducible first | exact HB.out | apply zB | apply zA | apply zC | refine zD ?_ (Z73.ge HI0.out)) | exact HB.out)) hb); clear HO_6; clear HO_7; clear HI0; clear HK; clear HB; have HO_6 := n0_; have HO_7 := n1_; have HO268 := n2_; have HI0 := n3_; have HK := n4_; have HB := n5_; clear n0_ n1_ n2_ n3_ n4_ n5_; clear hb ho91) | ((with_reducible refine gate_callee (f := 43) rfl ?_); refine goesL_ (some 59) rfl rfl Tryd.func43 (by kernel_rfl) rfl #[.pointer (some ⟨g, 0, none⟩), .int .i64 3] rfl (by (try simp only [List.map_toArray, List.map_cons, List.map_nil]); first | done | rfl | (simp only [List.length_drop, List.length_take]; rfl)) ?_; (with_reducible refine (spec_l20Rd_pick.calls k1 g s0_0 t253 3 t269 t270 w0 _ ?side1 ?side2 A83.out).mono ?_); (case side1 => repeat (first | (with_reducible first | exact HI0.out | apply Z73.alloc | apply Z73.drewN | apply Z73.drew | apply Z73.set_1) | exact HI0.out)); (case side2 => repeat (first | (with_reducible first | exact HB.out | apply zB | apply zA | apply zC | refine zD ?_ (Z73.ge HI0.out)) | exact HB.out)); rintro e w92 ⟨rfl, hi, hb, hk⟩; refine ⟨_, rfl, ?_⟩; have n0_ := zM (Kd.R_mono (Kd.R_keep (Z73.apart (show Z73 w0 _ g s0_0 t253 from by repeat (first | (with_reducible first | exact HI0.out | apply Z73.alloc | apply Z73.drewN | apply Z73.drew | apply Z73.set_1) | exact HI0.out)) (by exact HO_6.out) (by decide)) hk (fun _ h => h.2)) (fun _ h => h.1)); have n1_ := zM (Kd.R_mono (Kd.R_keep (Z73.apart (show Z73 w0 _ g s0_0 t253 from by repeat (first | (with_reducible first | exact HI0.out | apply Z73.alloc | apply Z73.drewN | apply Z73.drew | apply Z73.set_1) | exact HI0.out)) (by exact HO_7.out) (by decide)) hk (fun _ h => h.2)) (fun _ h => h.1)); have n2_ := zM (Kd.R_mono (Kd.R_keep (Z73.apart (show Z73 w0 _ g s0_0 t253 from by repeat (first | (with_reducible first | exact HI0.out | apply Z73.alloc | apply Z73.drewN | apply Z73.drew | apply Z73.set_1) | exact HI0.out)) (by exact HO268.out) (by decide)) hk (fun _ h => h.2)) (fun _ h => h.1)); have n3_ := zM (KeepBut.trans (by repeat (first | (with_reducible first | exact HK.out | apply zK | apply keep_drewN | apply keep_drew | apply keep_alloc) | exact HK.out)) hk (.inl rfl)); have n4_ := zM (hb); have n5_ := zM (hi); clear HO_6; clear HO_7; clear HO268; clear HK; clear HB; clear HI0; have HO_6 := n0_; have HO_7 := n1_; have HO268 := n2_; have HK := n3_; have HB := n4_; have HI0 := n5_; clear n0_ n1_ n2_ n3_ n4_ n5_; (try clear hb); (try clear hb2); (try clear hk); (try clear hi); obtain ⟨Ao93, co93, eo93⟩ := Kd.R_slice HO268.out; subst eo93; have p271 : 0 ≤ (t269 : Int) := of_decide_eq_true (by first | (with_reducible assumption) | assumption); have q271 : t269 < (y266.length : Int) := of_decide_eq_true (by first | (with_reducible assumption) | assumption); obtain ⟨ad271, e271, hx271_0⟩ := Kd.at_int (Kd.R_reads' HO268.out).2.2 t269 p271 q271; cases e271; replace p271 := eq_true p271; replace q271 := eq_true q271; have p87 : 0 ≤ (0 : Int) := (by omega); have q87 : (0 : Int) < ((x7_1.length : Int) : Int) := of_decide_eq_true (by first | (with_reducible assumption) | assumption); have qi87 : (0 < x7_1.length) = True := eq_true (by omega); obtain ⟨go87, co87, eo87, gb87, gl87, cl87, HG87⟩ := Kd.R_form HO_7.out (by omega); (first | cases eo87 | (injection eo87 with ea_ en_ ec_; (first | subst ea_ | (injection ea_ with ea_; subst ea_)); subst ec_; clear en_)); have GB87 := zM gb87; have GG87 := zM HG87; clear gb87 gl87 HG87; obtain ⟨hx87_0, hf87_0⟩ := Kd.R_celln 0 HO_7.out (0 : Int) p87 q87; (try rw [show ((0 : Int)).toNat = 0 from rfl] at hx87_0); (try simp only [Nat.reduceMul, Nat.zero_mul, Nat.zero_add, Nat.reduceAdd] at hx87_0); (try rw [show ((0 : Int)).toNat = 0 from rfl] at hf87_0); (try simp only [Nat.reduceMul, Nat.zero_mul, Nat.zero_add, Nat.reduceAdd] at hf87_0); replace p87 := eq_true p87; replace q87 := eq_true q87; obtain ⟨hy94_, hz94_⟩ := Kd.R_celln 0 HO_7.out (0 : Int) (by omega) (of_decide_eq_true (by first | (with_reducible assumption) | assumption)); (try simp only [Int.reduceToNat, Int.toNat_zero, Int.toNat_ofNat, Nat.reduceMul, Nat.zero_mul, Nat.zero_add] at hy94_ hz94_); (try rw [show ((0 : Int)).toNat = 0 from rfl] at hy94_); (try rw [show ((0 : Int)).toNat = 0 from rfl] at hz94_); have HP94 := Kd.R_putg HO_7.out (0 : Int) (rd y266 t269)) | ((with_reducible refine gate_store (t := 3) (p := 62) rfl ?_); refine store_event (t := 3) (p := 62) (v := ?vo_w95) (w1 := (w92.setCell ⟨go87, (0 : Int).toNat, none⟩ (.int .i64 (rd y266 t269)))) ?hg ?ho ?hn ?hr ?_; (case ho => rfl); (case hg => rfl); (case hn => rfl); (case hr => first | (go_simp; done) | (go_simp; rfl)); intro w95 hw; have hg : w92.grownBy w95 (some go87) := (by rw [hw]; exact HP94.2); have hp_ : Kd.R (Kd.int .i64) 3 w95 w.heap.size (fun k_ => some k_ ≠ (v229 : Value).ownBlock ∧ some k_ ≠ (.slice (some ad271) y266.length co93 : Value).ownBlock) (.slice (some ⟨go87, 0, none⟩) x7_1.length co87) y272 := (by rw [hw, Ny272.out]; exact HP94.1); clear HP94; have n0_ := zM (Kd.R_after (v := (.slice (some ⟨go87, 0, none⟩) x7_1.length co87)) (v1 := (.slice (some ⟨go87, 0, none⟩) x7_1.length co87)) (ok := (fun k_ => some k_ ≠ (.slice (some ad271) y266.length co93 : Value).ownBlock)) (by exact Kd.R_mono HO_6.out (fun _ hk => ⟨hk.2, hk.1⟩)) hg (.inl rfl)); have n1_ := zM (hp_); have n2_ := zM (Z73.grown (by repeat (first | (with_reducible first | exact HI0.out | apply Z73.alloc | apply Z73.drewN | apply Z73.drew | apply Z73.set_1) | exact HI0.out)) hg (Z73.own_ne HI0.out HO_7.out (by decide))); have n3_ := zM (Kd.R_after (v := (.slice (some ⟨go87, 0, none⟩) x7_1.length co87)) (v1 := (.slice (some ⟨go87, 0, none⟩) x7_1.length co87)) (ok := (fun k_ => some k_ ≠ (v229 : Value).ownBlock)) (by exact Kd.R_mono HO268.out (fun _ hk => ⟨hk.1.2, hk.2⟩)) hg (.inl rfl)); have n4_ := zM ((by rw [hw]; exact zD (HB.out) (Nat.le_trans HL.out GB87.out) : Below w0.heap.size w0 w95)); have n5_ := zM (KeepBut.trans (by repeat (first | (with_reducible first | exact HK.out | apply zK | apply keep_drewN | apply keep_drew | apply keep_alloc) | exact HK.out)) (KeepBut.of_grown hg g) (Kd.R_base2 HO_7.out)); clear HO_6; clear HO_7; clear HI0; clear HO268; clear HB; clear HK; have HO_6 := n0_; have HO_7 := n1_; have HI0 := n2_; have HO268 := n3_; have HB := n4_; have HK := n5_; clear n0_ n1_ n2_ n3_ n4_ n5_; clear hg hw hp_))
             go_ret
             exact ⟨_, by first | rfl | (simp [errW_none, errW_some] <;> rfl) | (simp only [← hji5]; first | rfl | (simp [errW_none, errW_some] <;> rfl)) | (simp [*, errW_none, errW_some] <;> rfl), by exact Kd.R_mono HO_7.out (fun _ hk => trivial), by repeat (first | (with_reducible first | exact HI0.out | apply Z73.alloc | apply Z73.drewN | apply Z73.drew | apply Z73.set_1) | exact HI0.out), by repeat (first | (with_reducible first | exact HB.out | apply zB | apply zA | apply zC | refine zD ?_ (Z73.ge HI0.out)) | exact HB.out), by repeat (first | (with_reducible first | exact HK.out | apply zK | apply keep_drewN | apply keep_drew | apply keep_alloc) | exact HK.out)⟩
            ·rw [if_neg c86] at H
             exact absurd H (by simp)
           ·rw [if_neg c85] at H
            exact absurd H (by simp)
          ·rw [if_neg c84] at H
           exact absurd H (by simp)
      ·replace c59 := Bool.eq_false_iff.mpr c59
       subst c59
       have H1 : (some (x7_1, t251)) = some (r1, r2) := by rw [if_neg (show ¬ (false = true) by decide)] at H; exact H
       clear H
       have H := H1
       clear H1
       simp only [Option.some.injEq, Prod.mk.injEq] at H
       obtain ⟨rfl, rfl⟩ := H
       go_wp2_with (first | ((with_reducible refine gate_callee (f := 46) rfl ?_); refine goesL_ (some 51) rfl rfl Tryd.func46 (by kernel_rfl) rfl #[.pointer (some ⟨g, 0, none⟩), .int .i64 a1] rfl (by (try simp only [List.map_toArray, List.map_cons, List.map_nil]); first | done | rfl | (simp only [List.length_drop, List.length_take]; rfl)) ?_; (with_reducible refine (spec_l20Rd_odd.calls k1 g s0_0 x1001_1 a1 false t251 w0 _ ?side1 ?side2 A58.out).mono ?_); (case side1 => repeat (first | (with_reducible first | exact HI0.out | apply Z73.alloc | apply Z73.drewN | apply Z73.drew | apply Z73.set_1) | exact HI0.out)); (case side2 => repeat (first | (with_reducible first | exact HB.out | apply zB | apply zA | apply zC | refine zD ?_ (Z73.ge HI0.out)) | exact HB.out)); rintro e w96 ⟨rfl, hi, hb, hk⟩; refine ⟨_, rfl, ?_⟩; have n0_ := zM (Kd.R_mono (Kd.R_keep (Z73.apart (show Z73 w0 _ g s0_0 x1001_1 from by repeat (first | (with_reducible first | exact HI0.out | apply Z73.alloc | apply Z73.drewN | apply Z73.drew | apply Z73.set_1) | exact HI0.out)) (by exact HO_6.out) (by decide)) hk (fun _ h => h.2)) (fun _ h => h.1)); have n1_ := zM (Kd.R_mono (Kd.R_keep (Z73.apart (show Z73 w0 _ g s0_0 x1001_1 from by repeat (first | (with_reducible first | exact HI0.out | apply Z73.alloc | apply Z73.drewN | apply Z73.drew | apply Z73.set_1) | exact HI0.out)) (by exact HO_7.out) (by decide)) hk (fun _ h => h.2)) (fun _ h => h.1)); have n2_ := zM (KeepBut.trans (by repeat (first | (with_reducible first | exact HK.out | apply zK | apply keep_drewN | apply keep_drew | apply keep_alloc) | exact HK.out)) hk (.inl rfl)); have n3_ := zM (hb); have n4_ := zM (hi); clear HO_6; clear HO_7; clear HK; clear HB; clear HI0; have HO_6 := n0_; have HO_7 := n1_; have HK := n2_; have HB := n3_; have HI0 := n4_; clear n0_ n1_ n2_ n3_ n4_; (try clear hb); (try clear hb2); (try clear hk); (try clear hi)))
       go_ret
       exact ⟨_, by first | rfl | (simp [errW_none, errW_some] <;> rfl) | (simp only [← hji5]; first | rfl | (simp [errW_none, errW_some] <;> rfl)) | (simp [*, errW_none, errW_some] <;> rfl), by exact Kd.R_mono HO_7.out (fun _ hk => trivial), by repeat (first | (with_reducible first | exact HI0.out | apply Z73.alloc | apply Z73.drewN | apply Z73.drew | apply Z73.set_1) | exact HI0.out), by repeat (first | (with_reducible first | exact HB.out | apply zB | apply zA | apply zC | refine zD ?_ (Z73.ge HI0.out)) | exact HB.out), by repeat (first | (with_reducible first | exact HK.out | apply zK | apply keep_drewN | apply keep_drew | apply keep_alloc) | exact HK.out)⟩
  ·rw [if_neg c7] at H
   exact absurd H (by simp)
 ·rw [if_neg c6] at H
  exact absurd H (by simp)

end Go.Proofs.YtopfhdhdpnenpaaDoor.LF
