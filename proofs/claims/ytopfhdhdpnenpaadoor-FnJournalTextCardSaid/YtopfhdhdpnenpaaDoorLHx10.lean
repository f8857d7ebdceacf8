/- Printed by a program of this session (wip/lp/lp.py) out of the translation: functions with the same answers as the Go code, and their contracts; no conditions beyond those that each theorem names. -/
import Derived.Test.YtopfhdhdpnenpaaDoorLHx0
import Derived.Test.YtopfhdhdpnenpaaDoorLHx5
import Derived.Test.YtopfhdhdpnenpaaDoorLHx6
import Derived.Test.YtopfhdhdpnenpaaDoorLHx7
import Derived.Test.YtopfhdhdpnenpaaDoorLHx8
import Derived.Test.YtopfhdhdpnenpaaDoorLHx9
namespace Go.Proofs.YtopfhdhdpnenpaaDoor.LH
open Go.RowKit Go.Proofs.YtopfhdhdpnenpaaDoorV.PrintWords Go.Proofs.YtopfhdhdpnenpaaDoorV.PrintLast Go.Proofs.YtopfhdhdpnenpaaDoorV.PrintMore
attribute [local go_sem] max2_int min2_int max_two min_two max_three min_three max_four min_four   -- for this text's walks alone
set_option linter.unusedVariables false
set_option linter.unusedSimpArgs false

/-! ### spec_l20Wild: function 36 -/
def spec_l20Wild.j0 : Nat → Int → List Int → Bool → List Int → Int → Option (List Int × Int)
 | 0, _, _, _, _, _ => none
 | k + 1, x1, x5, x17, x1000, x1001 => if x17 = true then ((spec_l20Order.f k x1000 x1001 (x5.length : Int)).bind fun bt327 => ((spec_PutInOrder.f k x5 bt327.1).bind fun bt331 => (some (bt331.1, bt327.2)))) else ((spec_l20Rd_pick.f k x1000 x1001 3).bind fun bt335 => (if bt335.1 = 0 then ((spec_l20Flat.f k x1000 bt335.2 x1).bind fun bt337 => (some (bt337.1, bt337.2))) else (some (x5, bt335.2))))
def spec_l20Wild.f (k : Nat) (s0_0 : List Int) (s0_1 : Int) (a1 : Int) : Option (List Int × Int) := (spec_l20Tree.f k s0_0 s0_1 a1).bind fun bt320 => ((spec_l20Rd_pick.f k s0_0 bt320.2 2).bind fun bt324 => (if bt324.1 = 0 then ((spec_TreeOk.f k bt320.1).bind fun t326 => (spec_l20Wild.j0 k a1 bt320.1 t326 s0_0 bt324.2)) else (spec_l20Wild.j0 k a1 bt320.1 false s0_0 bt324.2)))
theorem spec_l20Wild.mono_l : ∀ k, (∀ y0 y1 y2 y3 y4, LeO (spec_l20Wild.j0 k y0 y1 y2 y3 y4) (spec_l20Wild.j0 (k + 1) y0 y1 y2 y3 y4))
 | 0 => fun _ _ _ _ _ r h => by simp [spec_l20Wild.j0] at h
 | k + 1 => by
  have ih0 := spec_l20Wild.mono_l k
  ·intro y0 y1 y2 y3 y4
   unfold spec_l20Wild.j0
   repeat' first
   | (with_reducible exact ih0 _ _ _ _ _)
   | (with_reducible exact spec_PutInOrder.mono _ _ _)
   | (with_reducible exact spec_TreeOk.mono _ _)
   | (with_reducible exact spec_l20Flat.mono _ _ _ _)
   | (with_reducible exact spec_l20Order.mono _ _ _ _)
   | (with_reducible exact spec_l20Rd_pick.mono _ _ _ _)
   | (with_reducible exact spec_l20Tree.mono _ _ _ _)
   | (with_reducible exact LeO.refl _)
   | (with_reducible exact LeO.none _)
   | (with_reducible refine LeO.ite ?_ ?_)
   | (with_reducible refine LeO.bind ?_ (fun _ => ?_))
   | refine LeO.ite ?_ ?_
   | refine LeO.bind ?_ (fun _ => ?_)
theorem spec_l20Wild.mono : ∀ a0 a1 a2 k, LeO (spec_l20Wild.f k a0 a1 a2) (spec_l20Wild.f (k + 1) a0 a1 a2) := by
 intro a0 a1 a2 k
 have ih0 := spec_l20Wild.mono_l k
 unfold spec_l20Wild.f
 repeat' first
   | (with_reducible exact ih0 _ _ _ _ _)
   | (with_reducible exact spec_PutInOrder.mono _ _ _)
   | (with_reducible exact spec_TreeOk.mono _ _)
   | (with_reducible exact spec_l20Flat.mono _ _ _ _)
   | (with_reducible exact spec_l20Order.mono _ _ _ _)
   | (with_reducible exact spec_l20Rd_pick.mono _ _ _ _)
   | (with_reducible exact spec_l20Tree.mono _ _ _ _)
   | (with_reducible exact LeO.refl _)
   | (with_reducible exact LeO.none _)
   | (with_reducible refine LeO.ite ?_ ?_)
   | (with_reducible refine LeO.bind ?_ (fun _ => ?_))
   | refine LeO.ite ?_ ?_
   | refine LeO.bind ?_ (fun _ => ?_)
set_option maxHeartbeats 8000000 in
set_option maxRecDepth 100000 in
theorem spec_l20Wild.calls (k : Nat) (g : Nat) (s0_0 : List Int) (s0_1 : Int) (a1 : Int) (r1 : List Int) (r2 : Int) (w0 w : World) (hI : IsS73 w0 w g s0_0 s0_1) (hB : Below w0.heap.size w0 w) (h : spec_l20Wild.f k s0_0 s0_1 a1 = some (r1, r2)) :
  Calls Tryd.prog 36 #[.pointer (some ⟨g, 0, none⟩), .int .i64 a1] w fun e w' => ∃ v0_ : Value, e = .returned (v0_) ∧ Kd.R (Kd.int .i64) 3 w' w.heap.size (fun _ => True) v0_ r1 ∧ IsS73 w0 w' g s0_0 r2 ∧ Below w0.heap.size w0 w' ∧ KeepBut w w' g none := by
 have HI0:=zM hI
 have HK:=zM (KeepBut.refl w g none)
 have HL:=zM hB.size
 clear hI
 have HW0:=zM hB.size
 have HB:=zM hB
 clear hB
 have H : ((spec_l20Tree.f k s0_0 s0_1 a1).bind fun bt320 => ((spec_l20Rd_pick.f k s0_0 bt320.2 2).bind fun bt324 => (if bt324.1 = 0 then ((spec_TreeOk.f k bt320.1).bind fun t326 => (spec_l20Wild.j0 k a1 bt320.1 t326 s0_0 bt324.2)) else (spec_l20Wild.j0 k a1 bt320.1 false s0_0 bt324.2)))) = some (r1, r2) := h
 clear h
 obtain ⟨⟨t320, t323⟩, A3, H⟩ := zb H; try dsimp only at H
 have HC4:=zM H
 clear H
 go_enter Tryd.func36, Tryd.ntmps36
 go_upto_region 2 with (first | (refine zg 50 (some 10) Tryd.func50 #[.pointer (some ⟨g, 0, none⟩), .int .i64 a1] ?_; (with_reducible refine (spec_l20Tree.calls k g s0_0 s0_1 a1 t320 t323 w0 _ ?side1 ?side2 A3.out).mono ?_); (case side1 => exact (q7 HI0.out)); (case side2 => exact (q9 HB.out HI0.out)); rintro e w5 ⟨v321, rfl, ho0, hi, hb, hk⟩; refine ⟨_, rfl, ?_⟩; have HO322:=zM (Kd.R_lower ho0 (keep_size (w := w) (g := g) (row := none) (q8 HK.out))); replace HK:=zM (KeepBut.trans (q8 HK.out) hk (.inl rfl)); replace HB:=zM (hb); replace HI0:=zM (hi); (try clear hb); (try clear hb2); (try clear hk); (try clear hi); (try clear ho0)))
 (try simp only [Act.put, zE, zF, zG])
 go_cut [17] (fun v17 wc => ∃ (kq : Nat) (x17_3 : Bool) (x1001_3 : Int), v17 = .bool x17_3 ∧ Aside0 (spec_l20Wild.j0 kq a1 t320 x17_3 s0_0 x1001_3 = some (r1, r2)) ∧ Aside0 (kq ≤ k) ∧ Aside0 (Kd.R (Kd.int .i64) 3 wc w.heap.size (fun _ => True) v321 t320) ∧ Aside0 (IsS73 w0 wc g s0_0 x1001_3) ∧ Aside0 (KeepBut w wc g none) ∧ Aside0 (Below w0.heap.size w0 wc))
 case first =>
  have H := HC4.out
  clear HC4
  obtain ⟨⟨t324, t325⟩, A6, H⟩ := zb H; try dsimp only at H
  by_cases c7 : t324 = 0
  ·rw [if_pos c7] at H
   have c7b0 : (t324 == 0) = true := beq_iff_eq.mpr c7
   have c7b1 : (t324 != 0) = false := bne_eq_false_iff_eq.mpr c7
   clear c7
   (first | rw [c7b0] | (simp only [i64_w, i32_w]; rw [c7b0]) | skip)
   obtain ⟨t326, A8, H⟩ := zb H; try dsimp only at H
   have H':=zM H
   clear H
   go_wp2_with (first | (refine zg 43 (some 12) Tryd.func43 #[.pointer (some ⟨g, 0, none⟩), .int .i64 2] ?_; (with_reducible refine (spec_l20Rd_pick.calls k g s0_0 t323 2 t324 t325 w0 _ ?side1 ?side2 A6.out).mono ?_); (case side1 => exact (q7 HI0.out)); (case side2 => exact (q9 HB.out HI0.out)); rintro e w9 ⟨rfl, hi, hb, hk⟩; refine ⟨_, rfl, ?_⟩; replace HO322:=zM (Kd.R_mono (Kd.R_keep (IsS73.apart (show IsS73 w0 _ g s0_0 t323 from (q7 HI0.out)) (q3 HO322.out) (by decide)) hk (fun _ h => h.2)) (fun _ h => h.1)); replace HK:=zM (KeepBut.trans (q8 HK.out) hk (.inl rfl)); replace HB:=zM (hb); replace HI0:=zM (hi); (try clear hb); (try clear hb2); (try clear hk); (try clear hi); obtain ⟨Ao10, co10, eo10⟩ := Kd.R_slice HO322.out; subst eo10) | (go_at_call 51; (with_reducible refine (spec_TreeOk.calls k _ _ t320 t326 _ ?side1 ?side2 A8.out).mono ?_); (case side1 => repeat (first | exact (Kd.R_reads' HO322.out).2.2 | (with_reducible refine Kd.C_alloc ?_ _) | (with_reducible refine Kd.C_drewN ?_ _) | (with_reducible refine Kd.C_drew ?_))); (case side2 => exact (Kd.R_reads' HO322.out).2.1); rintro e w' ⟨rfl, ⟨nd, rfl⟩⟩))
   go_meet
   case rel => exact ⟨_, (t326), (t325), (by first | rfl | (simp; done) | (simp [*]; done)), H', ⟨by first | omega | exact Nat.le_refl _⟩, ⟨by (with_reducible repeat (first | apply Kd.R_alloc | apply Kd.R_drewN | apply Kd.R_drew)); exact HO322.out⟩, ⟨(q7 HI0.out)⟩, ⟨(q8 HK.out)⟩, ⟨(q9 HB.out HI0.out)⟩⟩
  ·rw [if_neg c7] at H
   have c7b0 : (t324 == 0) = false := beq_eq_false_iff_ne.mpr c7
   have c7b1 : (t324 != 0) = true := bne_iff_ne.mpr c7
   (first | rw [c7b0] | (simp only [i64_w, i32_w]; rw [c7b0]) | skip)
   have H':=zM H
   clear H
   go_wp2_with (first | (refine zg 43 (some 12) Tryd.func43 #[.pointer (some ⟨g, 0, none⟩), .int .i64 2] ?_; (with_reducible refine (spec_l20Rd_pick.calls k g s0_0 t323 2 t324 t325 w0 _ ?side1 ?side2 A6.out).mono ?_); (case side1 => exact (q7 HI0.out)); (case side2 => exact (q9 HB.out HI0.out)); rintro e w11 ⟨rfl, hi, hb, hk⟩; refine ⟨_, rfl, ?_⟩; replace HO322:=zM (Kd.R_mono (Kd.R_keep (IsS73.apart (show IsS73 w0 _ g s0_0 t323 from (q7 HI0.out)) (q3 HO322.out) (by decide)) hk (fun _ h => h.2)) (fun _ h => h.1)); replace HK:=zM (KeepBut.trans (q8 HK.out) hk (.inl rfl)); replace HB:=zM (hb); replace HI0:=zM (hi); (try clear hb); (try clear hb2); (try clear hk); (try clear hi)))
   go_meet
   case rel => exact ⟨_, (false), (t325), (by first | rfl | (simp; done) | (simp [*]; done)), H', ⟨by first | omega | exact Nat.le_refl _⟩, ⟨by (with_reducible repeat (first | apply Kd.R_alloc | apply Kd.R_drewN | apply Kd.R_drew)); exact HO322.out⟩, ⟨(q7 HI0.out)⟩, ⟨(q8 HK.out)⟩, ⟨(q9 HB.out HI0.out)⟩⟩
 case rest =>
  clear HC4
  try clear p2
  try clear c3
  try clear c4
  try clear c5
  try clear c7
  try clear c7b0
  try clear c7b1
  obtain ⟨kq, x17_3, x1001_3, rfl, HA, HJ3, HO_5, HI0, HK, HB⟩ := hcut
  cases kq with
  | zero => exact absurd HA.out (by simp [spec_l20Wild.j0])
  | succ kj3 =>
   have H := HA.out
   clear HA
   simp only [spec_l20Wild.j0] at H
   by_cases c12 : x17_3 = true
   ·subst c12
    have H1 : ((spec_l20Order.f kj3 s0_0 x1001_3 (t320.length : Int)).bind fun bt327 => ((spec_PutInOrder.f kj3 t320 bt327.1).bind fun bt331 => (some (bt331.1, bt327.2)))) = some (r1, r2) := by rw [if_pos rfl] at H; exact H
    clear H
    have H := H1
    clear H1
    obtain ⟨⟨t327, t330⟩, A13, H⟩ := zb H; try dsimp only at H
    obtain ⟨⟨t331, t332⟩, A14, H⟩ := zb H; try dsimp only at H
    simp only [Option.some.injEq, Prod.mk.injEq] at H
    obtain ⟨rfl, rfl⟩ := H
    obtain ⟨Ao15, co15, eo15⟩ := Kd.R_slice HO_5.out
    subst eo15
    go_wp2_with (first | (refine zg 53 (some 23) Tryd.func53 #[.pointer (some ⟨g, 0, none⟩), .int .i64 (t320.length : Int)] ?_; (with_reducible refine (spec_l20Order.calls kj3 g s0_0 x1001_3 (t320.length : Int) t327 t330 w0 _ ?side1 ?side2 A13.out).mono ?_); (case side1 => exact (q7 HI0.out)); (case side2 => exact (q9 HB.out HI0.out)); rintro e w16 ⟨v328, rfl, ho0, hi, hb, hk⟩; refine ⟨_, rfl, ?_⟩; have HO329:=zM (Kd.R_lower (Kd.R_new' ho0 (Kd.R_lt (q3 HO_5.out))) (keep_size (w := w) (g := g) (row := none) (q8 HK.out))); replace HO_5:=zM (Kd.R_mono (Kd.R_told (Kd.R_oldK (IsS73.apart (show IsS73 w0 _ g s0_0 x1001_3 from (q7 HI0.out)) (q3 HO_5.out) (by decide)) hk) (Kd.R_base ho0)) (fun _ h_ => h_.1)); replace HK:=zM (KeepBut.trans (q8 HK.out) hk (.inl rfl)); replace HB:=zM (hb); replace HI0:=zM (hi); (try clear hb); (try clear hb2); (try clear hk); (try clear hi); (try clear ho0); obtain ⟨Ao17, co17, eo17⟩ := Kd.R_slice HO329.out; subst eo17) | (refine zg 52 (some 24) Tryd.func52 #[.slice Ao15 t320.length co15, .slice Ao17 t327.length co17] ?_; (with_reducible refine (spec_PutInOrder.calls kj3 _ _ t320 _ _ t327 t331 t332 _ ?side1 ?side2 ?side3 ?side4 A14.out).mono ?_); (case side1 => repeat (first | exact (Kd.R_reads' HO_5.out).2.2 | (with_reducible refine Kd.C_alloc ?_ _) | (with_reducible refine Kd.C_drewN ?_ _) | (with_reducible refine Kd.C_drew ?_))); (case side2 => exact (Kd.R_reads' HO_5.out).2.1); (case side3 => repeat (first | exact (Kd.R_reads' HO329.out).2.2 | (with_reducible refine Kd.C_alloc ?_ _) | (with_reducible refine Kd.C_drewN ?_ _) | (with_reducible refine Kd.C_drew ?_))); (case side4 => exact (Kd.R_reads' HO329.out).2.1); rintro e w18 ⟨v333, rfl, ho0, hb⟩; refine ⟨_, rfl, ?_⟩; have HO334:=zM (Kd.R_lower (Kd.R_new' (Kd.R_new' ho0 (Kd.R_lt (q3 HO_5.out))) (Kd.R_lt (q3 HO329.out))) (keep_size (w := w) (g := g) (row := none) (q8 HK.out))); replace HO_5:=zM (Kd.R_elder' (q3 HO_5.out) (Kd.R_base ho0) hb); replace HO329:=zM (Kd.R_elder' (q3 HO329.out) (Kd.R_base ho0) hb); replace HK:=zM (KeepBut.trans (q8 HK.out) (KeepBut.of_below hb g none) (.inl rfl)); replace HB:=zM (below_step (q9 HB.out HI0.out) hb); replace HI0:=zM (IsS73.below (q7 HI0.out) hb); (try clear hb); (try clear hb2); (try clear hk); (try clear hi); (try clear ho0)))
    go_ret
    exact ⟨_, by first | rfl | (simp [errW_none, errW_some] <;> rfl) | (simp [*, errW_none, errW_some] <;> rfl), by (with_reducible repeat (first | apply Kd.R_alloc | apply Kd.R_drewN | apply Kd.R_drew)); exact Kd.R_mono HO334.out (fun _ hk => trivial), (q7 HI0.out), (q9 HB.out HI0.out), (q8 HK.out)⟩
   ·replace c12 := Bool.eq_false_iff.mpr c12
    subst c12
    have H1 : ((spec_l20Rd_pick.f kj3 s0_0 x1001_3 3).bind fun bt335 => (if bt335.1 = 0 then ((spec_l20Flat.f kj3 s0_0 bt335.2 a1).bind fun bt337 => (some (bt337.1, bt337.2))) else (some (t320, bt335.2)))) = some (r1, r2) := by rw [if_neg (show ¬ (false = true) by decide)] at H; exact H
    clear H
    have H := H1
    clear H1
    obtain ⟨⟨t335, t336⟩, A19, H⟩ := zb H; try dsimp only at H
    by_cases c20 : t335 = 0
    ·rw [if_pos c20] at H
     have c20b0 : (t335 == 0) = true := beq_iff_eq.mpr c20
     have c20b1 : (t335 != 0) = false := bne_eq_false_iff_eq.mpr c20
     clear c20
     obtain ⟨⟨t337, t340⟩, A21, H⟩ := zb H; try dsimp only at H
     simp only [Option.some.injEq, Prod.mk.injEq] at H
     obtain ⟨rfl, rfl⟩ := H
     go_wp2_with (first | (refine zg 43 (some 29) Tryd.func43 #[.pointer (some ⟨g, 0, none⟩), .int .i64 3] ?_; (with_reducible refine (spec_l20Rd_pick.calls kj3 g s0_0 x1001_3 3 t335 t336 w0 _ ?side1 ?side2 A19.out).mono ?_); (case side1 => exact (q7 HI0.out)); (case side2 => exact (q9 HB.out HI0.out)); rintro e w22 ⟨rfl, hi, hb, hk⟩; refine ⟨_, rfl, ?_⟩; replace HO_5:=zM (Kd.R_mono (Kd.R_keep (IsS73.apart (show IsS73 w0 _ g s0_0 x1001_3 from (q7 HI0.out)) (q3 HO_5.out) (by decide)) hk (fun _ h => h.2)) (fun _ h => h.1)); replace HK:=zM (KeepBut.trans (q8 HK.out) hk (.inl rfl)); replace HB:=zM (hb); replace HI0:=zM (hi); (try clear hb); (try clear hb2); (try clear hk); (try clear hi)) | (refine zg 54 (some 33) Tryd.func54 #[.pointer (some ⟨g, 0, none⟩), .int .i64 a1] ?_; (with_reducible refine (spec_l20Flat.calls kj3 g s0_0 t336 a1 t337 t340 w0 _ ?side1 ?side2 A21.out).mono ?_); (case side1 => exact (q7 HI0.out)); (case side2 => exact (q9 HB.out HI0.out)); rintro e w23 ⟨v338, rfl, ho0, hi, hb, hk⟩; refine ⟨_, rfl, ?_⟩; have HO339:=zM (Kd.R_lower (Kd.R_new' ho0 (Kd.R_lt (q3 HO_5.out))) (keep_size (w := w) (g := g) (row := none) (q8 HK.out))); replace HO_5:=zM (Kd.R_mono (Kd.R_told (Kd.R_oldK (IsS73.apart (show IsS73 w0 _ g s0_0 t336 from (q7 HI0.out)) (q3 HO_5.out) (by decide)) hk) (Kd.R_base ho0)) (fun _ h_ => h_.1)); replace HK:=zM (KeepBut.trans (q8 HK.out) hk (.inl rfl)); replace HB:=zM (hb); replace HI0:=zM (hi); (try clear hb); (try clear hb2); (try clear hk); (try clear hi); (try clear ho0)))
     go_ret
     exact ⟨_, by first | rfl | (simp [errW_none, errW_some] <;> rfl) | (simp [*, errW_none, errW_some] <;> rfl), by (with_reducible repeat (first | apply Kd.R_alloc | apply Kd.R_drewN | apply Kd.R_drew)); exact Kd.R_mono HO339.out (fun _ hk => trivial), (q7 HI0.out), (q9 HB.out HI0.out), (q8 HK.out)⟩
    ·rw [if_neg c20] at H
     have c20b0 : (t335 == 0) = false := beq_eq_false_iff_ne.mpr c20
     have c20b1 : (t335 != 0) = true := bne_iff_ne.mpr c20
     simp only [Option.some.injEq, Prod.mk.injEq] at H
     obtain ⟨rfl, rfl⟩ := H
     go_wp2_with (first | (refine zg 43 (some 29) Tryd.func43 #[.pointer (some ⟨g, 0, none⟩), .int .i64 3] ?_; (with_reducible refine (spec_l20Rd_pick.calls kj3 g s0_0 x1001_3 3 t335 t336 w0 _ ?side1 ?side2 A19.out).mono ?_); (case side1 => exact (q7 HI0.out)); (case side2 => exact (q9 HB.out HI0.out)); rintro e w24 ⟨rfl, hi, hb, hk⟩; refine ⟨_, rfl, ?_⟩; replace HO_5:=zM (Kd.R_mono (Kd.R_keep (IsS73.apart (show IsS73 w0 _ g s0_0 x1001_3 from (q7 HI0.out)) (q3 HO_5.out) (by decide)) hk (fun _ h => h.2)) (fun _ h => h.1)); replace HK:=zM (KeepBut.trans (q8 HK.out) hk (.inl rfl)); replace HB:=zM (hb); replace HI0:=zM (hi); (try clear hb); (try clear hb2); (try clear hk); (try clear hi)))
     go_ret
     exact ⟨_, by first | rfl | (simp [errW_none, errW_some] <;> rfl) | (simp [*, errW_none, errW_some] <;> rfl), by (with_reducible repeat (first | apply Kd.R_alloc | apply Kd.R_drewN | apply Kd.R_drew)); exact HO_5.out, (q7 HI0.out), (q9 HB.out HI0.out), (q8 HK.out)⟩

end Go.Proofs.YtopfhdhdpnenpaaDoor.LH
