/- Printed by a program of this session (wip/lp/lp.py) out of the translation: functions with the same answers as the Go code, and their contracts; no conditions beyond those that each theorem names. -/
import Derived.Test.YtopfhdhdpnenpaaDoorLHx0
import Derived.Test.YtopfhdhdpnenpaaDoorLHx4
import Derived.Test.YtopfhdhdpnenpaaDoorLHx5
import Derived.Test.YtopfhdhdpnenpaaDoorLHx6
import Derived.Test.YtopfhdhdpnenpaaDoorLHx10
import Derived.Test.YtopfhdhdpnenpaaDoorLHx11
namespace Go.Proofs.YtopfhdhdpnenpaaDoor.LH
open Go.RowKit Go.Proofs.YtopfhdhdpnenpaaDoorV.PrintWords Go.Proofs.YtopfhdhdpnenpaaDoorV.PrintLast Go.Proofs.YtopfhdhdpnenpaaDoorV.PrintMore
attribute [local go_sem] max2_int min2_int max_two min_two max_three min_three max_four min_four   -- for this text's walks alone
set_option linter.unusedVariables false
set_option linter.unusedSimpArgs false

/-! ### spec_l20Deeds: function 59 -/
def spec_l20Deeds.l0 : Nat → List Int → List (S25) → Int → List Int → Int → Option ((List (S25)) × Int)
 | 0, _, _, _, _, _ => none
 | k + 1, x1, x5, x6, x1000, x1001 => if x6 > 0 then ((spec_l20Deed.f k x1000 x1001 x1).bind fun bt372 => (if x5.length < 5864062014805 then (spec_l20Deeds.l0 k x1 (x5 ++ [(⟨bt372.1, bt372.2.1, bt372.2.2.1⟩ : S25)]) (wrap64 (x6 - 1)) x1000 bt372.2.2.2) else (none))) else (some (x5, x1001))
def spec_l20Deeds.f (k : Nat) (s0_0 : List Int) (s0_1 : Int) (l1 : List Int) : Option ((List (S25)) × Int) := (spec_l20Rd_pick.f k s0_0 s0_1 6).bind fun bt370 => (spec_l20Deeds.l0 k l1 (([] : List (S25))) bt370.1 s0_0 bt370.2)
theorem spec_l20Deeds.mono_l : ∀ k, (∀ y0 y1 y2 y3 y4, LeO (spec_l20Deeds.l0 k y0 y1 y2 y3 y4) (spec_l20Deeds.l0 (k + 1) y0 y1 y2 y3 y4))
 | 0 => fun _ _ _ _ _ r h => by simp [spec_l20Deeds.l0] at h
 | k + 1 => by
  have ih0 := spec_l20Deeds.mono_l k
  ·intro y0 y1 y2 y3 y4
   unfold spec_l20Deeds.l0
   repeat' first
   | (with_reducible exact ih0 _ _ _ _ _)
   | (with_reducible exact spec_l20Deed.mono _ _ _ _)
   | (with_reducible exact spec_l20Rd_pick.mono _ _ _ _)
   | (with_reducible exact LeO.refl _)
   | (with_reducible exact LeO.none _)
   | (with_reducible refine LeO.ite ?_ ?_)
   | (with_reducible refine LeO.bind ?_ (fun _ => ?_))
   | refine LeO.ite ?_ ?_
   | refine LeO.bind ?_ (fun _ => ?_)
theorem spec_l20Deeds.mono : ∀ a0 a1 a2 k, LeO (spec_l20Deeds.f k a0 a1 a2) (spec_l20Deeds.f (k + 1) a0 a1 a2) := by
 intro a0 a1 a2 k
 have ih0 := spec_l20Deeds.mono_l k
 unfold spec_l20Deeds.f
 repeat' first
   | (with_reducible exact ih0 _ _ _ _ _)
   | (with_reducible exact spec_l20Deed.mono _ _ _ _)
   | (with_reducible exact spec_l20Rd_pick.mono _ _ _ _)
   | (with_reducible exact LeO.refl _)
   | (with_reducible exact LeO.none _)
   | (with_reducible refine LeO.ite ?_ ?_)
   | (with_reducible refine LeO.bind ?_ (fun _ => ?_))
   | refine LeO.ite ?_ ?_
   | refine LeO.bind ?_ (fun _ => ?_)
set_option maxHeartbeats 8000000 in
set_option maxRecDepth 100000 in
theorem spec_l20Deeds.calls (k : Nat) (g : Nat) (s0_0 : List Int) (s0_1 : Int) (A1 : Option Addr) (c1 : Nat) (l1 : List Int) (r1 : List (S25)) (r2 : Int) (w0 w : World) (hI : IsS73 w0 w g s0_0 s0_1) (hB : Below w0.heap.size w0 w) (hr1 : Kd.C (Kd.int .i64) w A1 l1.length l1) (hc1 : l1.length ≤ c1) (hf1 : ∀ ad, A1 = some ad → 0 < l1.length → ad.block ≠ g) (h : spec_l20Deeds.f k s0_0 s0_1 l1 = some (r1, r2)) :
  Calls Tryd.prog 59 #[.pointer (some ⟨g, 0, none⟩), .slice A1 l1.length c1] w fun e w' => ∃ v0_ : Value, e = .returned (v0_) ∧ Kd.R k25 25 w' w.heap.size (fun _ => True) v0_ r1 ∧ IsS73 w0 w' g s0_0 r2 ∧ Below w0.heap.size w0 w' ∧ KeepBut w w' g none := by
 have HR1:=zM hr1
 have HC1:=zM hc1
 clear hr1 hc1
 have HI0:=zM hI
 have HK:=zM (KeepBut.refl w g none)
 have HL:=zM hB.size
 clear hI
 have HW0:=zM hB.size
 have HB:=zM hB
 clear hB
 have H : ((spec_l20Rd_pick.f k s0_0 s0_1 6).bind fun bt370 => (spec_l20Deeds.l0 k l1 (([] : List (S25))) bt370.1 s0_0 bt370.2)) = some (r1, r2) := h
 clear h
 obtain ⟨y367, hy367⟩ : ∃ y_ : List (S25), y_ = (([] : List (S25))) := ⟨_, rfl⟩
 replace H : ((spec_l20Rd_pick.f k s0_0 s0_1 6).bind fun bt370 => (spec_l20Deeds.l0 k l1 y367 bt370.1 s0_0 bt370.2)) = some (r1, r2) := by first | (rw [hy367]; with_reducible exact H) | (have H2_ := (Option.bind_some _ _).symm.trans H; rw [hy367]; with_reducible exact H2_) | (have H2_ := (Option.bind_some _ _).symm.trans H; with_reducible exact H2_) | with_reducible exact H | (rw [hy367]; exact H) | exact H
 have Ny367:=zM hy367
 clear hy367
 obtain ⟨⟨t370, t371⟩, A3, H⟩ := zb H; try dsimp only at H
 have H':=zM H
 clear H
 go_enter Tryd.func59, Tryd.ntmps59
 go_wp2_with (first | ((with_reducible refine gate_dst (N := 7) rfl ?_); refine Kd.R_lit k25 _ 25 q0 (N := 7) q0 (xs := ([] : List (S25))) (inner := []) (ok := fun _ => True) (okp := fun _ => True) q1 ?hp (fun _ hk => hk) trivial (Below.refl _ _) (Nat.le_refl _) (by simp) ?_; (case hp => exact (Reps.none _ _)); intro v368 w4 ho5 hb hg_ hnew_; clear hg_ hnew_; (first | rw [← Ny367.out] at ho5 | (simp only [Int.reduceToNat] at ho5; rw [← Ny367.out] at ho5)); have HO369:=zM (Kd.R_lower ho5 (keep_size (w := w) (g := g) (row := none) (q8 HK.out))); replace HK:=zM (KeepBut.trans (q8 HK.out) (KeepBut.of_below hb g none) (.inl rfl)); replace HB:=zM (below_step (q9 HB.out HI0.out) hb); replace HI0:=zM (IsS73.below (q7 HI0.out) hb); clear hb ho5) | (refine zg 43 (some 9) Tryd.func43 #[.pointer (some ⟨g, 0, none⟩), .int .i64 6] ?_; (with_reducible refine (spec_l20Rd_pick.calls k g s0_0 s0_1 6 t370 t371 w0 _ ?side1 ?side2 A3.out).mono ?_); (case side1 => exact (q7 HI0.out)); (case side2 => exact (q9 HB.out HI0.out)); rintro e w6 ⟨rfl, hi, hb, hk⟩; refine ⟨_, rfl, ?_⟩; replace HO369:=zM (Kd.R_mono (Kd.R_keep (IsS73.apart (show IsS73 w0 _ g s0_0 s0_1 from (q7 HI0.out)) (q3 HO369.out) (by decide)) hk (fun _ h => h.2)) (fun _ h => h.1)); replace HK:=zM (KeepBut.trans (q8 HK.out) hk (.inl rfl)); replace HB:=zM (hb); replace HI0:=zM (hi); (try clear hb); (try clear hb2); (try clear hk); (try clear hi)))
 go_loopg [5, 6] k (fun kq v5 v6 w' => ∃ (x5_1 : List (S25)) (x6_1 : Int) (x1001_1 : Int), v6 = .int .i64 x6_1 ∧ Aside0 (spec_l20Deeds.l0 kq l1 x5_1 x6_1 s0_0 x1001_1 = some (r1, r2)) ∧ Aside0 (kq ≤ k) ∧ Aside0 (Kd.R k25 25 w' w.heap.size (fun _ => True) v5 x5_1) ∧ Aside0 (IsS73 w0 w' g s0_0 x1001_1) ∧ Aside0 (KeepBut w w' g none) ∧ Aside0 (Below w0.heap.size w0 w'))
 case atStart => exact ⟨(y367), (t370), (t371), (by first | rfl | (simp; done) | (simp [*]; done)), H', ⟨Nat.le_refl _⟩, ⟨by (with_reducible repeat (first | apply Kd.R_alloc | apply Kd.R_drewN | apply Kd.R_drew)); exact HO369.out⟩, ⟨(q7 HI0.out)⟩, ⟨(q8 HK.out)⟩, ⟨(q9 HB.out HI0.out)⟩⟩
 case round =>
  clear H'
  try clear c1
  try clear p2
  try clear c4
  try clear c5
  obtain ⟨x5_1, x6_1, x1001_1, rfl, HA, HK1, HO_5, HI0, HK, HB⟩ := hrel
  cases gk with
  | zero => exact absurd HA.out (by simp [spec_l20Deeds.l0])
  | succ k1 =>
   have H := HA.out
   clear HA
   simp only [spec_l20Deeds.l0] at H
   by_cases c7 : x6_1 > 0
   ·rw [if_pos c7] at H
    have c7b0 : decide (0 < x6_1) = true := decide_eq_true c7
    clear c7
    obtain ⟨⟨t372, t373, t374, t375⟩, A8, H⟩ := zb H; try dsimp only at H
    by_cases c9 : x5_1.length < 5864062014805
    ·rw [if_pos c9] at H
     have LMc9:=zM c9
     clear c9
     obtain ⟨y376, hy376⟩ : ∃ y_ : List (S25), y_ = (x5_1 ++ [(⟨t372, t373, t374⟩ : S25)]) := ⟨_, rfl⟩
     replace H : (spec_l20Deeds.l0 k1 l1 y376 (wrap64 (x6_1 - 1)) s0_0 t375) = some (r1, r2) := by first | (rw [hy376]; with_reducible exact H) | (have H2_ := (Option.bind_some _ _).symm.trans H; rw [hy376]; with_reducible exact H2_) | (have H2_ := (Option.bind_some _ _).symm.trans H; with_reducible exact H2_) | with_reducible exact H | (rw [hy376]; exact H) | exact H
     have Ny376:=zM hy376
     clear hy376
     have H':=zM H
     clear H
     go_wp2_with (first | (refine zg 35 (some 17) Tryd.func35 #[.pointer (some ⟨g, 0, none⟩), .slice A1 l1.length c1] ?_; (with_reducible refine (spec_l20Deed.calls k1 g s0_0 x1001_1 _ _ l1 t372 t373 t374 t375 w0 _ ?side1 ?side2 ?side3 ?side4 ?side5 A8.out).mono ?_); (case side1 => exact (q7 HI0.out)); (case side2 => exact (q9 HB.out HI0.out)); (case side3 => exact Kd.C_keep 0 HR1.out (q8 HK.out) hf1); (case side4 => exact HC1.out); (case side5 => exact hf1); rintro e w10 ⟨rfl, hi, hb, hk⟩; refine ⟨_, rfl, ?_⟩; replace HO_5:=zM (Kd.R_mono (Kd.R_keep (IsS73.apart (show IsS73 w0 _ g s0_0 x1001_1 from (q7 HI0.out)) (q3 HO_5.out) (by decide)) hk (fun _ h => h.2)) (fun _ h => h.1)); replace HK:=zM (KeepBut.trans (q8 HK.out) hk (.inl rfl)); replace HB:=zM (hb); replace HI0:=zM (hi); (try clear hb); (try clear hb2); (try clear hk); (try clear hi)) | ((with_reducible refine gate_builtin (b := .append) (xs := #[.tmp 14, .tmp 18]) rfl ?_); at_builtin; refine Kd.R_append k25 w.heap.size rfl (.tmp 14) (.tmp 18) 40 25 (.agg #[(.int .i64 0), (.int .i64 0), (.int .i64 0)]) 24 rfl Tryd.underlying40 info25 rfl (by decide) (by omega) u5 x5_1 (⟨t372, t373, t374⟩ : S25) [.int .i64 t372, .int .i64 t373, .int .i64 t374] (fun _ => True) (fun _ => False) rfl rfl ?aP (fun _ hk => hk.elim) ?aF ?aO (Below.refl _ _) ?aS ?aL ?_; (case aP => exact k25_mkM _ _ _ (⟨t372, t373, t374⟩ : S25)); (case aF => exact (fun _ _ => trivial)); (case aO => exact (q3 HO_5.out)); (case aS => exact (keep_size (w := w) (g := g) (row := none) (q8 HK.out))); (case aL => have := LMc9.out; omega); intro v377 w11 ho hb hg hat; rw [← Ny376.out] at ho; replace HB:=zM (below_weaken (q9 HB.out HI0.out) HL.out hb); replace HI0:=zM (IsS73.grown (q7 HI0.out) hg (IsS73.own_ne HI0.out HO_5.out (by decide))); replace HK:=zM (KeepBut.trans (q8 HK.out) (KeepBut.of_grown hg g) (Kd.R_base2 HO_5.out)); have HO378:=zM (ho); clear HO_5; clear ho hb hg hat))
     go_roundg k1
     case measure => have := HK1.out; omega
     case rel => exact ⟨(y376), (wrap64 (x6_1 - 1)), (t375), (by first | rfl | (simp; done) | (simp [*]; done)), H', ⟨by have := HK1.out; omega⟩, ⟨by (with_reducible repeat (first | apply Kd.R_alloc | apply Kd.R_drewN | apply Kd.R_drew)); exact HO378.out⟩, ⟨(q7 HI0.out)⟩, ⟨(q8 HK.out)⟩, ⟨(q9 HB.out HI0.out)⟩⟩
    ·rw [if_neg c9] at H
     exact absurd H (by simp)
   ·rw [if_neg c7] at H
    have c7b0 : decide (0 < x6_1) = false := decide_eq_false c7
    clear c7
    simp only [Option.some.injEq, Prod.mk.injEq] at H
    obtain ⟨rfl, rfl⟩ := H
    go_wp2
    go_ret
    exact ⟨_, by first | rfl | (simp [errW_none, errW_some] <;> rfl) | (simp [*, errW_none, errW_some] <;> rfl), by (with_reducible repeat (first | apply Kd.R_alloc | apply Kd.R_drewN | apply Kd.R_drew)); exact HO_5.out, (q7 HI0.out), (q9 HB.out HI0.out), (q8 HK.out)⟩

/-! ### spec_l20Written: function 45 -/
def spec_l20Written.l0 : Nat → List (S25) → List (S25) → Int → List Int → Int → Option ((List (S25)) × Int)
 | 0, _, _, _, _, _ => none
 | k + 1, x3, x4, x5, x1000, x1001 => if x5 < (x4.length : Int) then (if 0 ≤ x5 then ((spec_DeedText.f k ((rd_T25 x4 x5).f0) ((rd_T25 x4 x5).f1) ((rd_T25 x4 x5).f2)).bind fun t391 => (if t391.toList = ([] : List UInt8) then (spec_l20Written.l0 k x3 x4 (wrap64 (x5 + 1)) x1000 x1001) else (if x3.length < 5864062014805 then (spec_l20Written.l0 k (x3 ++ [(⟨(rd_T25 x4 x5).f0, (rd_T25 x4 x5).f1, (rd_T25 x4 x5).f2⟩ : S25)]) x4 (wrap64 (x5 + 1)) x1000 x1001) else (none)))) else (none)) else (some (x3, x1001))
def spec_l20Written.f (k : Nat) (s0_0 : List Int) (s0_1 : Int) : Option ((List (S25)) × Int) := (spec_l20Wild.f k s0_0 s0_1 0).bind fun bt382 => ((spec_l20Deeds.f k s0_0 bt382.2 bt382.1).bind fun bt386 => (spec_l20Written.l0 k (([] : List (S25))) bt386.1 0 s0_0 bt386.2))
theorem spec_l20Written.mono_l : ∀ k, (∀ y0 y1 y2 y3 y4, LeO (spec_l20Written.l0 k y0 y1 y2 y3 y4) (spec_l20Written.l0 (k + 1) y0 y1 y2 y3 y4))
 | 0 => fun _ _ _ _ _ r h => by simp [spec_l20Written.l0] at h
 | k + 1 => by
  have ih0 := spec_l20Written.mono_l k
  ·intro y0 y1 y2 y3 y4
   unfold spec_l20Written.l0
   repeat' first
   | (with_reducible exact ih0 _ _ _ _ _)
   | (with_reducible exact spec_DeedText.mono _ _ _ _)
   | (with_reducible exact spec_l20Deeds.mono _ _ _ _)
   | (with_reducible exact spec_l20Wild.mono _ _ _ _)
   | (with_reducible exact LeO.refl _)
   | (with_reducible exact LeO.none _)
   | (with_reducible refine LeO.ite ?_ ?_)
   | (with_reducible refine LeO.bind ?_ (fun _ => ?_))
   | refine LeO.ite ?_ ?_
   | refine LeO.bind ?_ (fun _ => ?_)
theorem spec_l20Written.mono : ∀ a0 a1 k, LeO (spec_l20Written.f k a0 a1) (spec_l20Written.f (k + 1) a0 a1) := by
 intro a0 a1 k
 have ih0 := spec_l20Written.mono_l k
 unfold spec_l20Written.f
 repeat' first
   | (with_reducible exact ih0 _ _ _ _ _)
   | (with_reducible exact spec_DeedText.mono _ _ _ _)
   | (with_reducible exact spec_l20Deeds.mono _ _ _ _)
   | (with_reducible exact spec_l20Wild.mono _ _ _ _)
   | (with_reducible exact LeO.refl _)
   | (with_reducible exact LeO.none _)
   | (with_reducible refine LeO.ite ?_ ?_)
   | (with_reducible refine LeO.bind ?_ (fun _ => ?_))
   | refine LeO.ite ?_ ?_
   | refine LeO.bind ?_ (fun _ => ?_)
set_option maxHeartbeats 8000000 in
set_option maxRecDepth 100000 in
theorem spec_l20Written.calls (k : Nat) (g : Nat) (s0_0 : List Int) (s0_1 : Int) (r1 : List (S25)) (r2 : Int) (w0 w : World) (hI : IsS73 w0 w g s0_0 s0_1) (hB : Below w0.heap.size w0 w) (h : spec_l20Written.f k s0_0 s0_1 = some (r1, r2)) :
  Calls Tryd.prog 45 #[.pointer (some ⟨g, 0, none⟩)] w fun e w' => ∃ v0_ : Value, e = .returned (v0_) ∧ Kd.R k25 25 w' w.heap.size (fun _ => True) v0_ r1 ∧ IsS73 w0 w' g s0_0 r2 ∧ Below w0.heap.size w0 w' ∧ KeepBut w w' g none := by
 have hu25 := Tryd.underlying25
 have HI0:=zM hI
 have HK:=zM (KeepBut.refl w g none)
 have HL:=zM hB.size
 clear hI
 have HW0:=zM hB.size
 have HB:=zM hB
 clear hB
 have H : ((spec_l20Wild.f k s0_0 s0_1 0).bind fun bt382 => ((spec_l20Deeds.f k s0_0 bt382.2 bt382.1).bind fun bt386 => (spec_l20Written.l0 k (([] : List (S25))) bt386.1 0 s0_0 bt386.2))) = some (r1, r2) := h
 clear h
 obtain ⟨y379, hy379⟩ : ∃ y_ : List (S25), y_ = (([] : List (S25))) := ⟨_, rfl⟩
 replace H : ((spec_l20Wild.f k s0_0 s0_1 0).bind fun bt382 => ((spec_l20Deeds.f k s0_0 bt382.2 bt382.1).bind fun bt386 => (spec_l20Written.l0 k y379 bt386.1 0 s0_0 bt386.2))) = some (r1, r2) := by first | (rw [hy379]; with_reducible exact H) | (have H2_ := (Option.bind_some _ _).symm.trans H; rw [hy379]; with_reducible exact H2_) | (have H2_ := (Option.bind_some _ _).symm.trans H; with_reducible exact H2_) | with_reducible exact H | (rw [hy379]; exact H) | exact H
 have Ny379:=zM hy379
 clear hy379
 obtain ⟨⟨t382, t385⟩, A2, H⟩ := zb H; try dsimp only at H
 obtain ⟨⟨t386, t389⟩, A3, H⟩ := zb H; try dsimp only at H
 have H':=zM H
 clear H
 go_enter Tryd.func45, Tryd.ntmps45
 go_wp2_with (first | ((with_reducible refine gate_dst (N := 6) rfl ?_); refine Kd.R_lit k25 _ 25 q0 (N := 6) q0 (xs := ([] : List (S25))) (inner := []) (ok := fun _ => True) (okp := fun _ => True) q1 ?hp (fun _ hk => hk) trivial (Below.refl _ _) (Nat.le_refl _) (by simp) ?_; (case hp => exact (Reps.none _ _)); intro v380 w4 ho5 hb hg_ hnew_; clear hg_ hnew_; (first | rw [← Ny379.out] at ho5 | (simp only [Int.reduceToNat] at ho5; rw [← Ny379.out] at ho5)); have HO381:=zM (Kd.R_lower ho5 (keep_size (w := w) (g := g) (row := none) (q8 HK.out))); replace HK:=zM (KeepBut.trans (q8 HK.out) (KeepBut.of_below hb g none) (.inl rfl)); replace HB:=zM (below_step (q9 HB.out HI0.out) hb); replace HI0:=zM (IsS73.below (q7 HI0.out) hb); clear hb ho5) | (refine zg 36 (some 9) Tryd.func36 #[.pointer (some ⟨g, 0, none⟩), .int .i64 0] ?_; (with_reducible refine (spec_l20Wild.calls k g s0_0 s0_1 0 t382 t385 w0 _ ?side1 ?side2 A2.out).mono ?_); (case side1 => exact (q7 HI0.out)); (case side2 => exact (q9 HB.out HI0.out)); rintro e w6 ⟨v383, rfl, ho0, hi, hb, hk⟩; refine ⟨_, rfl, ?_⟩; replace HO381:=zM (Kd.R_mono (Kd.R_keep (IsS73.apart (show IsS73 w0 _ g s0_0 s0_1 from (q7 HI0.out)) (q3 HO381.out) (by decide)) hk (fun _ h => h.2)) (fun _ h => h.1)); have HO384:=zM (Kd.R_lower ho0 (keep_size (w := w) (g := g) (row := none) (q8 HK.out))); replace HK:=zM (KeepBut.trans (q8 HK.out) hk (.inl rfl)); replace HB:=zM (hb); replace HI0:=zM (hi); (try clear hb); (try clear hb2); (try clear hk); (try clear hi); (try clear ho0); obtain ⟨Ao7, co7, eo7⟩ := Kd.R_slice HO384.out; subst eo7) | (refine zg 59 (some 10) Tryd.func59 #[.pointer (some ⟨g, 0, none⟩), .slice Ao7 t382.length co7] ?_; (with_reducible refine (spec_l20Deeds.calls k g s0_0 t385 _ _ t382 t386 t389 w0 _ ?side1 ?side2 ?side3 ?side4 ?side5 A3.out).mono ?_); (case side1 => exact (q7 HI0.out)); (case side2 => exact (q9 HB.out HI0.out)); (case side3 => repeat (first | exact (Kd.R_reads' HO384.out).2.2 | (with_reducible refine Kd.C_alloc ?_ _) | (with_reducible refine Kd.C_drewN ?_ _) | (with_reducible refine Kd.C_drew ?_))); (case side4 => exact (Kd.R_reads' HO384.out).2.1); (case side5 => exact far_slice (IsS73.own_ne HI0.out HO384.out (by decide))); rintro e w8 ⟨v387, rfl, ho0, hi, hb, hk⟩; refine ⟨_, rfl, ?_⟩; replace HO384:=zM (Kd.R_mono (Kd.R_keep (IsS73.apart (show IsS73 w0 _ g s0_0 t385 from (q7 HI0.out)) (q3 HO384.out) (by decide)) hk (fun _ h => h.2)) (fun _ h => h.1)); have HO388:=zM (Kd.R_lower (Kd.R_new' ho0 (Kd.R_lt (q3 HO381.out))) (keep_size (w := w) (g := g) (row := none) (q8 HK.out))); replace HO381:=zM (Kd.R_mono (Kd.R_told (Kd.R_oldK (IsS73.apart (show IsS73 w0 _ g s0_0 t385 from (q7 HI0.out)) (q3 HO381.out) (by decide)) hk) (Kd.R_base ho0)) (fun _ h_ => h_.1)); replace HK:=zM (KeepBut.trans (q8 HK.out) hk (.inl rfl)); replace HB:=zM (hb); replace HI0:=zM (hi); (try clear hb); (try clear hb2); (try clear hk); (try clear hi); (try clear ho0)))
 go_loopg [3, 5] k (fun kq v3 v5 w' => ∃ (x3_1 : List (S25)) (x5_1 : Int), v5 = .int .i64 x5_1 ∧ Aside0 (spec_l20Written.l0 kq x3_1 t386 x5_1 s0_0 t389 = some (r1, r2)) ∧ Aside0 (kq ≤ k) ∧ Aside0 (Kd.R k25 25 w' w.heap.size (fun k_ => some k_ ≠ (v387 : Value).ownBlock) v3 x3_1) ∧ Aside0 (Kd.R k25 25 w' w.heap.size (fun k_ => some k_ ≠ (v3 : Value).ownBlock) v387 t386) ∧ Aside0 (IsS73 w0 w' g s0_0 t389) ∧ Aside0 (KeepBut w w' g none) ∧ Aside0 (Below w0.heap.size w0 w'))
 case atStart => exact ⟨(y379), (0), (by first | rfl | (simp; done) | (simp [*]; done)), H', ⟨Nat.le_refl _⟩, ⟨by (with_reducible repeat (first | apply Kd.R_alloc | apply Kd.R_drewN | apply Kd.R_drew)); exact Kd.R_mono HO381.out (fun _ hk => hk.2)⟩, ⟨by (with_reducible repeat (first | apply Kd.R_alloc | apply Kd.R_drewN | apply Kd.R_drew)); exact Kd.R_mono HO388.out (fun _ hk => hk.2)⟩, ⟨(q7 HI0.out)⟩, ⟨(q8 HK.out)⟩, ⟨(q9 HB.out HI0.out)⟩⟩
 case round =>
  clear H'
  try clear p2
  try clear c3
  try clear c4
  try clear c5
  obtain ⟨x3_1, x5_1, rfl, HA, HK1, HO_3, HO_4, HI0, HK, HB⟩ := hrel
  cases gk with
  | zero => exact absurd HA.out (by simp [spec_l20Written.l0])
  | succ k1 =>
   have H := HA.out
   clear HA
   simp only [spec_l20Written.l0] at H
   by_cases c9 : x5_1 < (t386.length : Int)
   ·rw [if_pos c9] at H
    have c9b0 : decide (x5_1 < (t386.length : Int)) = true := decide_eq_true c9
    clear c9
    by_cases c10 : 0 ≤ x5_1
    ·rw [if_pos c10] at H
     have c10b0 : decide (0 ≤ x5_1) = true := decide_eq_true c10
     clear c10
     obtain ⟨t391, A11, H⟩ := zb H; try dsimp only at H
     by_cases c12 : t391.toList = ([] : List UInt8)
     ·rw [if_pos c12] at H
      have c12b0 : (t391.toList == ([] : List UInt8)) = true := beq_iff_eq.mpr c12
      have c12b1 : (t391.toList != ([] : List UInt8)) = false := bne_eq_false_iff_eq.mpr c12
      clear c12
      have H':=zM H
      clear H
      obtain ⟨Ao13, co13, eo13⟩ := Kd.R_slice HO_4.out
      subst eo13
      have p390 : 0 ≤ (x5_1 : Int) := of_decide_eq_true (by first | (with_reducible assumption) | assumption)
      have q390 : x5_1 < (t386.length : Int) := of_decide_eq_true (by first | (with_reducible assumption) | assumption)
      obtain ⟨ad390, e390, hx390_0, hx390_1, hx390_2⟩ := at_T25 (Kd.R_reads' HO_4.out).2.2 x5_1 p390 q390
      cases e390
      replace p390 := eq_true p390
      replace q390 := eq_true q390
      go_wp2_with (first | (refine zg 10 (some 21) Tryd.func10 #[.agg #[.int .i64 ((rd_T25 t386 x5_1).f0), .int .i64 ((rd_T25 t386 x5_1).f1), .int .i64 ((rd_T25 t386 x5_1).f2)]] ?_; (with_reducible refine (spec_DeedText.calls k1 ((rd_T25 t386 x5_1).f0) ((rd_T25 t386 x5_1).f1) ((rd_T25 t386 x5_1).f2) t391 _ A11.out).mono ?_); rintro e w14 ⟨rfl, hb⟩; refine ⟨_, rfl, ?_⟩; replace HO_3:=zM (Kd.R_below (q3 HO_3.out) hb); replace HO_4:=zM (Kd.R_below (q3 HO_4.out) hb); replace HK:=zM (KeepBut.trans (q8 HK.out) (KeepBut.of_below hb g none) (.inl rfl)); replace HB:=zM (below_step (q9 HB.out HI0.out) hb); replace HI0:=zM (IsS73.below (q7 HI0.out) hb); (try clear hb); (try clear hb2); (try clear hk); (try clear hi)))
      go_roundg k1
      case measure => have := HK1.out; omega
      case rel => exact ⟨(x3_1), (wrap64 (x5_1 + 1)), (by first | rfl | (simp; done) | (simp [*]; done)), H', ⟨by have := HK1.out; omega⟩, ⟨by (with_reducible repeat (first | apply Kd.R_alloc | apply Kd.R_drewN | apply Kd.R_drew)); exact HO_3.out⟩, ⟨by (with_reducible repeat (first | apply Kd.R_alloc | apply Kd.R_drewN | apply Kd.R_drew)); exact HO_4.out⟩, ⟨(q7 HI0.out)⟩, ⟨(q8 HK.out)⟩, ⟨(q9 HB.out HI0.out)⟩⟩
     ·rw [if_neg c12] at H
      have c12b0 : (t391.toList == ([] : List UInt8)) = false := beq_eq_false_iff_ne.mpr c12
      have c12b1 : (t391.toList != ([] : List UInt8)) = true := bne_iff_ne.mpr c12
      by_cases c15 : x3_1.length < 5864062014805
      ·rw [if_pos c15] at H
       have LMc15:=zM c15
       clear c15
       obtain ⟨y393, hy393⟩ : ∃ y_ : List (S25), y_ = (x3_1 ++ [(⟨(rd_T25 t386 x5_1).f0, (rd_T25 t386 x5_1).f1, (rd_T25 t386 x5_1).f2⟩ : S25)]) := ⟨_, rfl⟩
       replace H : (spec_l20Written.l0 k1 y393 t386 (wrap64 (x5_1 + 1)) s0_0 t389) = some (r1, r2) := by first | (rw [hy393]; with_reducible exact H) | (have H2_ := (Option.bind_some _ _).symm.trans H; rw [hy393]; with_reducible exact H2_) | (have H2_ := (Option.bind_some _ _).symm.trans H; with_reducible exact H2_) | with_reducible exact H | (rw [hy393]; exact H) | exact H
       have Ny393:=zM hy393
       clear hy393
       have H':=zM H
       clear H
       obtain ⟨Ao16, co16, eo16⟩ := Kd.R_slice HO_4.out
       subst eo16
       have p390 : 0 ≤ (x5_1 : Int) := of_decide_eq_true (by first | (with_reducible assumption) | assumption)
       have q390 : x5_1 < (t386.length : Int) := of_decide_eq_true (by first | (with_reducible assumption) | assumption)
       obtain ⟨ad390, e390, hx390_0, hx390_1, hx390_2⟩ := at_T25 (Kd.R_reads' HO_4.out).2.2 x5_1 p390 q390
       cases e390
       replace p390 := eq_true p390
       replace q390 := eq_true q390
       go_wp2_with (first | (refine zg 10 (some 21) Tryd.func10 #[.agg #[.int .i64 ((rd_T25 t386 x5_1).f0), .int .i64 ((rd_T25 t386 x5_1).f1), .int .i64 ((rd_T25 t386 x5_1).f2)]] ?_; (with_reducible refine (spec_DeedText.calls k1 ((rd_T25 t386 x5_1).f0) ((rd_T25 t386 x5_1).f1) ((rd_T25 t386 x5_1).f2) t391 _ A11.out).mono ?_); rintro e w17 ⟨rfl, hb⟩; refine ⟨_, rfl, ?_⟩; replace HO_3:=zM (Kd.R_below (q3 HO_3.out) hb); replace HO_4:=zM (Kd.R_below (q3 HO_4.out) hb); replace HK:=zM (KeepBut.trans (q8 HK.out) (KeepBut.of_below hb g none) (.inl rfl)); replace HB:=zM (below_step (q9 HB.out HI0.out) hb); replace HI0:=zM (IsS73.below (q7 HI0.out) hb); (try clear hb); (try clear hb2); (try clear hk); (try clear hi); have p392 : 0 ≤ (x5_1 : Int) := of_decide_eq_true (by first | (with_reducible assumption) | assumption); have q392 : x5_1 < (t386.length : Int) := of_decide_eq_true (by first | (with_reducible assumption) | assumption); obtain ⟨ad392, e392, hx392_0, hx392_1, hx392_2⟩ := at_T25 (Kd.R_reads' HO_4.out).2.2 x5_1 p392 q392; obtain rfl : ad390 = ad392 := (by injection e392); replace p392 := eq_true p392; replace q392 := eq_true q392) | ((with_reducible refine gate_builtin (b := .append) (xs := #[.tmp 23, .tmp 28]) rfl ?_); at_builtin; refine Kd.R_append k25 w.heap.size rfl (.tmp 23) (.tmp 28) 40 25 (.agg #[(.int .i64 0), (.int .i64 0), (.int .i64 0)]) 24 rfl Tryd.underlying40 info25 rfl (by decide) (by omega) u3 x3_1 (⟨(rd_T25 t386 x5_1).f0, (rd_T25 t386 x5_1).f1, (rd_T25 t386 x5_1).f2⟩ : S25) [.int .i64 ((rd_T25 t386 x5_1).f0), .int .i64 ((rd_T25 t386 x5_1).f1), .int .i64 ((rd_T25 t386 x5_1).f2)] (fun k_ => some k_ ≠ (.slice (some ad390) t386.length co16 : Value).ownBlock) (fun _ => False) rfl rfl ?aP (fun _ hk => hk.elim) ?aF ?aO (Below.refl _ _) ?aS ?aL ?_; (case aP => exact k25_mkM _ _ _ (⟨(rd_T25 t386 x5_1).f0, (rd_T25 t386 x5_1).f1, (rd_T25 t386 x5_1).f2⟩ : S25)); (case aF => exact (fun k_ hk => Kd.fresh' (Kd.R_lt (q3 HO_4.out)) k_ hk)); (case aO => exact (q3 HO_3.out)); (case aS => exact (keep_size (w := w) (g := g) (row := none) (q8 HK.out))); (case aL => have := LMc15.out; omega); intro v394 w18 ho hb hg hat; rw [← Ny393.out] at ho; replace HO_4:=zM (Kd.R_after (ok := (fun _ => True)) (by (with_reducible repeat (first | apply Kd.R_alloc | apply Kd.R_drewN | apply Kd.R_drew)); exact Kd.R_mono HO_4.out (fun _ hk => ⟨trivial, hk⟩)) hg hat); replace HB:=zM (below_weaken (q9 HB.out HI0.out) HL.out hb); replace HI0:=zM (IsS73.grown (q7 HI0.out) hg (IsS73.own_ne HI0.out HO_3.out (by decide))); replace HK:=zM (KeepBut.trans (q8 HK.out) (KeepBut.of_grown hg g) (Kd.R_base2 HO_3.out)); have HO395:=zM (ho); clear HO_3; clear ho hb hg hat))
       go_roundg k1
       case measure => have := HK1.out; omega
       case rel => exact ⟨(y393), (wrap64 (x5_1 + 1)), (by first | rfl | (simp; done) | (simp [*]; done)), H', ⟨by have := HK1.out; omega⟩, ⟨by (with_reducible repeat (first | apply Kd.R_alloc | apply Kd.R_drewN | apply Kd.R_drew)); exact HO395.out⟩, ⟨by (with_reducible repeat (first | apply Kd.R_alloc | apply Kd.R_drewN | apply Kd.R_drew)); exact Kd.R_mono HO_4.out (fun _ hk => hk.2)⟩, ⟨(q7 HI0.out)⟩, ⟨(q8 HK.out)⟩, ⟨(q9 HB.out HI0.out)⟩⟩
      ·rw [if_neg c15] at H
       exact absurd H (by simp)
    ·rw [if_neg c10] at H
     exact absurd H (by simp)
   ·rw [if_neg c9] at H
    have c9b0 : decide (x5_1 < (t386.length : Int)) = false := decide_eq_false c9
    clear c9
    simp only [Option.some.injEq, Prod.mk.injEq] at H
    obtain ⟨rfl, rfl⟩ := H
    obtain ⟨Ao19, co19, eo19⟩ := Kd.R_slice HO_4.out
    subst eo19
    go_wp2
    go_ret
    exact ⟨_, by first | rfl | (simp [errW_none, errW_some] <;> rfl) | (simp [*, errW_none, errW_some] <;> rfl), by (with_reducible repeat (first | apply Kd.R_alloc | apply Kd.R_drewN | apply Kd.R_drew)); exact Kd.R_mono HO_3.out (fun _ hk => trivial), (q7 HI0.out), (q9 HB.out HI0.out), (q8 HK.out)⟩

/-! ### spec_DrawJournalText: function 24 -/
def spec_DrawJournalText.f (k : Nat) (l0 : List Int) : Option ((List (S25))) := (spec_l20Open.f l0).bind fun bt396 => ((spec_l20Written.f k bt396.1 bt396.2).bind fun bt399 => ((spec_l20Rd_odd.f k bt396.1 bt399.2 12).bind fun bt403 => (if bt403.1 = true then (if bt399.1.length < 5864062014805 then (some (bt399.1 ++ [(⟨9, 0, 0⟩ : S25)])) else (none)) else (some bt399.1))))
theorem spec_DrawJournalText.mono : ∀ a0 k, LeO (spec_DrawJournalText.f k a0) (spec_DrawJournalText.f (k + 1) a0) := by
 intro a0 k
 unfold spec_DrawJournalText.f
 repeat' first
   | (with_reducible exact spec_l20Rd_odd.mono _ _ _ _)
   | (with_reducible exact spec_l20Written.mono _ _ _)
   | (with_reducible exact LeO.refl _)
   | (with_reducible exact LeO.none _)
   | (with_reducible refine LeO.ite ?_ ?_)
   | (with_reducible refine LeO.bind ?_ (fun _ => ?_))
   | refine LeO.ite ?_ ?_
   | refine LeO.bind ?_ (fun _ => ?_)
set_option maxHeartbeats 8000000 in
set_option maxRecDepth 100000 in
theorem spec_DrawJournalText.calls (k : Nat) (A0 : Option Addr) (c0 : Nat) (l0 : List Int) (r : List (S25)) (w : World) (hr0 : Kd.C (Kd.int .u8) w A0 l0.length l0) (hc0 : l0.length ≤ c0) (h : spec_DrawJournalText.f k l0 = some r) :
  Calls Tryd.prog 24 #[.slice A0 l0.length c0] w fun e w' => ∃ v0_ : Value, e = .returned (v0_) ∧ Kd.R k25 25 w' w.heap.size (fun _ => True) v0_ r ∧ Below w.heap.size w w' := by
 have hu25 := Tryd.underlying25
 have HR0:=zM hr0
 have HC0:=zM hc0
 clear hr0 hc0
 have HB:=zM (Below.refl w.heap.size w)
 have H : ((spec_l20Open.f l0).bind fun bt396 => ((spec_l20Written.f k bt396.1 bt396.2).bind fun bt399 => ((spec_l20Rd_odd.f k bt396.1 bt399.2 12).bind fun bt403 => (if bt403.1 = true then (if bt399.1.length < 5864062014805 then (some (bt399.1 ++ [(⟨9, 0, 0⟩ : S25)])) else (none)) else (some bt399.1))))) = some r := h
 clear h
 obtain ⟨⟨t396, t397⟩, A2, H⟩ := zb H; try dsimp only at H
 obtain ⟨⟨t399, t402⟩, A3, H⟩ := zb H; try dsimp only at H
 obtain ⟨⟨t403, t404⟩, A4, H⟩ := zb H; try dsimp only at H
 by_cases c5 : t403 = true
 ·subst c5
  have H1 : (if t399.length < 5864062014805 then (some (t399 ++ [(⟨9, 0, 0⟩ : S25)])) else (none)) = some r := by rw [if_pos rfl] at H; exact H
  clear H
  have H := H1
  clear H1
  by_cases c6 : t399.length < 5864062014805
  ·rw [if_pos c6] at H
   have LMc6:=zM c6
   clear c6
   obtain ⟨y405, hy405⟩ : ∃ y_ : List (S25), y_ = (t399 ++ [(⟨9, 0, 0⟩ : S25)]) := ⟨_, rfl⟩
   replace H : (some y405) = some r := by first | (rw [hy405]; with_reducible exact H) | (have H2_ := (Option.bind_some _ _).symm.trans H; rw [hy405]; with_reducible exact H2_) | (have H2_ := (Option.bind_some _ _).symm.trans H; with_reducible exact H2_) | with_reducible exact H | (rw [hy405]; exact H) | exact H
   have Ny405:=zM hy405
   clear hy405
   obtain rfl := Option.some.inj H
   go_enter Tryd.func24, Tryd.ntmps24
   go_wp2_with (first | (refine zg 34 (some 6) Tryd.func34 #[.slice A0 l0.length c0] ?_; (with_reducible refine (spec_l20Open.calls _ _ l0 t396 t397 w _ ?side1 ?side2 ?side3 A2.out).mono ?_); (case side1 => exact (q2 HB.out)); (case side2 => exact HR0.out); (case side3 => exact HC0.out); rintro e w7 ⟨g398, rfl, hi, hb, hb2⟩; refine ⟨_, rfl, ?_⟩; replace HB:=zM (hb); have HI398:=zM (hi); (try clear hb); (try clear hb2); (try clear hk); (try clear hi)) | (refine zg 45 (some 8) Tryd.func45 #[.pointer (some ⟨g398, 0, none⟩)] ?_; (with_reducible refine (spec_l20Written.calls k g398 t396 t397 t399 t402 w _ ?side1 ?side2 A3.out).mono ?_); (case side1 => exact (q7 HI398.out)); (case side2 => exact (q9 HB.out HI398.out)); rintro e w8 ⟨v400, rfl, ho0, hi, hb, hk⟩; refine ⟨_, rfl, ?_⟩; have HO401:=zM (Kd.R_lower ho0 (below_size (q9 HB.out HI398.out))); replace HB:=zM (hb); replace HI398:=zM (hi); (try clear hb); (try clear hb2); (try clear hk); (try clear hi); (try clear ho0)) | (refine zg 46 (some 10) Tryd.func46 #[.pointer (some ⟨g398, 0, none⟩), .int .i64 12] ?_; (with_reducible refine (spec_l20Rd_odd.calls k g398 t396 t402 12 true t404 w _ ?side1 ?side2 A4.out).mono ?_); (case side1 => exact (q7 HI398.out)); (case side2 => exact (q9 HB.out HI398.out)); rintro e w9 ⟨rfl, hi, hb, hk⟩; refine ⟨_, rfl, ?_⟩; replace HO401:=zM (Kd.R_mono (Kd.R_keep (IsS73.apart (show IsS73 w _ g398 t396 t402 from (q7 HI398.out)) (q3 HO401.out) (by decide)) hk (fun _ h => h.2)) (fun _ h => h.1)); replace HB:=zM (hb); replace HI398:=zM (hi); (try clear hb); (try clear hb2); (try clear hk); (try clear hi)) | ((with_reducible refine gate_builtin (b := .append) (xs := #[.tmp 11, .tmp 13]) rfl ?_); at_builtin; refine Kd.R_append k25 (w0 := w) w.heap.size rfl (.tmp 11) (.tmp 13) 40 25 (.agg #[(.int .i64 0), (.int .i64 0), (.int .i64 0)]) 24 rfl Tryd.underlying40 info25 rfl (by decide) (by omega) v400 t399 (⟨9, 0, 0⟩ : S25) [.int .i64 9, .int .i64 0, .int .i64 0] (fun _ => True) (fun _ => False) rfl rfl ?aP (fun _ hk => hk.elim) ?aF ?aO ?aB ?aS ?aL ?_; (case aP => exact k25_mkM _ _ _ (⟨9, 0, 0⟩ : S25)); (case aB => exact (q9 HB.out HI398.out)); (case aF => exact (fun _ _ => trivial)); (case aO => exact (q3 HO401.out)); (case aS => exact (below_size (q9 HB.out HI398.out))); (case aL => have := LMc6.out; omega); intro v406 w10 ho hb hg hat; rw [← Ny405.out] at ho; replace HI398:=zM (IsS73.grown (q7 HI398.out) hg (IsS73.own_ne HI398.out HO401.out (by decide))); replace HB:=zM (hb); have HO407:=zM (ho); clear HO401; clear ho hb hg hat))
   go_ret
   exact ⟨_, by first | rfl | (simp [errW_none, errW_some] <;> rfl) | (simp [*, errW_none, errW_some] <;> rfl), by (with_reducible repeat (first | apply Kd.R_alloc | apply Kd.R_drewN | apply Kd.R_drew)); exact HO407.out, (q9 HB.out HI398.out)⟩
  ·rw [if_neg c6] at H
   exact absurd H (by simp)
 ·replace c5 := Bool.eq_false_iff.mpr c5
  subst c5
  have H1 : (some t399) = some r := by rw [if_neg (show ¬ (false = true) by decide)] at H; exact H
  clear H
  have H := H1
  clear H1
  obtain rfl := Option.some.inj H
  go_enter Tryd.func24, Tryd.ntmps24
  go_wp2_with (first | (refine zg 34 (some 6) Tryd.func34 #[.slice A0 l0.length c0] ?_; (with_reducible refine (spec_l20Open.calls _ _ l0 t396 t397 w _ ?side1 ?side2 ?side3 A2.out).mono ?_); (case side1 => exact (q2 HB.out)); (case side2 => exact HR0.out); (case side3 => exact HC0.out); rintro e w11 ⟨g398, rfl, hi, hb, hb2⟩; refine ⟨_, rfl, ?_⟩; replace HB:=zM (hb); have HI398:=zM (hi); (try clear hb); (try clear hb2); (try clear hk); (try clear hi)) | (refine zg 45 (some 8) Tryd.func45 #[.pointer (some ⟨g398, 0, none⟩)] ?_; (with_reducible refine (spec_l20Written.calls k g398 t396 t397 t399 t402 w _ ?side1 ?side2 A3.out).mono ?_); (case side1 => exact (q7 HI398.out)); (case side2 => exact (q9 HB.out HI398.out)); rintro e w12 ⟨v400, rfl, ho0, hi, hb, hk⟩; refine ⟨_, rfl, ?_⟩; have HO401:=zM (Kd.R_lower ho0 (below_size (q9 HB.out HI398.out))); replace HB:=zM (hb); replace HI398:=zM (hi); (try clear hb); (try clear hb2); (try clear hk); (try clear hi); (try clear ho0)) | (refine zg 46 (some 10) Tryd.func46 #[.pointer (some ⟨g398, 0, none⟩), .int .i64 12] ?_; (with_reducible refine (spec_l20Rd_odd.calls k g398 t396 t402 12 false t404 w _ ?side1 ?side2 A4.out).mono ?_); (case side1 => exact (q7 HI398.out)); (case side2 => exact (q9 HB.out HI398.out)); rintro e w13 ⟨rfl, hi, hb, hk⟩; refine ⟨_, rfl, ?_⟩; replace HO401:=zM (Kd.R_mono (Kd.R_keep (IsS73.apart (show IsS73 w _ g398 t396 t402 from (q7 HI398.out)) (q3 HO401.out) (by decide)) hk (fun _ h => h.2)) (fun _ h => h.1)); replace HB:=zM (hb); replace HI398:=zM (hi); (try clear hb); (try clear hb2); (try clear hk); (try clear hi)))
  go_ret
  exact ⟨_, by first | rfl | (simp [errW_none, errW_some] <;> rfl) | (simp [*, errW_none, errW_some] <;> rfl), by (with_reducible repeat (first | apply Kd.R_alloc | apply Kd.R_drewN | apply Kd.R_drew)); exact HO401.out, (q9 HB.out HI398.out)⟩

/-! ### strings_Split: function 38, told by hand -/
def strings_Split.ren : Go.Shelf.Ren := { f := fun x => if x = 138 then 65 else if x = 143 then 66 else if x = 146 then 38 else if x = 195 then 77 else if x = 197 then 78 else if x = 217 then 83 else if x = 218 then 79 else if x = 219 then 72 else if x = 221 then 56 else if x = 224 then 85 else if x = 225 then 84 else if x = 260 then 92 else if x = 266 then 95 else if x = 267 then 86 else if x = 268 then 64 else if x = 314 then 96 else 0, t := fun x => if x = 0 then 0 else if x = 3 then 3 else if x = 4 then 4 else if x = 5 then 5 else if x = 9 then 9 else if x = 21 then 21 else if x = 31 then 50 else if x = 46 then 102 else if x = 51 then 109 else if x = 105 then 97 else if x = 119 then 120 else if x = 138 then 122 else if x = 139 then 123 else if x = 146 then 117 else 0, g := fun x => if x = 1 then 3 else if x = 3 then 5 else if x = 4 then 6 else 0 }
theorem strings_Split.lays : Lays.n146 Tryd.prog strings_Split.ren := {
 mixed := by kernel_rfl
 f138 := by kernel_rfl
 f143 := by kernel_rfl
 f146 := by kernel_rfl
 f195 := by kernel_rfl
 f197 := by kernel_rfl
 f217 := by kernel_rfl
 f218 := by kernel_rfl
 f219 := by kernel_rfl
 f221 := by kernel_rfl
 f224 := by kernel_rfl
 f225 := by kernel_rfl
 f260 := by kernel_rfl
 f266 := by kernel_rfl
 f267 := by kernel_rfl
 f268 := by kernel_rfl
 f314 := by kernel_rfl
 t0 := by kernel_rfl
 a0 := fun _ => by kernel_rfl
 z0 := fun _ => by kernel_rfl
 v0 := fun _ => by kernel_rfl
 t3 := by kernel_rfl
 a3 := fun _ => by kernel_rfl
 z3 := fun _ => by kernel_rfl
 v3 := fun _ => by kernel_rfl
 t4 := by kernel_rfl
 a4 := fun _ => by kernel_rfl
 z4 := fun _ => by kernel_rfl
 v4 := fun _ => by kernel_rfl
 t5 := by kernel_rfl
 a5 := fun _ => by kernel_rfl
 z5 := fun _ => by kernel_rfl
 v5 := fun _ => by kernel_rfl
 t9 := by kernel_rfl
 a9 := fun _ => by kernel_rfl
 z9 := fun _ => by kernel_rfl
 v9 := fun _ => by kernel_rfl
 t21 := by kernel_rfl
 a21 := fun _ => by kernel_rfl
 z21 := fun _ => by kernel_rfl
 v21 := fun _ => by kernel_rfl
 t31 := by kernel_rfl
 a31 := fun _ => by kernel_rfl
 z31 := fun _ => by kernel_rfl
 v31 := fun _ => by kernel_rfl
 t46 := by kernel_rfl
 a46 := fun _ => by kernel_rfl
 z46 := fun _ => by kernel_rfl
 v46 := fun _ => by kernel_rfl
 t51 := by kernel_rfl
 a51 := fun _ => by kernel_rfl
 z51 := fun _ => by kernel_rfl
 v51 := fun _ => by kernel_rfl
 t105 := by kernel_rfl
 a105 := fun _ => by kernel_rfl
 z105 := fun _ => by kernel_rfl
 v105 := fun _ => by kernel_rfl
 t119 := by kernel_rfl
 a119 := fun _ => by kernel_rfl
 z119 := fun _ => by kernel_rfl
 t138 := by kernel_rfl
 a138 := fun _ => by kernel_rfl
 z138 := fun _ => by kernel_rfl
 v138 := fun _ => by kernel_rfl
 t139 := by kernel_rfl
 a139 := fun _ => by kernel_rfl
 z139 := fun _ => by kernel_rfl
 v139 := fun _ => by kernel_rfl
 t146 := by kernel_rfl
 a146 := fun _ => by kernel_rfl
 z146 := fun _ => by kernel_rfl
 v146 := fun _ => by kernel_rfl
 g1 := by kernel_rfl
 g3 := by kernel_rfl
 g4 := by kernel_rfl }
def strings_Split.f (a0 : ByteArray) (a1 : ByteArray) : Option (List ByteArray) := if a0.size < 4294967281 ∧ 1 ≤ a1.size then some (Lib.splitB a1 0 (Lib.countB a0 a1) a0) else none
theorem strings_Split.calls (a0 : ByteArray) (a1 : ByteArray) (r : List ByteArray) (w : World) (hT : TabR w) (h : strings_Split.f a0 a1 = some r) :
  Calls Tryd.prog 38 #[.string a0, .string a1] w fun e w' => ∃ v0_ : Value, e = .returned (v0_) ∧ Kd.R Kd.string 9 w' w.heap.size (fun _ => True) v0_ r ∧ Below w.heap.size w w' := by
 unfold strings_Split.f at h
 by_cases hc : a0.size < 4294967281 ∧ 1 ≤ a1.size
 ·rw [if_pos hc] at h
  obtain rfl := Option.some.inj h
  obtain ⟨m, hm⟩ := hT.2.1
  have hlen := Lib.splitB_all a1 hc.2 0 _ a0 rfl
  have hle := Lib.countB_le a1 hc.2 a0.size a0 (Nat.le_refl _)
  refine (Any.strings_Split (ρ := strings_Split.ren) strings_Split.lays (by kernel_rfl) a0 a1 m w hc.1 hm hc.2).mono ?_
  rintro e w' ⟨rfl, rfl⟩
  refine ⟨_, rfl, Kd.R_of_own ?_ (fun _ _ => trivial), zB (Below.refl _ _) _⟩
  have h2 := World.rowOf_lit (base := w.heap.size) (e := 9) (size := 1) w ((Lib.splitB a1 0 (Lib.countB a0 a1) a0).map Value.string).toArray (Lib.countB a0 a1 + 1) (Nat.le_refl _) (by unfold maxLen; omega) (by simp [hlen])
  rw [hlen]
  simp only [List.toList_toArray] at h2
  exact h2
 ·rw [if_neg hc] at h; cases h

/-! ### slices_Index_string_string: function 39 -/
def slices_Index_string_string.l0 : Nat → List ByteArray → ByteArray → Int → Int → Option (Int)
 | 0, _, _, _, _ => none
 | k + 1, x0, x1, x7, x8 => if x8 < x7 then (if 0 ≤ x8 then (if x8 < (x0.length : Int) then (if x1.toList = (rdOf ByteArray.empty x0 x8).toList then (some x8) else (slices_Index_string_string.l0 k x0 x1 x7 (wrap64 (x8 + 1)))) else (none)) else (none)) else (some (-1))
def slices_Index_string_string.f (k : Nat) (l0 : List ByteArray) (a1 : ByteArray) : Option (Int) := slices_Index_string_string.l0 k l0 a1 (l0.length : Int) 0
theorem slices_Index_string_string.mono_l : ∀ k, (∀ y0 y1 y2 y3, LeO (slices_Index_string_string.l0 k y0 y1 y2 y3) (slices_Index_string_string.l0 (k + 1) y0 y1 y2 y3))
 | 0 => fun _ _ _ _ r h => by simp [slices_Index_string_string.l0] at h
 | k + 1 => by
  have ih0 := slices_Index_string_string.mono_l k
  ·intro y0 y1 y2 y3
   unfold slices_Index_string_string.l0
   repeat' first
   | (with_reducible exact ih0 _ _ _ _)
   | (with_reducible exact LeO.refl _)
   | (with_reducible exact LeO.none _)
   | (with_reducible refine LeO.ite ?_ ?_)
   | (with_reducible refine LeO.bind ?_ (fun _ => ?_))
   | refine LeO.ite ?_ ?_
   | refine LeO.bind ?_ (fun _ => ?_)
theorem slices_Index_string_string.mono : ∀ a0 a1 k, LeO (slices_Index_string_string.f k a0 a1) (slices_Index_string_string.f (k + 1) a0 a1) := by
 intro a0 a1 k
 have ih0 := slices_Index_string_string.mono_l k
 unfold slices_Index_string_string.f
 repeat' first
   | (with_reducible exact ih0 _ _ _ _)
   | (with_reducible exact LeO.refl _)
   | (with_reducible exact LeO.none _)
   | (with_reducible refine LeO.ite ?_ ?_)
   | (with_reducible refine LeO.bind ?_ (fun _ => ?_))
   | refine LeO.ite ?_ ?_
   | refine LeO.bind ?_ (fun _ => ?_)
set_option maxHeartbeats 8000000 in
set_option maxRecDepth 100000 in
theorem slices_Index_string_string.calls (k : Nat) (A0 : Option Addr) (c0 : Nat) (l0 : List ByteArray) (a1 : ByteArray) (r : Int) (w : World) (hr0 : Kd.C Kd.string w A0 l0.length l0) (hc0 : l0.length ≤ c0) (h : slices_Index_string_string.f k l0 a1 = some r) :
  Calls Tryd.prog 39 #[.slice A0 l0.length c0, .string a1] w fun e w' => e = .returned (.int .i64 r) ∧ Drawn0 w w' := by
 have HR0:=zM hr0
 have HC0:=zM hc0
 clear hr0 hc0
 have H : (slices_Index_string_string.l0 k l0 a1 (l0.length : Int) 0) = some r := h
 clear h
 have H':=zM H
 clear H
 go_enter Tryd.func39, Tryd.ntmps39
 go_wp2
 go_loopg [8] k (fun kq v8 w' => ∃ (x8_1 : Int), v8 = .int .i64 x8_1 ∧ Aside0 (slices_Index_string_string.l0 kq l0 a1 (l0.length : Int) x8_1 = some r) ∧ Aside0 (kq ≤ k) ∧ Drawn0 w w')
 case atStart => exact ⟨(0), (by first | rfl | (simp; done) | (simp [*]; done)), H', ⟨Nat.le_refl _⟩, by repeat (first | exact Drawn0.refl _ | apply Drawn0.step)⟩
 case round =>
  clear H'
  try clear p2
  obtain ⟨x8_1, rfl, HA, HK1, ⟨m1, rfl⟩⟩ := hrel
  cases gk with
  | zero => exact absurd HA.out (by simp [slices_Index_string_string.l0])
  | succ k1 =>
   have H := HA.out
   clear HA
   simp only [slices_Index_string_string.l0] at H
   by_cases c3 : x8_1 < (l0.length : Int)
   ·rw [if_pos c3] at H
    have c3b0 : decide (x8_1 < (l0.length : Int)) = true := decide_eq_true c3
    clear c3
    by_cases c4 : 0 ≤ x8_1
    ·rw [if_pos c4] at H
     have c4b0 : decide (0 ≤ x8_1) = true := decide_eq_true c4
     clear c4
     by_cases c5 : x8_1 < (l0.length : Int)
     ·rw [if_pos c5] at H
      have c5b0 : decide (x8_1 < (l0.length : Int)) = true := decide_eq_true c5
      clear c5
      by_cases c6 : a1.toList = (rdOf ByteArray.empty l0 x8_1).toList
      ·rw [if_pos c6] at H
       have c6b0 : (a1.toList == (rdOf ByteArray.empty l0 x8_1).toList) = true := beq_iff_eq.mpr c6
       have c6b1 : (a1.toList != (rdOf ByteArray.empty l0 x8_1).toList) = false := bne_eq_false_iff_eq.mpr c6
       clear c6
       obtain rfl := Option.some.inj H
       have p408 : 0 ≤ (x8_1 : Int) := of_decide_eq_true (by first | (with_reducible assumption) | assumption)
       have q408 : x8_1 < (l0.length : Int) := of_decide_eq_true (by first | (with_reducible assumption) | assumption)
       obtain ⟨ad408, e408, hx408_0⟩ := Kd.at_string HR0.out x8_1 p408 q408
       cases e408
       replace p408 := eq_true p408
       replace q408 := eq_true q408
       go_wp2
       go_ret
       exact ⟨by first | rfl | (simp; done) | (simp [*]; done), by repeat (first | exact Drawn0.refl _ | apply Drawn0.step)⟩
      ·rw [if_neg c6] at H
       have c6b0 : (a1.toList == (rdOf ByteArray.empty l0 x8_1).toList) = false := beq_eq_false_iff_ne.mpr c6
       have c6b1 : (a1.toList != (rdOf ByteArray.empty l0 x8_1).toList) = true := bne_iff_ne.mpr c6
       have H':=zM H
       clear H
       have p408 : 0 ≤ (x8_1 : Int) := of_decide_eq_true (by first | (with_reducible assumption) | assumption)
       have q408 : x8_1 < (l0.length : Int) := of_decide_eq_true (by first | (with_reducible assumption) | assumption)
       obtain ⟨ad408, e408, hx408_0⟩ := Kd.at_string HR0.out x8_1 p408 q408
       cases e408
       replace p408 := eq_true p408
       replace q408 := eq_true q408
       go_wp2
       go_roundg k1
       case measure => have := HK1.out; omega
       case rel => exact ⟨(wrap64 (x8_1 + 1)), (by first | rfl | (simp; done) | (simp [*]; done)), H', ⟨by have := HK1.out; omega⟩, by repeat (first | exact Drawn0.refl _ | apply Drawn0.step)⟩
     ·rw [if_neg c5] at H
      exact absurd H (by simp)
    ·rw [if_neg c4] at H
     exact absurd H (by simp)
   ·rw [if_neg c3] at H
    have c3b0 : decide (x8_1 < (l0.length : Int)) = false := decide_eq_false c3
    clear c3
    obtain rfl := Option.some.inj H
    go_wp2
    go_ret
    exact ⟨by first | rfl | (simp; done) | (simp [*]; done), by repeat (first | exact Drawn0.refl _ | apply Drawn0.step)⟩

/-! ### strconv_Atoi: function 40, told by hand -/
def strconv_Atoi.ren : Go.Shelf.Ren := { f := fun x => if x = 129 then 88 else if x = 171 then 33 else if x = 172 then 40 else if x = 205 then 82 else if x = 243 then 49 else if x = 244 then 57 else if x = 245 then 58 else if x = 246 then 61 else if x = 247 then 67 else if x = 279 then 68 else if x = 280 then 69 else if x = 281 then 70 else if x = 282 then 71 else if x = 283 then 73 else if x = 284 then 74 else if x = 285 then 75 else if x = 286 then 76 else if x = 287 then 80 else if x = 316 then 81 else if x = 317 then 87 else if x = 318 then 89 else if x = 319 then 90 else if x = 320 then 91 else if x = 321 then 93 else if x = 322 then 94 else if x = 337 then 97 else if x = 338 then 98 else 0, t := fun x => if x = 0 then 0 else if x = 2 then 2 else if x = 3 then 3 else if x = 4 then 4 else if x = 5 then 5 else if x = 9 then 9 else if x = 20 then 20 else if x = 21 then 21 else if x = 37 then 28 else if x = 46 then 102 else if x = 51 then 109 else if x = 53 then 92 else if x = 75 then 60 else if x = 76 then 61 else if x = 80 then 126 else if x = 85 then 86 else if x = 127 then 113 else if x = 143 then 114 else if x = 145 then 116 else if x = 167 then 85 else if x = 168 then 88 else if x = 171 then 91 else if x = 173 then 95 else if x = 175 then 100 else if x = 210 then 105 else if x = 212 then 108 else if x = 213 then 110 else if x = 232 then 124 else if x = 233 then 125 else 0, g := fun x => if x = 15 then 1 else if x = 16 then 2 else if x = 17 then 4 else if x = 18 then 7 else if x = 19 then 8 else 0 }
theorem strconv_Atoi.lays : LaysC.n172 Tryd.prog strconv_Atoi.ren := {
 mixed := by kernel_rfl
 f129 := by kernel_rfl
 f171 := by kernel_rfl
 f172 := by kernel_rfl
 f205 := by kernel_rfl
 f243 := by kernel_rfl
 f244 := by kernel_rfl
 f245 := by kernel_rfl
 f246 := by kernel_rfl
 f247 := by kernel_rfl
 f279 := by kernel_rfl
 f280 := by kernel_rfl
 f281 := by kernel_rfl
 f282 := by kernel_rfl
 f283 := by kernel_rfl
 f284 := by kernel_rfl
 f285 := by kernel_rfl
 f286 := by kernel_rfl
 f287 := by kernel_rfl
 f316 := by kernel_rfl
 f317 := by kernel_rfl
 f318 := by kernel_rfl
 f319 := by kernel_rfl
 f320 := by kernel_rfl
 f321 := by kernel_rfl
 f322 := by kernel_rfl
 f337 := by kernel_rfl
 f338 := by kernel_rfl
 t0 := by kernel_rfl
 a0 := fun _ => by kernel_rfl
 z0 := fun _ => by kernel_rfl
 v0 := fun _ => by kernel_rfl
 t2 := by kernel_rfl
 a2 := fun _ => by kernel_rfl
 z2 := fun _ => by kernel_rfl
 v2 := fun _ => by kernel_rfl
 t3 := by kernel_rfl
 a3 := fun _ => by kernel_rfl
 z3 := fun _ => by kernel_rfl
 v3 := fun _ => by kernel_rfl
 t4 := by kernel_rfl
 a4 := fun _ => by kernel_rfl
 z4 := fun _ => by kernel_rfl
 v4 := fun _ => by kernel_rfl
 t5 := by kernel_rfl
 a5 := fun _ => by kernel_rfl
 z5 := fun _ => by kernel_rfl
 v5 := fun _ => by kernel_rfl
 t9 := by kernel_rfl
 a9 := fun _ => by kernel_rfl
 z9 := fun _ => by kernel_rfl
 v9 := fun _ => by kernel_rfl
 t20 := by kernel_rfl
 a20 := fun _ => by kernel_rfl
 z20 := fun _ => by kernel_rfl
 v20 := fun _ => by kernel_rfl
 t21 := by kernel_rfl
 a21 := fun _ => by kernel_rfl
 z21 := fun _ => by kernel_rfl
 v21 := fun _ => by kernel_rfl
 t37 := by kernel_rfl
 a37 := fun _ => by kernel_rfl
 z37 := fun _ => by kernel_rfl
 v37 := fun _ => by kernel_rfl
 t46 := by kernel_rfl
 a46 := fun _ => by kernel_rfl
 z46 := fun _ => by kernel_rfl
 v46 := fun _ => by kernel_rfl
 t51 := by kernel_rfl
 a51 := fun _ => by kernel_rfl
 z51 := fun _ => by kernel_rfl
 v51 := fun _ => by kernel_rfl
 t53 := by kernel_rfl
 a53 := fun _ => by kernel_rfl
 z53 := fun _ => by kernel_rfl
 v53 := fun _ => by kernel_rfl
 t75 := by kernel_rfl
 a75 := fun _ => by kernel_rfl
 z75 := fun _ => by kernel_rfl
 v75 := fun _ => by kernel_rfl
 t76 := by kernel_rfl
 a76 := fun _ => by kernel_rfl
 z76 := fun _ => by kernel_rfl
 v76 := fun _ => by kernel_rfl
 t85 := by kernel_rfl
 a85 := fun _ => by kernel_rfl
 z85 := fun _ => by kernel_rfl
 v85 := fun _ => by kernel_rfl
 t127 := by kernel_rfl
 a127 := fun _ => by kernel_rfl
 z127 := fun _ => by kernel_rfl
 v127 := fun _ => by kernel_rfl
 t143 := by kernel_rfl
 a143 := fun _ => by kernel_rfl
 z143 := fun _ => by kernel_rfl
 v143 := fun _ => by kernel_rfl
 t145 := by kernel_rfl
 a145 := fun _ => by kernel_rfl
 z145 := fun _ => by kernel_rfl
 v145 := fun _ => by kernel_rfl
 t167 := by kernel_rfl
 a167 := fun _ => by kernel_rfl
 z167 := fun _ => by kernel_rfl
 v167 := fun _ => by kernel_rfl
 t168 := by kernel_rfl
 a168 := fun _ => by kernel_rfl
 z168 := fun _ => by kernel_rfl
 v168 := fun _ => by kernel_rfl
 t171 := by kernel_rfl
 a171 := fun _ => by kernel_rfl
 z171 := fun _ => by kernel_rfl
 v171 := fun _ => by kernel_rfl
 t173 := by kernel_rfl
 a173 := fun _ => by kernel_rfl
 z173 := fun _ => by kernel_rfl
 v173 := fun _ => by kernel_rfl
 t175 := by kernel_rfl
 a175 := fun _ => by kernel_rfl
 z175 := fun _ => by kernel_rfl
 v175 := fun _ => by kernel_rfl
 t210 := by kernel_rfl
 a210 := fun _ => by kernel_rfl
 z210 := fun _ => by kernel_rfl
 v210 := fun _ => by kernel_rfl
 t212 := by kernel_rfl
 a212 := fun _ => by kernel_rfl
 z212 := fun _ => by kernel_rfl
 v212 := fun _ => by kernel_rfl
 t213 := by kernel_rfl
 a213 := fun _ => by kernel_rfl
 z213 := fun _ => by kernel_rfl
 t232 := by kernel_rfl
 a232 := fun _ => by kernel_rfl
 z232 := fun _ => by kernel_rfl
 v232 := fun _ => by kernel_rfl
 t233 := by kernel_rfl
 a233 := fun _ => by kernel_rfl
 z233 := fun _ => by kernel_rfl
 v233 := fun _ => by kernel_rfl
 g15 := by kernel_rfl
 g16 := by kernel_rfl
 g17 := by kernel_rfl
 g18 := by kernel_rfl
 g19 := by kernel_rfl
 t80 := by kernel_rfl
 a80 := fun _ => by kernel_rfl
 z80 := fun _ => by kernel_rfl
 v80 := fun _ => by kernel_rfl
 i0 := by kernel_rfl
 i2 := by kernel_rfl
 i3 := by kernel_rfl
 i4 := by kernel_rfl
 i5 := by kernel_rfl
 i9 := by kernel_rfl
 i20 := by kernel_rfl
 i21 := by kernel_rfl
 i37 := by kernel_rfl
 i46 := by kernel_rfl
 i51 := by kernel_rfl
 i53 := by kernel_rfl
 i75 := by kernel_rfl
 i76 := by kernel_rfl
 i80 := by kernel_rfl
 i85 := by kernel_rfl
 i127 := by kernel_rfl
 i143 := by kernel_rfl
 i145 := by kernel_rfl
 i167 := by kernel_rfl
 i168 := by kernel_rfl
 i171 := by kernel_rfl
 i173 := by kernel_rfl
 i175 := by kernel_rfl
 i210 := by kernel_rfl
 i212 := by kernel_rfl
 i232 := by kernel_rfl
 i233 := by kernel_rfl
 m15 := by kernel_rfl
 m16 := by kernel_rfl
 m17 := by kernel_rfl
 m18 := by kernel_rfl
 m19 := by kernel_rfl
 c0 := by kernel_rfl
 c2 := by kernel_rfl
 c3 := by kernel_rfl
 c4 := by kernel_rfl
 c5 := by kernel_rfl
 c9 := by kernel_rfl
 c20 := by kernel_rfl
 c21 := by kernel_rfl
 c37 := by kernel_rfl
 c46 := by kernel_rfl
 c51 := by kernel_rfl
 c53 := by kernel_rfl
 c75 := by kernel_rfl
 c76 := by kernel_rfl
 c80 := by kernel_rfl
 c85 := by kernel_rfl
 c127 := by kernel_rfl
 c143 := by kernel_rfl
 c145 := by kernel_rfl
 c167 := by kernel_rfl
 c168 := by kernel_rfl
 c171 := by kernel_rfl
 c173 := by kernel_rfl
 c175 := by kernel_rfl
 c210 := by kernel_rfl
 c212 := by kernel_rfl
 c213 := by kernel_rfl
 c232 := by kernel_rfl
 c233 := by kernel_rfl }
/-- The number beside the error, too. -/
def atoiVal (s : ByteArray) : Int := match Lib.atoiAll s.data.toList with | .ok v => v | .range => Lib.atoiSat s.data.toList | _ => 0
def strconv_Atoi.f (a0 : ByteArray) : Option (Int × Int) := if a0.size ≤ 281474976710656 then some (atoiVal a0, 0) else none
theorem strconv_Atoi.calls (a0 : ByteArray) (r1 r2 : Int) (w : World) (hT : TabR w) (h : strconv_Atoi.f a0 = some (r1, r2)) :
  Calls Tryd.prog 40 #[.string a0] w fun e w' => ∃ er : Value, e = .returned (.tuple #[.int .i64 r1, er]) ∧ Below w.heap.size w w' := by
 unfold strconv_Atoi.f at h
 by_cases hc : a0.size ≤ 281474976710656
 ·rw [if_pos hc] at h
  obtain ⟨rfl, rfl⟩ := Prod.mk.inj (Option.some.inj h)
  unfold atoiVal
  cases he : Lib.atoiAll a0.data.toList with
  | ok v =>
   refine (Any.strconv_Atoi_ok (ρ := strconv_Atoi.ren) strconv_Atoi.lays a0 (by omega) v he w).mono ?_
   rintro e w' ⟨rfl, rfl | ⟨t, rfl⟩⟩
   ·exact ⟨_, rfl, Below.refl _ _⟩
   ·exact ⟨_, rfl, bytes_below (Below.refl _ _) (Nat.le_refl _) _ _⟩
  | range =>
   obtain ⟨t, p, hv⟩ := hT.2.2.2
   refine (Any.strconv_Atoi_range (ρ := strconv_Atoi.ren) strconv_Atoi.lays a0 hc he _ w hv (Or.inr ⟨t, p, rfl⟩)).mono ?_
   rintro e w' ⟨N, rfl, _, _, hb⟩
   exact ⟨_, rfl, hb⟩
  | _ =>
   obtain ⟨t, p, hv⟩ := hT.2.2.1
   refine (Any.strconv_Atoi_syntax (ρ := strconv_Atoi.ren) strconv_Atoi.lays a0 hc he _ w hv (Or.inr ⟨t, p, rfl⟩)).mono ?_
   rintro e w' ⟨N, rfl, _, _, hb⟩
   exact ⟨_, rfl, hb⟩
 ·rw [if_neg hc] at h; cases h

end Go.Proofs.YtopfhdhdpnenpaaDoor.LH
