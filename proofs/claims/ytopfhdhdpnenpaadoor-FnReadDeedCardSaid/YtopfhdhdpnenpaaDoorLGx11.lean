/- Printed by a program of this session (wip/lp/lp.py) out of the translation: functions with the same answers as the Go code, and their contracts; no conditions beyond those that each theorem names. -/
import Derived.Test.YtopfhdhdpnenpaaDoorLGx0
import Derived.Test.YtopfhdhdpnenpaaDoorLGx8
import Derived.Test.YtopfhdhdpnenpaaDoorLGx9
namespace Go.Proofs.YtopfhdhdpnenpaaDoor.LG
open Go.RowKit Go.Proofs.YtopfhdhdpnenpaaDoorV.PrintWords Go.Proofs.YtopfhdhdpnenpaaDoorV.PrintLast Go.Proofs.YtopfhdhdpnenpaaDoorV.PrintMore
attribute [local go_sem] max2_int min2_int max_two min_two max_three min_three max_four min_four   -- for this text's walks alone
set_option linter.unusedVariables false
set_option linter.unusedSimpArgs false

/-! ### spec_l20Order: function 53 -/
def spec_l20Order.l0 : Nat → Int → List Int → Int → Int → List Int → Int → Option (List Int × Int)
 | 0, _, _, _, _, _, _ => none
 | k + 1, x1, x5, x6, x7, x1000, x1001 => if x7 ≤ x1 then (if x6 = 0 then ((spec_l20Rd_pick.f k x1000 x1001 x7).bind fun bt219 => ((some (([] : List Int) : List Int)).bind fun y221 => (if 0 ≤ bt219.1 then (if bt219.1 ≤ (x5.length : Int) then ((some (x5.take (bt219.1 : Int).toNat : List Int)).bind fun y224 => (if y221.length + y224.length < 17592186044416 then ((some (y221 ++ y224 : List Int)).bind fun y228 => (if y228.length < 17592186044416 then ((some (y228 ++ [x7] : List Int)).bind fun y231 => ((some (x5.drop (bt219.1 : Int).toNat : List Int)).bind fun y234 => (if y231.length + y234.length < 17592186044416 then (spec_l20Order.l0 k x1 (y231 ++ y234) x6 (wrap64 (x7 + 1)) x1000 bt219.2) else (none)))) else (none))) else (none))) else (none)) else (none)))) else ((spec_l20Rd_pick.f k x1000 x1001 3).bind fun bt241 => (if bt241.1 = 0 then ((spec_l20Rd_pick.f k x1000 bt241.2 x7).bind fun bt243 => ((some (([] : List Int) : List Int)).bind fun y245 => (if 0 ≤ bt243.1 then (if bt243.1 ≤ (x5.length : Int) then ((some (x5.take (bt243.1 : Int).toNat : List Int)).bind fun y248 => (if y245.length + y248.length < 17592186044416 then ((some (y245 ++ y248 : List Int)).bind fun y252 => (if y252.length < 17592186044416 then ((some (y252 ++ [x7] : List Int)).bind fun y255 => ((some (x5.drop (bt243.1 : Int).toNat : List Int)).bind fun y258 => (if y255.length + y258.length < 17592186044416 then (spec_l20Order.l0 k x1 (y255 ++ y258) x6 (wrap64 (x7 + 1)) x1000 bt243.2) else (none)))) else (none))) else (none))) else (none)) else (none)))) else ((some (([] : List Int) : List Int)).bind fun y265 => (if 0 ≤ (x5.length : Int) then (if (x5.length : Int) ≤ (x5.length : Int) then ((some (x5.take ((x5.length : Int) : Int).toNat : List Int)).bind fun y268 => (if y265.length + y268.length < 17592186044416 then ((some (y265 ++ y268 : List Int)).bind fun y272 => (if y272.length < 17592186044416 then ((some (y272 ++ [x7] : List Int)).bind fun y275 => ((some (x5.drop ((x5.length : Int) : Int).toNat : List Int)).bind fun y278 => (if y275.length + y278.length < 17592186044416 then (spec_l20Order.l0 k x1 (y275 ++ y278) x6 (wrap64 (x7 + 1)) x1000 bt241.2) else (none)))) else (none))) else (none))) else (none)) else (none)))))) else (some (x5, x1001))
def spec_l20Order.f (k : Nat) (s0_0 : List Int) (s0_1 : Int) (a1 : Int) : Option (List Int × Int) := (spec_l20Rd_pick.f k s0_0 s0_1 2).bind fun bt217 => (spec_l20Order.l0 k a1 (([] : List Int)) bt217.1 1 s0_0 bt217.2)
theorem spec_l20Order.mono_l : ∀ k, (∀ y0 y1 y2 y3 y4 y5, LeO (spec_l20Order.l0 k y0 y1 y2 y3 y4 y5) (spec_l20Order.l0 (k + 1) y0 y1 y2 y3 y4 y5))
 | 0 => fun _ _ _ _ _ _ r h => by simp [spec_l20Order.l0] at h
 | k + 1 => by
  have ih0 := spec_l20Order.mono_l k
  ·intro y0 y1 y2 y3 y4 y5
   unfold spec_l20Order.l0
   have := @spec_l20Rd_pick.mono; exact zmono
theorem spec_l20Order.mono : ∀ a0 a1 a2 k, LeO (spec_l20Order.f k a0 a1 a2) (spec_l20Order.f (k + 1) a0 a1 a2) := by
 intro a0 a1 a2 k
 have ih0 := spec_l20Order.mono_l k
 unfold spec_l20Order.f
 have := @spec_l20Rd_pick.mono; exact zmono
set_option maxHeartbeats 8000000 in
set_option maxRecDepth 100000 in
theorem spec_l20Order.calls (k : Nat) (g : Nat) (s0_0 : List Int) (s0_1 : Int) (a1 : Int) (r1 : List Int) (r2 : Int) (w0 w : World) (hI : IsS73 w0 w g s0_0 s0_1) (hB : Below w0.heap.size w0 w) (h : spec_l20Order.f k s0_0 s0_1 a1 = some (r1, r2)) :
  Calls Tryd.prog 53 #[.pointer (some ⟨g, 0, none⟩), .int .i64 a1] w fun e w' => ∃ v0_ : Value, e = .returned (v0_) ∧ Kd.R (Kd.int .i64) 3 w' w.heap.size (fun _ => True) v0_ r1 ∧ IsS73 w0 w' g s0_0 r2 ∧ Below w0.heap.size w0 w' ∧ KeepBut w w' g none := by
 have HI0:=zM hI
 have HK:=zM (KeepBut.refl w g none)
 have HL:=zM hB.size
 clear hI
 have HW0:=zM hB.size
 have HB:=zM hB
 clear hB
 have H : ((spec_l20Rd_pick.f k s0_0 s0_1 2).bind fun bt217 => (spec_l20Order.l0 k a1 (([] : List Int)) bt217.1 1 s0_0 bt217.2)) = some (r1, r2) := h
 clear h
 obtain ⟨y214, hy214⟩ : ∃ y_ : List Int, y_ = (([] : List Int)) := ⟨_, rfl⟩
 replace H : ((spec_l20Rd_pick.f k s0_0 s0_1 2).bind fun bt217 => (spec_l20Order.l0 k a1 y214 bt217.1 1 s0_0 bt217.2)) = some (r1, r2) := by first | (rw [hy214]; with_reducible exact H) | (have H2_ := (Option.bind_some _ _).symm.trans H; rw [hy214]; with_reducible exact H2_) | (have H2_ := (Option.bind_some _ _).symm.trans H; with_reducible exact H2_) | with_reducible exact H | (rw [hy214]; exact H) | exact H
 have Ny214:=zM hy214
 clear hy214
 replace H := zb H; obtain ⟨⟨t217, t218⟩, A3, H⟩ := H; try dsimp only at H
 have H':=zM H
 clear H
 go_enter Tryd.func53, Tryd.ntmps53
 go_wp2_with (first | ((with_reducible refine gate_dst (N := 10) rfl ?_); refine Kd.R_lit (Kd.int .i64) _ 3 zs0 (N := 10) zs0 (xs := ([] : List Int)) (inner := []) (ok := fun _ => True) (okp := fun _ => True) zs1 ?hp (fun _ hk => hk) trivial (Below.refl _ _) (Nat.le_refl _) (by simp) ?_; (case hp => exact (Reps.none _ _)); intro v215 w4 ho5 hb hg_ hnew_; clear hg_ hnew_; (first | rw [← Ny214.out] at ho5 | (simp only [Int.reduceToNat] at ho5; rw [← Ny214.out] at ho5)); have HO216:=zM (Kd.R_lower ho5 (keep_size (w := w) (g := g) (row := none) (zs15 HK.out))); replace HK:=zM (KeepBut.trans (zs15 HK.out) (KeepBut.of_below hb g none) (.inl rfl)); replace HB:=zM (below_step (zs16 HB.out HI0.out) hb); replace HI0:=zM (IsS73.below (zs14 HI0.out) hb); clear hb ho5) | (refine zg 43 (some 12) Tryd.func43 #[.pointer (some ⟨g, 0, none⟩), .int .i64 2] ?_; (with_reducible refine (spec_l20Rd_pick.calls k g s0_0 s0_1 2 t217 t218 w0 _ (zs14 HI0.out) (zs16 HB.out HI0.out) A3.out).mono ?_); rintro e w6 ⟨rfl, hi, hb, hk⟩; refine ⟨_, rfl, ?_⟩; replace HO216:=zM (Kd.R_mono (Kd.R_keep (IsS73.apart (show IsS73 w0 _ g s0_0 s0_1 from (zs14 HI0.out)) (zs11 HO216.out) (by decide)) hk (fun _ h => h.2)) (fun _ h => h.1)); replace HK:=zM (KeepBut.trans (zs15 HK.out) hk (.inl rfl)); replace HB:=zM (hb); replace HI0:=zM (hi); clear hb hk hi))
 go_loopg [5, 7] k (fun kq v5 v7 w' => ∃ (x5_1 : List Int) (x7_1 : Int) (x1001_1 : Int), v7 = .int .i64 x7_1 ∧ Aside0 (spec_l20Order.l0 kq a1 x5_1 t217 x7_1 s0_0 x1001_1 = some (r1, r2)) ∧ Aside0 (kq ≤ k) ∧ Aside0 (Kd.R (Kd.int .i64) 3 w' w.heap.size (fun _ => True) v5 x5_1) ∧ Aside0 (IsS73 w0 w' g s0_0 x1001_1) ∧ Aside0 (KeepBut w w' g none) ∧ Aside0 (Below w0.heap.size w0 w'))
 case atStart => exact ⟨(y214), (1), (t218), zs6, H', ⟨Nat.le_refl _⟩, ⟨by (with_reducible repeat (first | apply Kd.R_alloc | apply Kd.R_drewN | apply Kd.R_drew)); exact HO216.out⟩, ⟨(zs14 HI0.out)⟩, ⟨(zs15 HK.out)⟩, ⟨(zs16 HB.out HI0.out)⟩⟩
 case round =>
  clear H'
  try clear p2
  try clear c4
  try clear c5
  obtain ⟨x5_1, x7_1, x1001_1, rfl, HA, HK1, HO_5, HI0, HK, HB⟩ := hrel
  cases gk with
  | zero => exact absurd HA.out (by simp [spec_l20Order.l0])
  | succ k1 =>
   have H := HA.out
   clear HA
   simp only [spec_l20Order.l0] at H
   by_cases c7 : x7_1 ≤ a1
   ·rw [if_pos c7] at H
    have c7b0 := decide_eq_true c7
    clear c7
    by_cases c8 : t217 = 0
    ·rw [if_pos c8] at H
     have c8b0 := beq_iff_eq.mpr c8
     have c8b1 := bne_eq_false_iff_eq.mpr c8
     clear c8
     replace H := zb H; obtain ⟨⟨t219, t220⟩, A9, H⟩ := H; try dsimp only at H
     replace H := zy H; obtain ⟨y221, Ny221, H⟩ := H; try dsimp only at H
     by_cases c10 : 0 ≤ t219
     ·rw [if_pos c10] at H
      have c10b0 := eq_true c10
      have c10b1 := decide_eq_true c10
      clear c10
      by_cases c11 : t219 ≤ (x5_1.length : Int)
      ·rw [if_pos c11] at H
       have c11b0 := eq_true c11
       have c11b1 := decide_eq_true c11
       clear c11
       replace H := zy H; obtain ⟨y224, Ny224, H⟩ := H; try dsimp only at H
       by_cases c12 : y221.length + y224.length < 17592186044416
       ·rw [if_pos c12] at H
        have LMc12:=zM c12
        clear c12
        replace H := zy H; obtain ⟨y228, Ny228, H⟩ := H; try dsimp only at H
        by_cases c13 : y228.length < 17592186044416
        ·rw [if_pos c13] at H
         have LMc13:=zM c13
         clear c13
         replace H := zy H; obtain ⟨y231, Ny231, H⟩ := H; try dsimp only at H
         have c14b0 := eq_true (of_decide_eq_true zs8 : 0 ≤ t219)
         have c15b0 := eq_true (of_decide_eq_true zs8 : t219 ≤ (x5_1.length : Int))
         replace H := zy H; obtain ⟨y234, Ny234, H⟩ := H; try dsimp only at H
         by_cases c16 : y231.length + y234.length < 17592186044416
         ·rw [if_pos c16] at H
          have LMc16:=zM c16
          clear c16
          obtain ⟨y238, hy238⟩ : ∃ y_ : List Int, y_ = (y231 ++ y234) := ⟨_, rfl⟩
          replace H : (spec_l20Order.l0 k1 a1 y238 t217 (wrap64 (x7_1 + 1)) s0_0 t220) = some (r1, r2) := by first | (rw [hy238]; with_reducible exact H) | (have H2_ := (Option.bind_some _ _).symm.trans H; rw [hy238]; with_reducible exact H2_) | (have H2_ := (Option.bind_some _ _).symm.trans H; with_reducible exact H2_) | with_reducible exact H | (rw [hy238]; exact H) | exact H
          have Ny238:=zM hy238
          clear hy238
          have H':=zM H
          clear H
          obtain ⟨Ao17, co17, eo17⟩ := Kd.R_slice HO_5.out
          subst eo17
          go_wp2_with (first | (refine zg 43 (some 29) Tryd.func43 #[.pointer (some ⟨g, 0, none⟩), .int .i64 x7_1] ?_; (with_reducible refine (spec_l20Rd_pick.calls k1 g s0_0 x1001_1 x7_1 t219 t220 w0 _ (zs14 HI0.out) (zs16 HB.out HI0.out) A9.out).mono ?_); rintro e w18 ⟨rfl, hi, hb, hk⟩; refine ⟨_, rfl, ?_⟩; replace HO_5:=zM (Kd.R_mono (Kd.R_keep (IsS73.apart (show IsS73 w0 _ g s0_0 x1001_1 from (zs14 HI0.out)) (zs11 HO_5.out) (by decide)) hk (fun _ h => h.2)) (fun _ h => h.1)); replace HK:=zM (KeepBut.trans (zs15 HK.out) hk (.inl rfl)); replace HB:=zM (hb); replace HI0:=zM (hi); clear hb hk hi) | ((with_reducible refine gate_dst (N := 30) rfl ?_); refine Kd.R_lit (Kd.int .i64) _ 3 zs0 (N := 30) zs0 (xs := ([] : List Int)) (inner := []) (ok := fun _ => True) (okp := fun _ => True) zs1 ?hp (fun _ hk => hk) trivial (Below.refl _ _) (Nat.le_refl _) (by simp) ?_; (case hp => exact (Reps.none _ _)); intro v222 w19 ho20 hb hg_ hnew_; clear hg_ hnew_; (first | rw [← Ny221.out] at ho20 | (simp only [Int.reduceToNat] at ho20; rw [← Ny221.out] at ho20)); have HO223:=zM (Kd.R_lower (Kd.R_new' ho20 (Kd.R_lt (zs11 HO_5.out))) (keep_size (w := w) (g := g) (row := none) (zs15 HK.out))); replace HO_5:=zM (Kd.R_elder' (zs11 HO_5.out) (Kd.R_base ho20) hb); replace HK:=zM (KeepBut.trans (zs15 HK.out) (KeepBut.of_below hb g none) (.inl rfl)); replace HB:=zM (below_step (zs16 HB.out HI0.out) hb); replace HI0:=zM (IsS73.below (zs14 HI0.out) hb); clear hb ho20; have q21 : (t219 : Int) ≤ ((x5_1.length : Int) : Int) := of_decide_eq_true zs8; obtain ⟨i021, hi021, _, hsz21, _⟩ := info_parts info3; have hroom21 : x5_1.length ≤ co17 := (Kd.R_reads' HO_5.out).2.1; have hC21 : Kd.C (Kd.int .i64) _ Ao17 x5_1.length x5_1 := (Kd.R_reads' HO_5.out).2.2; have hcut21 := cut_to (P := Tryd.prog) 54 3 .i64 Tryd.underlying54 hi021 Ao17 x5_1.length co17 t219 (of_decide_eq_true zs8) q21 hroom21; have hr21 := Kd.C_take (m := (t219 : Int).toNat) hC21 (by omega); have hy21 : y224.length = (t219 : Int).toNat := (by rw [Ny224.out, List.length_take]; omega); rw [← Ny224.out] at hr21; rw [← hy21] at hcut21; have HR227:=zM hr21; have HC227:=zM (show y224.length ≤ co17 from by omega); clear hr21 hC21 hroom21 hi021 hsz21; have KY21:=zM hy21; clear hy21; have KL21:=zM (show (t219 : Int).toNat ≤ x5_1.length from by omega); replace q21 := eq_true q21) | ((with_reducible refine gate_builtin (b := .append) (xs := #[.tmp 30, .tmp 33]) rfl ?_); at_builtin; refine Kd.R_append_rows (Kd.int .i64) w.heap.size rfl (.tmp 30) (.tmp 33) 54 3 (.int .i64 0) 8 rfl Tryd.underlying54 info3 rfl (by decide) (by omega) v222 y221 y224 _ _ _ (fun k_ => some k_ ≠ (.slice Ao17 x5_1.length co17 : Value).ownBlock) (fun _ => False) rfl rfl ?aO ?aR (fun _ _ h => h) (fun _ h => h.elim) ?aF (Below.refl _ _) ?aS ?aL ?_; (case aR => repeat (first | exact (by repeat (first | (with_reducible exact HR227.out) | (with_reducible refine Kd.C_alloc ?_ _) | (with_reducible refine Kd.C_drewN ?_ _) | (with_reducible refine Kd.C_drew ?_) | exact HR227.out)) | (with_reducible refine Kd.C_alloc ?_ _) | (with_reducible refine Kd.C_drewN ?_ _) | (with_reducible refine Kd.C_drew ?_))); (case aF => exact (fun k_ hk => Kd.fresh' (Kd.R_lt (zs11 HO_5.out)) k_ hk)); (case aO => exact (by (with_reducible repeat (first | apply Kd.R_alloc | apply Kd.R_drewN | apply Kd.R_drew)); exact Kd.R_mono HO223.out (fun _ hk => hk.2))); (case aS => exact (keep_size (w := w) (g := g) (row := none) (zs15 HK.out))); (case aL => have := LMc12.out; omega); intro v229 w22 ho hb hg hat; rw [← Ny228.out] at ho; replace HB:=zM (below_weaken (zs16 HB.out HI0.out) HL.out hb); replace HI0:=zM (IsS73.grown (zs14 HI0.out) hg (IsS73.own_ne HI0.out HO223.out (by decide))); replace HK:=zM (KeepBut.trans (zs15 HK.out) (KeepBut.of_grown hg g) (Kd.R_base2 HO223.out)); replace HR227:=zM ((show Kd.C (Kd.int .i64) w22 Ao17 y224.length y224 from by rw [Ny224.out]; exact Kd.C_take (m := (t219 : Int).toNat) ((Kd.R_reads' (Kd.R_after (ok := (fun _ => True)) (zs11 HO_5.out) hg hat)).2.2) KL21.out)); replace HO_5:=zM (Kd.R_after (ok := (fun _ => True)) (zs11 HO_5.out) hg hat); have HO230:=zM (ho); clear HO223; clear ho hb hg hat) | ((with_reducible refine gate_builtin (b := .append) (xs := #[.tmp 35, .tmp 37]) rfl ?_); at_builtin; refine Kd.R_append (Kd.int .i64) w.heap.size rfl (.tmp 35) (.tmp 37) 54 3 (.int .i64 0) 8 rfl Tryd.underlying54 info3 rfl (by decide) (by omega) v229 y228 x7_1 [.int .i64 x7_1] (fun k_ => some k_ ≠ (.slice Ao17 x5_1.length co17 : Value).ownBlock) (fun _ => False) rfl rfl ?aP (fun _ hk => hk.elim) ?aF ?aO (Below.refl _ _) ?aS ?aL ?_; (case aP => exact rfl); (case aF => exact (fun k_ hk => Kd.fresh' (Kd.R_lt (zs11 HO_5.out)) k_ hk)); (case aO => exact (zs11 HO230.out)); (case aS => exact (keep_size (w := w) (g := g) (row := none) (zs15 HK.out))); (case aL => have := LMc13.out; omega); intro v232 w23 ho hb hg hat; rw [← Ny231.out] at ho; replace HB:=zM (below_weaken (zs16 HB.out HI0.out) HL.out hb); replace HI0:=zM (IsS73.grown (zs14 HI0.out) hg (IsS73.own_ne HI0.out HO230.out (by decide))); replace HK:=zM (KeepBut.trans (zs15 HK.out) (KeepBut.of_grown hg g) (Kd.R_base2 HO230.out)); replace HR227:=zM ((show Kd.C (Kd.int .i64) w23 Ao17 y224.length y224 from by rw [Ny224.out]; exact Kd.C_take (m := (t219 : Int).toNat) ((Kd.R_reads' (Kd.R_after (ok := (fun _ => True)) (zs11 HO_5.out) hg hat)).2.2) KL21.out)); replace HO_5:=zM (Kd.R_after (ok := (fun _ => True)) (zs11 HO_5.out) hg hat); have HO233:=zM (ho); clear HO230; clear ho hb hg hat; have q24 : (t219 : Int) ≤ ((x5_1.length : Int) : Int) := of_decide_eq_true zs8; obtain ⟨i024, hi024, _, hsz24, _⟩ := info_parts info3; have hroom24 : x5_1.length ≤ co17 := (Kd.R_reads' HO_5.out).2.1; have hC24 : Kd.C (Kd.int .i64) _ Ao17 x5_1.length x5_1 := (Kd.R_reads' HO_5.out).2.2; have q024 : (0 : Int) ≤ (t219 : Int) := of_decide_eq_true zs8; have hcut24 := cut_from (P := Tryd.prog) 54 3 .i64 Tryd.underlying54 hi024 1 hsz24 Ao17 x5_1.length co17 t219 q024 q24; have hr24 := Kd.C_drop (m := (t219 : Int).toNat) (c := co17) hC24 (by omega) hroom24; obtain ⟨A24, hA24⟩ : ∃ A1, A1 = (if co17 = (t219 : Int).toNat then Ao17 else (Ao17 : Option Addr).map (·.add ((t219 : Int).toNat * 1))) := ⟨_, rfl⟩; obtain ⟨c24, hc24⟩ : ∃ c1, c1 = co17 - (t219 : Int).toNat := ⟨_, rfl⟩; have hy24 : y234.length = x5_1.length - (t219 : Int).toNat := (by rw [Ny234.out, List.length_drop] <;> omega); rw [show (x5_1).drop (t219 : Int).toNat = y234 from Ny234.out.symm] at hr24; replace hr24 : Kd.C (Kd.int .i64) _ A24 y234.length y234 := (by rw [hA24]; exact hr24); rw [← hy24, ← hA24, ← hc24] at hcut24; have HR237:=zM hr24; have HC237:=zM (show y234.length ≤ c24 from by rw [hy24, hc24]; exact Nat.sub_le_sub_right hroom24 _); clear hr24 hC24 hroom24 hi024 hsz24 hc24; have KY24:=zM hy24; have KA24:=zM hA24; clear hy24 hA24; have KL24:=zM (show (t219 : Int).toNat ≤ x5_1.length from by omega); replace q24 := eq_true q24) | ((with_reducible refine gate_builtin (b := .append) (xs := #[.tmp 39, .tmp 42]) rfl ?_); at_builtin; refine Kd.R_append_rows (Kd.int .i64) w.heap.size rfl (.tmp 39) (.tmp 42) 54 3 (.int .i64 0) 8 rfl Tryd.underlying54 info3 rfl (by decide) (by omega) v232 y231 y234 _ _ _ (fun k_ => some k_ ≠ (.slice Ao17 x5_1.length co17 : Value).ownBlock) (fun _ => False) rfl rfl ?aO ?aR (fun _ _ h => h) (fun _ h => h.elim) ?aF (Below.refl _ _) ?aS ?aL ?_; (case aR => repeat (first | exact (by repeat (first | (with_reducible exact HR237.out) | (with_reducible refine Kd.C_alloc ?_ _) | (with_reducible refine Kd.C_drewN ?_ _) | (with_reducible refine Kd.C_drew ?_) | exact HR237.out)) | (with_reducible refine Kd.C_alloc ?_ _) | (with_reducible refine Kd.C_drewN ?_ _) | (with_reducible refine Kd.C_drew ?_))); (case aF => exact (fun k_ hk => Kd.fresh' (Kd.R_lt (zs11 HO_5.out)) k_ hk)); (case aO => exact (zs11 HO233.out)); (case aS => exact (keep_size (w := w) (g := g) (row := none) (zs15 HK.out))); (case aL => have := LMc16.out; omega); intro v239 w25 ho hb hg hat; rw [← Ny238.out] at ho; replace HB:=zM (below_weaken (zs16 HB.out HI0.out) HL.out hb); replace HI0:=zM (IsS73.grown (zs14 HI0.out) hg (IsS73.own_ne HI0.out HO233.out (by decide))); replace HK:=zM (KeepBut.trans (zs15 HK.out) (KeepBut.of_grown hg g) (Kd.R_base2 HO233.out)); replace HR227:=zM ((show Kd.C (Kd.int .i64) w25 Ao17 y224.length y224 from by rw [Ny224.out]; exact Kd.C_take (m := (t219 : Int).toNat) ((Kd.R_reads' (Kd.R_after (ok := (fun _ => True)) (zs11 HO_5.out) hg hat)).2.2) KL21.out)); replace HR237:=zM ((show Kd.C (Kd.int .i64) w25 A24 y234.length y234 from by rw [Ny234.out, KA24.out]; exact Kd.C_drop (m := (t219 : Int).toNat) (c := co17) ((Kd.R_reads' (Kd.R_after (ok := (fun _ => True)) (zs11 HO_5.out) hg hat)).2.2) KL24.out ((Kd.R_reads' (Kd.R_after (ok := (fun _ => True)) (zs11 HO_5.out) hg hat)).2.1))); replace HO_5:=zM (Kd.R_after (ok := (fun _ => True)) (zs11 HO_5.out) hg hat); have HO240:=zM (ho); clear HO233; clear ho hb hg hat))
          go_roundg k1
          case measure => have := HK1.out; omega
          case rel => exact ⟨(y238), (wrap64 (x7_1 + 1)), (t220), zs6, H', ⟨by have := HK1.out; omega⟩, ⟨by (with_reducible repeat (first | apply Kd.R_alloc | apply Kd.R_drewN | apply Kd.R_drew)); exact Kd.R_mono HO240.out (fun _ hk => trivial)⟩, ⟨(zs14 HI0.out)⟩, ⟨(zs15 HK.out)⟩, ⟨(zs16 HB.out HI0.out)⟩⟩
         ·rw [if_neg c16] at H
          exact absurd H (by simp)
        ·rw [if_neg c13] at H
         exact absurd H (by simp)
       ·rw [if_neg c12] at H
        exact absurd H (by simp)
      ·rw [if_neg c11] at H
       exact absurd H (by simp)
     ·rw [if_neg c10] at H
      exact absurd H (by simp)
    ·rw [if_neg c8] at H
     have c8b0 := beq_eq_false_iff_ne.mpr c8
     have c8b1 := bne_iff_ne.mpr c8
     replace H := zb H; obtain ⟨⟨t241, t242⟩, A26, H⟩ := H; try dsimp only at H
     by_cases c27 : t241 = 0
     ·rw [if_pos c27] at H
      have c27b0 := beq_iff_eq.mpr c27
      have c27b1 := bne_eq_false_iff_eq.mpr c27
      clear c27
      replace H := zb H; obtain ⟨⟨t243, t244⟩, A28, H⟩ := H; try dsimp only at H
      replace H := zy H; obtain ⟨y245, Ny245, H⟩ := H; try dsimp only at H
      by_cases c29 : 0 ≤ t243
      ·rw [if_pos c29] at H
       have c29b0 := eq_true c29
       have c29b1 := decide_eq_true c29
       clear c29
       by_cases c30 : t243 ≤ (x5_1.length : Int)
       ·rw [if_pos c30] at H
        have c30b0 := eq_true c30
        have c30b1 := decide_eq_true c30
        clear c30
        replace H := zy H; obtain ⟨y248, Ny248, H⟩ := H; try dsimp only at H
        by_cases c31 : y245.length + y248.length < 17592186044416
        ·rw [if_pos c31] at H
         have LMc31:=zM c31
         clear c31
         replace H := zy H; obtain ⟨y252, Ny252, H⟩ := H; try dsimp only at H
         by_cases c32 : y252.length < 17592186044416
         ·rw [if_pos c32] at H
          have LMc32:=zM c32
          clear c32
          replace H := zy H; obtain ⟨y255, Ny255, H⟩ := H; try dsimp only at H
          have c33b0 := eq_true (of_decide_eq_true zs8 : 0 ≤ t243)
          have c34b0 := eq_true (of_decide_eq_true zs8 : t243 ≤ (x5_1.length : Int))
          replace H := zy H; obtain ⟨y258, Ny258, H⟩ := H; try dsimp only at H
          by_cases c35 : y255.length + y258.length < 17592186044416
          ·rw [if_pos c35] at H
           have LMc35:=zM c35
           clear c35
           obtain ⟨y262, hy262⟩ : ∃ y_ : List Int, y_ = (y255 ++ y258) := ⟨_, rfl⟩
           replace H : (spec_l20Order.l0 k1 a1 y262 t217 (wrap64 (x7_1 + 1)) s0_0 t244) = some (r1, r2) := by first | (rw [hy262]; with_reducible exact H) | (have H2_ := (Option.bind_some _ _).symm.trans H; rw [hy262]; with_reducible exact H2_) | (have H2_ := (Option.bind_some _ _).symm.trans H; with_reducible exact H2_) | with_reducible exact H | (rw [hy262]; exact H) | exact H
           have Ny262:=zM hy262
           clear hy262
           have H':=zM H
           clear H
           obtain ⟨Ao36, co36, eo36⟩ := Kd.R_slice HO_5.out
           subst eo36
           go_wp2_with (first | (go_at_call 43; (with_reducible refine (spec_l20Rd_pick.calls k1 g s0_0 x1001_1 3 t241 t242 w0 _ (zs14 HI0.out) (zs16 HB.out HI0.out) A26.out).mono ?_); rintro e w37 ⟨rfl, hi, hb, hk⟩; replace HO_5:=zM (Kd.R_mono (Kd.R_keep (IsS73.apart (show IsS73 w0 _ g s0_0 x1001_1 from (zs14 HI0.out)) (zs11 HO_5.out) (by decide)) hk (fun _ h => h.2)) (fun _ h => h.1)); replace HK:=zM (KeepBut.trans (zs15 HK.out) hk (.inl rfl)); replace HB:=zM (hb); replace HI0:=zM (hi); clear hb hk hi) | (refine zg 43 (some 29) Tryd.func43 #[.pointer (some ⟨g, 0, none⟩), .int .i64 x7_1] ?_; (with_reducible refine (spec_l20Rd_pick.calls k1 g s0_0 t242 x7_1 t243 t244 w0 _ (zs14 HI0.out) (zs16 HB.out HI0.out) A28.out).mono ?_); rintro e w38 ⟨rfl, hi, hb, hk⟩; refine ⟨_, rfl, ?_⟩; replace HO_5:=zM (Kd.R_mono (Kd.R_keep (IsS73.apart (show IsS73 w0 _ g s0_0 t242 from (zs14 HI0.out)) (zs11 HO_5.out) (by decide)) hk (fun _ h => h.2)) (fun _ h => h.1)); replace HK:=zM (KeepBut.trans (zs15 HK.out) hk (.inl rfl)); replace HB:=zM (hb); replace HI0:=zM (hi); clear hb hk hi) | ((with_reducible refine gate_dst (N := 30) rfl ?_); refine Kd.R_lit (Kd.int .i64) _ 3 zs0 (N := 30) zs0 (xs := ([] : List Int)) (inner := []) (ok := fun _ => True) (okp := fun _ => True) zs1 ?hp (fun _ hk => hk) trivial (Below.refl _ _) (Nat.le_refl _) (by simp) ?_; (case hp => exact (Reps.none _ _)); intro v246 w39 ho40 hb hg_ hnew_; clear hg_ hnew_; (first | rw [← Ny245.out] at ho40 | (simp only [Int.reduceToNat] at ho40; rw [← Ny245.out] at ho40)); have HO247:=zM (Kd.R_lower (Kd.R_new' ho40 (Kd.R_lt (zs11 HO_5.out))) (keep_size (w := w) (g := g) (row := none) (zs15 HK.out))); replace HO_5:=zM (Kd.R_elder' (zs11 HO_5.out) (Kd.R_base ho40) hb); replace HK:=zM (KeepBut.trans (zs15 HK.out) (KeepBut.of_below hb g none) (.inl rfl)); replace HB:=zM (below_step (zs16 HB.out HI0.out) hb); replace HI0:=zM (IsS73.below (zs14 HI0.out) hb); clear hb ho40; have q41 : (t243 : Int) ≤ ((x5_1.length : Int) : Int) := of_decide_eq_true zs8; obtain ⟨i041, hi041, _, hsz41, _⟩ := info_parts info3; have hroom41 : x5_1.length ≤ co36 := (Kd.R_reads' HO_5.out).2.1; have hC41 : Kd.C (Kd.int .i64) _ Ao36 x5_1.length x5_1 := (Kd.R_reads' HO_5.out).2.2; have hcut41 := cut_to (P := Tryd.prog) 54 3 .i64 Tryd.underlying54 hi041 Ao36 x5_1.length co36 t243 (of_decide_eq_true zs8) q41 hroom41; have hr41 := Kd.C_take (m := (t243 : Int).toNat) hC41 (by omega); have hy41 : y248.length = (t243 : Int).toNat := (by rw [Ny248.out, List.length_take]; omega); rw [← Ny248.out] at hr41; rw [← hy41] at hcut41; have HR251:=zM hr41; have HC251:=zM (show y248.length ≤ co36 from by omega); clear hr41 hC41 hroom41 hi041 hsz41; have KY41:=zM hy41; clear hy41; have KL41:=zM (show (t243 : Int).toNat ≤ x5_1.length from by omega); replace q41 := eq_true q41) | ((with_reducible refine gate_builtin (b := .append) (xs := #[.tmp 30, .tmp 33]) rfl ?_); at_builtin; refine Kd.R_append_rows (Kd.int .i64) w.heap.size rfl (.tmp 30) (.tmp 33) 54 3 (.int .i64 0) 8 rfl Tryd.underlying54 info3 rfl (by decide) (by omega) v246 y245 y248 _ _ _ (fun k_ => some k_ ≠ (.slice Ao36 x5_1.length co36 : Value).ownBlock) (fun _ => False) rfl rfl ?aO ?aR (fun _ _ h => h) (fun _ h => h.elim) ?aF (Below.refl _ _) ?aS ?aL ?_; (case aR => repeat (first | exact (by repeat (first | (with_reducible exact HR251.out) | (with_reducible refine Kd.C_alloc ?_ _) | (with_reducible refine Kd.C_drewN ?_ _) | (with_reducible refine Kd.C_drew ?_) | exact HR251.out)) | (with_reducible refine Kd.C_alloc ?_ _) | (with_reducible refine Kd.C_drewN ?_ _) | (with_reducible refine Kd.C_drew ?_))); (case aF => exact (fun k_ hk => Kd.fresh' (Kd.R_lt (zs11 HO_5.out)) k_ hk)); (case aO => exact (by (with_reducible repeat (first | apply Kd.R_alloc | apply Kd.R_drewN | apply Kd.R_drew)); exact Kd.R_mono HO247.out (fun _ hk => hk.2))); (case aS => exact (keep_size (w := w) (g := g) (row := none) (zs15 HK.out))); (case aL => have := LMc31.out; omega); intro v253 w42 ho hb hg hat; rw [← Ny252.out] at ho; replace HB:=zM (below_weaken (zs16 HB.out HI0.out) HL.out hb); replace HI0:=zM (IsS73.grown (zs14 HI0.out) hg (IsS73.own_ne HI0.out HO247.out (by decide))); replace HK:=zM (KeepBut.trans (zs15 HK.out) (KeepBut.of_grown hg g) (Kd.R_base2 HO247.out)); replace HR251:=zM ((show Kd.C (Kd.int .i64) w42 Ao36 y248.length y248 from by rw [Ny248.out]; exact Kd.C_take (m := (t243 : Int).toNat) ((Kd.R_reads' (Kd.R_after (ok := (fun _ => True)) (zs11 HO_5.out) hg hat)).2.2) KL41.out)); replace HO_5:=zM (Kd.R_after (ok := (fun _ => True)) (zs11 HO_5.out) hg hat); have HO254:=zM (ho); clear HO247; clear ho hb hg hat) | ((with_reducible refine gate_builtin (b := .append) (xs := #[.tmp 35, .tmp 37]) rfl ?_); at_builtin; refine Kd.R_append (Kd.int .i64) w.heap.size rfl (.tmp 35) (.tmp 37) 54 3 (.int .i64 0) 8 rfl Tryd.underlying54 info3 rfl (by decide) (by omega) v253 y252 x7_1 [.int .i64 x7_1] (fun k_ => some k_ ≠ (.slice Ao36 x5_1.length co36 : Value).ownBlock) (fun _ => False) rfl rfl ?aP (fun _ hk => hk.elim) ?aF ?aO (Below.refl _ _) ?aS ?aL ?_; (case aP => exact rfl); (case aF => exact (fun k_ hk => Kd.fresh' (Kd.R_lt (zs11 HO_5.out)) k_ hk)); (case aO => exact (zs11 HO254.out)); (case aS => exact (keep_size (w := w) (g := g) (row := none) (zs15 HK.out))); (case aL => have := LMc32.out; omega); intro v256 w43 ho hb hg hat; rw [← Ny255.out] at ho; replace HB:=zM (below_weaken (zs16 HB.out HI0.out) HL.out hb); replace HI0:=zM (IsS73.grown (zs14 HI0.out) hg (IsS73.own_ne HI0.out HO254.out (by decide))); replace HK:=zM (KeepBut.trans (zs15 HK.out) (KeepBut.of_grown hg g) (Kd.R_base2 HO254.out)); replace HR251:=zM ((show Kd.C (Kd.int .i64) w43 Ao36 y248.length y248 from by rw [Ny248.out]; exact Kd.C_take (m := (t243 : Int).toNat) ((Kd.R_reads' (Kd.R_after (ok := (fun _ => True)) (zs11 HO_5.out) hg hat)).2.2) KL41.out)); replace HO_5:=zM (Kd.R_after (ok := (fun _ => True)) (zs11 HO_5.out) hg hat); have HO257:=zM (ho); clear HO254; clear ho hb hg hat; have q44 : (t243 : Int) ≤ ((x5_1.length : Int) : Int) := of_decide_eq_true zs8; obtain ⟨i044, hi044, _, hsz44, _⟩ := info_parts info3; have hroom44 : x5_1.length ≤ co36 := (Kd.R_reads' HO_5.out).2.1; have hC44 : Kd.C (Kd.int .i64) _ Ao36 x5_1.length x5_1 := (Kd.R_reads' HO_5.out).2.2; have q044 : (0 : Int) ≤ (t243 : Int) := of_decide_eq_true zs8; have hcut44 := cut_from (P := Tryd.prog) 54 3 .i64 Tryd.underlying54 hi044 1 hsz44 Ao36 x5_1.length co36 t243 q044 q44; have hr44 := Kd.C_drop (m := (t243 : Int).toNat) (c := co36) hC44 (by omega) hroom44; obtain ⟨A44, hA44⟩ : ∃ A1, A1 = (if co36 = (t243 : Int).toNat then Ao36 else (Ao36 : Option Addr).map (·.add ((t243 : Int).toNat * 1))) := ⟨_, rfl⟩; obtain ⟨c44, hc44⟩ : ∃ c1, c1 = co36 - (t243 : Int).toNat := ⟨_, rfl⟩; have hy44 : y258.length = x5_1.length - (t243 : Int).toNat := (by rw [Ny258.out, List.length_drop] <;> omega); rw [show (x5_1).drop (t243 : Int).toNat = y258 from Ny258.out.symm] at hr44; replace hr44 : Kd.C (Kd.int .i64) _ A44 y258.length y258 := (by rw [hA44]; exact hr44); rw [← hy44, ← hA44, ← hc44] at hcut44; have HR261:=zM hr44; have HC261:=zM (show y258.length ≤ c44 from by rw [hy44, hc44]; exact Nat.sub_le_sub_right hroom44 _); clear hr44 hC44 hroom44 hi044 hsz44 hc44; have KY44:=zM hy44; have KA44:=zM hA44; clear hy44 hA44; have KL44:=zM (show (t243 : Int).toNat ≤ x5_1.length from by omega); replace q44 := eq_true q44) | ((with_reducible refine gate_builtin (b := .append) (xs := #[.tmp 39, .tmp 42]) rfl ?_); at_builtin; refine Kd.R_append_rows (Kd.int .i64) w.heap.size rfl (.tmp 39) (.tmp 42) 54 3 (.int .i64 0) 8 rfl Tryd.underlying54 info3 rfl (by decide) (by omega) v256 y255 y258 _ _ _ (fun k_ => some k_ ≠ (.slice Ao36 x5_1.length co36 : Value).ownBlock) (fun _ => False) rfl rfl ?aO ?aR (fun _ _ h => h) (fun _ h => h.elim) ?aF (Below.refl _ _) ?aS ?aL ?_; (case aR => repeat (first | exact (by repeat (first | (with_reducible exact HR261.out) | (with_reducible refine Kd.C_alloc ?_ _) | (with_reducible refine Kd.C_drewN ?_ _) | (with_reducible refine Kd.C_drew ?_) | exact HR261.out)) | (with_reducible refine Kd.C_alloc ?_ _) | (with_reducible refine Kd.C_drewN ?_ _) | (with_reducible refine Kd.C_drew ?_))); (case aF => exact (fun k_ hk => Kd.fresh' (Kd.R_lt (zs11 HO_5.out)) k_ hk)); (case aO => exact (zs11 HO257.out)); (case aS => exact (keep_size (w := w) (g := g) (row := none) (zs15 HK.out))); (case aL => have := LMc35.out; omega); intro v263 w45 ho hb hg hat; rw [← Ny262.out] at ho; replace HB:=zM (below_weaken (zs16 HB.out HI0.out) HL.out hb); replace HI0:=zM (IsS73.grown (zs14 HI0.out) hg (IsS73.own_ne HI0.out HO257.out (by decide))); replace HK:=zM (KeepBut.trans (zs15 HK.out) (KeepBut.of_grown hg g) (Kd.R_base2 HO257.out)); replace HR251:=zM ((show Kd.C (Kd.int .i64) w45 Ao36 y248.length y248 from by rw [Ny248.out]; exact Kd.C_take (m := (t243 : Int).toNat) ((Kd.R_reads' (Kd.R_after (ok := (fun _ => True)) (zs11 HO_5.out) hg hat)).2.2) KL41.out)); replace HR261:=zM ((show Kd.C (Kd.int .i64) w45 A44 y258.length y258 from by rw [Ny258.out, KA44.out]; exact Kd.C_drop (m := (t243 : Int).toNat) (c := co36) ((Kd.R_reads' (Kd.R_after (ok := (fun _ => True)) (zs11 HO_5.out) hg hat)).2.2) KL44.out ((Kd.R_reads' (Kd.R_after (ok := (fun _ => True)) (zs11 HO_5.out) hg hat)).2.1))); replace HO_5:=zM (Kd.R_after (ok := (fun _ => True)) (zs11 HO_5.out) hg hat); have HO264:=zM (ho); clear HO257; clear ho hb hg hat))
           go_roundg k1
           case measure => have := HK1.out; omega
           case rel => exact ⟨(y262), (wrap64 (x7_1 + 1)), (t244), zs6, H', ⟨by have := HK1.out; omega⟩, ⟨by (with_reducible repeat (first | apply Kd.R_alloc | apply Kd.R_drewN | apply Kd.R_drew)); exact Kd.R_mono HO264.out (fun _ hk => trivial)⟩, ⟨(zs14 HI0.out)⟩, ⟨(zs15 HK.out)⟩, ⟨(zs16 HB.out HI0.out)⟩⟩
          ·rw [if_neg c35] at H
           exact absurd H (by simp)
         ·rw [if_neg c32] at H
          exact absurd H (by simp)
        ·rw [if_neg c31] at H
         exact absurd H (by simp)
       ·rw [if_neg c30] at H
        exact absurd H (by simp)
      ·rw [if_neg c29] at H
       exact absurd H (by simp)
     ·rw [if_neg c27] at H
      have c27b0 := beq_eq_false_iff_ne.mpr c27
      have c27b1 := bne_iff_ne.mpr c27
      replace H := zy H; obtain ⟨y265, Ny265, H⟩ := H; try dsimp only at H
      by_cases c46 : 0 ≤ (x5_1.length : Int)
      ·rw [if_pos c46] at H
       have c46b0 := eq_true c46
       have c46b1 := decide_eq_true c46
       clear c46
       by_cases c47 : (x5_1.length : Int) ≤ (x5_1.length : Int)
       ·rw [if_pos c47] at H
        have c47b0 := eq_true c47
        have c47b1 := decide_eq_true c47
        clear c47
        replace H := zy H; obtain ⟨y268, Ny268, H⟩ := H; try dsimp only at H
        by_cases c48 : y265.length + y268.length < 17592186044416
        ·rw [if_pos c48] at H
         have LMc48:=zM c48
         clear c48
         replace H := zy H; obtain ⟨y272, Ny272, H⟩ := H; try dsimp only at H
         by_cases c49 : y272.length < 17592186044416
         ·rw [if_pos c49] at H
          have LMc49:=zM c49
          clear c49
          replace H := zy H; obtain ⟨y275, Ny275, H⟩ := H; try dsimp only at H
          have c50b0 := eq_true (of_decide_eq_true zs8 : 0 ≤ (x5_1.length : Int))
          have c51b0 := eq_true (of_decide_eq_true zs8 : (x5_1.length : Int) ≤ (x5_1.length : Int))
          replace H := zy H; obtain ⟨y278, Ny278, H⟩ := H; try dsimp only at H
          by_cases c52 : y275.length + y278.length < 17592186044416
          ·rw [if_pos c52] at H
           have LMc52:=zM c52
           clear c52
           obtain ⟨y282, hy282⟩ : ∃ y_ : List Int, y_ = (y275 ++ y278) := ⟨_, rfl⟩
           replace H : (spec_l20Order.l0 k1 a1 y282 t217 (wrap64 (x7_1 + 1)) s0_0 t242) = some (r1, r2) := by first | (rw [hy282]; with_reducible exact H) | (have H2_ := (Option.bind_some _ _).symm.trans H; rw [hy282]; with_reducible exact H2_) | (have H2_ := (Option.bind_some _ _).symm.trans H; with_reducible exact H2_) | with_reducible exact H | (rw [hy282]; exact H) | exact H
           have Ny282:=zM hy282
           clear hy282
           have H':=zM H
           clear H
           obtain ⟨Ao53, co53, eo53⟩ := Kd.R_slice HO_5.out
           subst eo53
           go_wp2_with (first | (go_at_call 43; (with_reducible refine (spec_l20Rd_pick.calls k1 g s0_0 x1001_1 3 t241 t242 w0 _ (zs14 HI0.out) (zs16 HB.out HI0.out) A26.out).mono ?_); rintro e w54 ⟨rfl, hi, hb, hk⟩; replace HO_5:=zM (Kd.R_mono (Kd.R_keep (IsS73.apart (show IsS73 w0 _ g s0_0 x1001_1 from (zs14 HI0.out)) (zs11 HO_5.out) (by decide)) hk (fun _ h => h.2)) (fun _ h => h.1)); replace HK:=zM (KeepBut.trans (zs15 HK.out) hk (.inl rfl)); replace HB:=zM (hb); replace HI0:=zM (hi); clear hb hk hi) | ((with_reducible refine gate_dst (N := 30) rfl ?_); refine Kd.R_lit (Kd.int .i64) _ 3 zs0 (N := 30) zs0 (xs := ([] : List Int)) (inner := []) (ok := fun _ => True) (okp := fun _ => True) zs1 ?hp (fun _ hk => hk) trivial (Below.refl _ _) (Nat.le_refl _) (by simp) ?_; (case hp => exact (Reps.none _ _)); intro v266 w55 ho56 hb hg_ hnew_; clear hg_ hnew_; (first | rw [← Ny265.out] at ho56 | (simp only [Int.reduceToNat] at ho56; rw [← Ny265.out] at ho56)); have HO267:=zM (Kd.R_lower (Kd.R_new' ho56 (Kd.R_lt (zs11 HO_5.out))) (keep_size (w := w) (g := g) (row := none) (zs15 HK.out))); replace HO_5:=zM (Kd.R_elder' (zs11 HO_5.out) (Kd.R_base ho56) hb); replace HK:=zM (KeepBut.trans (zs15 HK.out) (KeepBut.of_below hb g none) (.inl rfl)); replace HB:=zM (below_step (zs16 HB.out HI0.out) hb); replace HI0:=zM (IsS73.below (zs14 HI0.out) hb); clear hb ho56; have q57 : ((x5_1.length : Int) : Int) ≤ ((x5_1.length : Int) : Int) := of_decide_eq_true zs8; obtain ⟨i057, hi057, _, hsz57, _⟩ := info_parts info3; have hroom57 : x5_1.length ≤ co53 := (Kd.R_reads' HO_5.out).2.1; have hC57 : Kd.C (Kd.int .i64) _ Ao53 x5_1.length x5_1 := (Kd.R_reads' HO_5.out).2.2; have hcut57 := cut_to (P := Tryd.prog) 54 3 .i64 Tryd.underlying54 hi057 Ao53 x5_1.length co53 (x5_1.length : Int) (of_decide_eq_true zs8) q57 hroom57; have hr57 := Kd.C_take (m := ((x5_1.length : Int) : Int).toNat) hC57 (by omega); have hy57 : y268.length = ((x5_1.length : Int) : Int).toNat := (by rw [Ny268.out, List.length_take]; omega); rw [← Ny268.out] at hr57; rw [← hy57] at hcut57; have HR271:=zM hr57; have HC271:=zM (show y268.length ≤ co53 from by omega); clear hr57 hC57 hroom57 hi057 hsz57; have KY57:=zM hy57; clear hy57; have KL57:=zM (show ((x5_1.length : Int) : Int).toNat ≤ x5_1.length from by omega); replace q57 := eq_true q57) | ((with_reducible refine gate_builtin (b := .append) (xs := #[.tmp 30, .tmp 33]) rfl ?_); at_builtin; refine Kd.R_append_rows (Kd.int .i64) w.heap.size rfl (.tmp 30) (.tmp 33) 54 3 (.int .i64 0) 8 rfl Tryd.underlying54 info3 rfl (by decide) (by omega) v266 y265 y268 _ _ _ (fun k_ => some k_ ≠ (.slice Ao53 x5_1.length co53 : Value).ownBlock) (fun _ => False) rfl rfl ?aO ?aR (fun _ _ h => h) (fun _ h => h.elim) ?aF (Below.refl _ _) ?aS ?aL ?_; (case aR => repeat (first | exact (by repeat (first | (with_reducible exact HR271.out) | (with_reducible refine Kd.C_alloc ?_ _) | (with_reducible refine Kd.C_drewN ?_ _) | (with_reducible refine Kd.C_drew ?_) | exact HR271.out)) | (with_reducible refine Kd.C_alloc ?_ _) | (with_reducible refine Kd.C_drewN ?_ _) | (with_reducible refine Kd.C_drew ?_))); (case aF => exact (fun k_ hk => Kd.fresh' (Kd.R_lt (zs11 HO_5.out)) k_ hk)); (case aO => exact (by (with_reducible repeat (first | apply Kd.R_alloc | apply Kd.R_drewN | apply Kd.R_drew)); exact Kd.R_mono HO267.out (fun _ hk => hk.2))); (case aS => exact (keep_size (w := w) (g := g) (row := none) (zs15 HK.out))); (case aL => have := LMc48.out; omega); intro v273 w58 ho hb hg hat; rw [← Ny272.out] at ho; replace HB:=zM (below_weaken (zs16 HB.out HI0.out) HL.out hb); replace HI0:=zM (IsS73.grown (zs14 HI0.out) hg (IsS73.own_ne HI0.out HO267.out (by decide))); replace HK:=zM (KeepBut.trans (zs15 HK.out) (KeepBut.of_grown hg g) (Kd.R_base2 HO267.out)); replace HR271:=zM ((show Kd.C (Kd.int .i64) w58 Ao53 y268.length y268 from by rw [Ny268.out]; exact Kd.C_take (m := ((x5_1.length : Int) : Int).toNat) ((Kd.R_reads' (Kd.R_after (ok := (fun _ => True)) (zs11 HO_5.out) hg hat)).2.2) KL57.out)); replace HO_5:=zM (Kd.R_after (ok := (fun _ => True)) (zs11 HO_5.out) hg hat); have HO274:=zM (ho); clear HO267; clear ho hb hg hat) | ((with_reducible refine gate_builtin (b := .append) (xs := #[.tmp 35, .tmp 37]) rfl ?_); at_builtin; refine Kd.R_append (Kd.int .i64) w.heap.size rfl (.tmp 35) (.tmp 37) 54 3 (.int .i64 0) 8 rfl Tryd.underlying54 info3 rfl (by decide) (by omega) v273 y272 x7_1 [.int .i64 x7_1] (fun k_ => some k_ ≠ (.slice Ao53 x5_1.length co53 : Value).ownBlock) (fun _ => False) rfl rfl ?aP (fun _ hk => hk.elim) ?aF ?aO (Below.refl _ _) ?aS ?aL ?_; (case aP => exact rfl); (case aF => exact (fun k_ hk => Kd.fresh' (Kd.R_lt (zs11 HO_5.out)) k_ hk)); (case aO => exact (zs11 HO274.out)); (case aS => exact (keep_size (w := w) (g := g) (row := none) (zs15 HK.out))); (case aL => have := LMc49.out; omega); intro v276 w59 ho hb hg hat; rw [← Ny275.out] at ho; replace HB:=zM (below_weaken (zs16 HB.out HI0.out) HL.out hb); replace HI0:=zM (IsS73.grown (zs14 HI0.out) hg (IsS73.own_ne HI0.out HO274.out (by decide))); replace HK:=zM (KeepBut.trans (zs15 HK.out) (KeepBut.of_grown hg g) (Kd.R_base2 HO274.out)); replace HR271:=zM ((show Kd.C (Kd.int .i64) w59 Ao53 y268.length y268 from by rw [Ny268.out]; exact Kd.C_take (m := ((x5_1.length : Int) : Int).toNat) ((Kd.R_reads' (Kd.R_after (ok := (fun _ => True)) (zs11 HO_5.out) hg hat)).2.2) KL57.out)); replace HO_5:=zM (Kd.R_after (ok := (fun _ => True)) (zs11 HO_5.out) hg hat); have HO277:=zM (ho); clear HO274; clear ho hb hg hat; have q60 : ((x5_1.length : Int) : Int) ≤ ((x5_1.length : Int) : Int) := of_decide_eq_true zs8; obtain ⟨i060, hi060, _, hsz60, _⟩ := info_parts info3; have hroom60 : x5_1.length ≤ co53 := (Kd.R_reads' HO_5.out).2.1; have hC60 : Kd.C (Kd.int .i64) _ Ao53 x5_1.length x5_1 := (Kd.R_reads' HO_5.out).2.2; have q060 : (0 : Int) ≤ ((x5_1.length : Int) : Int) := of_decide_eq_true zs8; have hcut60 := cut_from (P := Tryd.prog) 54 3 .i64 Tryd.underlying54 hi060 1 hsz60 Ao53 x5_1.length co53 (x5_1.length : Int) q060 q60; have hr60 := Kd.C_drop (m := ((x5_1.length : Int) : Int).toNat) (c := co53) hC60 (by omega) hroom60; obtain ⟨A60, hA60⟩ : ∃ A1, A1 = (if co53 = ((x5_1.length : Int) : Int).toNat then Ao53 else (Ao53 : Option Addr).map (·.add (((x5_1.length : Int) : Int).toNat * 1))) := ⟨_, rfl⟩; obtain ⟨c60, hc60⟩ : ∃ c1, c1 = co53 - ((x5_1.length : Int) : Int).toNat := ⟨_, rfl⟩; have hy60 : y278.length = x5_1.length - ((x5_1.length : Int) : Int).toNat := (by rw [Ny278.out, List.length_drop] <;> omega); rw [show (x5_1).drop ((x5_1.length : Int) : Int).toNat = y278 from Ny278.out.symm] at hr60; replace hr60 : Kd.C (Kd.int .i64) _ A60 y278.length y278 := (by rw [hA60]; exact hr60); rw [← hy60, ← hA60, ← hc60] at hcut60; have HR281:=zM hr60; have HC281:=zM (show y278.length ≤ c60 from by rw [hy60, hc60]; exact Nat.sub_le_sub_right hroom60 _); clear hr60 hC60 hroom60 hi060 hsz60 hc60; have KY60:=zM hy60; have KA60:=zM hA60; clear hy60 hA60; have KL60:=zM (show ((x5_1.length : Int) : Int).toNat ≤ x5_1.length from by omega); replace q60 := eq_true q60) | ((with_reducible refine gate_builtin (b := .append) (xs := #[.tmp 39, .tmp 42]) rfl ?_); at_builtin; refine Kd.R_append_rows (Kd.int .i64) w.heap.size rfl (.tmp 39) (.tmp 42) 54 3 (.int .i64 0) 8 rfl Tryd.underlying54 info3 rfl (by decide) (by omega) v276 y275 y278 _ _ _ (fun k_ => some k_ ≠ (.slice Ao53 x5_1.length co53 : Value).ownBlock) (fun _ => False) rfl rfl ?aO ?aR (fun _ _ h => h) (fun _ h => h.elim) ?aF (Below.refl _ _) ?aS ?aL ?_; (case aR => repeat (first | exact (by repeat (first | (with_reducible exact HR281.out) | (with_reducible refine Kd.C_alloc ?_ _) | (with_reducible refine Kd.C_drewN ?_ _) | (with_reducible refine Kd.C_drew ?_) | exact HR281.out)) | (with_reducible refine Kd.C_alloc ?_ _) | (with_reducible refine Kd.C_drewN ?_ _) | (with_reducible refine Kd.C_drew ?_))); (case aF => exact (fun k_ hk => Kd.fresh' (Kd.R_lt (zs11 HO_5.out)) k_ hk)); (case aO => exact (zs11 HO277.out)); (case aS => exact (keep_size (w := w) (g := g) (row := none) (zs15 HK.out))); (case aL => have := LMc52.out; omega); intro v283 w61 ho hb hg hat; rw [← Ny282.out] at ho; replace HB:=zM (below_weaken (zs16 HB.out HI0.out) HL.out hb); replace HI0:=zM (IsS73.grown (zs14 HI0.out) hg (IsS73.own_ne HI0.out HO277.out (by decide))); replace HK:=zM (KeepBut.trans (zs15 HK.out) (KeepBut.of_grown hg g) (Kd.R_base2 HO277.out)); replace HR271:=zM ((show Kd.C (Kd.int .i64) w61 Ao53 y268.length y268 from by rw [Ny268.out]; exact Kd.C_take (m := ((x5_1.length : Int) : Int).toNat) ((Kd.R_reads' (Kd.R_after (ok := (fun _ => True)) (zs11 HO_5.out) hg hat)).2.2) KL57.out)); replace HR281:=zM ((show Kd.C (Kd.int .i64) w61 A60 y278.length y278 from by rw [Ny278.out, KA60.out]; exact Kd.C_drop (m := ((x5_1.length : Int) : Int).toNat) (c := co53) ((Kd.R_reads' (Kd.R_after (ok := (fun _ => True)) (zs11 HO_5.out) hg hat)).2.2) KL60.out ((Kd.R_reads' (Kd.R_after (ok := (fun _ => True)) (zs11 HO_5.out) hg hat)).2.1))); replace HO_5:=zM (Kd.R_after (ok := (fun _ => True)) (zs11 HO_5.out) hg hat); have HO284:=zM (ho); clear HO277; clear ho hb hg hat))
           go_roundg k1
           case measure => have := HK1.out; omega
           case rel => exact ⟨(y282), (wrap64 (x7_1 + 1)), (t242), zs6, H', ⟨by have := HK1.out; omega⟩, ⟨by (with_reducible repeat (first | apply Kd.R_alloc | apply Kd.R_drewN | apply Kd.R_drew)); exact Kd.R_mono HO284.out (fun _ hk => trivial)⟩, ⟨(zs14 HI0.out)⟩, ⟨(zs15 HK.out)⟩, ⟨(zs16 HB.out HI0.out)⟩⟩
          ·rw [if_neg c52] at H
           exact absurd H (by simp)
         ·rw [if_neg c49] at H
          exact absurd H (by simp)
        ·rw [if_neg c48] at H
         exact absurd H (by simp)
       ·rw [if_neg c47] at H
        exact absurd H (by simp)
      ·rw [if_neg c46] at H
       exact absurd H (by simp)
   ·rw [if_neg c7] at H
    have c7b0 := decide_eq_false c7
    clear c7
    simp only [Option.some.injEq, Prod.mk.injEq] at H
    obtain ⟨rfl, rfl⟩ := H
    go_wp2
    go_ret
    exact ⟨_, zs3, by (with_reducible repeat (first | apply Kd.R_alloc | apply Kd.R_drewN | apply Kd.R_drew)); exact HO_5.out, (zs14 HI0.out), (zs16 HB.out HI0.out), (zs15 HK.out)⟩

end Go.Proofs.YtopfhdhdpnenpaaDoor.LG
