/- Printed out of the translation: functions with the answers of the Go code, and their contracts; no further conditions. -/
import Derived.Deep.CutBlock
import Derived.Deep.RegionHeld3
import Derived.Deep.RegionLaw
import Derived.Outline
import Derived.Test.YtnpoeeliaolbaaaGreatDoorLAx0
import Derived.Test.YtnpoeeliaolbaaaGreatDoorLAx6
import Derived.Test.YtnpoeeliaolbaaaGreatDoorLAx12
import Derived.Test.YtnpoeeliaolbaaaGreatDoorLAx16
import Derived.Test.YtnpoeeliaolbaaaGreatDoorLAx9
namespace Go.Proofs.YtnpoeeliaolbaaaGreatDoor.LA
open Go.RowKit Go.Proofs.YtnpoeeliaolbaaaGreatDoorV.PrintWords Go.Proofs.YtnpoeeliaolbaaaGreatDoorV.PrintLast Go.Proofs.YtnpoeeliaolbaaaGreatDoorV.PrintMore
attribute [local go_sem] max2_int min2_int max_two min_two max_three min_three max_four min_four
set_option linter.unusedVariables false
set_option linter.unusedSimpArgs false
set_option maxHeartbeats 16000000
set_option maxRecDepth 100000
mutual
def F128.l0 : Nat → List Int → List Int → Int → Int → Option (List Int)
 | 0, _, _, _, _ => none
 | k + 1, x0, x3, x4, x5 => if x5 ≥ 0 then ((F28.f k x0).bind fun t519 => (F128.j1 k x0 x3 x4 x5 t519)) else (F128.j1 k x0 x3 x4 x5 false)
def F128.j1 : Nat → List Int → List Int → Int → Int → Bool → Option (List Int)
 | 0, _, _, _, _, _ => none
 | k + 1, x0, x3, x4, x5, x16 => if x16 = true then (if 0 ≤ x5 then (if x5 < (x0.length : Int) then (if (rd x0 x5) = 0 then (if x3.length < 17592186044416 then (F128.l0 k x0 (x3 ++ [0]) x4 (wrap64 (x5 - 1))) else (none)) else (if x3.length < 17592186044416 then (F128.l0 k x0 (x3 ++ [wrap64 ((wrap64 (x4 + 1)) - (rd x0 x5))]) x4 (wrap64 (x5 - 1))) else (none))) else (none)) else (none)) else (some x3)
end
def F128.f (k : Nat) (l0 : List Int) : Option (List Int) := F128.l0 k l0 (([] : List Int)) (l0.length : Int) (wrap64 ((l0.length : Int) - 1))
theorem F128.ml : ∀ k, (∀ y0 y1 y2 y3, LeO (F128.l0 k y0 y1 y2 y3) (F128.l0 (k + 1) y0 y1 y2 y3)) ∧ (∀ y0 y1 y2 y3 y4, LeO (F128.j1 k y0 y1 y2 y3 y4) (F128.j1 (k + 1) y0 y1 y2 y3 y4))
 | 0 => ⟨fun _ _ _ _ r h => by simp [F128.l0] at h, fun _ _ _ _ _ r h => by simp [F128.j1] at h⟩
 | k + 1 => by
  obtain ⟨ih0, ih1⟩ := F128.ml k
  refine ⟨?_, ?_⟩
  ·intro y0 y1 y2 y3
   unfold F128.l0
   have := @F28.mono; exact zm
  ·intro y0 y1 y2 y3 y4
   unfold F128.j1
   have := @F28.mono; exact zm
theorem F128.mono : ∀ a0 k, LeO (F128.f k a0) (F128.f (k + 1) a0) := by
 intro a0 k;obtain ⟨ih0, ih1⟩ := F128.ml k;unfold F128.f;have := @F28.mono; exact zm
theorem F128.calls (k : Nat) (A0 : Option Addr) (c0 : Nat) (l0 : List Int) (r : List Int) (w : World) (hr0 : Kd.C (Kd.int .i64) w A0 l0.length l0) (hc0 : l0.length ≤ c0) (h : F128.f k l0 = some r) :
  Calls Tryz.prog 128 #[.slice A0 l0.length c0] w fun e w' => ∃ v0_ : Value, e = .returned (v0_) ∧ Kd.R (Kd.int .i64) 3 w' w.heap.size (fun _ => True) v0_ r ∧ Below w.heap.size w w' := by
 have HR0:=zM hr0;have HC0:=zM hc0;clear hr0 hc0;have HB:=zM (Below.refl w.heap.size w);have H : (F128.l0 k l0 (([] : List Int)) (l0.length : Int) (wrap64 ((l0.length : Int) - 1))) = some r := h;clear h;obtain ⟨y516, hy516⟩ : ∃ y_ : List Int, y_ = (([] : List Int)) := ⟨_, rfl⟩;(replace H : (F128.l0 k l0 y516 (l0.length : Int) (wrap64 ((l0.length : Int) - 1))) = some r := by first | (rw [hy516]; with_reducible exact H) | (have H2_ := (Option.bind_some _ _).symm.trans H; rw [hy516]; with_reducible exact H2_) | (have H2_ := (Option.bind_some _ _).symm.trans H; with_reducible exact H2_) | with_reducible exact H | (rw [hy516]; exact H) | exact H);have Ny516:=zM hy516;clear hy516;have H':=zM H;clear H;go_enter Tryz.func128, Tryz.ntmps128;go_wp2_with (first | ((with_reducible refine gD (N := 6) rfl ?_); refine Kd.R_lit (Kd.int .i64) _ 3 zs1 (N := 6) zs1 (xs := ([] : List Int)) (inner := []) (ok := fun _ => True) (okp := fun _ => True) zs2 ?hp (fun _ hk => hk) trivial (Below.refl _ _) (Nat.le_refl _) (by simp) ?_; (case hp => exact (Reps.none _ _)); intro v517 w2 ho3 hb hg_ hnew_; clear hg_ hnew_; (first | rw [← Ny516.out] at ho3 | (simp only [Int.reduceToNat] at ho3; rw [← Ny516.out] at ho3)); have HO518:=zM (Kd.Rl ho3 (bZ (zs3 HB))); replace HB:=zM (bS (zs3 HB) hb); clear hb ho3));go_loopg [3, 5] k (fun kq v3 v5 w' => ∃ (x3_1 : List Int) (x5_1 : Int), v5 = .int .i64 x5_1 ∧ Qo (F128.l0 kq l0 x3_1 (l0.length : Int) x5_1 = some r) ∧ Qo (kq ≤ k) ∧ Qo (Kd.R (Kd.int .i64) 3 w' w.heap.size (fun _ => True) v3 x3_1) ∧ Qo (Below w.heap.size w w'))
 case atStart => exact ⟨(y516), (wrap64 ((l0.length : Int) - 1)), zs7, H', ⟨Nat.le_refl _⟩, ⟨(zs5 HO518)⟩, ⟨(zs3 HB)⟩⟩
 case round =>
  clear H';obtain ⟨x3_1, x5_1, rfl, HA, HK1, HO_3, HB⟩ := hrel;cases gk with
  | zero => exact absurd HA.out (by simp [F128.l0])
  | succ k1 =>
   have H := HA.out;clear HA;simp only [F128.l0] at H;have HC4:=zM H;clear H;go_upto_region 4 with (fail);go_cut [16] (fun v16 wc => ∃ (kq : Nat) (x16_3 : Bool), v16 = .bool x16_3 ∧ Qo (F128.j1 kq l0 x3_1 (l0.length : Int) x5_1 x16_3 = some r) ∧ Qo (kq ≤ k1) ∧ Qo (Kd.R (Kd.int .i64) 3 wc w.heap.size (fun _ => True) u3 x3_1) ∧ Qo (Below w.heap.size w wc))
   case first =>
    have H := HC4.out;clear HC4;by_cases c5 : x5_1 ≥ 0
    ·rw [if_pos c5] at H;have c5b0 : decide (0 ≤ x5_1) = true := decide_eq_true c5;clear c5;(first | rw [c5b0] | (simp only [i64_w, i32_w]; rw [c5b0]) | skip);replace H := zb H; obtain ⟨t519, A6, H⟩ := H; (try dsimp only at H);have H':=zM H;clear H;go_wp2_with (first | (go_at_call 28; (with_reducible refine (F28.calls k1 _ _ l0 t519 _ ?side1 ?side2 A6.out).mono ?_); (case side1 => exact (zs20 HR0 HB)); (case side2 => exact HC0.out); rintro e w' ⟨rfl, ⟨nd, rfl⟩⟩));go_meet
     case rel => exact ⟨_, (t519), zs7, H', ⟨by have := HK1.out; first | omega | exact Nat.le_refl _⟩, ⟨(zs5 HO_3)⟩, ⟨(zs3 HB)⟩⟩
    ·rw [if_neg c5] at H;have c5b0 : decide (0 ≤ x5_1) = false := decide_eq_false c5;clear c5;(first | rw [c5b0] | (simp only [i64_w, i32_w]; rw [c5b0]) | skip);have H':=zM H;clear H;go_wp2;go_meet
     case rel => exact ⟨_, (false), zs7, H', ⟨by have := HK1.out; first | omega | exact Nat.le_refl _⟩, ⟨(zs5 HO_3)⟩, ⟨(zs3 HB)⟩⟩
   case rest =>
    clear HC4;obtain ⟨kq, x16_3, rfl, HA, HJ3, HO_3, HB⟩ := hcut;cases kq with
    | zero => exact absurd HA.out (by simp [F128.j1])
    | succ kj3 =>
     have H := HA.out;clear HA;simp only [F128.j1] at H;by_cases c7 : x16_3 = true
     ·subst c7;(have H1 : (if 0 ≤ x5_1 then (if x5_1 < (l0.length : Int) then (if (rd l0 x5_1) = 0 then (if x3_1.length < 17592186044416 then (F128.l0 kj3 l0 (x3_1 ++ [0]) (l0.length : Int) (wrap64 (x5_1 - 1))) else (none)) else (if x3_1.length < 17592186044416 then (F128.l0 kj3 l0 (x3_1 ++ [wrap64 ((wrap64 ((l0.length : Int) + 1)) - (rd l0 x5_1))]) (l0.length : Int) (wrap64 (x5_1 - 1))) else (none))) else (none)) else (none)) = some r := by rw [if_pos rfl] at H; exact H);clear H;have H := H1;clear H1;replace H := zn H; obtain ⟨c8, H⟩ := H;have c8b0 := decide_eq_true c8;clear c8;replace H := zn H; obtain ⟨c9, H⟩ := H;have c9b0 := decide_eq_true c9;clear c9;by_cases c10 : (rd l0 x5_1) = 0
      ·rw [if_pos c10] at H;have c10b0 := beq_iff_eq.mpr c10;have c10b1 := bne_eq_false_iff_eq.mpr c10;clear c10;replace H := zn H; obtain ⟨c11, H⟩ := H;have LMc11:=zM c11;clear c11;obtain ⟨y521, hy521⟩ : ∃ y_ : List Int, y_ = (x3_1 ++ [0]) := ⟨_, rfl⟩;(replace H : (F128.l0 kj3 l0 y521 (l0.length : Int) (wrap64 (x5_1 - 1))) = some r := by first | (rw [hy521]; with_reducible exact H) | (have H2_ := (Option.bind_some _ _).symm.trans H; rw [hy521]; with_reducible exact H2_) | (have H2_ := (Option.bind_some _ _).symm.trans H; with_reducible exact H2_) | with_reducible exact H | (rw [hy521]; exact H) | exact H);have Ny521:=zM hy521;clear hy521;have H':=zM H;clear H;have p520 : 0 ≤ (x5_1 : Int) := of_decide_eq_true zs0;have q520 : x5_1 < (l0.length : Int) := of_decide_eq_true zs0;obtain ⟨ad520, e520, hx520_0⟩ := Kd.at_int HR0.out x5_1 p520 q520;cases e520;replace hx520_0 := (HB.out.cell (World.block_lt_of_cell? w _ hx520_0)).trans hx520_0;replace p520 := eq_true p520;replace q520 := eq_true q520;go_wp2_with (first | ((with_reducible refine gB (b := .append) (xs := #[.tmp 24, .tmp 25]) rfl ?_); at_builtin; refine Kd.R_append (Kd.int .i64) (w0 := w) w.heap.size rfl (.tmp 24) (.tmp 25) 28 3 (.int .i64 0) 8 rfl Tryz.underlying28 info3 rfl zd zo_ u3 x3_1 0 [.int .i64 0] (fun _ => True) (fun _ => False) rfl rfl ?aP (fun _ hk => hk.elim) ?aF ?aO ?aB ?aS ?aL ?_; (case aP => exact rfl); (case aB => exact (zs3 HB)); (case aF => exact (fun _ _ => trivial)); (case aO => exact (zs5 HO_3)); (case aS => exact (bZ (zs3 HB))); (case aL => have := LMc11.out; omega); intro v522 w12 ho hb hg hat; rw [← Ny521.out] at ho; replace HB:=zM (hb); have HO523:=zM (ho); clear HO_3; clear ho hb hg hat));go_roundg kj3
       case measure => have := HK1.out; have := HJ3.out; omega
       case rel => exact ⟨(y521), (wrap64 (x5_1 - 1)), zs7, H', ⟨by have := HK1.out; have := HJ3.out; omega⟩, ⟨(zs5 HO523)⟩, ⟨(zs3 HB)⟩⟩
      ·rw [if_neg c10] at H;have c10b0 := beq_eq_false_iff_ne.mpr c10;have c10b1 := bne_iff_ne.mpr c10;replace H := zn H; obtain ⟨c13, H⟩ := H;have LMc13:=zM c13;clear c13;obtain ⟨y525, hy525⟩ : ∃ y_ : List Int, y_ = (x3_1 ++ [wrap64 ((wrap64 ((l0.length : Int) + 1)) - (rd l0 x5_1))]) := ⟨_, rfl⟩;(replace H : (F128.l0 kj3 l0 y525 (l0.length : Int) (wrap64 (x5_1 - 1))) = some r := by first | (rw [hy525]; with_reducible exact H) | (have H2_ := (Option.bind_some _ _).symm.trans H; rw [hy525]; with_reducible exact H2_) | (have H2_ := (Option.bind_some _ _).symm.trans H; with_reducible exact H2_) | with_reducible exact H | (rw [hy525]; exact H) | exact H);have Ny525:=zM hy525;clear hy525;have H':=zM H;clear H;have p520 : 0 ≤ (x5_1 : Int) := of_decide_eq_true zs0;have q520 : x5_1 < (l0.length : Int) := of_decide_eq_true zs0;obtain ⟨ad520, e520, hx520_0⟩ := Kd.at_int HR0.out x5_1 p520 q520;cases e520;replace hx520_0 := (HB.out.cell (World.block_lt_of_cell? w _ hx520_0)).trans hx520_0;replace p520 := eq_true p520;replace q520 := eq_true q520;have p524 : 0 ≤ (x5_1 : Int) := of_decide_eq_true zs0;have q524 : x5_1 < (l0.length : Int) := of_decide_eq_true zs0;obtain ⟨ad524, e524, hx524_0⟩ := Kd.at_int HR0.out x5_1 p524 q524;obtain rfl : ad520 = ad524 := (by injection e524);replace hx524_0 := (HB.out.cell (World.block_lt_of_cell? w _ hx524_0)).trans hx524_0;replace p524 := eq_true p524;replace q524 := eq_true q524;go_wp2_with (first | ((with_reducible refine gB (b := .append) (xs := #[.tmp 27, .tmp 35]) rfl ?_); at_builtin; refine Kd.R_append (Kd.int .i64) (w0 := w) w.heap.size rfl (.tmp 27) (.tmp 35) 28 3 (.int .i64 0) 8 rfl Tryz.underlying28 info3 rfl zd zo_ u3 x3_1 (wrap64 ((wrap64 ((l0.length : Int) + 1)) - (rd l0 x5_1))) [.int .i64 (wrap64 ((wrap64 ((l0.length : Int) + 1)) - (rd l0 x5_1)))] (fun _ => True) (fun _ => False) rfl rfl ?aP (fun _ hk => hk.elim) ?aF ?aO ?aB ?aS ?aL ?_; (case aP => exact rfl); (case aB => exact (zs3 HB)); (case aF => exact (fun _ _ => trivial)); (case aO => exact (zs5 HO_3)); (case aS => exact (bZ (zs3 HB))); (case aL => have := LMc13.out; omega); intro v526 w14 ho hb hg hat; rw [← Ny525.out] at ho; replace HB:=zM (hb); have HO527:=zM (ho); clear HO_3; clear ho hb hg hat));go_roundg kj3
       case measure => have := HK1.out; have := HJ3.out; omega
       case rel => exact ⟨(y525), (wrap64 (x5_1 - 1)), zs7, H', ⟨by have := HK1.out; have := HJ3.out; omega⟩, ⟨(zs5 HO527)⟩, ⟨(zs3 HB)⟩⟩
     ·replace c7 := Bool.eq_false_iff.mpr c7;subst c7;(have H1 : (some x3_1) = some r := by rw [if_neg (show ¬ (false = true) by decide)] at H; exact H);clear H;have H := H1;clear H1;obtain rfl := Option.some.inj H;go_wp2;go_ret;exact ⟨_, zs6, (zs5 HO_3), (zs3 HB)⟩
mutual
def F170.l0 : Nat → List Int → Int → List Int → Int → Option (List Int)
 | 0, _, _, _, _ => none
 | k + 1, x0, x1, x5, x6 => if x6 < x1 then (if 0 ≤ (wrap64 (x6 - 1)) then (if (wrap64 (x6 - 1)) < (x0.length : Int) then (if (rd x0 (wrap64 (x6 - 1))) = x1 then ((F170.f k x0 x6).bind fun t532 => (if x5.length + t532.length < 17592186044416 then (F170.l0 k x0 x1 (x5 ++ t532) (wrap64 (x6 + 1))) else (none))) else (F170.l0 k x0 x1 x5 (wrap64 (x6 + 1)))) else (none)) else (none)) else (if x5.length < 17592186044416 then (F170.l1 k x0 x1 (x5 ++ [x1]) (wrap64 (x1 + 1))) else (none))
def F170.l1 : Nat → List Int → Int → List Int → Int → Option (List Int)
 | 0, _, _, _, _ => none
 | k + 1, x0, x1, x5, x7 => if x7 ≤ (x0.length : Int) then (if 0 ≤ (wrap64 (x7 - 1)) then (if (wrap64 (x7 - 1)) < (x0.length : Int) then (if (rd x0 (wrap64 (x7 - 1))) = x1 then ((F170.f k x0 x7).bind fun t542 => (if x5.length + t542.length < 17592186044416 then (F170.l1 k x0 x1 (x5 ++ t542) (wrap64 (x7 + 1))) else (none))) else (F170.l1 k x0 x1 x5 (wrap64 (x7 + 1)))) else (none)) else (none)) else (some x5)
def F170.f : Nat → List Int → Int → Option (List Int)
 | 0, _, _ => none
 | k + 1, l0, a1 => F170.l0 k l0 a1 (([] : List Int)) 1
end
theorem F170.ml : ∀ k, (∀ y0 y1, LeO (F170.f k y0 y1) (F170.f (k + 1) y0 y1)) ∧ (∀ y0 y1 y2 y3, LeO (F170.l0 k y0 y1 y2 y3) (F170.l0 (k + 1) y0 y1 y2 y3)) ∧ (∀ y0 y1 y2 y3, LeO (F170.l1 k y0 y1 y2 y3) (F170.l1 (k + 1) y0 y1 y2 y3))
 | 0 => ⟨fun _ _ r h => by simp [F170.f] at h, fun _ _ _ _ r h => by simp [F170.l0] at h, fun _ _ _ _ r h => by simp [F170.l1] at h⟩
 | k + 1 => by
  obtain ⟨ih0, ih1, ih2⟩ := F170.ml k
  refine ⟨?_, ?_, ?_⟩
  ·intro y0 y1
   unfold F170.f
   exact zm
  ·intro y0 y1 y2 y3
   unfold F170.l0
   exact zm
  ·intro y0 y1 y2 y3
   unfold F170.l1
   exact zm
theorem F170.mono : ∀ a0 a1 k, LeO (F170.f k a0 a1) (F170.f (k + 1) a0 a1) := by
 intro a0 a1 k;obtain ⟨ih0, ih1, ih2⟩ := F170.ml k;exact ih0 a0 a1
theorem F170.calls (k : Nat) : ∀ (A0 : Option Addr) (c0 : Nat) (l0 : List Int) (a1 : Int) (r : List Int) (w : World) (hr0 : Kd.C (Kd.int .i64) w A0 l0.length l0) (hc0 : l0.length ≤ c0) (h : F170.f k l0 a1 = some r),
  Calls Tryz.prog 170 #[.slice A0 l0.length c0, .int .i64 a1] w fun e w' => ∃ v0_ : Value, e = .returned (v0_) ∧ Kd.R (Kd.int .i64) 3 w' w.heap.size (fun _ => True) v0_ r ∧ Below w.heap.size w w' := by
 induction k using Nat.strongRecOn with
 | _ k ih =>
 intro A0 c0 l0 a1 r w hr0 hc0 h;cases k with
 | zero => exact absurd h (by simp [F170.f])
 | succ k =>
 simp only [F170.f] at h;have HR0:=zM hr0;have HC0:=zM hc0;clear hr0 hc0;have HB:=zM (Below.refl w.heap.size w);have H : (F170.l0 k l0 a1 (([] : List Int)) 1) = some r := h;clear h;obtain ⟨y528, hy528⟩ : ∃ y_ : List Int, y_ = (([] : List Int)) := ⟨_, rfl⟩;(replace H : (F170.l0 k l0 a1 y528 1) = some r := by first | (rw [hy528]; with_reducible exact H) | (have H2_ := (Option.bind_some _ _).symm.trans H; rw [hy528]; with_reducible exact H2_) | (have H2_ := (Option.bind_some _ _).symm.trans H; with_reducible exact H2_) | with_reducible exact H | (rw [hy528]; exact H) | exact H);have Ny528:=zM hy528;clear hy528;have H':=zM H;clear H;go_enter Tryz.func170, Tryz.ntmps170;go_wp2_with (first | ((with_reducible refine gD (N := 8) rfl ?_); refine Kd.R_lit (Kd.int .i64) _ 3 zs1 (N := 8) zs1 (xs := ([] : List Int)) (inner := []) (ok := fun _ => True) (okp := fun _ => True) zs2 ?hp (fun _ hk => hk) trivial (Below.refl _ _) (Nat.le_refl _) (by simp) ?_; (case hp => exact (Reps.none _ _)); intro v529 w3 ho4 hb hg_ hnew_; clear hg_ hnew_; (first | rw [← Ny528.out] at ho4 | (simp only [Int.reduceToNat] at ho4; rw [← Ny528.out] at ho4)); have HO530:=zM (Kd.Rl ho4 (bZ (zs3 HB))); replace HB:=zM (bS (zs3 HB) hb); clear hb ho4));go_loopg [5, 6] k (fun kq v5 v6 w' => ∃ (x5_1 : List Int) (x6_1 : Int), v6 = .int .i64 x6_1 ∧ Qo (F170.l0 kq l0 a1 x5_1 x6_1 = some r) ∧ Qo (kq ≤ k) ∧ Qo (Kd.R (Kd.int .i64) 3 w' w.heap.size (fun _ => True) v5 x5_1) ∧ Qo (Below w.heap.size w w'))
 case atStart => exact ⟨(y528), (1), zs7, H', ⟨Nat.le_refl _⟩, ⟨(zs5 HO530)⟩, ⟨(zs3 HB)⟩⟩
 case round =>
  clear H';obtain ⟨x5_1, x6_1, rfl, HA, HK1, HO_5, HB⟩ := hrel;cases gk with
  | zero => exact absurd HA.out (by simp [F170.l0])
  | succ k1 =>
   have H := HA.out;clear HA;simp only [F170.l0] at H;by_cases c5 : x6_1 < a1
   ·rw [if_pos c5] at H;have c5b0 := decide_eq_true c5;clear c5;obtain ⟨ji6, hji6⟩ : ∃ j_ : Int, (wrap64 (x6_1 - 1)) = j_ := ⟨_, rfl⟩;(replace H : (if 0 ≤ (ji6) then (if (ji6) < (l0.length : Int) then (if (rd l0 (ji6)) = a1 then ((F170.f k1 l0 x6_1).bind fun t532 => (if x5_1.length + t532.length < 17592186044416 then (F170.l0 k1 l0 a1 (x5_1 ++ t532) (wrap64 (x6_1 + 1))) else (none))) else (F170.l0 k1 l0 a1 x5_1 (wrap64 (x6_1 + 1)))) else (none)) else (none)) = some r := by first | (rw [hji6] at H; exact H) | (simp only [hji6] at H ⊢; exact H));have hji6w : (IntKind.i64.wrap (x6_1 - 1)) = ji6 := (i64_w _).trans hji6;replace H := zn H; obtain ⟨c7, H⟩ := H;have c7b0 := decide_eq_true c7;clear c7;replace H := zn H; obtain ⟨c8, H⟩ := H;have c8b0 := decide_eq_true c8;clear c8;by_cases c9 : (rd l0 (ji6)) = a1
    ·rw [if_pos c9] at H;have c9b0 := beq_iff_eq.mpr c9;have c9b1 := bne_eq_false_iff_eq.mpr c9;clear c9;replace H := zb H; obtain ⟨t532, A10, H⟩ := H; (try dsimp only at H);replace H := zn H; obtain ⟨c11, H⟩ := H;have LMc11:=zM c11;clear c11;obtain ⟨y535, hy535⟩ : ∃ y_ : List Int, y_ = (x5_1 ++ t532) := ⟨_, rfl⟩; rw [← hy535] at H; have Ny535:=zM hy535; clear hy535;have H':=zM H;clear H;have p531 : 0 ≤ ((ji6) : Int) := of_decide_eq_true zs0;have q531 : (ji6) < (l0.length : Int) := of_decide_eq_true zs0;obtain ⟨ad531, e531, hx531_0⟩ := Kd.at_int HR0.out (ji6) p531 q531;cases e531;replace hx531_0 := (HB.out.cell (World.block_lt_of_cell? w _ hx531_0)).trans hx531_0;replace p531 := eq_true p531;replace q531 := eq_true q531;go_wp2_with (first | (refine zg 170 (some 24) Tryz.func170 #[.slice (some ad531) l0.length c0, .int .i64 x6_1] ?_; (with_reducible refine (ih k1 (by have := HK1.out; omega) _ _ l0 x6_1 t532 _ ?side1 ?side2 A10.out).mono ?_); (case side1 => exact (zs20 HR0 HB)); (case side2 => exact HC0.out); rintro e w12 ⟨v533, rfl, ho0, hb⟩; refine ⟨_, rfl, ?_⟩; have HO534:=zM (Kd.Rl (Kd.R_new' ho0 (Kd.R_lt (zs5 HO_5))) (bZ (zs3 HB))); replace HO_5:=zM (Kd.R_elder' (zs5 HO_5) (Kd.R_base ho0) hb); replace HB:=zM (bS (zs3 HB) hb); clear hb ho0; obtain ⟨Ao14, co14, eo14⟩ := Kd.Rs HO534.out; subst eo14) | ((with_reducible refine gB (b := .append) (xs := #[.tmp 21, .tmp 24]) rfl ?_); at_builtin; refine Kd.R_append_rows (Kd.int .i64) (w0 := w) w.heap.size rfl (.tmp 21) (.tmp 24) 28 3 (.int .i64 0) 8 rfl Tryz.underlying28 info3 rfl zd zo_ u5 x5_1 t532 _ _ _ (fun k_ => some k_ ≠ (.slice Ao14 t532.length co14 : Value).ownBlock) (fun _ => False) rfl rfl ?aO ?aR (fun _ _ h => h) (fun _ h => h.elim) ?aF ?aB ?aS ?aL ?_; (case aR => repeat (first | exact (Kd.rr' HO534.out).2.2 | (with_reducible refine Kd.C_alloc ?_ _) | (with_reducible refine Kd.C_drewN ?_ _) | (with_reducible refine Kd.C_drew ?_))); (case aB => exact (zs3 HB)); (case aF => exact (fun k_ hk => Kd.fresh' (Kd.R_lt (zs5 HO534)) k_ hk)); (case aO => exact ((zs12 HO_5))); (case aS => exact (bZ (zs3 HB))); (case aL => have := LMc11.out; omega); intro v536 w13 ho hb hg hat; rw [← Ny535.out] at ho; replace HO534:=zM (Kd.R_after (ok := (fun _ => True)) (zs5 HO534) hg hat); replace HB:=zM (hb); have HO537:=zM (ho); clear HO_5; clear ho hb hg hat));go_roundg k1
     case measure => have := HK1.out; omega
     case rel => exact ⟨(y535), (wrap64 (x6_1 + 1)), zs7, H', ⟨by have := HK1.out; omega⟩, ⟨(zs13 HO537)⟩, ⟨(zs3 HB)⟩⟩
    ·rw [if_neg c9] at H;have c9b0 := beq_eq_false_iff_ne.mpr c9;have c9b1 := bne_iff_ne.mpr c9;have H':=zM H;clear H;have p531 : 0 ≤ ((ji6) : Int) := of_decide_eq_true zs0;have q531 : (ji6) < (l0.length : Int) := of_decide_eq_true zs0;obtain ⟨ad531, e531, hx531_0⟩ := Kd.at_int HR0.out (ji6) p531 q531;cases e531;replace hx531_0 := (HB.out.cell (World.block_lt_of_cell? w _ hx531_0)).trans hx531_0;replace p531 := eq_true p531;replace q531 := eq_true q531;go_wp2;go_roundg k1
     case measure => have := HK1.out; omega
     case rel => exact ⟨(x5_1), (wrap64 (x6_1 + 1)), zs7, H', ⟨by have := HK1.out; omega⟩, ⟨(zs5 HO_5)⟩, ⟨(zs3 HB)⟩⟩
   ·rw [if_neg c5] at H;have c5b0 := decide_eq_false c5;clear c5;replace H := zn H; obtain ⟨c15, H⟩ := H;have LMc15:=zM c15;clear c15;obtain ⟨y538, hy538⟩ : ∃ y_ : List Int, y_ = (x5_1 ++ [a1]) := ⟨_, rfl⟩;(replace H : (F170.l1 k1 l0 a1 y538 (wrap64 (a1 + 1))) = some r := by first | (rw [hy538]; with_reducible exact H) | (have H2_ := (Option.bind_some _ _).symm.trans H; rw [hy538]; with_reducible exact H2_) | (have H2_ := (Option.bind_some _ _).symm.trans H; with_reducible exact H2_) | with_reducible exact H | (rw [hy538]; exact H) | exact H);have Ny538:=zM hy538;clear hy538;have H':=zM H;clear H;go_wp2_with (first | ((with_reducible refine gB (b := .append) (xs := #[.tmp 26, .tmp 28]) rfl ?_); at_builtin; refine Kd.R_append (Kd.int .i64) (w0 := w) w.heap.size rfl (.tmp 26) (.tmp 28) 28 3 (.int .i64 0) 8 rfl Tryz.underlying28 info3 rfl zd zo_ u5 x5_1 a1 [.int .i64 a1] (fun _ => True) (fun _ => False) rfl rfl ?aP (fun _ hk => hk.elim) ?aF ?aO ?aB ?aS ?aL ?_; (case aP => exact rfl); (case aB => exact (zs3 HB)); (case aF => exact (fun _ _ => trivial)); (case aO => exact (zs5 HO_5)); (case aS => exact (bZ (zs3 HB))); (case aL => have := LMc15.out; omega); intro v539 w16 ho hb hg hat; rw [← Ny538.out] at ho; replace HB:=zM (hb); have HO540:=zM (ho); clear HO_5; clear ho hb hg hat));go_loopg [5, 7] k1 (fun kq v5 v7 w' => ∃ (x5_2 : List Int) (x7_2 : Int), v7 = .int .i64 x7_2 ∧ Qo (F170.l1 kq l0 a1 x5_2 x7_2 = some r) ∧ Qo (kq ≤ k1) ∧ Qo (Kd.R (Kd.int .i64) 3 w' w.heap.size (fun _ => True) v5 x5_2) ∧ Qo (Below w.heap.size w w'))
    case atStart => exact ⟨(y538), (wrap64 (a1 + 1)), zs7, H', ⟨Nat.le_refl _⟩, ⟨(zs5 HO540)⟩, ⟨(zs3 HB)⟩⟩
    case round =>
     clear H';obtain ⟨x5_2, x7_2, rfl, HA, HK2, HO_5, HB⟩ := hrel;cases gk with
     | zero => exact absurd HA.out (by simp [F170.l1])
     | succ k2 =>
      have H := HA.out;clear HA;simp only [F170.l1] at H;by_cases c17 : x7_2 ≤ (l0.length : Int)
      ·rw [if_pos c17] at H;have c17b0 := decide_eq_true c17;clear c17;obtain ⟨ji18, hji18⟩ : ∃ j_ : Int, (wrap64 (x7_2 - 1)) = j_ := ⟨_, rfl⟩;(replace H : (if 0 ≤ (ji18) then (if (ji18) < (l0.length : Int) then (if (rd l0 (ji18)) = a1 then ((F170.f k2 l0 x7_2).bind fun t542 => (if x5_2.length + t542.length < 17592186044416 then (F170.l1 k2 l0 a1 (x5_2 ++ t542) (wrap64 (x7_2 + 1))) else (none))) else (F170.l1 k2 l0 a1 x5_2 (wrap64 (x7_2 + 1)))) else (none)) else (none)) = some r := by first | (rw [hji18] at H; exact H) | (simp only [hji18] at H ⊢; exact H));have hji18w : (IntKind.i64.wrap (x7_2 - 1)) = ji18 := (i64_w _).trans hji18;replace H := zn H; obtain ⟨c19, H⟩ := H;have c19b0 := decide_eq_true c19;clear c19;replace H := zn H; obtain ⟨c20, H⟩ := H;have c20b0 := decide_eq_true c20;clear c20;by_cases c21 : (rd l0 (ji18)) = a1
       ·rw [if_pos c21] at H;have c21b0 := beq_iff_eq.mpr c21;have c21b1 := bne_eq_false_iff_eq.mpr c21;clear c21;replace H := zb H; obtain ⟨t542, A22, H⟩ := H; (try dsimp only at H);replace H := zn H; obtain ⟨c23, H⟩ := H;have LMc23:=zM c23;clear c23;obtain ⟨y545, hy545⟩ : ∃ y_ : List Int, y_ = (x5_2 ++ t542) := ⟨_, rfl⟩; rw [← hy545] at H; have Ny545:=zM hy545; clear hy545;have H':=zM H;clear H;have p541 : 0 ≤ ((ji18) : Int) := of_decide_eq_true zs0;have q541 : (ji18) < (l0.length : Int) := of_decide_eq_true zs0;obtain ⟨ad541, e541, hx541_0⟩ := Kd.at_int HR0.out (ji18) p541 q541;cases e541;replace hx541_0 := (HB.out.cell (World.block_lt_of_cell? w _ hx541_0)).trans hx541_0;replace p541 := eq_true p541;replace q541 := eq_true q541;go_wp2_with (first | (refine zg 170 (some 48) Tryz.func170 #[.slice (some ad541) l0.length c0, .int .i64 x7_2] ?_; (with_reducible refine (ih k2 (by have := HK1.out; have := HK2.out; omega) _ _ l0 x7_2 t542 _ ?side1 ?side2 A22.out).mono ?_); (case side1 => exact (zs20 HR0 HB)); (case side2 => exact HC0.out); rintro e w24 ⟨v543, rfl, ho0, hb⟩; refine ⟨_, rfl, ?_⟩; have HO544:=zM (Kd.Rl (Kd.R_new' ho0 (Kd.R_lt (zs5 HO_5))) (bZ (zs3 HB))); replace HO_5:=zM (Kd.R_elder' (zs5 HO_5) (Kd.R_base ho0) hb); replace HB:=zM (bS (zs3 HB) hb); clear hb ho0; obtain ⟨Ao26, co26, eo26⟩ := Kd.Rs HO544.out; subst eo26) | ((with_reducible refine gB (b := .append) (xs := #[.tmp 45, .tmp 48]) rfl ?_); at_builtin; refine Kd.R_append_rows (Kd.int .i64) (w0 := w) w.heap.size rfl (.tmp 45) (.tmp 48) 28 3 (.int .i64 0) 8 rfl Tryz.underlying28 info3 rfl zd zo_ u5 x5_2 t542 _ _ _ (fun k_ => some k_ ≠ (.slice Ao26 t542.length co26 : Value).ownBlock) (fun _ => False) rfl rfl ?aO ?aR (fun _ _ h => h) (fun _ h => h.elim) ?aF ?aB ?aS ?aL ?_; (case aR => repeat (first | exact (Kd.rr' HO544.out).2.2 | (with_reducible refine Kd.C_alloc ?_ _) | (with_reducible refine Kd.C_drewN ?_ _) | (with_reducible refine Kd.C_drew ?_))); (case aB => exact (zs3 HB)); (case aF => exact (fun k_ hk => Kd.fresh' (Kd.R_lt (zs5 HO544)) k_ hk)); (case aO => exact ((zs12 HO_5))); (case aS => exact (bZ (zs3 HB))); (case aL => have := LMc23.out; omega); intro v546 w25 ho hb hg hat; rw [← Ny545.out] at ho; replace HO544:=zM (Kd.R_after (ok := (fun _ => True)) (zs5 HO544) hg hat); replace HB:=zM (hb); have HO547:=zM (ho); clear HO_5; clear ho hb hg hat));go_roundg k2
        case measure => have := HK1.out; have := HK2.out; omega
        case rel => exact ⟨(y545), (wrap64 (x7_2 + 1)), zs7, H', ⟨by have := HK1.out; have := HK2.out; omega⟩, ⟨(zs13 HO547)⟩, ⟨(zs3 HB)⟩⟩
       ·rw [if_neg c21] at H;have c21b0 := beq_eq_false_iff_ne.mpr c21;have c21b1 := bne_iff_ne.mpr c21;have H':=zM H;clear H;have p541 : 0 ≤ ((ji18) : Int) := of_decide_eq_true zs0;have q541 : (ji18) < (l0.length : Int) := of_decide_eq_true zs0;obtain ⟨ad541, e541, hx541_0⟩ := Kd.at_int HR0.out (ji18) p541 q541;cases e541;replace hx541_0 := (HB.out.cell (World.block_lt_of_cell? w _ hx541_0)).trans hx541_0;replace p541 := eq_true p541;replace q541 := eq_true q541;go_wp2;go_roundg k2
        case measure => have := HK1.out; have := HK2.out; omega
        case rel => exact ⟨(x5_2), (wrap64 (x7_2 + 1)), zs7, H', ⟨by have := HK1.out; have := HK2.out; omega⟩, ⟨(zs5 HO_5)⟩, ⟨(zs3 HB)⟩⟩
      ·rw [if_neg c17] at H;have c17b0 := decide_eq_false c17;clear c17;obtain rfl := Option.some.inj H;go_wp2;go_ret;exact ⟨_, zs6, (zs5 HO_5), (zs3 HB)⟩
mutual
def F171.l0 : Nat → List Int → Int → Option (Int)
 | 0, _, _ => none
 | k + 1, x0, x3 => if x3 < (x0.length : Int) then ((F28.f k x0).bind fun t548 => (F171.j1 k x0 x3 t548)) else (F171.j1 k x0 x3 false)
def F171.j1 : Nat → List Int → Int → Bool → Option (Int)
 | 0, _, _, _ => none
 | k + 1, x0, x3, x11 => if x11 = true then (if 0 ≤ x3 then (if x3 < (x0.length : Int) then (if (rd x0 x3) = 0 then (some (wrap64 (x3 + 1))) else (F171.l0 k x0 (wrap64 (x3 + 1)))) else (none)) else (none)) else (some (-1))
end
def F171.f (k : Nat) (l0 : List Int) : Option (Int) := F171.l0 k l0 0
theorem F171.ml : ∀ k, (∀ y0 y1, LeO (F171.l0 k y0 y1) (F171.l0 (k + 1) y0 y1)) ∧ (∀ y0 y1 y2, LeO (F171.j1 k y0 y1 y2) (F171.j1 (k + 1) y0 y1 y2))
 | 0 => ⟨fun _ _ r h => by simp [F171.l0] at h, fun _ _ _ r h => by simp [F171.j1] at h⟩
 | k + 1 => by
  obtain ⟨ih0, ih1⟩ := F171.ml k
  refine ⟨?_, ?_⟩
  ·intro y0 y1
   unfold F171.l0
   have := @F28.mono; exact zm
  ·intro y0 y1 y2
   unfold F171.j1
   have := @F28.mono; exact zm
theorem F171.mono : ∀ a0 k, LeO (F171.f k a0) (F171.f (k + 1) a0) := by
 intro a0 k;obtain ⟨ih0, ih1⟩ := F171.ml k;unfold F171.f;have := @F28.mono; exact zm
theorem F171.calls (k : Nat) (A0 : Option Addr) (c0 : Nat) (l0 : List Int) (r : Int) (w : World) (hr0 : Kd.C (Kd.int .i64) w A0 l0.length l0) (hc0 : l0.length ≤ c0) (h : F171.f k l0 = some r) :
  Calls Tryz.prog 171 #[.slice A0 l0.length c0] w fun e w' => e = .returned (.int .i64 r) ∧ D0w w w' := by
 have HR0:=zM hr0;have HC0:=zM hc0;clear hr0 hc0;have H : (F171.l0 k l0 0) = some r := h;clear h;have H':=zM H;clear H;go_enter Tryz.func171, Tryz.ntmps171;go_wp2;go_loopg [3] k (fun kq v3 w' => ∃ (x3_1 : Int), v3 = .int .i64 x3_1 ∧ Qo (F171.l0 kq l0 x3_1 = some r) ∧ Qo (kq ≤ k) ∧ D0w w w')
 case atStart => exact ⟨(0), zs7, H', ⟨Nat.le_refl _⟩, by repeat (first | exact D0w.refl _ | apply D0w.step)⟩
 case round =>
  clear H';obtain ⟨x3_1, rfl, HA, HK1, ⟨m1, rfl⟩⟩ := hrel;cases gk with
  | zero => exact absurd HA.out (by simp [F171.l0])
  | succ k1 =>
   have H := HA.out;clear HA;simp only [F171.l0] at H;have HC2:=zM H;clear H;go_upto_region 2 with (fail);go_cut [11] (fun v11 wc => ∃ (kq : Nat) (x11_1 : Bool), v11 = .bool x11_1 ∧ Qo (F171.j1 kq l0 x3_1 x11_1 = some r) ∧ Qo (kq ≤ k1) ∧ D0w w wc)
   case first =>
    have H := HC2.out;clear HC2;by_cases c3 : x3_1 < (l0.length : Int)
    ·rw [if_pos c3] at H;have c3b0 := decide_eq_true c3;clear c3;(first | rw [c3b0] | (simp only [i64_w, i32_w]; rw [c3b0]) | skip);replace H := zb H; obtain ⟨t548, A4, H⟩ := H; (try dsimp only at H);have H':=zM H;clear H;go_wp2_with (first | (go_at_call 28; (with_reducible refine (F28.calls k1 _ _ l0 t548 _ ?side1 ?side2 A4.out).mono ?_); (case side1 => exact (zs28 HR0)); (case side2 => exact HC0.out); rintro e w' ⟨rfl, ⟨nd, rfl⟩⟩));go_meet
     case rel => exact ⟨_, (t548), zs7, H', ⟨by have := HK1.out; first | omega | exact Nat.le_refl _⟩, by repeat (first | exact D0w.refl _ | apply D0w.step)⟩
    ·rw [if_neg c3] at H;have c3b0 := decide_eq_false c3;clear c3;(first | rw [c3b0] | (simp only [i64_w, i32_w]; rw [c3b0]) | skip);have H':=zM H;clear H;go_wp2;go_meet
     case rel => exact ⟨_, (false), zs7, H', ⟨by have := HK1.out; first | omega | exact Nat.le_refl _⟩, by repeat (first | exact D0w.refl _ | apply D0w.step)⟩
   case rest =>
    clear HC2;obtain ⟨kq, x11_1, rfl, HA, HJ1, ⟨mc1, rfl⟩⟩ := hcut;cases kq with
    | zero => exact absurd HA.out (by simp [F171.j1])
    | succ kj1 =>
     have H := HA.out;clear HA;simp only [F171.j1] at H;by_cases c5 : x11_1 = true
     ·subst c5;(have H1 : (if 0 ≤ x3_1 then (if x3_1 < (l0.length : Int) then (if (rd l0 x3_1) = 0 then (some (wrap64 (x3_1 + 1))) else (F171.l0 kj1 l0 (wrap64 (x3_1 + 1)))) else (none)) else (none)) = some r := by rw [if_pos rfl] at H; exact H);clear H;have H := H1;clear H1;replace H := zn H; obtain ⟨c6, H⟩ := H;have c6b0 := decide_eq_true c6;clear c6;replace H := zn H; obtain ⟨c7, H⟩ := H;have c7b0 := decide_eq_true c7;clear c7;by_cases c8 : (rd l0 x3_1) = 0
      ·rw [if_pos c8] at H;have c8b0 := beq_iff_eq.mpr c8;have c8b1 := bne_eq_false_iff_eq.mpr c8;clear c8;obtain rfl := Option.some.inj H;have p549 : 0 ≤ (x3_1 : Int) := of_decide_eq_true zs0;have q549 : x3_1 < (l0.length : Int) := of_decide_eq_true zs0;obtain ⟨ad549, e549, hx549_0⟩ := Kd.at_int HR0.out x3_1 p549 q549;cases e549;replace p549 := eq_true p549;replace q549 := eq_true q549;go_wp2;go_ret;exact ⟨by first | rfl | (simp; done) | (simp [*]; done), by repeat (first | exact D0w.refl _ | apply D0w.step)⟩
      ·rw [if_neg c8] at H;have c8b0 := beq_eq_false_iff_ne.mpr c8;have c8b1 := bne_iff_ne.mpr c8;have H':=zM H;clear H;have p549 : 0 ≤ (x3_1 : Int) := of_decide_eq_true zs0;have q549 : x3_1 < (l0.length : Int) := of_decide_eq_true zs0;obtain ⟨ad549, e549, hx549_0⟩ := Kd.at_int HR0.out x3_1 p549 q549;cases e549;replace p549 := eq_true p549;replace q549 := eq_true q549;go_wp2;go_roundg kj1
       case measure => have := HK1.out; have := HJ1.out; omega
       case rel => exact ⟨(wrap64 (x3_1 + 1)), zs7, H', ⟨by have := HK1.out; have := HJ1.out; omega⟩, by repeat (first | exact D0w.refl _ | apply D0w.step)⟩
     ·replace c5 := Bool.eq_false_iff.mpr c5;subst c5;(have H1 : (some (-1)) = some r := by rw [if_neg (show ¬ (false = true) by decide)] at H; exact H);clear H;have H := H1;clear H1;obtain rfl := Option.some.inj H;go_wp2;go_ret;exact ⟨by first | rfl | (simp; done) | (simp [*]; done), by repeat (first | exact D0w.refl _ | apply D0w.step)⟩
def F155.f (k : Nat) (l0 : List Int) : Option (List Int) := (F28.f k l0).bind fun t550 => (if t550 = true then ((F171.f k l0).bind fun t551 => ((F170.f k l0 t551).bind fun t552 => (some t552))) else (some (([] : List Int))))
theorem F155.mono : ∀ a0 k, LeO (F155.f k a0) (F155.f (k + 1) a0) := by
 intro a0 k;unfold F155.f;have := @F171.mono; have := @F28.mono; have := @F170.mono; exact zm
theorem F155.calls (k : Nat) (A0 : Option Addr) (c0 : Nat) (l0 : List Int) (r : List Int) (w : World) (hr0 : Kd.C (Kd.int .i64) w A0 l0.length l0) (hc0 : l0.length ≤ c0) (h : F155.f k l0 = some r) :
  Calls Tryz.prog 155 #[.slice A0 l0.length c0] w fun e w' => ∃ v0_ : Value, e = .returned (v0_) ∧ Kd.R (Kd.int .i64) 3 w' w.heap.size (fun _ => True) v0_ r ∧ Below w.heap.size w w' := by
 have HR0:=zM hr0;have HC0:=zM hc0;clear hr0 hc0;have HB:=zM (Below.refl w.heap.size w);have H : ((F28.f k l0).bind fun t550 => (if t550 = true then ((F171.f k l0).bind fun t551 => ((F170.f k l0 t551).bind fun t552 => (some t552))) else (some (([] : List Int))))) = some r := h;clear h;replace H := zb H; obtain ⟨t550, A2, H⟩ := H; (try dsimp only at H);by_cases c3 : t550 = true
 ·subst c3;(have H1 : ((F171.f k l0).bind fun t551 => ((F170.f k l0 t551).bind fun t552 => (some t552))) = some r := by rw [if_pos rfl] at H; exact H);clear H;have H := H1;clear H1;replace H := zb H; obtain ⟨t551, A4, H⟩ := H; (try dsimp only at H);replace H := zb H; obtain ⟨t552, A5, H⟩ := H; (try dsimp only at H);obtain rfl := Option.some.inj H;go_enter Tryz.func155, Tryz.ntmps155;go_wp2_with (first | (refine zg 28 (some 4) Tryz.func28 #[.slice A0 l0.length c0] ?_; (with_reducible refine (F28.calls k _ _ l0 true _ ?side1 ?side2 A2.out).mono ?_); (case side1 => exact (zs28 HR0)); (case side2 => exact HC0.out); rintro e w' ⟨rfl, ⟨nd, rfl⟩⟩; refine ⟨_, rfl, ?_⟩) | (refine zg 171 (some 9) Tryz.func171 #[.slice A0 l0.length c0] ?_; (with_reducible refine (F171.calls k _ _ l0 t551 _ ?side1 ?side2 A4.out).mono ?_); (case side1 => exact (zs28 HR0)); (case side2 => exact HC0.out); rintro e w' ⟨rfl, ⟨nd, rfl⟩⟩; refine ⟨_, rfl, ?_⟩) | (refine zg 170 (some 10) Tryz.func170 #[.slice A0 l0.length c0, .int .i64 t551] ?_; (with_reducible refine (F170.calls k _ _ l0 t551 t552 _ ?side1 ?side2 A5.out).mono ?_); (case side1 => exact (zs28 HR0)); (case side2 => exact HC0.out); rintro e w6 ⟨v553, rfl, ho0, hb⟩; refine ⟨_, rfl, ?_⟩; have HO554:=zM (Kd.Rl ho0 (bZ (zs3 HB))); replace HB:=zM (bS (zs3 HB) hb); clear hb ho0));go_ret;exact ⟨_, zs6, (zs5 HO554), (zs3 HB)⟩
 ·replace c3 := Bool.eq_false_iff.mpr c3;subst c3;(have H1 : (some (([] : List Int))) = some r := by rw [if_neg (show ¬ (false = true) by decide)] at H; exact H);clear H;have H := H1;clear H1;obtain ⟨y555, hy555⟩ : ∃ y_ : List Int, y_ = (([] : List Int)) := ⟨_, rfl⟩;(replace H : (some y555) = some r := by first | (rw [hy555]; with_reducible exact H) | (have H2_ := (Option.bind_some _ _).symm.trans H; rw [hy555]; with_reducible exact H2_) | (have H2_ := (Option.bind_some _ _).symm.trans H; with_reducible exact H2_) | with_reducible exact H | (rw [hy555]; exact H) | exact H);have Ny555:=zM hy555;clear hy555;obtain rfl := Option.some.inj H;go_enter Tryz.func155, Tryz.ntmps155;go_wp2_with (first | (refine zg 28 (some 4) Tryz.func28 #[.slice A0 l0.length c0] ?_; (with_reducible refine (F28.calls k _ _ l0 false _ ?side1 ?side2 A2.out).mono ?_); (case side1 => exact (zs28 HR0)); (case side2 => exact HC0.out); rintro e w' ⟨rfl, ⟨nd, rfl⟩⟩; refine ⟨_, rfl, ?_⟩) | ((with_reducible refine gD (N := 6) rfl ?_); refine Kd.R_lit (Kd.int .i64) _ 3 zs1 (N := 6) zs1 (xs := ([] : List Int)) (inner := []) (ok := fun _ => True) (okp := fun _ => True) zs2 ?hp (fun _ hk => hk) trivial (Below.refl _ _) (Nat.le_refl _) (by simp) ?_; (case hp => exact (Reps.none _ _)); intro v556 w7 ho8 hb hg_ hnew_; clear hg_ hnew_; (first | rw [← Ny555.out] at ho8 | (simp only [Int.reduceToNat] at ho8; rw [← Ny555.out] at ho8)); have HO557:=zM (Kd.Rl ho8 (bZ (zs3 HB))); replace HB:=zM (bS (zs3 HB) hb); clear hb ho8));go_ret;exact ⟨_, zs6, (zs5 HO557), (zs3 HB)⟩
def F129.f (k : Nat) (l0 : List Int) : Option (List Int) := (F155.f k l0).bind fun t558 => ((F79.f k l0 t558).bind fun bt561 => (some bt561.1))
theorem F129.mono : ∀ a0 k, LeO (F129.f k a0) (F129.f (k + 1) a0) := by
 intro a0 k;unfold F129.f;have := @F155.mono; have := @F79.mono; exact zm
theorem F129.calls (k : Nat) (A0 : Option Addr) (c0 : Nat) (l0 : List Int) (r : List Int) (w : World) (hr0 : Kd.C (Kd.int .i64) w A0 l0.length l0) (hc0 : l0.length ≤ c0) (h : F129.f k l0 = some r) :
  Calls Tryz.prog 129 #[.slice A0 l0.length c0] w fun e w' => ∃ v0_ : Value, e = .returned (v0_) ∧ Kd.R (Kd.int .i64) 3 w' w.heap.size (fun _ => True) v0_ r ∧ Below w.heap.size w w' := by
 have HR0:=zM hr0;have HC0:=zM hc0;clear hr0 hc0;have HB:=zM (Below.refl w.heap.size w);have H : ((F155.f k l0).bind fun t558 => ((F79.f k l0 t558).bind fun bt561 => (some bt561.1))) = some r := h;clear h;replace H := zb H; obtain ⟨t558, A2, H⟩ := H; (try dsimp only at H);replace H := zb H; obtain ⟨⟨t561, t562⟩, A3, H⟩ := H; (try dsimp only at H);obtain rfl := Option.some.inj H;go_enter Tryz.func129, Tryz.ntmps129;go_wp2_with (first | (refine zg 155 (some 8) Tryz.func155 #[.slice A0 l0.length c0] ?_; (with_reducible refine (F155.calls k _ _ l0 t558 _ ?side1 ?side2 A2.out).mono ?_); (case side1 => exact (zs28 HR0)); (case side2 => exact HC0.out); rintro e w4 ⟨v559, rfl, ho0, hb⟩; refine ⟨_, rfl, ?_⟩; have HO560:=zM (Kd.Rl ho0 (bZ (zs3 HB))); replace HB:=zM (bS (zs3 HB) hb); clear hb ho0; obtain ⟨Ao5, co5, eo5⟩ := Kd.Rs HO560.out; subst eo5) | (refine zg 79 (some 9) Tryz.func79 #[.slice A0 l0.length c0, .slice Ao5 t558.length co5] ?_; (with_reducible refine (F79.calls k _ _ l0 _ _ t558 t561 t562 _ ?side1 ?side2 ?side3 ?side4 A3.out).mono ?_); (case side1 => exact (zs20 HR0 HB)); (case side2 => exact HC0.out); (case side3 => exact (zs22 HO560)); (case side4 => exact (Kd.rr' HO560.out).2.1); rintro e w6 ⟨v563, rfl, ho0, hb⟩; refine ⟨_, rfl, ?_⟩; have HO564:=zM (Kd.Rl (Kd.R_new' ho0 (Kd.R_lt (zs5 HO560))) (bZ (zs3 HB))); replace HO560:=zM (Kd.R_elder' (zs5 HO560) (Kd.R_base ho0) hb); replace HB:=zM (bS (zs3 HB) hb); clear hb ho0));go_ret;exact ⟨_, zs6, (zs13 HO564), (zs3 HB)⟩
attribute [local go_sem high] eqA39
def F87.j0 : Nat → List Int → List Int → Bool → Int → Int → Int → Option (List Int)
 | 0, _, _, _, _, _, _ => none
 | k + 1, x0, x5, x9, x566000, x566001, x566002 => if x9 = true then (if 0 ≤ (wrap64 (x566001 - 1)) then (if (wrap64 (x566001 - 1)) < (x5.length : Int) then (some (x5.set ((wrap64 (x566001 - 1)) : Int).toNat x566002)) else (none)) else (none)) else (if (x566000 == 1 && (x566002 == 0)) = true then (if x5.length < 17592186044416 then (some (x5 ++ [x566001])) else (none)) else (if (x566000 == 2 && (x566001 == 0 && (x566002 == 0))) = true then (if 0 ≤ (wrap64 ((x5.length : Int) - 1)) then (if (wrap64 ((x5.length : Int) - 1)) ≤ (x5.length : Int) then (some (x5.take ((wrap64 ((x5.length : Int) - 1)) : Int).toNat)) else (none)) else (none)) else (if (x566000 == 3 && (x566001 == 0 && (x566002 == 0))) = true then ((F128.f k x0).bind fun t580 => (some t580)) else (if (x566000 == 4 && (x566001 == 0 && (x566002 == 0))) = true then ((F129.f k x0).bind fun t583 => (some t583)) else (some (([] : List Int)))))))
def F87.f (k : Nat) (l0 : List Int) (a1_0 : Int) (a1_1 : Int) (a1_2 : Int) : Option (List Int) := (some (([] : List Int) : List Int)).bind fun y566 => (if y566.length + l0.length < 17592186044416 then ((some (y566 ++ l0 : List Int)).bind fun y569 => (if a1_0 = 0 then ((F49.f a1_1 1 (l0.length : Int)).bind fun t572 => (F87.j0 k l0 y569 t572 a1_0 a1_1 a1_2)) else (F87.j0 k l0 y569 false a1_0 a1_1 a1_2))) else (none))
theorem F87.ml : ∀ k, (∀ y0 y1 y2 y3 y4 y5, LeO (F87.j0 k y0 y1 y2 y3 y4 y5) (F87.j0 (k + 1) y0 y1 y2 y3 y4 y5))
 | 0 => fun _ _ _ _ _ _ r h => by simp [F87.j0] at h
 | k + 1 => by
  have ih0 := F87.ml k
  ·intro y0 y1 y2 y3 y4 y5
   unfold F87.j0
   have := @F128.mono; have := @F129.mono; exact zm
theorem F87.mono : ∀ a0 a1 a2 a3 k, LeO (F87.f k a0 a1 a2 a3) (F87.f (k + 1) a0 a1 a2 a3) := by
 intro a0 a1 a2 a3 k;have ih0 := F87.ml k;unfold F87.f;have := @F128.mono; have := @F129.mono; exact zm
theorem F87.calls (k : Nat) (A0 : Option Addr) (c0 : Nat) (l0 : List Int) (a1_0 : Int) (a1_1 : Int) (a1_2 : Int) (r : List Int) (w : World) (hr0 : Kd.C (Kd.int .i64) w A0 l0.length l0) (hc0 : l0.length ≤ c0) (h : F87.f k l0 a1_0 a1_1 a1_2 = some r) :
  Calls Tryz.prog 87 #[.slice A0 l0.length c0, .agg #[.int .i64 a1_0, .int .i64 a1_1, .int .i64 a1_2]] w fun e w' => ∃ v0_ : Value, e = .returned (v0_) ∧ Kd.R (Kd.int .i64) 3 w' w.heap.size (fun _ => True) v0_ r ∧ Below w.heap.size w w' := by
 have hu39 := Tryz.underlying39;have HR0:=zM hr0;have HC0:=zM hc0;clear hr0 hc0;have HB:=zM (Below.refl w.heap.size w);have H : ((some (([] : List Int) : List Int)).bind fun y566 => (if y566.length + l0.length < 17592186044416 then ((some (y566 ++ l0 : List Int)).bind fun y569 => (if a1_0 = 0 then ((F49.f a1_1 1 (l0.length : Int)).bind fun t572 => (F87.j0 k l0 y569 t572 a1_0 a1_1 a1_2)) else (F87.j0 k l0 y569 false a1_0 a1_1 a1_2))) else (none))) = some r := h;clear h;replace H := zy H; obtain ⟨y566, Ny566, H⟩ := H; (try dsimp only at H);replace H := zn H; obtain ⟨c3, H⟩ := H;have LMc3:=zM c3;clear c3;replace H := zy H; obtain ⟨y569, Ny569, H⟩ := H; (try dsimp only at H);have HC4:=zM H;clear H;go_enter Tryz.func87, Tryz.ntmps87;go_upto_region 2 with (first | ((with_reducible refine gD (N := 3) rfl ?_); (try (refine gG (by rfl) ?_; dsimp only)); refine bX zs1 (N := 3) zs1 (cs := #[.int .i64 a1_0, .int .i64 a1_1, .int .i64 a1_2]) (t := 39) zs2 ?_; intro gb565 hg w5 hbox hb; have BK565:=zM (hbox); have GW565 := zg1 (zs3 HB) hg; have GE565 := zg1 (zs3 HB) hg; replace HB:=zM (bS (zs3 HB) hb); clear hb hbox hg) | ((with_reducible refine gD (N := 6) rfl ?_); (try (refine gG (by rfl) ?_; dsimp only)); refine Kd.R_lit (Kd.int .i64) _ 3 zs1 (N := 6) zs1 (xs := ([] : List Int)) (inner := []) (ok := fun _ => True) (okp := fun _ => True) zs2 ?hp (fun _ hk => hk) trivial (Below.refl _ _) (Nat.le_refl _) (by simp) ?_; (case hp => exact (Reps.none _ _)); intro v567 w6 ho7 hb hg_ hnew_; clear hg_ hnew_; (first | rw [← Ny566.out] at ho7 | (simp only [Int.reduceToNat] at ho7; rw [← Ny566.out] at ho7)); have HO568:=zM (Kd.Rl ho7 (bZ (zs4 HB GE565))); replace BK565 := zb1 BK565 hb; replace HB:=zM (bS (zs4 HB GE565) hb); clear hb ho7) | ((with_reducible refine gB (b := .append) (xs := #[.tmp 6, .tmp 7]) rfl ?_); (try (refine gG (by rfl) ?_; dsimp only)); at_builtin; refine Kd.R_append_rows (Kd.int .i64) (w0 := w) w.heap.size rfl (.tmp 6) (.tmp 7) 28 3 (.int .i64 0) 8 rfl Tryz.underlying28 info3 rfl zd zo_ v567 y566 l0 _ _ _ (fun _ => True) (fun _ => False) rfl rfl ?aO ?aR (fun _ _ h => h) (fun _ h => h.elim) ?aF ?aB ?aS ?aL ?_; (case aR => repeat (first | exact (Kd.Cb HR0.out HB.out) | (with_reducible refine Kd.C_alloc ?_ _) | (with_reducible refine Kd.C_drewN ?_ _) | (with_reducible refine Kd.C_drew ?_))); (case aB => exact (zs4 HB GE565)); (case aF => exact (fun _ _ => trivial)); (case aO => exact (zs5 HO568)); (case aS => exact (bZ (zs4 HB GE565))); (case aL => have := LMc3.out; omega); intro v570 w8 ho hb hg hat; rw [← Ny569.out] at ho; replace BK565:=zM (blk_grown (g := gb565) (o := .cells #[.int .i64 a1_0, .int .i64 a1_1, .int .i64 a1_2] 39 (0, 0)) (zs23 BK565) hg (Kd.R_ne HO568.out BK565.out zd)); replace HB:=zM (hb); have HO571:=zM (ho); clear HO568; clear ho hb hg hat));(try simp only [Act.put, zE, zF, zG]);go_cut [9] (fun v9 wc => ∃ (kq : Nat) (x9_3 : Bool), v9 = .bool x9_3 ∧ Qo (F87.j0 kq l0 y569 x9_3 a1_0 a1_1 a1_2 = some r) ∧ Qo (kq ≤ k) ∧ Qo (Kd.R (Kd.int .i64) 3 wc w.heap.size (fun _ => True) v570 y569) ∧ Qo (wc.heap[gb565]? = some (.cells #[.int .i64 a1_0, .int .i64 a1_1, .int .i64 a1_2] 39 (0, 0))) ∧ Qo (Below w.heap.size w wc))
 case first =>
  have H := HC4.out;clear HC4;by_cases c9 : a1_0 = 0
  ·rw [if_pos c9] at H;have c9b0 := beq_iff_eq.mpr c9;have c9b1 := bne_eq_false_iff_eq.mpr c9;clear c9;(first | rw [c9b0] | (simp only [i64_w, i32_w]; rw [c9b0]) | skip);replace H := zb H; obtain ⟨t572, A10, H⟩ := H; (try dsimp only at H);have H':=zM H;clear H;have hcz11_0 := cz0 BK565.out;have hcz11_1 := cz1 BK565.out;have hcz11_2 := cz2 BK565.out;have hfz11_0 := bF BK565.out 0;have hfz11_1 := bF BK565.out 1;have hfz11_2 := bF BK565.out 2;go_wp2_with (first | (go_at_call 49; (with_reducible refine (F49.calls a1_1 1 (l0.length : Int) t572 _ A10.out).mono ?_); rintro e w' ⟨rfl, ⟨nd, rfl⟩⟩));go_meet
   case rel => exact ⟨_, (t572), zs7, H', ⟨zs8⟩, ⟨(zs5 HO571)⟩, ⟨by exact BK565.out⟩, ⟨(zs4 HB GE565)⟩⟩
  ·rw [if_neg c9] at H;have c9b0 := beq_eq_false_iff_ne.mpr c9;have c9b1 := bne_iff_ne.mpr c9;(first | rw [c9b0] | (simp only [i64_w, i32_w]; rw [c9b0]) | skip);have H':=zM H;clear H;have hcz12_0 := cz0 BK565.out;have hcz12_1 := cz1 BK565.out;have hcz12_2 := cz2 BK565.out;have hfz12_0 := bF BK565.out 0;have hfz12_1 := bF BK565.out 1;have hfz12_2 := bF BK565.out 2;go_wp2;go_meet
   case rel => exact ⟨_, (false), zs7, H', ⟨zs8⟩, ⟨(zs5 HO571)⟩, ⟨by exact BK565.out⟩, ⟨(zs4 HB GE565)⟩⟩
 case rest =>
  clear HC4;obtain ⟨kq, x9_3, rfl, HA, HJ3, HO_5, BK565, HB⟩ := hcut;cases kq with
  | zero => exact absurd HA.out (by simp [F87.j0])
  | succ kj3 =>
   have H := HA.out;clear HA;simp only [F87.j0] at H;by_cases c13 : x9_3 = true
   ·subst c13;(have H1 : (if 0 ≤ (wrap64 (a1_1 - 1)) then (if (wrap64 (a1_1 - 1)) < (y569.length : Int) then (some (y569.set ((wrap64 (a1_1 - 1)) : Int).toNat a1_2)) else (none)) else (none)) = some r := by rw [if_pos rfl] at H; exact H);clear H;have H := H1;clear H1;obtain ⟨ji14, hji14⟩ : ∃ j_ : Int, (wrap64 (a1_1 - 1)) = j_ := ⟨_, rfl⟩;(replace H : (if 0 ≤ (ji14) then (if (ji14) < (y569.length : Int) then (some (y569.set ((ji14) : Int).toNat a1_2)) else (none)) else (none)) = some r := by first | (rw [hji14] at H; exact H) | (simp only [hji14] at H ⊢; exact H));have hji14w : (IntKind.i64.wrap (a1_1 - 1)) = ji14 := (i64_w _).trans hji14;replace H := zn H; obtain ⟨c15, H⟩ := H;have c15b0 := decide_eq_true c15;clear c15;replace H := zn H; obtain ⟨c16, H⟩ := H;have c16b0 := decide_eq_true c16;clear c16;obtain ⟨y573, hy573⟩ : ∃ y_ : List Int, y_ = (y569.set ((ji14) : Int).toNat a1_2) := ⟨_, rfl⟩; rw [← hy573] at H; have Ny573:=zM hy573; clear hy573;obtain rfl := Option.some.inj H;have hcz18_0 := cz0 BK565.out;have hcz18_1 := cz1 BK565.out;have hcz18_2 := cz2 BK565.out;have hfz18_0 := bF BK565.out 0;have hfz18_1 := bF BK565.out 1;have hfz18_2 := bF BK565.out 2;have p17 : 0 ≤ ((ji14) : Int) := of_decide_eq_true zs0;have q17 : ((ji14) : Int) < ((y569.length : Int) : Int) := of_decide_eq_true zs0;obtain ⟨go17, co17, eo17, gb17, gl17, cl17, HG17⟩ := Kd.R_form HO_5.out zo_;(first | cases eo17 | (injection eo17 with ea_ en_ ec_; (first | subst ea_ | (injection ea_ with ea_; subst ea_)); subst ec_; clear en_));have GB17:=zM gb17;have GG17:=zM HG17;clear gb17 gl17 HG17;obtain ⟨hx17_0, hf17_0⟩ := Kd.R_celln 0 HO_5.out ((ji14) : Int) p17 q17;replace p17 := eq_true p17;replace q17 := eq_true q17;have HP19 := Kd.R_putg HO_5.out ((ji14) : Int) a1_2;go_wp2_with (first | ((with_reducible refine gate_store (t := 3) (p := 26) rfl ?_); refine store_event (t := 3) (p := 26) (v := ?vo_w20) (w1 := (wc.setCell ⟨go17, ((ji14) : Int).toNat, none⟩ (.int .i64 a1_2))) ?hg ?ho ?hn ?hr ?_; (case ho => rfl); (case hg => rfl); (case hn => rfl); (case hr => first | (go_simp; done) | (go_simp; rfl)); intro w20 hw; have hg : wc.grownBy w20 (some go17) := (by rw [hw]; exact HP19.2); have hp_ : Kd.R (Kd.int .i64) 3 w20 w.heap.size (fun _ => True) (.slice (some ⟨go17, 0, none⟩) y569.length co17) y573 := (by rw [hw, Ny573.out]; exact HP19.1); clear HP19; replace BK565:=zM (blk_grown (g := gb565) (o := .cells #[.int .i64 a1_0, .int .i64 a1_1, .int .i64 a1_2] 39 (0, 0)) (zs23 BK565) hg (Kd.R_ne HO_5.out BK565.out zd)); replace HO_5:=zM (hp_); replace HB:=zM ((by rw [hw]; exact zD (HB.out) GB17.out : Below w.heap.size w w20)); clear hg hw hp_));go_ret;(exact ⟨_, by first | rfl | (simp [eN, eS] <;> rfl) | (simp only [← hji14]; first | rfl | (simp [eN, eS] <;> rfl)) | (simp [*, eN, eS] <;> rfl), (zs5 HO_5), (zs4 HB GE565)⟩)
   ·replace c13 := Bool.eq_false_iff.mpr c13;subst c13;(have H1 : (if (a1_0 == 1 && (a1_2 == 0)) = true then (if y569.length < 17592186044416 then (some (y569 ++ [a1_1])) else (none)) else (if (a1_0 == 2 && (a1_1 == 0 && (a1_2 == 0))) = true then (if 0 ≤ (wrap64 ((y569.length : Int) - 1)) then (if (wrap64 ((y569.length : Int) - 1)) ≤ (y569.length : Int) then (some (y569.take ((wrap64 ((y569.length : Int) - 1)) : Int).toNat)) else (none)) else (none)) else (if (a1_0 == 3 && (a1_1 == 0 && (a1_2 == 0))) = true then ((F128.f kj3 l0).bind fun t580 => (some t580)) else (if (a1_0 == 4 && (a1_1 == 0 && (a1_2 == 0))) = true then ((F129.f kj3 l0).bind fun t583 => (some t583)) else (some (([] : List Int))))))) = some r := by rw [if_neg (show ¬ (false = true) by decide)] at H; exact H);clear H;have H := H1;clear H1;by_cases c21 : (a1_0 == 1 && (a1_2 == 0)) = true
    ·rw [if_pos c21] at H;have c21b0 : (a1_0 == 1 && (a1_2 == 0)) = true := c21;(try (have c21b1 : decide (a1_0 = 1 && (a1_2 == 0)) = true := by simpa using c21));(try (have c21b2 : (a1_0 == 1 && (a1_2 == 0)) = true := by simpa using c21));clear c21;replace H := zn H; obtain ⟨c22, H⟩ := H;have LMc22:=zM c22;clear c22;obtain ⟨y574, hy574⟩ : ∃ y_ : List Int, y_ = (y569 ++ [a1_1]) := ⟨_, rfl⟩;(replace H : (some y574) = some r := by first | (rw [hy574]; with_reducible exact H) | (have H2_ := (Option.bind_some _ _).symm.trans H; rw [hy574]; with_reducible exact H2_) | (have H2_ := (Option.bind_some _ _).symm.trans H; with_reducible exact H2_) | with_reducible exact H | (rw [hy574]; exact H) | exact H);have Ny574:=zM hy574;clear hy574;obtain rfl := Option.some.inj H;have hcz23_0 := cz0 BK565.out;have hcz23_1 := cz1 BK565.out;have hcz23_2 := cz2 BK565.out;have hfz23_0 := bF BK565.out 0;have hfz23_1 := bF BK565.out 1;have hfz23_2 := bF BK565.out 2;go_wp2_with (first | ((with_reducible refine gB (b := .append) (xs := #[.tmp 34, .tmp 37]) rfl ?_); (try (refine gG (by rfl) ?_; dsimp only)); at_builtin; refine Kd.R_append (Kd.int .i64) (w0 := w) w.heap.size rfl (.tmp 34) (.tmp 37) 28 3 (.int .i64 0) 8 rfl Tryz.underlying28 info3 rfl zd zo_ v570 y569 a1_1 [.int .i64 a1_1] (fun _ => True) (fun _ => False) rfl rfl ?aP (fun _ hk => hk.elim) ?aF ?aO ?aB ?aS ?aL ?_; (case aP => exact rfl); (case aB => exact (zs4 HB GE565)); (case aF => exact (fun _ _ => trivial)); (case aO => exact (zs5 HO_5)); (case aS => exact (bZ (zs4 HB GE565))); (case aL => have := LMc22.out; omega); intro v575 w24 ho hb hg hat; rw [← Ny574.out] at ho; replace BK565:=zM (blk_grown (g := gb565) (o := .cells #[.int .i64 a1_0, .int .i64 a1_1, .int .i64 a1_2] 39 (0, 0)) (zs23 BK565) hg (Kd.R_ne HO_5.out BK565.out zd)); replace HB:=zM (hb); have HO576:=zM (ho); clear HO_5; clear ho hb hg hat));go_ret;exact ⟨_, zs6, (zs5 HO576), (zs4 HB GE565)⟩
    ·rw [if_neg c21] at H;(have c21b0 : (a1_0 == 1 && (a1_2 == 0)) = false := by simpa using c21);(try (have c21b1 : decide (a1_0 = 1 && (a1_2 == 0)) = false := by simpa using c21));(try (have c21b2 : (a1_0 == 1 && (a1_2 == 0)) = false := by simpa using c21));(try (have c21b3 : ¬ (a1_0 = 1 && (a1_2 == 0)) := by simpa using c21));clear c21;by_cases c25 : (a1_0 == 2 && (a1_1 == 0 && (a1_2 == 0))) = true
     ·rw [if_pos c25] at H;have c25b0 : (a1_0 == 2 && (a1_1 == 0 && (a1_2 == 0))) = true := c25;(try (have c25b1 : decide (a1_0 = 2 && (a1_1 == 0 && (a1_2 == 0))) = true := by simpa using c25));(try (have c25b2 : (a1_0 == 2 && (a1_1 == 0 && (a1_2 == 0))) = true := by simpa using c25));clear c25;obtain ⟨ji26, hji26⟩ : ∃ j_ : Int, (wrap64 ((y569.length : Int) - 1)) = j_ := ⟨_, rfl⟩;(replace H : (if 0 ≤ (ji26) then (if (ji26) ≤ (y569.length : Int) then (some (y569.take ((ji26) : Int).toNat)) else (none)) else (none)) = some r := by first | (rw [hji26] at H; exact H) | (simp only [hji26] at H ⊢; exact H));have hji26w : (IntKind.i64.wrap ((y569.length : Int) - 1)) = ji26 := (i64_w _).trans hji26;replace H := zn H; obtain ⟨c27, H⟩ := H;have c27b0 := eq_true c27;have c27b1 := decide_eq_true c27;clear c27;replace H := zn H; obtain ⟨c28, H⟩ := H;have c28b0 := eq_true c28;have c28b1 := decide_eq_true c28;clear c28;obtain ⟨y577, hy577⟩ : ∃ y_ : List Int, y_ = (y569.take ((ji26) : Int).toNat) := ⟨_, rfl⟩; rw [← hy577] at H; have Ny577:=zM hy577; clear hy577;obtain rfl := Option.some.inj H;have hcz29_0 := cz0 BK565.out;have hcz29_1 := cz1 BK565.out;have hcz29_2 := cz2 BK565.out;have hfz29_0 := bF BK565.out 0;have hfz29_1 := bF BK565.out 1;have hfz29_2 := bF BK565.out 2;obtain ⟨Ao30, co30, eo30⟩ := Kd.Rs HO_5.out;subst eo30;have q31 : ((ji26) : Int) ≤ ((y569.length : Int) : Int) := of_decide_eq_true zs0;obtain ⟨i031, hi031, _, hsz31, _⟩ := info_parts info3;have hcut31 := cut_to (P := Tryz.prog) 28 3 .i64 Tryz.underlying28 hi031 Ao30 y569.length co30 (ji26) (of_decide_eq_true zs0) q31 (Kd.rr' HO_5.out).2.1;have hr31 := Kd.R_take (m := ((ji26) : Int).toNat) HO_5.out zo_;have hy31 : y577.length = ((ji26) : Int).toNat := (by rw [Ny577.out, List.length_take]; omega);rw [← Ny577.out] at hr31;rw [← hy31] at hr31 hcut31;clear hy31 hi031 hsz31 HO_5;have HO579:=zM hr31;clear hr31;replace q31 := eq_true q31;go_wp2;go_ret;(exact ⟨_, by first | rfl | (simp [eN, eS] <;> rfl) | (simp only [← hji26]; first | rfl | (simp [eN, eS] <;> rfl)) | (simp [*, eN, eS] <;> rfl), (zs5 HO579), (zs4 HB GE565)⟩)
     ·rw [if_neg c25] at H;(have c25b0 : (a1_0 == 2 && (a1_1 == 0 && (a1_2 == 0))) = false := by simpa using c25);(try (have c25b1 : decide (a1_0 = 2 && (a1_1 == 0 && (a1_2 == 0))) = false := by simpa using c25));(try (have c25b2 : (a1_0 == 2 && (a1_1 == 0 && (a1_2 == 0))) = false := by simpa using c25));(try (have c25b3 : ¬ (a1_0 = 2 && (a1_1 == 0 && (a1_2 == 0))) := by simpa using c25));clear c25;by_cases c32 : (a1_0 == 3 && (a1_1 == 0 && (a1_2 == 0))) = true
      ·rw [if_pos c32] at H;have c32b0 : (a1_0 == 3 && (a1_1 == 0 && (a1_2 == 0))) = true := c32;(try (have c32b1 : decide (a1_0 = 3 && (a1_1 == 0 && (a1_2 == 0))) = true := by simpa using c32));(try (have c32b2 : (a1_0 == 3 && (a1_1 == 0 && (a1_2 == 0))) = true := by simpa using c32));clear c32;replace H := zb H; obtain ⟨t580, A33, H⟩ := H; (try dsimp only at H);obtain rfl := Option.some.inj H;have hcz34_0 := cz0 BK565.out;have hcz34_1 := cz1 BK565.out;have hcz34_2 := cz2 BK565.out;have hfz34_0 := bF BK565.out 0;have hfz34_1 := bF BK565.out 1;have hfz34_2 := bF BK565.out 2;go_wp2_with (first | (refine zg 128 (some 53) Tryz.func128 #[.slice A0 l0.length c0] ?_; (with_reducible refine (F128.calls kj3 _ _ l0 t580 _ ?side1 ?side2 A33.out).mono ?_); (case side1 => exact (zs20 HR0 HB)); (case side2 => exact HC0.out); rintro e w35 ⟨v581, rfl, ho0, hb⟩; refine ⟨_, rfl, ?_⟩; have HO582:=zM (Kd.Rl (Kd.R_new' ho0 (Kd.R_lt (zs5 HO_5))) (bZ (zs4 HB GE565))); replace HO_5:=zM (Kd.R_elder' (zs5 HO_5) (Kd.R_base ho0) hb); replace BK565 := zb1 BK565 hb; replace HB:=zM (bS (zs4 HB GE565) hb); clear hb ho0));go_ret;exact ⟨_, zs6, (zs13 HO582), (zs4 HB GE565)⟩
      ·rw [if_neg c32] at H;(have c32b0 : (a1_0 == 3 && (a1_1 == 0 && (a1_2 == 0))) = false := by simpa using c32);(try (have c32b1 : decide (a1_0 = 3 && (a1_1 == 0 && (a1_2 == 0))) = false := by simpa using c32));(try (have c32b2 : (a1_0 == 3 && (a1_1 == 0 && (a1_2 == 0))) = false := by simpa using c32));(try (have c32b3 : ¬ (a1_0 = 3 && (a1_1 == 0 && (a1_2 == 0))) := by simpa using c32));clear c32;by_cases c36 : (a1_0 == 4 && (a1_1 == 0 && (a1_2 == 0))) = true
       ·rw [if_pos c36] at H;have c36b0 : (a1_0 == 4 && (a1_1 == 0 && (a1_2 == 0))) = true := c36;(try (have c36b1 : decide (a1_0 = 4 && (a1_1 == 0 && (a1_2 == 0))) = true := by simpa using c36));(try (have c36b2 : (a1_0 == 4 && (a1_1 == 0 && (a1_2 == 0))) = true := by simpa using c36));clear c36;replace H := zb H; obtain ⟨t583, A37, H⟩ := H; (try dsimp only at H);obtain rfl := Option.some.inj H;have hcz38_0 := cz0 BK565.out;have hcz38_1 := cz1 BK565.out;have hcz38_2 := cz2 BK565.out;have hfz38_0 := bF BK565.out 0;have hfz38_1 := bF BK565.out 1;have hfz38_2 := bF BK565.out 2;go_wp2_with (first | (refine zg 129 (some 59) Tryz.func129 #[.slice A0 l0.length c0] ?_; (with_reducible refine (F129.calls kj3 _ _ l0 t583 _ ?side1 ?side2 A37.out).mono ?_); (case side1 => exact (zs20 HR0 HB)); (case side2 => exact HC0.out); rintro e w39 ⟨v584, rfl, ho0, hb⟩; refine ⟨_, rfl, ?_⟩; have HO585:=zM (Kd.Rl (Kd.R_new' ho0 (Kd.R_lt (zs5 HO_5))) (bZ (zs4 HB GE565))); replace HO_5:=zM (Kd.R_elder' (zs5 HO_5) (Kd.R_base ho0) hb); replace BK565 := zb1 BK565 hb; replace HB:=zM (bS (zs4 HB GE565) hb); clear hb ho0));go_ret;exact ⟨_, zs6, (zs13 HO585), (zs4 HB GE565)⟩
       ·rw [if_neg c36] at H;(have c36b0 : (a1_0 == 4 && (a1_1 == 0 && (a1_2 == 0))) = false := by simpa using c36);(try (have c36b1 : decide (a1_0 = 4 && (a1_1 == 0 && (a1_2 == 0))) = false := by simpa using c36));(try (have c36b2 : (a1_0 == 4 && (a1_1 == 0 && (a1_2 == 0))) = false := by simpa using c36));(try (have c36b3 : ¬ (a1_0 = 4 && (a1_1 == 0 && (a1_2 == 0))) := by simpa using c36));clear c36;obtain ⟨y586, hy586⟩ : ∃ y_ : List Int, y_ = (([] : List Int)) := ⟨_, rfl⟩;(replace H : (some y586) = some r := by first | (rw [hy586]; with_reducible exact H) | (have H2_ := (Option.bind_some _ _).symm.trans H; rw [hy586]; with_reducible exact H2_) | (have H2_ := (Option.bind_some _ _).symm.trans H; with_reducible exact H2_) | with_reducible exact H | (rw [hy586]; exact H) | exact H);have Ny586:=zM hy586;clear hy586;obtain rfl := Option.some.inj H;have hcz40_0 := cz0 BK565.out;have hcz40_1 := cz1 BK565.out;have hcz40_2 := cz2 BK565.out;have hfz40_0 := bF BK565.out 0;have hfz40_1 := bF BK565.out 1;have hfz40_2 := bF BK565.out 2;go_wp2_with (first | ((with_reducible refine gD (N := 60) rfl ?_); (try (refine gG (by rfl) ?_; dsimp only)); refine Kd.R_lit (Kd.int .i64) _ 3 zs1 (N := 60) zs1 (xs := ([] : List Int)) (inner := []) (ok := fun _ => True) (okp := fun _ => True) zs2 ?hp (fun _ hk => hk) trivial (Below.refl _ _) (Nat.le_refl _) (by simp) ?_; (case hp => exact (Reps.none _ _)); intro v587 w41 ho42 hb hg_ hnew_; clear hg_ hnew_; (first | rw [← Ny586.out] at ho42 | (simp only [Int.reduceToNat] at ho42; rw [← Ny586.out] at ho42)); have HO588:=zM (Kd.Rl (Kd.R_new' ho42 (Kd.R_lt (zs5 HO_5))) (bZ (zs4 HB GE565))); replace HO_5:=zM (Kd.R_elder' (zs5 HO_5) (Kd.R_base ho42) hb); replace BK565 := zb1 BK565 hb; replace HB:=zM (bS (zs4 HB GE565) hb); clear hb ho42));go_ret;exact ⟨_, zs6, (zs13 HO588), (zs4 HB GE565)⟩
attribute [local go_sem high] eqA39
mutual
def F47.j0 : Nat → Bool → List Int → List (List Int) → Int → Int → Int → List Int → List (List Int) → Option (List Int × (List (List Int)) × Bool)
 | 0, _, _, _, _, _, _, _, _ => none
 | k + 1, x25, x590000, x590001, x591000, x591001, x591002, x600000, x600001 => if x25 = true then (if 0 ≤ (wrap64 ((x600001.length : Int) - 1)) then (if (wrap64 ((x600001.length : Int) - 1)) < (x600001.length : Int) then (some (rd_L4 x600001 (wrap64 ((x600001.length : Int) - 1)), x600001.take ((wrap64 ((x600001.length : Int) - 1))).toNat, true)) else (none)) else (none)) else ((F87.f k x590000 x591000 x591001 x591002).bind fun t601 => (F47.l0 k t601 ((t601.length : Int) == (x590000.length : Int)) 0 x590000 x590001 x600000 x600001))
def F47.j2 : Nat → List Int → Bool → List Int → List (List Int) → Option (List Int × (List (List Int)) × Bool)
 | 0, _, _, _, _ => none
 | k + 1, x8, x9, x600000, x600001 => if x9 = true then (F47.j3 k x8 true x600000 x600001) else ((F28.f k x8).bind fun t606 => (F47.j3 k x8 (!t606) x600000 x600001))
def F47.j3 : Nat → List Int → Bool → List Int → List (List Int) → Option (List Int × (List (List Int)) × Bool)
 | 0, _, _, _, _ => none
 | k + 1, x8, x76, x600000, x600001 => if x76 = true then (some (x600000, x600001, false)) else (if x600001.length < 5864062014805 then ((some (x600001 ++ [x600000] : List (List Int))).bind fun y607 => (if (y607.length : Int) > 8 then ((some (([] : List Int) : List Int)).bind fun y610 => (if y610.length + x8.length < 17592186044416 then (some ((y610 ++ x8), y607.drop 1, true)) else (none))) else ((some (([] : List Int) : List Int)).bind fun y616 => (if y616.length + x8.length < 17592186044416 then (some ((y616 ++ x8), y607, true)) else (none))))) else (none))
def F47.l0 : Nat → List Int → Bool → Int → List Int → List (List Int) → List Int → List (List Int) → Option (List Int × (List (List Int)) × Bool)
 | 0, _, _, _, _, _, _, _ => none
 | k + 1, x8, x9, x10, x590000, x590001, x600000, x600001 => if x10 < (x8.length : Int) then (if x9 = true then (if 0 ≤ x10 then (if x10 < (x590000.length : Int) then (F47.l0 k x8 ((rd x8 x10) == (rd x590000 x10)) (wrap64 (x10 + 1)) x590000 x590001 x600000 x600001) else (none)) else (none)) else (F47.j2 k x8 x9 x600000 x600001)) else (F47.j2 k x8 x9 x600000 x600001)
end
def F47.f (k : Nat) (l0_0 : List Int) (l0_1 : List (List Int)) (a1_0 : Int) (a1_1 : Int) (a1_2 : Int) : Option (List Int × (List (List Int)) × Bool) := (F9.f k l0_0 l0_1).bind fun t592 => (if t592 = true then ((F86.f k l0_0 l0_1).bind fun bt593 => (if (a1_0 == 5 && (a1_1 == 0 && (a1_2 == 0))) = true then (F47.j0 k (decide ((l0_1.length : Int) > 0)) l0_0 l0_1 a1_0 a1_1 a1_2 bt593.1 bt593.2) else (F47.j0 k false l0_0 l0_1 a1_0 a1_1 a1_2 bt593.1 bt593.2))) else (some (([] : List Int), ([] : List (List Int)), false)))
theorem F47.ml : ∀ k, (∀ y0 y1 y2 y3 y4 y5 y6 y7, LeO (F47.j0 k y0 y1 y2 y3 y4 y5 y6 y7) (F47.j0 (k + 1) y0 y1 y2 y3 y4 y5 y6 y7)) ∧ (∀ y0 y1 y2 y3, LeO (F47.j2 k y0 y1 y2 y3) (F47.j2 (k + 1) y0 y1 y2 y3)) ∧ (∀ y0 y1 y2 y3, LeO (F47.j3 k y0 y1 y2 y3) (F47.j3 (k + 1) y0 y1 y2 y3)) ∧ (∀ y0 y1 y2 y3 y4 y5 y6, LeO (F47.l0 k y0 y1 y2 y3 y4 y5 y6) (F47.l0 (k + 1) y0 y1 y2 y3 y4 y5 y6))
 | 0 => ⟨fun _ _ _ _ _ _ _ _ r h => by simp [F47.j0] at h, fun _ _ _ _ r h => by simp [F47.j2] at h, fun _ _ _ _ r h => by simp [F47.j3] at h, fun _ _ _ _ _ _ _ r h => by simp [F47.l0] at h⟩
 | k + 1 => by
  obtain ⟨ih0, ih1, ih2, ih3⟩ := F47.ml k
  refine ⟨?_, ?_, ?_, ?_⟩
  ·intro y0 y1 y2 y3 y4 y5 y6 y7
   unfold F47.j0
   have := @F9.mono; have := @F28.mono; have := @F86.mono; have := @F87.mono; exact zm
  ·intro y0 y1 y2 y3
   unfold F47.j2
   have := @F9.mono; have := @F28.mono; have := @F86.mono; have := @F87.mono; exact zm
  ·intro y0 y1 y2 y3
   unfold F47.j3
   have := @F9.mono; have := @F28.mono; have := @F86.mono; have := @F87.mono; exact zm
  ·intro y0 y1 y2 y3 y4 y5 y6
   unfold F47.l0
   have := @F9.mono; have := @F28.mono; have := @F86.mono; have := @F87.mono; exact zm
theorem F47.mono : ∀ a0 a1 a2 a3 a4 k, LeO (F47.f k a0 a1 a2 a3 a4) (F47.f (k + 1) a0 a1 a2 a3 a4) := by
 intro a0 a1 a2 a3 a4 k;obtain ⟨ih0, ih1, ih2, ih3⟩ := F47.ml k;unfold F47.f;have := @F9.mono; have := @F28.mono; have := @F86.mono; have := @F87.mono; exact zm
theorem zSV {α : Type} {d : Kd α} {e n n' : Nat} {ok : Nat → Prop} {W : World} {v : Value} {xs : List α} {P : Prop} (h : Kd.S d e W n ok v xs) : Kd.V d e W n' ok v xs ∧ (P → Kd.S d e W n ok v xs) := ⟨Kd.S_V h, fun _ => h⟩
section
set_option maxHeartbeats 8000000
set_option maxRecDepth 100000
structure ddF (w W : World) (x y : Array Value) : Prop where
 a : W.heap[w.heap.size]? = some (.cells x 31 (0, 0))
 d : W.heap[w.heap.size + 1]? = some (.cells y 39 (0, 0))
 r : W.heap[w.heap.size + 2]? = some (.cells #[.slice none 0 0, .slice none 0 0] 31 (0, 0))
 low : Below w.heap.size w W
theorem ddF.new (w : World) (x y : Array Value) : ddF w (((w.alloc (.cells x 31)).alloc (.cells y 39)).alloc (.cells #[.slice none 0 0, .slice none 0 0] 31)) x y := by
 refine ⟨bA (bA (heap_alloc_new w _) _) _, bA ?_ _, ?_, below_alloc (below_alloc (below_alloc (Below.refl _ _) _) _) _⟩
 ·have := heap_alloc_new (w.alloc (.cells x 31)) (.cells y 39); simpa using this
 ·have := heap_alloc_new ((w.alloc (.cells x 31)).alloc (.cells y 39)) (.cells #[.slice none 0 0, .slice none 0 0] 31); simpa using this
theorem ddF.lt {w W : World} {x y : Array Value} (h : ddF w W x y) : w.heap.size + 2 < W.heap.size := blk_lt h.r
theorem ddF.below {w W W' : World} {x y : Array Value} (h : ddF w W x y) (hb : Below W.heap.size W W') : ddF w W' x y :=
 ⟨bB h.a hb, bB h.d hb, bB h.r hb, h.low.trans (hb.mono h.low.size)⟩
theorem ddF.far {w W : World} {x y : Array Value} (h : ddF w W x y) {g : Nat} (hg : w.heap.size + 2 < g) (j : Nat) (u : Value) : ddF w (W.setCell ⟨g, j, none⟩ u) x y :=
 ⟨bR h.a (by show w.heap.size ≠ g; omega) _, bR h.d (by show w.heap.size + 1 ≠ g; omega) _, bR h.r (by show w.heap.size + 2 ≠ g; omega) _, h.low.setCell (by show w.heap.size ≤ g; omega) _⟩
structure dkC (base : Nat) (W : World) (g : Nat) (v0 v1 : Value) (l : List Int) (q : List (List Int)) : Prop where
 k : W.heap[g]? = some (.cells #[v0, v1] 31 (0, 0))
 r : Kd.R (Kd.int .i64) 3 W base (fun _ => True) v0 l
 s : Kd.S (Kd.slice 3 (Kd.int .i64)) 28 W base (fun k_ => some k_ ≠ v0.ownBlock) v1 q
theorem dkC.put {base : Nat} {W : World} {g : Nat} {x y v0 v1 : Value} {l : List Int} {r : List (List Int)} (hk : W.heap[g]? = some (.cells #[x, y] 31 (0, 0))) (hr : Kd.R (Kd.int .i64) 3 W base (fun _ => True) v0 l) (hs : Kd.S (Kd.slice 3 (Kd.int .i64)) 28 W base (fun k_ => some k_ ≠ v0.ownBlock) v1 r) :
 dkC base ((W.setCell ⟨g, 0, none⟩ v0).setCell ⟨g, 1, none⟩ v1) g v0 v1 l r :=
 ⟨bP (bP hk 0 _ rfl) 1 _ rfl, Kd.Rm (Kd.Rf (Kd.Rf (Kd.Rt hr hk zh5) (fun _ h => h.2) _) (fun _ h => h.2) _) (fun _ _ => trivial), Kd.Sm (Kd.Sf (Kd.Sf (Kd.S_types hs hk zh5) (fun _ h => h.2) _) (fun _ h => h.2) _) (fun _ h => h.1)⟩
theorem dkC.put2 {base : Nat} {W : World} {g : Nat} {x y v0 v1 : Value} {l : List Int} {r : List (List Int)} (hk : W.heap[g]? = some (.cells #[x, y] 31 (0, 0))) (hr : Kd.R (Kd.int .i64) 3 W base (fun _ => True) v0 l) (hs : Kd.S (Kd.slice 3 (Kd.int .i64)) 28 W base (fun k_ => some k_ ≠ v0.ownBlock) v1 r) :
 dkC base ((W.setCell ⟨g, 1, none⟩ v1).setCell ⟨g, 0, none⟩ v0) g v0 v1 l r :=
 ⟨bP (bP hk 1 _ rfl) 0 _ rfl, Kd.Rm (Kd.Rf (Kd.Rf (Kd.Rt hr hk zh5) (fun _ h => h.2) _) (fun _ h => h.2) _) (fun _ _ => trivial), Kd.Sm (Kd.Sf (Kd.Sf (Kd.S_types hs hk zh5) (fun _ h => h.2) _) (fun _ h => h.2) _) (fun _ h => h.1)⟩
theorem dkC.below {base : Nat} {W W' : World} {g : Nat} {v0 v1 : Value} {l : List Int} {r : List (List Int)} (h : dkC base W g v0 v1 l r) (hb : Below W.heap.size W W') : dkC base W' g v0 v1 l r :=
 ⟨bB h.k hb, Kd.R_below h.r hb, Kd.S_below h.s hb⟩
theorem ddF.fin {w W : World} {x y : Array Value} {v0 v1 : Value} {l : List Int} {r : List (List Int)} (h : ddF w W x y) (hr : Kd.R (Kd.int .i64) 3 W w.heap.size (fun _ => True) v0 l) (hs : Kd.S (Kd.slice 3 (Kd.int .i64)) 28 W w.heap.size (fun k_ => some k_ ≠ v0.ownBlock) v1 r) :
 ((W.setCell ⟨w.heap.size + 2, 0, none⟩ v0).setCell ⟨w.heap.size + 2, 1, none⟩ v1).heap[w.heap.size + 2]? = some (.cells #[v0, v1] 31 (0, 0)) ∧ Kd.R (Kd.int .i64) 3 ((W.setCell ⟨w.heap.size + 2, 0, none⟩ v0).setCell ⟨w.heap.size + 2, 1, none⟩ v1) w.heap.size (fun _ => True) v0 l ∧ Kd.S (Kd.slice 3 (Kd.int .i64)) 28 ((W.setCell ⟨w.heap.size + 2, 0, none⟩ v0).setCell ⟨w.heap.size + 2, 1, none⟩ v1) w.heap.size (fun k_ => some k_ ≠ v0.ownBlock) v1 r ∧ Below w.heap.size w ((W.setCell ⟨w.heap.size + 2, 0, none⟩ v0).setCell ⟨w.heap.size + 2, 1, none⟩ v1) :=
 have z := dkC.put h.r hr hs
 ⟨z.k, z.r, z.s, (h.low.setCell zh8 _).setCell zh8 _⟩
theorem dk_two {W W' : World} {a1 a2 : Addr} {v1 v2 : Value} (hb : Below W.heap.size W W') (h : W.cell? a1 = some v1 ∧ W.cell? a2 = some v2) : W'.cell? a1 = some v1 ∧ W'.cell? a2 = some v2 :=
 ⟨pB hb h.1, pB hb h.2⟩
theorem ddF.args {w W : World} {p0 p1 a b c : Value} (h : ddF w W #[p0, p1] #[a, b, c]) : W.cell? ⟨w.heap.size, 0, none⟩ = some p0 ∧ W.cell? ⟨w.heap.size, 1, none⟩ = some p1 ∧ W.cell? ⟨w.heap.size + 1, 0, none⟩ = some a ∧ W.cell? ⟨w.heap.size + 1, 1, none⟩ = some b ∧ W.cell? ⟨w.heap.size + 1, 2, none⟩ = some c :=
 ⟨(bC h.a 0).trans rfl, (bC h.a 1).trans rfl, (bC h.d 0).trans rfl, (bC h.d 1).trans rfl, (bC h.d 2).trans rfl⟩
theorem dkC.cells {base : Nat} {W : World} {g : Nat} {v0 v1 : Value} {l : List Int} {q : List (List Int)} (h : dkC base W g v0 v1 l q) : W.cell? ⟨g, 0, none⟩ = some v0 ∧ W.cell? ⟨g, 1, none⟩ = some v1 ∧ W.frozen? ⟨g, 0, none⟩ = false ∧ W.frozen? ⟨g, 1, none⟩ = false :=
 ⟨(bC h.k 0).trans rfl, (bC h.k 1).trans rfl, bF h.k 0, bF h.k 1⟩
theorem dkC.new {base : Nat} {W : World} {v0 v1 : Value} {l : List Int} {r : List (List Int)} (hr : Kd.R (Kd.int .i64) 3 W base (fun _ => True) v0 l) (hs : Kd.S (Kd.slice 3 (Kd.int .i64)) 28 W base (fun k_ => some k_ ≠ v0.ownBlock) v1 r) : dkC base (W.alloc (.cells #[v0, v1] 31)) W.heap.size v0 v1 l r :=
 ⟨heap_alloc_new W _, Kd.Ra hr _, Kd.S_alloc hs _⟩
theorem ddF.grown {w W W' : World} {x y : Array Value} {v : Value} (h : ddF w W x y) (hb : Below w.heap.size w W') (ht : ∀ k, v.ownBlock = some k → ∃ cells, W.heap[k]? = some (.cells cells 28 (0, 0))) (hg : W.grownBy W' v.ownBlock) : ddF w W' x y :=
 have ne : ∀ {k t : Nat} {cs : Array Value}, W.heap[k]? = some (.cells cs t (0, 0)) → 28 ≠ t → some k ≠ v.ownBlock := fun {k t cs} hk h28 e => by
  obtain ⟨cells, hc⟩ := ht k e.symm
  exact blk_ne hc hk h28 rfl
 ⟨blk_grown h.a hg (ne h.a zh5), blk_grown h.d hg (ne h.d zh5), blk_grown h.r hg (ne h.r zh5), hb⟩
def sd_out (x : List Int) (e : Bool) (m : List Int) (s : List (List Int)) : Option (List Int × List (List Int) × Bool) :=
 if e = true then some (m, s, false) else if s.length < 5864062014805 then (if ((s ++ [m]).length : Int) > 8 then (if x.length < 17592186044416 then some (x, (s ++ [m]).drop 1, true) else none) else (if x.length < 17592186044416 then some (x, s ++ [m], true) else none)) else none
theorem sd_j3 {k : Nat} {x : List Int} {e : Bool} {m : List Int} {s : List (List Int)} {r : List Int × List (List Int) × Bool} (h : F47.j3 k x e m s = some r) : sd_out x e m s = some r := by
 cases k with
 | zero => simp [F47.j3] at h
 | succ k =>
  simp only [F47.j3, Option.bind_some, List.nil_append, List.length_nil, Nat.zero_add] at h
  exact h
theorem sd_j2 {k : Nat} {x : List Int} {e : Bool} {m : List Int} {s : List (List Int)} {r : List Int × List (List Int) × Bool} (h : F47.j2 k x e m s = some r) : ∃ e', (e = true → e' = true) ∧ (e = false → ∃ k t, F28.f k x = some t ∧ e' = !t) ∧ sd_out x e' m s = some r := by
 cases k with
 | zero => simp [F47.j2] at h
 | succ k =>
  rw [F47.j2] at h
  cases e with
  | true => exact ⟨true, fun _ => rfl, (fun z => by cases z), sd_j3 (by simpa using h)⟩
  | false =>
   rw [if_neg zh5] at h
   obtain ⟨t, h1, h2⟩ := Option.bind_eq_some_iff.mp h
   exact ⟨!t, (fun z => by cases z), fun _ => ⟨k, t, h1, rfl⟩, sd_j3 h2⟩
theorem sd_j0 {k : Nat} {v : Bool} {l : List Int} {q : List (List Int)} {a b c : Int} {m : List Int} {s : List (List Int)} {r : List Int × List (List Int) × Bool} (h : F47.j0 k v l q a b c m s = some r) : (v = true → (if 0 ≤ wrap64 ((s.length : Int) - 1) then (if wrap64 ((s.length : Int) - 1) < (s.length : Int) then some (rd_L4 s (wrap64 ((s.length : Int) - 1)), s.take (wrap64 ((s.length : Int) - 1)).toNat, true) else none) else none) = some r) ∧ (v = false → ∃ k x, F87.f k l a b c = some x ∧ F47.l0 k x ((x.length : Int) == (l.length : Int)) 0 l q m s = some r) := by
 cases k with
 | zero => simp [F47.j0] at h
 | succ k =>
  rw [F47.j0] at h
  cases v with
  | true => exact ⟨fun _ => by simpa only [if_pos] using h, fun z => by cases z⟩
  | false =>
   rw [if_neg zh5] at h
   exact ⟨(fun z => by cases z), fun _ => ⟨k, Option.bind_eq_some_iff.mp h⟩⟩
theorem ddF.fin3 {w W : World} {x y : Array Value} {v0 v1 : Value} {l : List Int} {r : List (List Int)} {P : Prop} (h : ddF w W x y) (hr : Kd.R (Kd.int .i64) 3 W w.heap.size (fun _ => True) v0 l) (hs : Kd.S (Kd.slice 3 (Kd.int .i64)) 28 W w.heap.size (fun k_ => some k_ ≠ v0.ownBlock) v1 r) :
 ((W.setCell ⟨w.heap.size + 2, 0, none⟩ v0).setCell ⟨w.heap.size + 2, 1, none⟩ v1).heap[w.heap.size + 2]? = some (.cells #[v0, v1] 31 (0, 0)) ∧ Kd.R (Kd.int .i64) 3 ((W.setCell ⟨w.heap.size + 2, 0, none⟩ v0).setCell ⟨w.heap.size + 2, 1, none⟩ v1) w.heap.size (fun k_ => w.heap.size ≤ k_) v0 l ∧ (Kd.V (Kd.slice 3 (Kd.int .i64)) 28 ((W.setCell ⟨w.heap.size + 2, 0, none⟩ v0).setCell ⟨w.heap.size + 2, 1, none⟩ v1) w.heap.size (fun k_ => w.heap.size ≤ k_ ∧ some k_ ≠ v0.ownBlock) v1 r ∧ (P → Kd.S (Kd.slice 3 (Kd.int .i64)) 28 ((W.setCell ⟨w.heap.size + 2, 0, none⟩ v0).setCell ⟨w.heap.size + 2, 1, none⟩ v1) w.heap.size (fun k_ => w.heap.size ≤ k_ ∧ some k_ ≠ v0.ownBlock) v1 r)) ∧ Below w.heap.size w ((W.setCell ⟨w.heap.size + 2, 0, none⟩ v0).setCell ⟨w.heap.size + 2, 1, none⟩ v1) :=
 have z := h.fin hr hs
 have s := Kd.Sm (ok' := fun k_ => w.heap.size ≤ k_ ∧ some k_ ≠ v0.ownBlock) (Kd.S_bound z.2.2.1) (fun _ hk => ⟨hk.2.1, hk.1⟩)
 ⟨z.1, Kd.Rm (Kd.R_bound z.2.1) (fun _ hk => hk.2.1), ⟨Kd.S_V s, fun _ => s⟩, z.2.2.2⟩
theorem ddF.fin4 {w W : World} {B g : Nat} {x y : Array Value} {v0 v1 : Value} {l : List Int} {r : List (List Int)} {P : Prop} (h : ddF w W x y) (hB : w.heap.size + 2 < B) (hr : Kd.R (Kd.int .i64) 3 W B (fun k_ => B ≤ k_) v0 l) (hs : Kd.V (Kd.slice 3 (Kd.int .i64)) 28 W w.heap.size (fun k_ => w.heap.size ≤ k_ ∧ k_ < B ∧ k_ ≠ g ∧ k_ ≠ w.heap.size + 2) v1 r ∧ (P → Kd.S (Kd.slice 3 (Kd.int .i64)) 28 W w.heap.size (fun k_ => w.heap.size ≤ k_ ∧ k_ < B ∧ k_ ≠ g ∧ k_ ≠ w.heap.size + 2) v1 r)) :
 ((W.setCell ⟨w.heap.size + 2, 0, none⟩ v0).setCell ⟨w.heap.size + 2, 1, none⟩ v1).heap[w.heap.size + 2]? = some (.cells #[v0, v1] 31 (0, 0)) ∧ Kd.R (Kd.int .i64) 3 ((W.setCell ⟨w.heap.size + 2, 0, none⟩ v0).setCell ⟨w.heap.size + 2, 1, none⟩ v1) w.heap.size (fun k_ => w.heap.size ≤ k_) v0 l ∧ (Kd.V (Kd.slice 3 (Kd.int .i64)) 28 ((W.setCell ⟨w.heap.size + 2, 0, none⟩ v0).setCell ⟨w.heap.size + 2, 1, none⟩ v1) w.heap.size (fun k_ => w.heap.size ≤ k_ ∧ some k_ ≠ v0.ownBlock) v1 r ∧ (P → Kd.S (Kd.slice 3 (Kd.int .i64)) 28 ((W.setCell ⟨w.heap.size + 2, 0, none⟩ v0).setCell ⟨w.heap.size + 2, 1, none⟩ v1) w.heap.size (fun k_ => w.heap.size ≤ k_ ∧ some k_ ≠ v0.ownBlock) v1 r)) ∧ Below w.heap.size w ((W.setCell ⟨w.heap.size + 2, 0, none⟩ v0).setCell ⟨w.heap.size + 2, 1, none⟩ v1) :=
 have n : ∀ k_, w.heap.size ≤ k_ ∧ k_ < B ∧ k_ ≠ g ∧ k_ ≠ w.heap.size + 2 → w.heap.size ≤ k_ ∧ some k_ ≠ v0.ownBlock := fun k_ hk => ⟨hk.1, fun e => absurd (hr.1 k_ e.symm) (Nat.not_le.2 hk.2.1)⟩
 have m : ∀ k_, B ≤ k_ → k_ ≠ w.heap.size + 2 := fun k_ hk => Nat.ne_of_gt (Nat.lt_of_lt_of_le hB hk)
 ⟨bP (bP h.r 0 _ rfl) 1 _ rfl, Kd.Rm (Kd.Rl (Kd.Rf (Kd.Rf hr m _) m _) (by omega)) (fun k_ hk => by omega), ⟨Kd.V_mono (Kd.V_far (Kd.V_far hs.1 (fun _ h => h.2.2.2) _) (fun _ h => h.2.2.2) _) n, fun p => Kd.Sm (Kd.Sf (Kd.Sf (hs.2 p) (fun _ h => h.2.2.2) _) (fun _ h => h.2.2.2) _) n⟩, (h.low.setCell zh8 _).setCell zh8 _⟩
theorem F47.both (k : Nat) (A0 : Option Addr) (c0 : Nat) (l : List Int) (A1 : Option Addr) (c1 : Nat) (q : List (List Int)) (a b c : Int) (r1 : List Int) (r2 : List (List Int)) (r3 : Bool) (w : World) (hr0 : Kd.C (Kd.int .i64) w A0 l.length l) (hc0 : l.length ≤ c0) (hr1 : Kd.C (Kd.slice 3 (Kd.int .i64)) w A1 q.length q) (hc1 : q.length ≤ c1) (h : F47.f k l q a b c = some (r1, r2, r3)) :
 Calls Tryz.prog 47 #[.agg #[.slice A0 l.length c0, .slice A1 q.length c1], .agg #[.int .i64 a, .int .i64 b, .int .i64 c]] w fun e w' => ∃ v0_ v1_ : Value, e = .returned (.tuple #[.agg #[v0_, v1_], .bool r3]) ∧ Kd.R (Kd.int .i64) 3 w' w.heap.size (fun k_ => (w.heap.size ≤ k_)) v0_ r1 ∧ (Kd.V (Kd.slice 3 (Kd.int .i64)) 28 w' w.heap.size (fun k_ => (w.heap.size ≤ k_) ∧ some k_ ≠ (v0_ : Value).ownBlock) v1_ r2 ∧ (r2.length < 8 → Kd.S (Kd.slice 3 (Kd.int .i64)) 28 w' w.heap.size (fun k_ => (w.heap.size ≤ k_) ∧ some k_ ≠ (v0_ : Value).ownBlock) v1_ r2)) ∧ Below w.heap.size w w' := by
 have hu31 := Tryz.underlying31
 have hu39 := Tryz.underlying39
 have HR := Qo.mk (And.intro hr0 (And.intro hc0 (And.intro hr1 hc1)))
 clear hr0 hc0 hr1 hc1
 unfold F47.f at h
 replace h := Option.bind_eq_some_iff.mp h; obtain ⟨t, e_, h⟩ := h
 have E1 := Qo.mk e_
 clear e_
 have H := Qo.mk h
 clear h
 go_enter Tryz.func47, Tryz.ntmps47
 have kn := ddF.new w #[.slice A0 l.length c0, .slice A1 q.length c1] #[.int .i64 a, .int .i64 b, .int .i64 c]
 go_upto_if 13 with (go_at_call 9; ((with_reducible refine Calls.mono (F9.calls k _ _ l _ _ q t _ (Kd.Cb HR.out.1 kn.low) HR.out.2.1 (Kd.Cb HR.out.2.2.1 kn.low) HR.out.2.2.2 E1.out) ?_); rintro e w1 ⟨rfl, hb1⟩; have HF := Qo.mk (kn.below hb1); clear hb1 kn))
 by_cases ok : t = true
 rotate_left
 ·have h := H.out
  clear H
  rw [if_neg ok] at h
  simp only [Option.some.injEq, Prod.mk.injEq] at h
  obtain ⟨rfl, rfl, rfl⟩ := h
  rw [Bool.not_eq_true] at ok
  subst ok
  have kr0 := (bC HF.out.r 0).trans rfl
  have kr1 := (bC HF.out.r 1).trans rfl
  have kf0 := bF HF.out.r 0
  have kf1 := bF HF.out.r 1
  go_wp2
  have z := HF.out.fin3 (P := (([] : List (List Int)).length < 8)) (Kd.R_nil (Kd.int .i64) 3 w1 _ _) (Kd.S_nil (Kd.slice 3 (Kd.int .i64)) 28 w1 _ _)
  exact bodyPost_ret (rC rfl _ _ (w.heap.size + 2) 31 #[_, _] (0, 0) _ rfl z.1 Tryz.underlying31 rfl zh7) rfl ⟨_, _, rfl, z.2⟩
 subst ok
 have h := H.out
 clear H
 rw [if_pos rfl] at h
 replace h := Option.bind_eq_some_iff.mp h; obtain ⟨⟨m, s⟩, e_, h⟩ := h
 have E2 := Qo.mk e_
 clear e_
 dsimp only at h
 have H := Qo.mk h
 clear h
 obtain ⟨ka0, ka1, kd⟩ := HF.out.args
 go_upto_region 4 with (go_at_call 86; ((with_reducible refine Calls.mono (F86.calls k _ _ l _ _ q m s _ (Kd.Cb HR.out.1 HF.out.low) HR.out.2.1 (Kd.Cb HR.out.2.2.1 HF.out.low) HR.out.2.2.2 E2.out) ?_); rintro e w2 ⟨v0, v1, rfl, hr2, hs2, hb2⟩; obtain ⟨B0, b0, rfl⟩ := Kd.Rs hr2; obtain ⟨B1, b1, rfl⟩ := Kd.S_slice hs2; have HO := Qo.mk (dkC.new (Kd.Rl hr2 HF.out.low.size) (Kd.S_lower hs2 HF.out.low.size)); have hf2 := HF.out.below hb2; clear hr2 hs2 hb2))
 have HG := Qo.mk (hf2.below (below_alloc (Below.refl _ _) (Obj.cells #[.slice B0 m.length b0, .slice B1 s.length b1] 31)))
 have GL := Qo.mk hf2.lt
 clear HF hf2 ka0 ka1 kd
 generalize (w2.alloc (Obj.cells #[.slice B0 m.length b0, .slice B1 s.length b1] 31)) = w4 at *
 generalize w2.heap.size = g at *
 have kr0 := (bC HG.out.r 0).trans rfl
 have kr1 := (bC HG.out.r 1).trans rfl
 have kf0 := bF HG.out.r 0
 have kf1 := bF HG.out.r 1
 obtain ⟨ko0, ko1, kg0, kg1⟩ := HO.out.cells
 obtain ⟨ka0, ka1, kd0, kd1, kd2⟩ := HG.out.args
 have n0 : ¬ (w.heap.size + 2 = g) := by have := GL.out; omega
 have n1 : ¬ (g = w.heap.size + 2) := by have := GL.out; omega
 obtain ⟨v, hv, h⟩ : ∃ v, (v = ((a == 5 && (b == 0 && (c == 0))) && decide ((q.length : Int) > 0))) ∧ F47.j0 k v l q a b c m s = some (r1, r2, r3) := by
  have h := H.out
  cases hd : (a == 5 && (b == 0 && (c == 0))) with
  | true => rw [hd, if_pos rfl] at h; exact ⟨_, rfl, h⟩
  | false => rw [hd, if_neg zh5] at h; exact ⟨_, rfl, h⟩
 have h := sd_j0 h
 have E3 := Qo.mk h
 clear H h
 have h0 := hv
 go_cut [25] (fun v25 wc => v25 = .bool v ∧ wc = w4)
 case first =>
  cases hd : (a == 5 && (b == 0 && (c == 0))) with
  | true =>
   rw [hd, Bool.true_and] at hv
   go_wp2
   go_meet
   case rel => exact ⟨by simp [hv], rfl⟩
  | false =>
   rw [hd, Bool.false_and] at hv
   go_wp2
   go_meet
   case rel => exact ⟨by simp [hv], rfl⟩
 case rest =>
  obtain ⟨rfl, rfl⟩ := hcut
  clear hv h0
  cases v
  rotate_left
  ·have h := E3.out.1 rfl
   clear E3
   generalize hi : wrap64 ((s.length : Int) - 1) = i at h
   by_cases i0 : 0 ≤ i
   rotate_left
   ·rw [if_neg i0] at h; cases h
   rw [if_pos i0] at h
   by_cases i1 : i < (s.length : Int)
   rotate_left
   ·rw [if_neg i1] at h; cases h
   rw [if_pos i1] at h
   simp only [Option.some.injEq, Prod.mk.injEq] at h
   obtain ⟨rfl, rfl, rfl⟩ := h
   have hS := HO.out.s
   have hlen := (Kd.S_reads' hS).2.1
   obtain ⟨ad, A, cA, e0, hx, hl, hc⟩ := at_L4 (Kd.S_reads' hS).2.2 i i0 i1
   cases e0
   have i2 : i + 1 = (s.length : Int) := by
    have hm := (Kd.S_reads' hS).2.2.2.1
    (try simp only [maxLen] at hm)
    rw [← hi]
    unfold wrap64
    omega
   obtain ⟨hpa, hpb⟩ := Kd.S_pop hS i i0 i2 hx
   rw [show s.length - 1 = i.toNat by omega] at hpb
   obtain ⟨i0z, hi0z, _⟩ := info_parts info28
   have hcut : ∀ W : World, (Instr.slice 29 (.slice (some ad) s.length b1) none (some (.int .i64 i)) none).run Tryz.prog W = .ok (.slice (some ad) i.toNat b1) W := cut_to (P := Tryz.prog) 29 28 .i64 Tryz.underlying29 hi0z (some ad) s.length b1 i i0 (by omega) hlen
   have HP := Qo.mk (And.intro hpa hpb)
   have p0 : (0 ≤ i) = True := eq_true i0
   have p1 : (i < (s.length : Int)) = True := eq_true i1
   have LT := Qo.mk (show i.toNat = (s.take i.toNat).length by rw [List.length_take]; omega)
   clear hS hlen hl hc hpa hpb hi0z i2
   go_wp2
   have o := dkC.put HO.out.k (Kd.Rm HP.out.1 (fun _ _ => trivial)) (Kd.Sm HP.out.2 (fun _ hk => hk.2))
   have z := ((HG.out.far GL.out 0 _).far GL.out 1 _).fin3 (P := ((s.take i.toNat).length < 8)) o.r o.s
   exact bodyPost_ret (rC rfl _ _ (w.heap.size + 2) 31 #[_, _] (0, 0) _ rfl z.1 Tryz.underlying31 rfl zh7) rfl ⟨_, _, rfl, z.2⟩
  obtain ⟨k1, x, e4, h⟩ := E3.out.2 rfl
  have E4 := Qo.mk e4
  have H := Qo.mk h
  clear E3 e4 h
  go_wp2_with (go_at_call 87; ((with_reducible refine Calls.mono (F87.calls k1 _ _ l a b c x _ (Kd.Cb HR.out.1 HG.out.low) HR.out.2.1 E4.out) ?_); rintro e w5 ⟨v, rfl, hr5, hb5⟩; obtain ⟨B, bb, rfl⟩ := Kd.Rs hr5; have HM := Qo.mk (Kd.Rl (Kd.R_new' hr5 (Kd.R_lt HO.out.r)) HG.out.low.size); have HS := Qo.mk (Kd.S_elder' HO.out.s (Kd.R_base hr5) hb5); have HV := Qo.mk (Kd.R_elder' HO.out.r (Kd.R_base hr5) hb5); have HG5 := Qo.mk (HG.out.below hb5); have HK := Qo.mk (bB HO.out.k hb5); clear hr5 hb5; obtain ⟨ka0, ka1, kd0, kd1, kd2⟩ := HG5.out.args))
  have HX := Qo.mk (Kd.rr' HM.out).2
  have HL := Qo.mk (Kd.Cb HR.out.1 HG5.out.low)
  clear kr0 kr1 kf0 kf1 ko0 ko1 kg0 kg1 HO HG E1 E2 E4
  go_loopg [9, 10] k1 (fun kq v9 v10 w' => ∃ (e : Bool) (i : Int), v9 = .bool e ∧ v10 = .int .i64 i ∧ Qo (F47.l0 kq x e i l q m s = some (r1, r2, r3)) ∧ Qo (kq ≤ k1) ∧ Qo (Below w5.heap.size w5 w'))
  case atStart => exact ⟨_, 0, by first | rfl | (simp; done), rfl, H, ⟨Nat.le_refl _⟩, ⟨Below.refl _ _⟩⟩
  case round =>
   clear H
   obtain ⟨e, i, rfl, rfl, HA, HK2, HB2⟩ := hrel
   have ka0 := pB HB2.out ka0
   cases gk with
   | zero => exact absurd HA.out (by simp [F47.l0])
   | succ k2 =>
    have h := HA.out
    clear HA
    simp only [F47.l0] at h
    by_cases go : i < (x.length : Int) ∧ e = true
    ·obtain ⟨i1, rfl⟩ := go
     rw [if_pos i1, if_pos rfl] at h
     by_cases i0 : 0 ≤ i
     rotate_left
     ·rw [if_neg i0] at h; cases h
     rw [if_pos i0] at h
     by_cases i2 : i < (l.length : Int)
     rotate_left
     ·rw [if_neg i2] at h; cases h
     rw [if_pos i2] at h
     have H := Qo.mk h
     clear h
     obtain ⟨ad, e0, hx⟩ := Kd.at_int (Kd.Cb HX.out.2 HB2.out) i i0 i1
     obtain ⟨ad2, e2, hx2⟩ := Kd.at_int (Kd.Cb HL.out HB2.out) i i0 i2
     cases e0
     cases e2
     have c1 : decide (i < (x.length : Int)) = true := decide_eq_true i1
     have p0 : (0 ≤ i) = True := eq_true i0
     have p1 : (i < (x.length : Int)) = True := eq_true i1
     have p2 : (i < (l.length : Int)) = True := eq_true i2
     clear i0 i1 i2
     go_wp2
     go_quiet (fail)
     go_wp2
     go_roundg k2
     case measure => have := HK2.out; omega
     case rel => exact ⟨_, _, rfl, rfl, H, ⟨by have := HK2.out; omega⟩, ⟨HB2.out.trans ((below_drawn ⟨_, rfl⟩).mono HB2.out.size)⟩⟩
    ·have h2 : F47.j2 k2 x e m s = some (r1, r2, r3) := by
      by_cases i1 : i < (x.length : Int)
      ·rw [if_pos i1, if_neg (fun z => go ⟨i1, z⟩)] at h; exact h
      ·rw [if_neg i1] at h; exact h
     clear h
     obtain ⟨e', f1, f2, h⟩ := sd_j2 h2
     have H := Qo.mk h
     obtain ⟨e1, he1⟩ : ∃ e1, e1 = e := ⟨_, rfl⟩
     rw [← he1] at f1 f2
     have E5 := Qo.mk (And.intro f1 f2)
     have HE := Qo.mk he1
     clear h h2 f1 f2 he1
     have he : i < (x.length : Int) → e = false := fun z => by
      cases e
      ·rfl
      ·exact absurd ⟨z, rfl⟩ go
     have hc : (decide (i < (x.length : Int)) = true ∧ e = false) ∨ decide (i < (x.length : Int)) = false := by
      by_cases i1 : i < (x.length : Int)
      ·exact .inl ⟨decide_eq_true i1, he i1⟩
      ·exact .inr (decide_eq_false i1)
     clear he go
     rcases hc with ⟨cd, rfl⟩ | cd
     all_goals go_upto_region 15 with (fail)
     all_goals
      go_cut [76] (fun v76 wd => v76 = .bool e' ∧ Qo (Below wr.heap.size wr wd))
      case first =>
       have hx : Below wr.heap.size wr wr := Below.refl _ _
       have HX := Qo.mk (Kd.Cb HX.out.2 HB2.out)
       have HXl := Qo.mk (Kd.rr' HM.out).2.1
       clear ka0 ka1 kd0 kd1 kd2
       cases e1 with
       | true =>
        obtain rfl := E5.out.1 rfl
        cases HE.out <;> (go_wp2; go_meet; (case rel => exact ⟨rfl, ⟨hx⟩⟩))
       | false =>
        obtain ⟨k3, t3, e3, rfl⟩ := E5.out.2 rfl
        have E6 := Qo.mk e3
        clear e3
        cases HE.out <;> (go_wp2_with (go_at_call 28; ((with_reducible refine Calls.mono (F28.calls k3 _ _ x t3 wr HX.out HXl.out E6.out) ?_); rintro e w6 ⟨rfl, hd6⟩; have HB6 := Qo.mk (below_drawn hd6); clear hd6)); go_meet; (case rel => exact ⟨rfl, HB6⟩))
      case rest =>
       obtain ⟨rfl, hb⟩ := hcut
       have hb := HB2.out.trans (hb.out.mono HB2.out.size)
       have hgc := HG5.out.below hb
       have hkc := bB HK.out hb
       have HM := Qo.mk (Kd.R_below HM.out hb)
       have HS := Qo.mk (Kd.S_below HS.out hb)
       have HV := Qo.mk (Kd.R_below HV.out hb)
       have h := H.out
       clear H hb HG5 HK E5 HE ka0 ka1 kd0 kd1 kd2 HB2 HX HL HR
       have HG := Qo.mk hgc
       have HK := Qo.mk hkc
       clear hgc hkc
       have kr0 := (bC HG.out.r 0).trans rfl
       have kr1 := (bC HG.out.r 1).trans rfl
       have kf0 := bF HG.out.r 0
       have kf1 := bF HG.out.r 1
       have ko0 : wc.cell? ⟨g, 0, none⟩ = some (.slice B0 m.length b0) := (bC HK.out 0).trans rfl
       have ko1 : wc.cell? ⟨g, 1, none⟩ = some (.slice B1 s.length b1) := (bC HK.out 1).trans rfl
       have kg0 := bF HK.out 0
       have kg1 := bF HK.out 1
       unfold sd_out at h
       cases e'
       rotate_left
       ·rw [if_pos rfl] at h
        simp only [Option.some.injEq, Prod.mk.injEq] at h
        obtain ⟨rfl, rfl, rfl⟩ := h
        go_wp2
        have z := HG.out.fin3 (P := (s.length < 8)) (Kd.Rm HV.out (fun _ _ => trivial)) (Kd.Sm HS.out (fun _ h => h.1))
        exact bodyPost_ret (rC rfl _ _ (w.heap.size + 2) 31 #[_, _] (0, 0) _ rfl z.1 Tryz.underlying31 rfl zh7) rfl ⟨_, _, rfl, z.2⟩
       rw [if_neg zh5] at h
       by_cases big : s.length < 5864062014805
       rotate_left
       ·rw [if_neg big] at h; cases h
       rw [if_pos big] at h
       have HX := Qo.mk (Kd.R_apart' HV.out (Kd.S_typed HS.out) zh5)
       have BG := Qo.mk big
       obtain ⟨y, hy⟩ : ∃ y, y = s ++ [m] := ⟨_, rfl⟩
       have LY := Qo.mk (show y.length ≤ 5864062014805 by rw [hy, List.length_append, List.length_singleton]; omega)
       rw [← hy] at h
       have HY := Qo.mk hy
       clear big hy
       have H := Qo.mk h
       clear h
       go_upto_region 18 with ((with_reducible refine gB (b := .append) (xs := #[.tmp 79, .tmp 82]) rfl ?_); at_builtin; (refine Kd.S_append (Kd.slice 3 (Kd.int .i64)) (w0 := w) w.heap.size rfl (.tmp 79) (.tmp 82) 29 28 (.slice none 0 0) 24 rfl Tryz.underlying29 info28 rfl zh5 (by omega) (.slice B1 s.length b1) s m [.slice B0 m.length b0] (fun k_ => some k_ ≠ (.slice B x.length bb : Value).ownBlock) (fun k_ => some k_ = (.slice B0 m.length b0 : Value).ownBlock) rfl rfl (Kd.M_row (Kd.Rm (Kd.R_tight rfl HV.out) (fun _ h_ => h_))) (fun k_ hk_ => have z_ := HX.out.1 k_ hk_.symm; ⟨z_.1.2, z_.2⟩) (Kd.fresh' (Kd.R_lt HM.out)) (Kd.Sm HS.out (fun k_ hk => ⟨hk.2, hk.1⟩)) HG.out.low HG.out.low.size (by have := BG.out; omega) ?_); intro v7 w7 hs7 hb7 hg7 _; have hm7 := Kd.R_over' HM.out (Kd.S_typed HS.out) zh5 hg7; have hf7 := HG.out.grown hb7 (Kd.S_typed HS.out) hg7; have hk7 := blk_grown HK.out hg7 (Kd.S_ne HS.out HK.out zh5); rw [← HY.out] at hs7; obtain ⟨B7, b7, rfl⟩ := Kd.S_slice hs7; clear hg7 hb7; have ko0 := (bC hk7 0).trans rfl; have ko1 := (bC hk7 1).trans rfl; have kg0 := bF hk7 0; have kg1 := bF hk7 1)
       have HK : Qo ((w7.setCell ⟨g, 1, none⟩ (.slice B7 y.length b7)).heap[g]? = some (.cells #[.slice B0 m.length b0, .slice B7 y.length b7] 31 (0, 0))) := ⟨bP hk7 1 (.slice B7 y.length b7) rfl⟩
       have HS := Qo.mk (Kd.Sm (Kd.Sf (p := ⟨g, 1, none⟩) (Kd.S_types hs7 hk7 zh5) (fun _ h => h.2) (.slice B7 y.length b7)) (fun _ h => h.1))
       have HM := Qo.mk (Kd.Rm (Kd.Rf (p := ⟨g, 1, none⟩) (Kd.Rt hm7 hk7 zh5) (fun _ h => h.2) (.slice B7 y.length b7)) (fun _ _ => trivial))
       have HG := Qo.mk (hf7.far GL.out 1 (.slice B7 y.length b7))
       clear hk7 hs7 hm7 hf7 ko0 ko1 kg0 kg1 kr0 kr1 kf0 kf1 HV HX
       generalize w7.setCell ⟨g, 1, none⟩ (.slice B7 y.length b7) = w8 at *
       have ko0 : w8.cell? ⟨g, 0, none⟩ = some (.slice B0 m.length b0) := (bC HK.out 0).trans rfl
       have ko1 : w8.cell? ⟨g, 1, none⟩ = some (.slice B7 y.length b7) := (bC HK.out 1).trans rfl
       have kg0 := bF HK.out 0
       have kg1 := bF HK.out 1
       go_upto_if 88 with (fail)
       go_cut [88] (fun v88 wd => ∃ (z : List (List Int)) (B9 : Option Addr) (b9 : Nat), Qo ((if x.length < 17592186044416 then some (x, z, true) else none) = some (r1, r2, r3)) ∧ Qo (wd.heap[g]? = some (.cells #[.slice B0 m.length b0, .slice B9 z.length b9] 31 (0, 0))) ∧ Qo (Kd.V (Kd.slice 3 (Kd.int .i64)) 28 wd w.heap.size (fun k_ => w.heap.size ≤ k_ ∧ k_ < wd.heap.size ∧ k_ ≠ g ∧ k_ ≠ w.heap.size + 2) (.slice B9 z.length b9) z ∧ (z.length < 8 → Kd.S (Kd.slice 3 (Kd.int .i64)) 28 wd w.heap.size (fun k_ => w.heap.size ≤ k_ ∧ k_ < wd.heap.size ∧ k_ ≠ g ∧ k_ ≠ w.heap.size + 2) (.slice B9 z.length b9) z)) ∧ Qo (Kd.R (Kd.int .i64) 3 wd w.heap.size (fun _ => True) (.slice B x.length bb) x) ∧ Qo (ddF w wd #[.slice A0 l.length c0, .slice A1 q.length c1] #[.int .i64 a, .int .i64 b, .int .i64 c]))
       case first =>
        have h := H.out
        clear H
        have hs' := Kd.Sm (ok' := fun k_ => w.heap.size ≤ k_ ∧ k_ < w8.heap.size ∧ k_ ≠ g ∧ k_ ≠ w.heap.size + 2) (Kd.S_bound (Kd.S_types (Kd.S_types HS.out HK.out zh5) HG.out.r zh5)) (fun k h => ⟨h.2.1, h.2.2.1, h.1.1.2, h.1.2⟩)
        have HS' := Qo.mk hs'
        clear hs' HS
        by_cases g8 : (y.length : Int) > 8
        rotate_left
        ·rw [if_neg g8] at h
         have H := Qo.mk h
         clear h
         go_wp2
         go_meet
         case rel => exact ⟨y, B7, b7, H, HK, ⟨Kd.S_V HS'.out, fun _ => HS'.out⟩, HM, HG⟩
        ·rw [if_pos g8] at h
         obtain ⟨z, hz⟩ : ∃ z, z = y.drop 1 := ⟨_, rfl⟩
         have hzl : z.length = y.length - 1 := by rw [hz, List.length_drop]
         rw [← hz] at h
         have H := Qo.mk h
         clear h
         obtain ⟨i0z, hi0z, _, hszz, _⟩ := info_parts info28
         have hcut : ∀ W : World, (Instr.slice 29 (.slice B7 y.length b7) (some (.int .i64 1)) none none).run Tryz.prog W = .ok (.slice (if b7 = 1 then B7 else B7.map (·.add (1 * 1))) (y.length - 1) (b7 - 1)) W := cut_from (P := Tryz.prog) 29 28 .i64 Tryz.underlying29 hi0z 1 hszz B7 y.length b7 1 (by omega) (by omega)
         obtain ⟨Az, hAz⟩ : ∃ A1, A1 = (if b7 = 1 then B7 else B7.map (·.add (1 * 1))) := ⟨_, rfl⟩
         obtain ⟨kz, hkz⟩ : ∃ c1, c1 = b7 - 1 := ⟨_, rfl⟩
         rw [← hAz, ← hzl, ← hkz] at hcut
         have HZ := Qo.mk (And.intro hAz (And.intro hzl (And.intro hkz (And.intro hz (show 8 ≤ z.length ∧ 1 ≤ y.length by omega)))))
         have hv := Kd.V_cut1 (base' := w.heap.size) hAz hzl hkz rfl (Kd.S_V (base' := w.heap.size) HS'.out) (show 1 ≤ y.length by omega)
         rw [← hz] at hv
         have HV' := Qo.mk hv
         clear hAz hzl hkz hi0z hszz hz hv
         go_wp2
         go_meet
         case rel => exact ⟨z, Az, kz, H, ⟨bP HK.out 1 _ rfl⟩, ⟨Kd.V_mono (Kd.V_far (p := ⟨g, 1, none⟩) HV'.out (fun k h => h.2.2.1) _) (fun k h => ⟨h.1, by simpa [World.setCell] using h.2.1, h.2.2⟩), fun h => absurd HZ.out.2.2.2.2.1 (by omega)⟩, ⟨Kd.Rm (Kd.Rf (Kd.Rt HM.out HK.out zh5) (fun _ h => h.2) _) (fun _ _ => trivial)⟩, ⟨HG.out.far GL.out 1 _⟩⟩
       case rest =>
        clear H HK HS HM HG ko0 ko1 kg0 kg1
        obtain ⟨z, B9, b9, H, HK, HVS, HM, HG⟩ := hcut
        have h := H.out
        clear H
        by_cases lx : x.length < 17592186044416
        rotate_left
        ·rw [if_neg lx] at h; cases h
        rw [if_pos lx] at h
        have LX := Qo.mk lx
        simp only [Option.some.injEq, Prod.mk.injEq] at h
        obtain ⟨rfl, rfl, rfl⟩ := h
        clear lx
        have ko0 : wc.cell? ⟨g, 0, none⟩ = some (.slice B0 m.length b0) := (bC HK.out 0).trans rfl
        have ko1 : wc.cell? ⟨g, 1, none⟩ = some (.slice B9 z.length b9) := (bC HK.out 1).trans rfl
        have kg0 := bF HK.out 0
        have kg1 := bF HK.out 1
        go_upto_region 21 with (first
         | ((with_reducible refine gD (N := 93) rfl ?_); refine Kd.R_lit (Kd.int .i64) _ 3 ?hg (N := 93) ?hd (xs := ([] : List Int)) (inner := []) (ok := fun _ => True) (okp := fun _ => True) ?hr ?hp (fun _ hk => hk) trivial (Below.refl _ _) (Nat.le_refl _) (by simp) ?_; (case hd => rfl); (case hg => rfl); (case hr => first | (go_simp; done) | (go_simp; rfl)); (case hp => exact (Reps.none _ _)); intro v9 w9 ho9 hb9 _ _)
         | ((with_reducible refine gB (b := .append) (xs := #[.tmp 93, .tmp 94]) rfl ?_); at_builtin; refine Kd.R_append_rows (Kd.int .i64) (w0 := wc) wc.heap.size rfl (.tmp 93) (.tmp 94) 28 3 (.int .i64 0) 8 rfl Tryz.underlying28 info3 rfl zh5 (by omega) v9 [] x _ _ _ (fun _ => True) (fun _ => False) rfl rfl ho9 ?aR (fun _ _ h => h) (fun _ h => h.elim) (fun _ _ => trivial) hb9 hb9.size (by have := LX.out; simp only [List.length_nil]; omega) ?_; (case aR => exact (Kd.rr' (Kd.R_below HM.out hb9)).2.2); intro v7 w7 hr7 hb7 _ _; rw [List.nil_append] at hr7; have hk7 := bB HK.out hb7; have hf7 := HG.out.below hb7; obtain ⟨B7, b7, rfl⟩ := Kd.Rs hr7; have ko0 : w7.cell? ⟨g, 0, none⟩ = some (.slice B0 m.length b0) := (bC hk7 0).trans rfl; have ko1 : w7.cell? ⟨g, 1, none⟩ = some (.slice B9 z.length b9) := (bC hk7 1).trans rfl; have kg0 := bF hk7 0))
        have hl : w.heap.size + 2 < wc.heap.size := HG.out.lt
        have hg : g < wc.heap.size := blk_lt HK.out
        have hr8 := Kd.Rf (p := ⟨g, 0, none⟩) (Kd.Rm (ok' := fun k_ => wc.heap.size ≤ k_) (Kd.R_bound hr7) (fun k_ h_ => h_.2.1)) (fun k_ hk => Nat.ne_of_gt (Nat.lt_of_lt_of_le hg hk)) (.slice B7 x.length b7)
        have hf8 := hf7.far GL.out 0 (.slice B7 x.length b7)
        have hv8 := And.intro (Kd.V_far (p := ⟨g, 0, none⟩) (Kd.V_below HVS.out.1 hb7) (fun _ h => h.2.2.1) (.slice B7 x.length b7)) (fun h8 => Kd.Sf (p := ⟨g, 0, none⟩) (Kd.S_below (HVS.out.2 h8) hb7) (fun _ h => h.2.2.1) (.slice B7 x.length b7))
        have hk8 : (w7.setCell ⟨g, 0, none⟩ (.slice B7 x.length b7)).heap[g]? = some (.cells #[.slice B7 x.length b7, .slice B9 z.length b9] 31 (0, 0)) := bP hk7 0 _ rfl
        have F := Qo.mk (And.intro hr8 (And.intro hf8 hv8))
        have L := Qo.mk hl
        clear hr8 hv8 hl hg ko0 ko1 kg0 kg1 HVS HM HG
        generalize w7.setCell ⟨g, 0, none⟩ (.slice B7 x.length b7) = w8 at *
        have ko0 : w8.cell? ⟨g, 0, none⟩ = some (.slice B7 x.length b7) := (bC hk8 0).trans rfl
        have ko1 : w8.cell? ⟨g, 1, none⟩ = some (.slice B9 z.length b9) := (bC hk8 1).trans rfl
        have kr0 := (bC hf8.r 0).trans rfl
        have kr1 := (bC hf8.r 1).trans rfl
        have kf0 := bF hf8.r 0
        have kf1 := bF hf8.r 1
        clear hf8
        go_wp2
        have y := F.out.2.1.fin4 L.out F.out.1 F.out.2.2
        exact bodyPost_ret (rC rfl _ _ (w.heap.size + 2) 31 #[_, _] (0, 0) _ rfl y.1 Tryz.underlying31 rfl zh7) rfl ⟨_, _, rfl, y.2⟩
end
theorem F47.calls (k : Nat) (A0_0 : Option Addr) (c0_0 : Nat) (l0_0 : List Int) (A0_1 : Option Addr) (c0_1 : Nat) (l0_1 : List (List Int)) (a1_0 : Int) (a1_1 : Int) (a1_2 : Int) (r1 : List Int) (r2 : List (List Int)) (r3 : Bool) (w : World) (hr0_0 : Kd.C (Kd.int .i64) w A0_0 l0_0.length l0_0) (hc0_0 : l0_0.length ≤ c0_0) (hr0_1 : Kd.C (Kd.slice 3 (Kd.int .i64)) w A0_1 l0_1.length l0_1) (hc0_1 : l0_1.length ≤ c0_1) (h : F47.f k l0_0 l0_1 a1_0 a1_1 a1_2 = some (r1, r2, r3)) :
  Calls Tryz.prog 47 #[.agg #[.slice A0_0 l0_0.length c0_0, .slice A0_1 l0_1.length c0_1], .agg #[.int .i64 a1_0, .int .i64 a1_1, .int .i64 a1_2]] w fun e w' => ∃ v0_ v1_ : Value, e = .returned (.tuple #[.agg #[v0_, v1_], .bool r3]) ∧ Kd.R (Kd.int .i64) 3 w' w.heap.size (fun k_ => (w.heap.size ≤ k_)) v0_ r1 ∧ Kd.V (Kd.slice 3 (Kd.int .i64)) 28 w' w.heap.size (fun k_ => (w.heap.size ≤ k_) ∧ some k_ ≠ (v0_ : Value).ownBlock) v1_ r2 ∧ Below w.heap.size w w' := by
 refine (F47.both k A0_0 c0_0 l0_0 A0_1 c0_1 l0_1 a1_0 a1_1 a1_2 r1 r2 r3 w hr0_0 hc0_0 hr0_1 hc0_1 h).mono ?_;rintro e w' ⟨v0, v1, h1, h2, h3, h4⟩;exact ⟨v0, v1, h1, h2, h3.1, h4⟩
attribute [local go_sem high] eqA39
def F233.f (k : Nat) (l0_0 : List Int) (l0_1 : List (List Int)) (a1_0 : Int) (a1_1 : Int) (a1_2 : Int) : Option (List Int × (List (List Int)) × Bool) := (F47.f k l0_0 l0_1 a1_0 a1_1 a1_2).bind fun r => (if r.2.1.length < 8 then (some r) else (none))
theorem F233.mono : ∀ a0 a1 a2 a3 a4 k, LeO (F233.f k a0 a1 a2 a3 a4) (F233.f (k + 1) a0 a1 a2 a3 a4) := by
 intro a0 a1 a2 a3 a4 k;unfold F233.f;exact LeO.bind (F47.mono a0 a1 a2 a3 a4 k) (fun _ => LeO.refl _)
theorem F233.calls (k : Nat) (A0_0 : Option Addr) (c0_0 : Nat) (l0_0 : List Int) (A0_1 : Option Addr) (c0_1 : Nat) (l0_1 : List (List Int)) (a1_0 : Int) (a1_1 : Int) (a1_2 : Int) (r1 : List Int) (r2 : List (List Int)) (r3 : Bool) (w : World) (hr0_0 : Kd.C (Kd.int .i64) w A0_0 l0_0.length l0_0) (hc0_0 : l0_0.length ≤ c0_0) (hr0_1 : Kd.C (Kd.slice 3 (Kd.int .i64)) w A0_1 l0_1.length l0_1) (hc0_1 : l0_1.length ≤ c0_1) (h : F233.f k l0_0 l0_1 a1_0 a1_1 a1_2 = some (r1, r2, r3)) :
  Calls Tryz.prog 47 #[.agg #[.slice A0_0 l0_0.length c0_0, .slice A0_1 l0_1.length c0_1], .agg #[.int .i64 a1_0, .int .i64 a1_1, .int .i64 a1_2]] w fun e w' => ∃ v0_ v1_ : Value, e = .returned (.tuple #[.agg #[v0_, v1_], .bool r3]) ∧ Kd.R (Kd.int .i64) 3 w' w.heap.size (fun _ => True) v0_ r1 ∧ Kd.S (Kd.slice 3 (Kd.int .i64)) 28 w' w.heap.size (fun k_ => some k_ ≠ (v0_ : Value).ownBlock) v1_ r2 ∧ Below w.heap.size w w' := by
 obtain ⟨r', h1, h2⟩ := Option.bind_eq_some_iff.mp h;by_cases c : r'.2.1.length < 8
 ·rw [if_pos c] at h2;obtain rfl := Option.some.inj h2;refine (F47.both k A0_0 c0_0 l0_0 A0_1 c0_1 l0_1 a1_0 a1_1 a1_2 r1 r2 r3 w hr0_0 hc0_0 hr0_1 hc0_1 h1).mono ?_;rintro e w' ⟨v0, v1, e1, e2, e3, e4⟩;exact ⟨v0, v1, e1, Kd.Rm e2 (fun _ _ => trivial), Kd.Sm (e3.2 c) (fun _ hk => hk.2), e4⟩
 ·rw [if_neg c] at h2;cases h2
def F25.l0 : Nat → Int → Int → List Int → Int → List Int → List (List Int) → Option (List Int × (List (List Int)) × Int)
 | 0, _, _, _, _, _, _ => none
 | k + 1, x1, x7, x1000, x1001, x668000, x668001 => if x7 > 0 then ((F48.f k x1000 x1001 x668000).bind fun bt670 => ((F233.f k x668000 x668001 bt670.1 bt670.2.1 bt670.2.2.1).bind fun bt674 => (if bt674.2.2 = true then (F25.l0 k x1 (wrap64 (x7 - 1)) x1000 bt670.2.2.2 bt674.1 bt674.2.1) else (F25.l0 k x1 (wrap64 (x7 - 1)) x1000 bt670.2.2.2 x668000 x668001)))) else ((F26.f k x1000 x1001 x1).bind fun bt682 => (if bt682.1 = true then ((F19.f k x1000 bt682.2 3).bind fun bt684 => (if bt684.1 = 0 then (some ((([1] : List Int)), x668001, bt684.2)) else (if bt684.1 = 1 then (if x668001.length < 5864062014805 then (some (x668000, (x668001 ++ [(([] : List Int))]), bt684.2)) else (none)) else (some (([] : List Int), ([] : List (List Int)), bt684.2))))) else (some (x668000, x668001, bt682.2))))
def F25.f (k : Nat) (s0_0 : List Int) (s0_1 : Int) (a1 : Int) : Option (List Int × (List (List Int)) × Int) := (F39.f k s0_0 s0_1 0).bind fun bt656 => ((F46.f k bt656.1).bind fun bt660 => ((F19.f k s0_0 bt656.2 6).bind fun bt668 => (F25.l0 k a1 bt668.1 s0_0 bt668.2 bt660.1 bt660.2.1)))
theorem F25.ml : ∀ k, (∀ y0 y1 y2 y3 y4 y5, LeO (F25.l0 k y0 y1 y2 y3 y4 y5) (F25.l0 (k + 1) y0 y1 y2 y3 y4 y5))
 | 0 => fun _ _ _ _ _ _ r h => by simp [F25.l0] at h
 | k + 1 => by
  have ih0 := F25.ml k
  ·intro y0 y1 y2 y3 y4 y5
   unfold F25.l0
   have := @F233.mono; have := @F46.mono; have := @F48.mono; have := @F26.mono; have := @F19.mono; have := @F39.mono; exact zm
theorem F25.mono : ∀ a0 a1 a2 k, LeO (F25.f k a0 a1 a2) (F25.f (k + 1) a0 a1 a2) := by
 intro a0 a1 a2 k;have ih0 := F25.ml k;unfold F25.f;have := @F233.mono; have := @F46.mono; have := @F48.mono; have := @F26.mono; have := @F19.mono; have := @F39.mono; exact zm
section
set_option maxHeartbeats 8000000
set_option maxRecDepth 100000
structure kdS (w0 w W0 W : World) (g b : Nat) (s : List Int) (i : Int) (v0 v1 : Value) (l : List Int) (q : List (List Int)) : Prop where
 P : rdP w0 W0 W g s i
 X : rdX W0 W g b (.cells #[v0, v1] 31 (0, 0))
 R : rdX w W g w.heap.size (.cells #[.slice none 0 0, .slice none 0 0] 31 (0, 0))
 D0 : Kd.R (Kd.int .i64) 3 W w.heap.size (fun _ => True) v0 l
 D1 : Kd.S (Kd.slice 3 (Kd.int .i64)) 28 W w.heap.size (fun k_ => some k_ ≠ v0.ownBlock) v1 q
 L : w.heap.size < W0.heap.size
section
variable {w0 w W0 W : World} {g b : Nat} {s : List Int} {i : Int} {v0 v1 : Value} {l : List Int} {q : List (List Int)}
theorem kdS.call (h : kdS w0 w W0 W g b s i v0 v1 l q) {W' : World} {j : Int} (c : Iq w0 W' g s j ∧ Below w0.heap.size w0 W' ∧ KB W W' g none) : kdS w0 w W0 W' g b s j v0 v1 l q :=
 ⟨h.P.call c, h.X.keep c.2.2, h.R.keep c.2.2, Kd.Rm (Kd.Rk (h.P.I.apart h.D0 zh5) c.2.2 (fun _ z => z.2)) (fun _ z => z.1), Kd.Sm (Kd.S_keep (h.P.I.apartS h.D1 zh5) c.2.2 (fun _ z => z.2)) (fun _ z => z.1), h.L⟩
theorem kdS.below (h : kdS w0 w W0 W g b s i v0 v1 l q) {W' : World} (hb : Below W.heap.size W W') : kdS w0 w W0 W' g b s i v0 v1 l q :=
 ⟨h.P.below hb, h.X.below hb, h.R.below hb, Kd.R_below h.D0 hb, Kd.S_below h.D1 hb, h.L⟩
theorem kdS.alloc (h : kdS w0 w W0 W g b s i v0 v1 l q) (o : Obj) : kdS w0 w W0 (W.alloc o) g b s i v0 v1 l q := h.below (below_alloc (Below.refl _ _) o)
theorem kdS.drew (h : kdS w0 w W0 W g b s i v0 v1 l q) : kdS w0 w W0 W.drew g b s i v0 v1 l q := h.below (below_drew (Below.refl _ _))
theorem kdS.far (h : kdS w0 w W0 W g b s i v0 v1 l q) {c : Nat} {x y : Value} (hx : rdX W0 W g c (.cells #[x, y] 31 (0, 0))) (hc : c ≠ b) (j : Nat) (u : Value) : kdS w0 w W0 (W.setCell ⟨c, j, none⟩ u) g b s i v0 v1 l q :=
 ⟨h.P.set hx.l hx.n _ _, h.X.far (Ne.symm hc) _ _, h.R.far (Nat.ne_of_lt (Nat.lt_of_lt_of_le h.L hx.l)) _ _, Kd.Rm (Kd.Rf (Kd.Rt h.D0 hx.h zh5) (fun _ h => h.2) _) (fun _ _ => trivial), Kd.Sm (Kd.Sf (Kd.S_types h.D1 hx.h zh5) (fun _ h => h.2) _) (fun _ h => h.1), h.L⟩
theorem kdS.put (h : kdS w0 w W0 W g b s i v0 v1 l q) {u0 u1 : Value} {l' : List Int} {q' : List (List Int)} (hr : Kd.R (Kd.int .i64) 3 W w.heap.size (fun _ => True) u0 l') (hs : Kd.S (Kd.slice 3 (Kd.int .i64)) 28 W w.heap.size (fun k_ => some k_ ≠ u0.ownBlock) u1 q') : kdS w0 w W0 ((W.setCell ⟨b, 0, none⟩ u0).setCell ⟨b, 1, none⟩ u1) g b s i u0 u1 l' q' :=
 have z := dkC.put h.X.h hr hs
 have n := Nat.ne_of_lt (Nat.lt_of_lt_of_le h.L h.X.l)
 ⟨(h.P.set h.X.l h.X.n _ _).set h.X.l h.X.n _ _, ⟨z.k, h.X.l, h.X.n⟩, (h.R.far n _ _).far n _ _, z.r, z.s, h.L⟩
theorem kdS.cells (h : kdS w0 w W0 W g b s i v0 v1 l q) : W.cell? ⟨b, 0, none⟩ = some v0 ∧ W.cell? ⟨b, 1, none⟩ = some v1 ∧ W.frozen? ⟨b, 0, none⟩ = false ∧ W.frozen? ⟨b, 1, none⟩ = false :=
 ⟨bC h.X.h 0, bC h.X.h 1, bF h.X.h 0, bF h.X.h 1⟩
theorem kdS.rcells (h : kdS w0 w W0 W g b s i v0 v1 l q) : W.cell? ⟨w.heap.size, 0, none⟩ = some (.slice none 0 0) ∧ W.cell? ⟨w.heap.size, 1, none⟩ = some (.slice none 0 0) ∧ W.frozen? ⟨w.heap.size, 0, none⟩ = false ∧ W.frozen? ⟨w.heap.size, 1, none⟩ = false :=
 ⟨bC h.R.h 0, bC h.R.h 1, bF h.R.h 0, bF h.R.h 1⟩
theorem kdS.ne (h : kdS w0 w W0 W g b s i v0 v1 l q) : ((w.heap.size = b) = False) ∧ ((b = w.heap.size) = False) :=
 have n := Nat.ne_of_lt (Nat.lt_of_lt_of_le h.L h.X.l)
 ⟨eq_false n, eq_false (Ne.symm n)⟩
theorem kdS.put0 (h : kdS w0 w W0 W g b s i v0 v1 l q) {u0 : Value} {l' : List Int} (hr : Kd.R (Kd.int .i64) 3 W w.heap.size (fun _ => True) u0 l') (hs : Kd.S (Kd.slice 3 (Kd.int .i64)) 28 W w.heap.size (fun k_ => some k_ ≠ u0.ownBlock) v1 q) : kdS w0 w W0 (W.setCell ⟨b, 0, none⟩ u0) g b s i u0 v1 l' q :=
 ⟨h.P.set h.X.l h.X.n _ _, ⟨bP h.X.h 0 _ rfl, h.X.l, h.X.n⟩, h.R.far (Nat.ne_of_lt (Nat.lt_of_lt_of_le h.L h.X.l)) _ _, Kd.Rm (Kd.Rf (Kd.Rt hr h.X.h zh5) (fun _ h => h.2) _) (fun _ _ => trivial), Kd.Sm (Kd.Sf (Kd.S_types hs h.X.h zh5) (fun _ h => h.2) _) (fun _ h => h.1), h.L⟩
structure kdT (w0 w W : World) (g b : Nat) (s : List Int) (i : Int) (v0 v1 : Value) (l : List Int) : Prop where
 P : rdP w0 w W g s i
 X : W.heap[b]? = some (.cells #[v0, v1] 31 (0, 0))
 R : rdX w W g w.heap.size (.cells #[.slice none 0 0, .slice none 0 0] 31 (0, 0))
 D0 : Kd.R (Kd.int .i64) 3 W w.heap.size (fun _ => True) v0 l
 n : w.heap.size < b ∧ b ≠ g
theorem kdS.grow {j : Int} (hU : rdP w0 w W0 g s j) (h : kdS w0 w W0 W g b s i v0 v1 l q) {W' : World} (hb : Below w.heap.size W W') (hg : W.grownBy W' v1.ownBlock) : kdT w0 w W' g b s i v0 v1 l :=
 ⟨⟨h.P.I.grown hg (h.P.I.own_neS h.D1 zh5), h.P.B.trans (hb.mono hU.L), (hU.K.trans h.P.K (.inl rfl)).trans (KB.of_grown hg g) (Kd.S_base2 h.D1), hU.L⟩, blk_grown h.X.h hg (Kd.S_ne h.D1 h.X.h zh5), ⟨blk_grown h.R.h hg (Kd.S_ne h.D1 h.R.h zh5), h.R.l, h.R.n⟩, Kd.R_over' h.D0 (Kd.S_typed h.D1) zh5 hg, Nat.lt_of_lt_of_le h.L h.X.l, h.X.n⟩
theorem kdT.put (h : kdT w0 w W g b s i v0 v1 l) {u1 : Value} {q' : List (List Int)} (hs : Kd.S (Kd.slice 3 (Kd.int .i64)) 28 W w.heap.size (fun k_ => some k_ ≠ v0.ownBlock) u1 q') : kdT w0 w (W.setCell ⟨b, 1, none⟩ u1) g b s i v0 u1 l ∧ Kd.S (Kd.slice 3 (Kd.int .i64)) 28 (W.setCell ⟨b, 1, none⟩ u1) w.heap.size (fun k_ => some k_ ≠ v0.ownBlock) u1 q' :=
 ⟨⟨h.P.set (Nat.le_of_lt h.n.1) h.n.2 _ _, bP h.X 1 _ rfl, h.R.far (Nat.ne_of_lt h.n.1) _ _, Kd.Rm (Kd.Rf (Kd.Rt h.D0 h.X zh5) (fun _ h => h.2) _) (fun _ _ => trivial), h.n⟩, Kd.Sm (Kd.Sf (Kd.S_types hs h.X zh5) (fun _ h => h.2) _) (fun _ h => h.1)⟩
theorem kdT.fin (h : kdT w0 w W g b s i v0 v1 l) (hs : Kd.S (Kd.slice 3 (Kd.int .i64)) 28 W w.heap.size (fun k_ => some k_ ≠ v0.ownBlock) v1 q) : ((W.setCell ⟨w.heap.size, 0, none⟩ v0).setCell ⟨w.heap.size, 1, none⟩ v1).heap[w.heap.size]? = some (.cells #[v0, v1] 31 (0, 0)) ∧ Kd.R (Kd.int .i64) 3 ((W.setCell ⟨w.heap.size, 0, none⟩ v0).setCell ⟨w.heap.size, 1, none⟩ v1) w.heap.size (fun _ => True) v0 l ∧ Kd.S (Kd.slice 3 (Kd.int .i64)) 28 ((W.setCell ⟨w.heap.size, 0, none⟩ v0).setCell ⟨w.heap.size, 1, none⟩ v1) w.heap.size (fun k_ => some k_ ≠ v0.ownBlock) v1 q ∧ Iq w0 ((W.setCell ⟨w.heap.size, 0, none⟩ v0).setCell ⟨w.heap.size, 1, none⟩ v1) g s i ∧ Below w0.heap.size w0 ((W.setCell ⟨w.heap.size, 0, none⟩ v0).setCell ⟨w.heap.size, 1, none⟩ v1) ∧ KB w ((W.setCell ⟨w.heap.size, 0, none⟩ v0).setCell ⟨w.heap.size, 1, none⟩ v1) g none :=
 have z := dkC.put h.R.h h.D0 hs
 have p := (h.P.set h.R.l h.R.n 0 v0).set h.R.l h.R.n 1 v1
 ⟨z.k, z.r, z.s, p.I, p.B, p.K⟩
theorem kdT.cells (h : kdT w0 w W g b s i v0 v1 l) : (W.cell? ⟨b, 0, none⟩ = some v0 ∧ W.cell? ⟨b, 1, none⟩ = some v1 ∧ W.frozen? ⟨b, 0, none⟩ = false ∧ W.frozen? ⟨b, 1, none⟩ = false) ∧ W.cell? ⟨w.heap.size, 0, none⟩ = some (.slice none 0 0) ∧ W.cell? ⟨w.heap.size, 1, none⟩ = some (.slice none 0 0) ∧ W.frozen? ⟨w.heap.size, 0, none⟩ = false ∧ W.frozen? ⟨w.heap.size, 1, none⟩ = false :=
 ⟨⟨bC h.X 0, bC h.X 1, bF h.X 0, bF h.X 1⟩, bC h.R.h 0, bC h.R.h 1, bF h.R.h 0, bF h.R.h 1⟩
theorem kdS.base (h : kdS w0 w W0 W g b s i v0 v1 l q) : w.heap.size ≤ W.heap.size := Nat.le_trans (Nat.le_of_lt h.L) h.P.K.1
theorem kdS.fin {j : Int} (hU : rdP w0 w W0 g s j) (h : kdS w0 w W0 W g b s i v0 v1 l q) {u0 u1 : Value} {l' : List Int} {q' : List (List Int)} (hr : Kd.R (Kd.int .i64) 3 W w.heap.size (fun _ => True) u0 l') (hs : Kd.S (Kd.slice 3 (Kd.int .i64)) 28 W w.heap.size (fun k_ => some k_ ≠ u0.ownBlock) u1 q') : ((W.setCell ⟨w.heap.size, 0, none⟩ u0).setCell ⟨w.heap.size, 1, none⟩ u1).heap[w.heap.size]? = some (.cells #[u0, u1] 31 (0, 0)) ∧ Kd.R (Kd.int .i64) 3 ((W.setCell ⟨w.heap.size, 0, none⟩ u0).setCell ⟨w.heap.size, 1, none⟩ u1) w.heap.size (fun _ => True) u0 l' ∧ Kd.S (Kd.slice 3 (Kd.int .i64)) 28 ((W.setCell ⟨w.heap.size, 0, none⟩ u0).setCell ⟨w.heap.size, 1, none⟩ u1) w.heap.size (fun k_ => some k_ ≠ u0.ownBlock) u1 q' ∧ Iq w0 ((W.setCell ⟨w.heap.size, 0, none⟩ u0).setCell ⟨w.heap.size, 1, none⟩ u1) g s i ∧ Below w0.heap.size w0 ((W.setCell ⟨w.heap.size, 0, none⟩ u0).setCell ⟨w.heap.size, 1, none⟩ u1) ∧ KB w ((W.setCell ⟨w.heap.size, 0, none⟩ u0).setCell ⟨w.heap.size, 1, none⟩ u1) g none :=
 have z := dkC.put h.R.h hr hs
 have p : rdP w0 w W g s i := ⟨h.P.I, h.P.B, hU.K.trans h.P.K (.inl rfl), hU.L⟩
 have p := (p.set h.R.l h.R.n 0 u0).set h.R.l h.R.n 1 u1
 ⟨z.k, z.r, z.s, p.I, p.B, p.K⟩
theorem kdS.new (hP : rdP w0 W0 W g s i) (hR : rdX w W g w.heap.size (.cells #[.slice none 0 0, .slice none 0 0] 31 (0, 0))) (hL : w.heap.size < W0.heap.size) (hr : Kd.R (Kd.int .i64) 3 W w.heap.size (fun _ => True) v0 l) (hs : Kd.S (Kd.slice 3 (Kd.int .i64)) 28 W w.heap.size (fun k_ => some k_ ≠ v0.ownBlock) v1 q) : kdS w0 w W0 (W.alloc (.cells #[v0, v1] 31)) g W.heap.size s i v0 v1 l q :=
 ⟨hP.alloc _, rdX.new hP _ _, hR.alloc _, Kd.Ra hr _, Kd.S_alloc hs _, hL⟩
structure kdN (w W0 W : World) (g c b : Nat) (u0 u1 : Value) (l : List Int) (q : List (List Int)) : Prop where
 X : rdX W0 W g c (.cells #[u0, u1] 31 (0, 0))
 D0 : Kd.R (Kd.int .i64) 3 W w.heap.size (fun _ => True) u0 l
 D1 : Kd.S (Kd.slice 3 (Kd.int .i64)) 28 W w.heap.size (fun k_ => some k_ ≠ u0.ownBlock) u1 q
 n : c ≠ b
theorem kdN.end1 (h : kdS w0 w W0 W g b s i v0 v1 l q) {u0 u1 : Value} {l' : List Int} {q' : List (List Int)} (hr : Kd.R (Kd.int .i64) 3 W w.heap.size (fun _ => True) u0 l') (hs : Kd.S (Kd.slice 3 (Kd.int .i64)) 28 W w.heap.size (fun k_ => some k_ ≠ u0.ownBlock) u1 q') {c : Nat} (hc : W.heap.size = c) : kdS w0 w W0 (W.alloc (.cells #[u0, u1] 31)) g b s i v0 v1 l q ∧ kdN w W0 (W.alloc (.cells #[u0, u1] 31)) g c b u0 u1 l' q' :=
 hc ▸ ⟨h.alloc _, rdX.new h.P _ _, Kd.Ra hr _, Kd.S_alloc hs _, Nat.ne_of_gt (blk_lt h.X.h)⟩
theorem kdN.end2 {wr : World} (h : kdS w0 w W0 W g b s i v0 v1 l q) {c : Nat} {x y : Value} (hx : rdX wr W g c (.cells #[x, y] 31 (0, 0))) (hb : b < wr.heap.size) (hw : W0.heap.size ≤ wr.heap.size) {u0 u1 : Value} {l' : List Int} {q' : List (List Int)} (hr : Kd.R (Kd.int .i64) 3 W w.heap.size (fun _ => True) u0 l') (hs : Kd.S (Kd.slice 3 (Kd.int .i64)) 28 W w.heap.size (fun k_ => some k_ ≠ u0.ownBlock) u1 q') : kdS w0 w W0 ((W.setCell ⟨c, 0, none⟩ u0).setCell ⟨c, 1, none⟩ u1) g b s i v0 v1 l q ∧ kdN w W0 ((W.setCell ⟨c, 0, none⟩ u0).setCell ⟨c, 1, none⟩ u1) g c b u0 u1 l' q' :=
 have z := dkC.put hx.h hr hs
 have n : c ≠ b := Nat.ne_of_gt (Nat.lt_of_lt_of_le hb hx.l)
 have x0 : rdX W0 W g c (.cells #[x, y] 31 (0, 0)) := ⟨hx.h, Nat.le_trans hw hx.l, hx.n⟩
 have x1 : rdX W0 (W.setCell ⟨c, 0, none⟩ u0) g c (.cells #[u0, y] 31 (0, 0)) := ⟨bP hx.h 0 _ rfl, x0.l, hx.n⟩
 ⟨(h.far x0 n 0 u0).far x1 n 1 u1, ⟨z.k, x0.l, hx.n⟩, z.r, z.s, n⟩
theorem kdN.cells {c : Nat} {u0 u1 : Value} (h : kdN w W0 W g c b u0 u1 l q) : W.cell? ⟨c, 0, none⟩ = some u0 ∧ W.cell? ⟨c, 1, none⟩ = some u1 ∧ ((c = b) = False) ∧ ((b = c) = False) :=
 ⟨bC h.X.h 0, bC h.X.h 1, eq_false h.n, eq_false (Ne.symm h.n)⟩
end
theorem F25.calls (k : Nat) (g : Nat) (s0_0 : List Int) (s0_1 : Int) (a1 : Int) (r1 : List Int) (r2 : List (List Int)) (r3 : Int) (w0 w : World) (hI : Iq w0 w g s0_0 s0_1) (hB : Below w0.heap.size w0 w) (h : F25.f k s0_0 s0_1 a1 = some (r1, r2, r3)) :
 Calls Tryz.prog 25 #[.pointer (some ⟨g, 0, none⟩), .int .i64 a1] w fun e w' => ∃ v0_ v1_ : Value, e = .returned (.agg #[v0_, v1_]) ∧ Kd.R (Kd.int .i64) 3 w' w.heap.size (fun _ => True) v0_ r1 ∧ Kd.S (Kd.slice 3 (Kd.int .i64)) 28 w' w.heap.size (fun k_ => some k_ ≠ (v0_ : Value).ownBlock) v1_ r2 ∧ Iq w0 w' g s0_0 r3 ∧ Below w0.heap.size w0 w' ∧ KB w w' g none := by
 have hu31 := Tryz.underlying31
 have HP := Qo.mk (rdP.new hI hB)
 clear hI hB
 unfold F25.f at h
 replace h := Option.bind_eq_some_iff.mp h; obtain ⟨⟨x, i1⟩, e1, h⟩ := h
 have E1 := Qo.mk e1
 clear e1
 replace h := Option.bind_eq_some_iff.mp h; obtain ⟨⟨l, q, e⟩, e1, h⟩ := h
 have E2 := Qo.mk e1
 clear e1
 replace h := Option.bind_eq_some_iff.mp h; obtain ⟨⟨n, i2⟩, e1, h⟩ := h
 have E3 := Qo.mk e1
 have H := Qo.mk h
 clear e1 h
 go_enter Tryz.func25, Tryz.ntmps25
 go_upto_region 1 with (fail)
 have HR := Qo.mk (rdX.new HP.out #[.slice none 0 0, .slice none 0 0] 31)
 have HU := Qo.mk (HP.out.alloc (.cells #[.slice none 0 0, .slice none 0 0] 31))
 have HL := Qo.mk (show w.heap.size < (w.alloc (.cells #[.slice none 0 0, .slice none 0 0] 31)).heap.size by simp)
 generalize w.alloc (.cells #[.slice none 0 0, .slice none 0 0] 31) = W0 at HR HU HL ⊢
 replace HP : Qo (rdP w0 W0 W0 g s0_0 s0_1) := ⟨rdP.new HU.out.I HU.out.B⟩
 go_wp2_with (first
  | (go_at_call 39; ((with_reducible refine Calls.mono (F39.calls k g s0_0 s0_1 0 x i1 w0 _ HP.out.I HP.out.B E1.out) ?_); rintro e w1 ⟨v, rfl, hr, hc⟩; obtain ⟨A, c, rfl⟩ := Kd.Rs hr; replace HR := Qo.mk (HR.out.keep hc.2.2); replace HP := Qo.mk (HP.out.call hc); have HV := Qo.mk (Kd.rr' hr).2; clear hr hc))
  | (go_at_call 46; ((with_reducible refine Calls.mono (F46.calls k A c x l q _ w1 HV.out.2 HV.out.1 E2.out) ?_); rintro e w2 ⟨v0, v1, rfl, hr, hs, hb⟩; obtain ⟨A0, c0, rfl⟩ := Kd.Rs hr; obtain ⟨A1, c1, rfl⟩ := Kd.S_slice hs; have hl := Nat.le_of_lt (Nat.lt_of_lt_of_le HL.out HP.out.K.1); replace HR := Qo.mk (HR.out.below hb); replace HP := Qo.mk (HP.out.below hb); have HD := Qo.mk (kdS.new HP.out HR.out HL.out (Kd.Rl hr hl) (Kd.S_lower hs hl)); clear HP HR HV hr hs hl hb))
  | (go_at_call 19; ((with_reducible refine Calls.mono (F19.calls k g s0_0 i1 6 n i2 w0 _ HD.out.P.I HD.out.P.B E3.out) ?_); rintro e w3 ⟨rfl, hc⟩; replace HD := Qo.mk (HD.out.call hc); clear hc)))
 generalize w2.heap.size = b at HD ⊢
 clear E1 E2 E3
 go_loopg [7] k (fun kq v7 W => ∃ (n i : Int) (l : List Int) (q : List (List Int)) (A0 A1 : Option Addr) (c0 c1 : Nat), v7 = .int .i64 n ∧ Qo (F25.l0 kq a1 n s0_0 i l q = some (r1, r2, r3)) ∧ Qo (kdS w0 w W0 W g b s0_0 i (.slice A0 l.length c0) (.slice A1 q.length c1) l q))
 case atStart => exact ⟨_, _, _, _, _, _, _, _, rfl, H, HD⟩
 case round =>
  clear H HD
  obtain ⟨n, i, l, q, A0, A1, c0, c1, rfl, HA, HD⟩ := hrel
  obtain ⟨x0, x1, f0, f1⟩ := HD.out.cells
  cases gk with
  | zero => exact absurd HA.out (by simp [F25.l0])
  | succ k2 =>
   have h := HA.out
   clear HA
   simp only [F25.l0] at h
   by_cases n0 : n > 0
   ·rw [if_pos n0] at h
    have cn : decide (n > 0) = true := decide_eq_true n0
    have cn2 : (0 < n) = True := eq_true n0
    replace h := Option.bind_eq_some_iff.mp h; obtain ⟨⟨d0, d1, d2, i3⟩, e1, h⟩ := h
    have E1 := Qo.mk e1
    clear e1
    replace h := Option.bind_eq_some_iff.mp h; obtain ⟨⟨l', q', e⟩, e1, h⟩ := h
    have E2 := Qo.mk e1
    have H := Qo.mk h
    clear e1 h
    go_upto_region 5 with (fail)
    have h2 := Qo.mk (far_slice (Iq.own_ne HD.out.P.I HD.out.D0 zh5))
    have HPr := Qo.mk (rdP.new HD.out.P.I HD.out.P.B)
    have HB := Qo.mk (And.intro (blk_lt HD.out.X.h) HD.out.P.K.1)
    have x2 := fun o => (HD.out.alloc o).cells
    go_cut [8, 9] (fun v8 v9 wd => ∃ (c : Nat) (B0 B1 : Option Addr) (b0 b1 : Nat), v8 = .pointer (some ⟨c, 0, none⟩) ∧ v9 = .bool e ∧ Qo ((kdS w0 w W0 wd g b s0_0 i3 (.slice A0 l.length c0) (.slice A1 q.length c1) l q) ∧ kdN w W0 wd g c b (.slice B0 l'.length b0) (.slice B1 q'.length b1) l' q'))
    case first =>
     go_region_law (first
      | (go_simp; go_at_call 48; (with_reducible refine Calls.mono (F48.calls k2 g s0_0 i A0 c0 l d0 d1 d2 i3 w0 _ (kdS.P zh3).I (kdS.P zh3).B (Kd.rr' (kdS.D0 zh3)).2.2 (Kd.rr' (kdS.D0 zh3)).2.1 h2.out E1.out) ?_); rintro _ w4 ⟨rfl, hc⟩; have hk := hc.2.2; (try (have HX := Qo.mk (rdX.keep (w := wr) (g := g) (o := .cells #[.slice none 0 0, .slice none 0 0] 31 (0, 0)) (by (with_reducible repeat first | exact HX.out | exact rdX.new zh9 _ _ | apply rdX.alloc | apply rdX.drew); done) hk); have y0 := HX.out.c2; (try simp only [World.size_alloc] at HX y0))); have HD1 := Qo.mk (kdS.call zh3 hc); have HP1 := Qo.mk (rdP.call zh9 hc); have z0 := HD1.out.cells; have z1 := fun o => (HD1.out.alloc o).cells; clear hc hk)
      | (go_simp; go_at_call 47; (with_reducible refine Calls.mono (F233.calls k2 A0 c0 l A1 c1 q d0 d1 d2 l' q' e _ (Kd.rr' (kdS.D0 zh0)).2.2 (Kd.rr' (kdS.D0 zh0)).2.1 (Kd.S_reads' (kdS.D1 zh0)).2.2 (Kd.S_reads' (kdS.D1 zh0)).2.1 E2.out) ?_); rintro _ w5 ⟨u0, u1, rfl, hr, hs, hb⟩; obtain ⟨B0, b0, rfl⟩ := Kd.Rs hr; obtain ⟨B1, b1, rfl⟩ := Kd.S_slice hs; have hk := KB.of_below hb g none; (try (have HX := Qo.mk (rdX.keep (w := wr) (g := g) (o := .cells #[.slice none 0 0, .slice none 0 0] 31 (0, 0)) (by (with_reducible repeat first | exact HX.out | exact rdX.new (by (with_reducible repeat first | exact HP1.out | apply rdP.alloc | apply rdP.drew); done) _ _ | apply rdX.alloc | apply rdX.drew); done) hk); have y0 := HX.out.c2; (try simp only [World.size_alloc] at HX y0))); have HD2 := Qo.mk (kdS.below zh0 hb); have HN := Qo.mk (And.intro (Kd.Rl hr (kdS.base zh0)) (Kd.S_lower hs (kdS.base zh0))); clear hr hs hb hk)
      | fail)
     all_goals
      go_wp2
      go_meet
      case rel =>
       first
        | exact ⟨_, _, _, _, _, rfl, rfl, ⟨kdN.end1 HD2.out HN.out.1 HN.out.2 (by simp)⟩⟩
        | exact ⟨_, _, _, _, _, rfl, rfl, ⟨kdN.end2 HD2.out HX.out HB.out.1 HB.out.2 HN.out.1 HN.out.2⟩⟩
    case rest =>
     obtain ⟨c, B0, B1, b0, b1, rfl, rfl, HA⟩ := hcut
     have HS := Qo.mk HA.out.1
     have HN := Qo.mk HA.out.2
     obtain ⟨x0, x1, f0, f1⟩ := HS.out.cells
     obtain ⟨y0, y1, y2, y3⟩ := HN.out.cells
     clear HA HD HPr HB h2 E1 E2 x2
     have h := H.out
     clear H
     cases e
     ·rw [if_neg (by simp)] at h
      have H := Qo.mk h
      clear h
      go_wp2
      go_roundg k2
      case measure => omega
      case rel => exact ⟨_, _, _, _, _, _, _, _, rfl, H, HS⟩
     ·rw [if_pos rfl] at h
      have H := Qo.mk h
      clear h
      go_wp2
      go_roundg k2
      case measure => omega
      case rel => exact ⟨_, _, _, _, _, _, _, _, rfl, H, ⟨HS.out.put HN.out.D0 HN.out.D1⟩⟩
   ·rw [if_neg n0] at h
    have cn : decide (n > 0) = false := decide_eq_false n0
    have cn2 : (0 < n) = False := eq_false n0
    replace h := Option.bind_eq_some_iff.mp h; obtain ⟨⟨e, i3⟩, e1, h⟩ := h
    have E1 := Qo.mk e1
    have H := Qo.mk h
    clear e1 h
    go_upto_if 35 with (go_at_call 26; ((with_reducible refine Calls.mono (F26.calls k2 g s0_0 i a1 e i3 w0 _ HD.out.P.I HD.out.P.B E1.out) ?_); rintro e w3 ⟨rfl, hc⟩; replace HD := Qo.mk (HD.out.call hc); clear hc))
    have h := H.out
    clear H E1
    have r0 := HD.out.rcells
    have x0 := HD.out.cells
    have nb := HD.out.ne
    cases e
    ·rw [if_neg (by simp)] at h
     simp only [Option.some.injEq, Prod.mk.injEq] at h
     obtain ⟨rfl, rfl, rfl⟩ := h
     go_wp2
     have z := kdS.fin HU.out HD.out HD.out.D0 HD.out.D1
     exact bodyPost_ret (results_cell_row rfl _ _ w.heap.size 31 #[_, _] (0, 0) _ rfl z.1 Tryz.underlying31 rfl zh7) rfl ⟨_, _, rfl, z.2⟩
    ·rw [if_pos rfl] at h
     replace h := Option.bind_eq_some_iff.mp h; obtain ⟨⟨m, i4⟩, e1, h⟩ := h
     have E1 := Qo.mk e1
     have H := Qo.mk h
     clear e1 h
     go_upto_if 39 with (go_at_call 19; ((with_reducible refine Calls.mono (F19.calls k2 g s0_0 i3 3 m i4 w0 _ HD.out.P.I HD.out.P.B E1.out) ?_); rintro e w4 ⟨rfl, hc⟩; replace HD := Qo.mk (HD.out.call hc); clear hc; have r0 := HD.out.rcells; have x0 := HD.out.cells))
     have h := H.out
     clear H E1
     by_cases m0 : m = 0
     ·subst m0
      rw [if_pos rfl] at h
      simp only [Option.some.injEq, Prod.mk.injEq] at h
      obtain ⟨hy, rfl, rfl⟩ := h
      have HY := Qo.mk hy
      clear hy
      go_upto_region 15 with ((with_reducible refine gD (N := 41) rfl ?_); refine Kd.R_lit (Kd.int .i64) _ 3 ?hg (N := 41) ?hd (xs := ([1] : List Int)) (inner := [.int .i64 1]) (ok := fun _ => True) (okp := fun _ => True) ?hr ?hp (fun _ hk => hk) trivial (Below.refl _ _) (Nat.le_refl _) (by simp) ?_; (case hd => rfl); (case hg => rfl); (case hr => first | (go_simp; done) | (go_simp; rfl)); (case hp => exact (Reps.one (show Kd.M (Kd.int .i64) _ _ _ 1 [.int .i64 1] from rfl) (Reps.none _ _))); intro v5 w5 ho hb _ _; rw [HY.out] at ho; obtain ⟨A5, c5, rfl⟩ := Kd.Rs ho; have z := kdS.put0 (HD.out.below hb) (Kd.Rl ho HD.out.base) (Kd.Sm (Kd.S_elder' HD.out.D1 (Kd.R_base ho) hb) (fun _ h => h.2)); have x0 := (HD.out.below hb).cells; have HD := Qo.mk z; clear z ho hb)
      have x0 := HD.out.cells
      have r0 := HD.out.rcells
      go_wp2
      have z := kdS.fin HU.out HD.out HD.out.D0 HD.out.D1
      exact bodyPost_ret (results_cell_row rfl _ _ w.heap.size 31 #[_, _] (0, 0) _ rfl z.1 Tryz.underlying31 rfl zh7) rfl ⟨_, _, rfl, z.2⟩
     have q0 : (m == 0) = false := by simp [m0]
     rw [if_neg m0] at h
     by_cases m1 : m = 1
     ·subst m1
      rw [if_pos rfl] at h
      by_cases big : q.length < 5864062014805
      rotate_left
      ·rw [if_neg big] at h; cases h
      rw [if_pos big] at h
      simp only [Option.some.injEq, Prod.mk.injEq] at h
      obtain ⟨rfl, hy, rfl⟩ := h
      have BG := Qo.mk big
      obtain ⟨y, hy'⟩ : ∃ y, y = q ++ [([] : List Int)] := ⟨_, rfl⟩
      rw [← hy'] at hy
      have HY := Qo.mk hy'
      subst hy
      clear big hy'
      go_upto_region 15 with (first
       | ((with_reducible refine gD (N := 47) rfl ?_); refine Kd.R_lit (Kd.int .i64) _ 3 ?hg (N := 47) ?hd (xs := ([] : List Int)) (inner := []) (ok := fun _ => True) (okp := fun _ => True) ?hr ?hp (fun _ hk => hk) trivial (Below.refl _ _) (Nat.le_refl _) (by simp) ?_; (case hd => rfl); (case hg => rfl); (case hr => first | (go_simp; done) | (go_simp; rfl)); (case hp => exact (Reps.none _ _)); intro v5 w5 ho hb _ _; have HB := Qo.mk hb; have HV := Qo.mk (Kd.Rl ho HD.out.base); have HN := Qo.mk (Kd.R_base ho); have HD5 := Qo.mk (HD.out.below hb); have HS := Qo.mk (Kd.S_elder' HD.out.D1 (Kd.R_base ho) hb); obtain ⟨A5, c5, rfl⟩ := Kd.Rs ho; have x0 := HD5.out.cells; have x1 := fun o => (HD5.out.alloc o).cells; clear ho hb)
       | ((with_reducible refine gB (b := .append) (xs := #[.tmp 46, .tmp 48]) rfl ?_); at_builtin; (refine Kd.S_append (Kd.slice 3 (Kd.int .i64)) (w0 := w5) w.heap.size rfl (.tmp 46) (.tmp 48) 29 28 (.slice none 0 0) 24 rfl Tryz.underlying29 info28 rfl zh5 (by omega) (.slice A1 q.length c1) q [] [.slice A5 0 c5] (fun k_ => some k_ ≠ (.slice A0 l.length c0 : Value).ownBlock) (fun k_ => some k_ = (.slice A5 0 c5 : Value).ownBlock) rfl rfl (Kd.M_row (Kd.Rm (Kd.R_tight rfl HV.out) (fun _ h_ => h_))) (fun k_ hk_ => ⟨fun e => absurd (Kd.R_lt HD.out.D0 k_ e.symm) (Nat.not_lt.2 (HN.out k_ hk_.symm)), fun e => absurd (Kd.S_lt HD.out.D1 k_ e.symm) (Nat.not_lt.2 (HN.out k_ hk_.symm))⟩) (Kd.fresh' (Kd.R_lt HD5.out.D0)) (Kd.Sm HS.out (fun k_ hk => ⟨hk.1, hk.2⟩)) (Below.refl _ _) HD5.out.base (by have := BG.out; omega) ?_); intro v7 w7 hs7 hb7 hg7 _; rw [← HY.out] at hs7; obtain ⟨A7, c7, rfl⟩ := Kd.S_slice hs7; have HT := Qo.mk (kdS.grow HU.out HD5.out hb7 hg7); have HS7 := Qo.mk hs7; obtain ⟨x0, r0⟩ := HT.out.cells; clear hs7 hb7 hg7))
      go_wp2
      have z := HT.out.put HS7.out
      have z := z.1.fin z.2
      exact bodyPost_ret (results_cell_row rfl _ _ w.heap.size 31 #[_, _] (0, 0) _ rfl z.1 Tryz.underlying31 rfl zh7) rfl ⟨_, _, rfl, z.2⟩
     have q1 : (m == 1) = false := by simp [m1]
     rw [if_neg m1] at h
     simp only [Option.some.injEq, Prod.mk.injEq] at h
     obtain ⟨rfl, rfl, rfl⟩ := h
     go_wp2
     have z := kdS.fin HU.out HD.out (Kd.R_nil (Kd.int .i64) 3 _ _ _) (Kd.S_nil (Kd.slice 3 (Kd.int .i64)) 28 _ _ _)
     exact bodyPost_ret (results_cell_row rfl _ _ w.heap.size 31 #[_, _] (0, 0) _ rfl z.1 Tryz.underlying31 rfl zh7) rfl ⟨_, _, rfl, z.2⟩
end
end Go.Proofs.YtnpoeeliaolbaaaGreatDoor.LA
