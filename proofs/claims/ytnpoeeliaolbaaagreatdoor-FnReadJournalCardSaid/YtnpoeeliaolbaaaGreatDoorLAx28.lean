/- Printed out of the translation: functions with the answers of the Go code, and their contracts; no further conditions. -/
import Derived.Deep.CutBlock
import Derived.Deep.RegionHeld3
import Derived.Deep.RegionLaw
import Derived.Outline
import Derived.Test.YtnpoeeliaolbaaaGreatDoorLAx0
import Derived.Test.YtnpoeeliaolbaaaGreatDoorLAx12
import Derived.Test.YtnpoeeliaolbaaaGreatDoorLAx25
namespace Go.Proofs.YtnpoeeliaolbaaaGreatDoor.LA
open Go.RowKit Go.Proofs.YtnpoeeliaolbaaaGreatDoorV.PrintWords Go.Proofs.YtnpoeeliaolbaaaGreatDoorV.PrintLast Go.Proofs.YtnpoeeliaolbaaaGreatDoorV.PrintMore
attribute [local go_sem] max2_int min2_int max_two min_two max_three min_three max_four min_four
set_option linter.unusedVariables false
set_option linter.unusedSimpArgs false
set_option maxHeartbeats 16000000
set_option maxRecDepth 100000
mutual
def F182.l0 : Nat → List Int → Int → Int → Int → Option (List Int)
 | 0, _, _, _, _ => none
 | k + 1, x0, x1, x2, x6 => if x6 < x2 then (F182.l1 k x0 x1 x2 x6 x6) else (some x0)
def F182.l1 : Nat → List Int → Int → Int → Int → Int → Option (List Int)
 | 0, _, _, _, _, _ => none
 | k + 1, x0, x1, x2, x6, x7 => if x7 > x1 then (if 0 ≤ x7 then (if x7 < (x0.length : Int) then (if 0 ≤ (wrap64 (x7 - 1)) then (if (wrap64 (x7 - 1)) < (x0.length : Int) then ((F188.f (rd x0 x7) (rd x0 (wrap64 (x7 - 1)))).bind fun t807 => (if t807 = true then (F182.l1 k ((x0.set (x7 : Int).toNat (rd x0 (wrap64 (x7 - 1)))).set ((wrap64 (x7 - 1)) : Int).toNat (rd x0 x7)) x1 x2 x6 (wrap64 (x7 - 1))) else (F182.l0 k x0 x1 x2 (wrap64 (x6 + 1))))) else (none)) else (none)) else (none)) else (none)) else (F182.l0 k x0 x1 x2 (wrap64 (x6 + 1)))
end
def F182.f (k : Nat) (l0 : List Int) (a1 : Int) (a2 : Int) : Option (List Int) := F182.l0 k l0 a1 a2 (wrap64 (a1 + 1))
theorem F182.ml : ∀ k, (∀ y0 y1 y2 y3, LeO (F182.l0 k y0 y1 y2 y3) (F182.l0 (k + 1) y0 y1 y2 y3)) ∧ (∀ y0 y1 y2 y3 y4, LeO (F182.l1 k y0 y1 y2 y3 y4) (F182.l1 (k + 1) y0 y1 y2 y3 y4))
 | 0 => ⟨fun _ _ _ _ r h => by simp [F182.l0] at h, fun _ _ _ _ _ r h => by simp [F182.l1] at h⟩
 | k + 1 => by
  obtain ⟨ih0, ih1⟩ := F182.ml k
  refine ⟨?_, ?_⟩
  ·intro y0 y1 y2 y3
   unfold F182.l0
   exact zm
  ·intro y0 y1 y2 y3 y4
   unfold F182.l1
   exact zm
theorem F182.mono : ∀ a0 a1 a2 k, LeO (F182.f k a0 a1 a2) (F182.f (k + 1) a0 a1 a2) := by
 intro a0 a1 a2 k;obtain ⟨ih0, ih1⟩ := F182.ml k;unfold F182.f;exact zm
def F182.T4 : Bool × List (List Nat × List Nat) := (true, [([], []), ([], []), ([0, 1], [0, 1]), ([2], [2]), ([3], [3]), ([3], [3]), ([4, 5, 3], [3, 4, 5]), ([6, 3], [3, 6]), ([3], [3]), ([3], [3]), ([9, 3], [3, 9]), ([8, 10, 3], [3, 8, 10]), ([11, 3], [3, 11]), ([7, 12, 3, 3], [3, 7, 12]), ([3, 13], [3, 13])])
def F182.B4 : List Nat := [0, 0, 3, 7, 15, 15, 63, 127, 15, 15, 527, 1807, 3855, 8191, 16383]
theorem F182.tab4 : rtab .any (opsOf Tryz.f182 4) = F182.T4 := by kernel_rfl
theorem F182.bits4 : waitsOk F182.T4.2 F182.B4 = true := by kernel_rfl
def F182.T6 : Bool × List (List Nat × List Nat) := (true, [([], []), ([], []), ([], []), ([], []), ([3], [3]), ([], []), ([], []), ([6], [6]), ([5, 7], [5, 7]), ([8], [8]), ([], []), ([], []), ([10, 11], [10, 11]), ([12], [12]), ([0, 1, 0, 1, 5, 6, 7, 8, 9, 13], [0, 1]), ([14, 9, 0, 1, 5, 6, 7, 8, 9, 13], [9, 14]), ([2, 4, 0, 1, 2, 3, 4, 5, 6, 7, 8, 9, 10, 11, 12, 13, 14, 15], [2, 4]), ([16, 13, 15, 0, 1, 2, 3, 4, 5, 6, 7, 8, 9, 10, 11, 12, 13, 14, 15], [13, 16])])
def F182.B6 : List Nat := [0, 0, 0, 0, 8, 0, 0, 64, 224, 480, 0, 0, 3072, 7168, 16355, 32739, 65535, 131071]
theorem F182.tab6 : rtab .any (opsOf Tryz.f182 6) = F182.T6 := by kernel_rfl
theorem F182.bits6 : waitsOk F182.T6.2 F182.B6 = true := by kernel_rfl
theorem F182.calls (k : Nat) (P0_ : Nat → Prop) (u9000_ : Value) (l0 : List Int) (a1 : Int) (a2 : Int) (r : List Int) (w0 w : World) (hB : Below w0.heap.size w0 w) (ho0 : Kd.R (Kd.int .i64) 3 w w0.heap.size P0_ u9000_ l0) (h : F182.f k l0 a1 a2 = some r) :
  Calls Tryz.prog 182 #[u9000_, .int .i64 a1, .int .i64 a2] w fun e w' => e = .returned (.tuple #[]) ∧ Kd.R (Kd.int .i64) 3 w' w0.heap.size (fun k_ => (P0_ k_ ∨ w.heap.size ≤ k_)) u9000_ r ∧ Below w0.heap.size w0 w' ∧ Kept w w' (fun k_ => P0_ k_) := by
 have HO0:=zM (show Kd.R (Kd.int .i64) 3 w w0.heap.size (fun k_ => (P0_ k_ ∨ w.heap.size ≤ k_)) u9000_ l0 from Kd.Rm ho0 (fun k_ hk => (.inl hk)));have HK:=zM (Kept.refl w (fun k_ => P0_ k_));have HW0:=zM hB.size;have HB:=zM hB;clear hB;have H : (F182.l0 k l0 a1 a2 (wrap64 (a1 + 1))) = some r := h;clear h;have H':=zM H;clear H;go_enter Tryz.func182, Tryz.ntmps182;go_wp2;go_loopg [6] k (fun kq v6 w' => ∃ (x0_1 : List Int) (x6_1 : Int), v6 = .int .i64 x6_1 ∧ Qo (F182.l0 kq x0_1 a1 a2 x6_1 = some r) ∧ Qo (kq ≤ k) ∧ Qo (Kd.R (Kd.int .i64) 3 w' w0.heap.size (fun k_ => (P0_ k_ ∨ w.heap.size ≤ k_)) u9000_ x0_1) ∧ Qo (Kept w w' (fun k_ => P0_ k_)) ∧ Qo (Below w0.heap.size w0 w'))
 case atStart => exact ⟨(l0), (wrap64 (a1 + 1)), zs7, H', ⟨Nat.le_refl _⟩, ⟨(zs5 HO0)⟩, ⟨(zs33 HK)⟩, ⟨(zs3 HB)⟩⟩
 case round =>
  clear H';obtain ⟨x0_1, x6_1, rfl, HA, HK1, HO_0, HK, HB⟩ := hrel;cases gk with
  | zero => exact absurd HA.out (by simp [F182.l0])
  | succ k1 =>
   have H := HA.out;clear HA;simp only [F182.l0] at H;by_cases c4 : x6_1 < a2
   ·rw [if_pos c4] at H;have c4b0 := decide_eq_true c4;clear c4;have H':=zM H;clear H;go_wp2;go_loopg [7] k1 (fun kq v7 w' => ∃ (x0_2 : List Int) (x7_2 : Int), v7 = .int .i64 x7_2 ∧ Qo (F182.l1 kq x0_2 a1 a2 x6_1 x7_2 = some r) ∧ Qo (kq ≤ k1) ∧ Qo (Kd.R (Kd.int .i64) 3 w' w0.heap.size (fun k_ => (P0_ k_ ∨ w.heap.size ≤ k_)) u9000_ x0_2) ∧ Qo (Kept w w' (fun k_ => P0_ k_)) ∧ Qo (Below w0.heap.size w0 w'))
    case atStart => exact ⟨(x0_1), (x6_1), zs7, H', ⟨Nat.le_refl _⟩, ⟨(zs5 HO_0)⟩, ⟨(zs33 HK)⟩, ⟨(zs3 HB)⟩⟩
    case round =>
     clear H';obtain ⟨x0_2, x7_2, rfl, HA, HK2, HO_0, HK, HB⟩ := hrel;cases gk with
     | zero => exact absurd HA.out (by simp [F182.l1])
     | succ k2 =>
      have H := HA.out;clear HA;simp only [F182.l1] at H;by_cases c5 : x7_2 > a1
      ·rw [if_pos c5] at H;have c5b0 : decide (a1 < x7_2) = true := decide_eq_true c5;clear c5;replace H := zn H; obtain ⟨c6, H⟩ := H;have c6b0 := decide_eq_true c6;clear c6;replace H := zn H; obtain ⟨c7, H⟩ := H;have c7b0 := decide_eq_true c7;clear c7;obtain ⟨ji8, hji8⟩ : ∃ j_ : Int, (wrap64 (x7_2 - 1)) = j_ := ⟨_, rfl⟩;(replace H : (if 0 ≤ (ji8) then (if (ji8) < (x0_2.length : Int) then ((F188.f (rd x0_2 x7_2) (rd x0_2 (ji8))).bind fun t807 => (if t807 = true then (F182.l1 k2 ((x0_2.set (x7_2 : Int).toNat (rd x0_2 (ji8))).set ((ji8) : Int).toNat (rd x0_2 x7_2)) a1 a2 x6_1 ji8) else (F182.l0 k2 x0_2 a1 a2 (wrap64 (x6_1 + 1))))) else (none)) else (none)) = some r := by first | (rw [hji8] at H; exact H) | (simp only [hji8] at H ⊢; exact H));have hji8w : (IntKind.i64.wrap (x7_2 - 1)) = ji8 := (i64_w _).trans hji8;replace H := zn H; obtain ⟨c9, H⟩ := H;have c9b0 := decide_eq_true c9;clear c9;replace H := zn H; obtain ⟨c10, H⟩ := H;have c10b0 := decide_eq_true c10;clear c10;replace H := zb H; obtain ⟨t807, A11, H⟩ := H; (try dsimp only at H);by_cases c12 : t807 = true
       ·subst c12;(have H1 : (F182.l1 k2 ((x0_2.set (x7_2 : Int).toNat (rd x0_2 (ji8))).set ((ji8) : Int).toNat (rd x0_2 x7_2)) a1 a2 x6_1 ji8) = some r := by rw [if_pos rfl] at H; exact H);clear H;have H := H1;clear H1;obtain ⟨y810, hy810⟩ : ∃ y_ : List Int, y_ = (x0_2.set (x7_2 : Int).toNat (rd x0_2 (ji8))) := ⟨_, rfl⟩; rw [← hy810] at H; have Ny810:=zM hy810; clear hy810;obtain ⟨y811, hy811⟩ : ∃ y_ : List Int, y_ = (y810.set ((ji8) : Int).toNat (rd x0_2 x7_2)) := ⟨_, rfl⟩; rw [← hy811] at H; have Ny811:=zM hy811; clear hy811;have H':=zM H;clear H;(try go_wp2);replace HO_0:=zM (Kd.Rd HO_0.out);replace HK:=zM (Kept.drew HK.out);replace HB:=zM (zC HB.out);obtain ⟨Ao16, co16, eo16⟩ := Kd.Rs HO_0.out;(first | subst eo16 | (injection eo16 with f1_ f2_ f3_; have f4_ := f1_.symm; have f5_ := f3_.symm; clear f1_ f2_ f3_; subst f4_; subst f5_));have p805 : 0 ≤ (x7_2 : Int) := of_decide_eq_true zs0;have q805 : x7_2 < (x0_2.length : Int) := of_decide_eq_true zs0;obtain ⟨ad805, e805, hx805_0⟩ := Kd.at_int (Kd.rr' HO_0.out).2.2 x7_2 p805 q805;cases e805;replace p805 := eq_true p805;replace q805 := eq_true q805;have p806 : 0 ≤ ((ji8) : Int) := of_decide_eq_true zs0;have q806 : (ji8) < (x0_2.length : Int) := of_decide_eq_true zs0;obtain ⟨ad806, e806, hx806_0⟩ := Kd.at_int (Kd.rr' HO_0.out).2.2 (ji8) p806 q806;obtain rfl : ad805 = ad806 := (by injection e806);replace p806 := eq_true p806;replace q806 := eq_true q806;refine start_ (n := 15) (S := fun w' => w'.cell? (ad805.add (x7_2).toNat) = some (.int .i64 (rd x0_2 x7_2)) ∧ w'.cell? (ad805.add ((ji8)).toNat) = some (.int .i64 (rd x0_2 (ji8)))) (ds := []) (zL 15 0) zk rfl rfl ⟨hx805_0, hx806_0⟩ (fun hHeld => ?_); refine with_tabW F182.tab4 F182.bits4 (fun HT_ HW_ => ?_);generalize wr.drew = w15 at HO_0 HK HB hx805_0 hx806_0 hHeld ⊢;refine zp 0 (some 16) (zL 15 1) HT_ ?_;refine zp 1 (some 17) (zL 15 3) HT_ ?_;refine zp 2 (some 18) (zL 15 7) HT_ ?_;refine zp 3 (some 19) (zL 15 15) HT_ ?_;refine zp 4 (some 20) (zL 15 31) HT_ ?_;refine zp 5 (some 21) (zL 15 63) HT_ ?_;refine zp 6 (some 22) (zL 15 127) HT_ ?_;refine zp 8 (some 24) (zL 15 383) HT_ ?_;refine zp 9 (some 25) (zL 15 895) HT_ ?_;refine zp 10 (some 26) (zL 15 1919) HT_ ?_;refine zp 11 (some 27) (zL 15 3967) HT_ ?_;refine zt 7 (some 23) (zL 15 4095) HT_ HW_ hHeld rfl ?_ (hy := by rintro w' ⟨s0, s1⟩; go_simp; with_reducible rfl);refine zt 12 (some 28) (zL 15 8191) HT_ HW_ hHeld rfl ?_ (hy := by rintro w' ⟨s0, s1⟩; go_simp; with_reducible rfl);refine one_ (i := 13) (N := some 29) (zL 15 16383) rfl rfl (one_of HT_.out zk) zd (fun K hK => ?_);refine zv Tryz.func188 #[.int .i64 (rd x0_2 x7_2), .int .i64 (rd x0_2 (ji8))] ?_ (hargs := by (try simp only [List.map_toArray, List.map_cons, List.map_nil]); first | done | (simp only [hji8]; rfl) | rfl);(with_reducible refine (F188.calls (rd x0_2 x7_2) (rd x0_2 (ji8)) true _ A11.out).mono ?_);rintro e w' ⟨rfl, ⟨nd, rfl⟩⟩;refine ⟨_, rfl, ?_⟩;refine hK.out _ _ ⟨hHeld.1, hHeld.2⟩ (fun hHeld => ?_);clear hK K;refine zq (some 29) ?_;refine zp 14 (some 30) (zL 15 32767) HT_ ?_;refine done_ (done_of HT_.out zk) ?_;(try go_wp2);(try (rw [drewN_self w15]; generalize hq_ : World.drewN w15 _ = w15; replace HO_0 : Qo (Kd.R (Kd.int .i64) 3 w15 w0.heap.size (fun k_ => (P0_ k_ ∨ w.heap.size ≤ k_)) (.slice (some ad805) x0_2.length co16) x0_2) := ⟨by rw [← hq_]; exact (zs5 HO_0)⟩; replace HK : Qo (Kept w w15 (fun k_ => P0_ k_)) := ⟨by rw [← hq_]; exact (zs33 HK)⟩; replace HB : Qo (Below w0.heap.size w0 w15) := ⟨by rw [← hq_]; exact (zs3 HB)⟩; clear hq_));replace HO_0:=zM (Kd.Rd HO_0.out);replace HK:=zM (Kept.drew HK.out);replace HB:=zM (zC HB.out);have p808 : 0 ≤ ((ji8) : Int) := of_decide_eq_true zs0;have q808 : (ji8) < (x0_2.length : Int) := of_decide_eq_true zs0;obtain ⟨ad808, e808, hx808_0⟩ := Kd.at_int (Kd.rr' HO_0.out).2.2 (ji8) p808 q808;obtain rfl : ad805 = ad808 := (by injection e808);replace p808 := eq_true p808;replace q808 := eq_true q808;have p809 : 0 ≤ (x7_2 : Int) := of_decide_eq_true zs0;have q809 : x7_2 < (x0_2.length : Int) := of_decide_eq_true zs0;obtain ⟨ad809, e809, hx809_0⟩ := Kd.at_int (Kd.rr' HO_0.out).2.2 x7_2 p809 q809;obtain rfl : ad805 = ad809 := (by injection e809);replace p809 := eq_true p809;replace q809 := eq_true q809;have p13 : 0 ≤ (x7_2 : Int) := of_decide_eq_true zs0;have q13 : (x7_2 : Int) < ((x0_2.length : Int) : Int) := of_decide_eq_true zs0;obtain ⟨go13, co13, eo13, gb13, gl13, cl13, HG13⟩ := Kd.R_form HO_0.out zo_;(first | cases eo13 | (injection eo13 with ea_ en_ ec_; (first | subst ea_ | (injection ea_ with ea_; subst ea_)); subst ec_; clear en_));have GB13:=zM gb13;have GG13:=zM HG13;clear gb13 gl13 HG13;have HMgo13:=zM (show (P0_ go13 ∨ w.heap.size ≤ go13) from (HO_0.out.1 _ rfl));(first | simp only [add_plain] at hx805_0 | skip);(first | simp only [add_plain] at hx806_0 | skip);(first | simp only [add_plain] at hx808_0 | skip);(first | simp only [add_plain] at hx809_0 | skip);obtain ⟨hx13_0, hf13_0⟩ := Kd.R_celln 0 HO_0.out (x7_2 : Int) p13 q13;replace p13 := eq_true p13;replace q13 := eq_true q13;have HP18 := Kd.R_putn HO_0.out (x7_2 : Int) (rd x0_2 (ji8));rw [← Ny810.out] at HP18;have HQ18:=zM HP18;clear HP18;have p14 : 0 ≤ ((ji8) : Int) := of_decide_eq_true zs0;have q14 : ((ji8) : Int) < ((x0_2.length : Int) : Int) := of_decide_eq_true zs0;obtain ⟨hx14_0, hf14_0⟩ := Kd.R_celln 0 HQ18.out ((ji8) : Int) p14 q14;replace p14 := eq_true p14;replace q14 := eq_true q14;have HP19 := Kd.R_putn HQ18.out ((ji8) : Int) (rd x0_2 x7_2);rw [← Ny811.out] at HP19;have HQ19:=zM HP19;clear HP19;refine start_ (n := 18) (S := fun w' => w'.cell? ⟨go13, ((ji8)).toNat, none⟩ = some (.int .i64 (rd x0_2 (ji8))) ∧ w'.cell? ⟨go13, (x7_2).toNat, none⟩ = some (.int .i64 (rd x0_2 x7_2))) (ds := [15, 17]) (zL 18 0) zk rfl rfl ⟨hx808_0, hx809_0⟩ (fun hHeld => ?_); refine with_tabW F182.tab6 F182.bits6 (fun HT_ HW_ => ?_);generalize w15.drew = w17 at HO_0 HK HB GG13 HQ18 HQ19 hf13_0 hf14_0 hx13_0 hx14_0 hx805_0 hx806_0 hx808_0 hx809_0 hHeld ⊢;refine zp 0 (some 33) (zL 18 1) HT_ ?_;refine zp 1 (some 34) (zL 18 3) HT_ ?_;refine zp 2 (some 35) (zL 18 7) HT_ ?_;refine zp 3 (some 36) (zL 18 15) HT_ ?_;refine zp 4 (some 37) (zL 18 31) HT_ ?_;refine zp 5 (some 38) (zL 18 63) HT_ ?_;refine zp 6 (some 39) (zL 18 127) HT_ ?_;refine zp 7 (some 40) (zL 18 255) HT_ ?_;refine zp 8 (some 41) (zL 18 511) HT_ ?_;refine zp 10 (some 43) (zL 18 1535) HT_ ?_;refine zp 11 (some 44) (zL 18 3583) HT_ ?_;refine zp 12 (some 45) (zL 18 7679) HT_ ?_;refine zt 9 (some 42) (zL 18 8191) HT_ HW_ hHeld rfl ?_ (hy := by rintro w' ⟨s0, s1⟩; go_simp; with_reducible rfl);refine zt 13 (some 46) (zL 18 16383) HT_ HW_ hHeld rfl ?_ (hy := by rintro w' ⟨s0, s1⟩; go_simp; with_reducible rfl);refine zp 14 (some 47) (zL 18 32767) HT_ ?_;refine last_ (i := 15) (N := none) (zL 18 65535) rfl rfl (one_of HT_.out zk) zd (fun K hK => ?_);refine skip_ (w1 := ?_) (by rfl) rfl ?_ ?_;rotate_left
        ·go_simp;rfl
        refine hK.out _ _ ?_;clear hK K;refine zp 16 (some 48) (zL 18 131071) HT_ ?_;refine last_ (i := 17) (N := none) (zL 18 262143) rfl rfl (one_of HT_.out zk) zd (fun K hK => ?_);refine skip_ (w1 := ?_) (by rfl) rfl ?_ ?_;rotate_left
        ·go_simp;rfl
        refine hK.out _ _ ?_;clear hK K;refine done_ (done_of HT_.out zk) ?_;(try go_wp2);go_roundg k2
        case measure => have := HK1.out; have := HK2.out; omega
        case rel => exact ⟨(y811), (ji8), (by first | rfl | (simp; done) | (simp only [← hji8] <;> (first | rfl | simp)) | (simp [*]; done)), H', ⟨by have := HK1.out; have := HK2.out; omega⟩, ⟨(zs5 HQ19)⟩, ⟨(by repeat (first | (with_reducible first | exact HK.out | apply Kept.alloc | apply Kept.drewN | apply Kept.drew | refine Kept.setCell ?_ HMgo13.out _ | refine Kept.setCell ?_ HMgo13.out _) | exact HK.out))⟩, ⟨(by repeat (first | (with_reducible first | exact HB.out | apply zB | apply zA | apply zC | refine zD ?_ GB13.out | refine zD ?_ GB13.out) | exact HB.out))⟩⟩
       ·replace c12 := Bool.eq_false_iff.mpr c12;subst c12;(have H1 : (F182.l0 k2 x0_2 a1 a2 (wrap64 (x6_1 + 1))) = some r := by rw [if_neg (show ¬ (false = true) by decide)] at H; exact H);clear H;have H := H1;clear H1;have H':=zM H;clear H;(try go_wp2);replace HO_0:=zM (Kd.Rd HO_0.out);replace HK:=zM (Kept.drew HK.out);replace HB:=zM (zC HB.out);obtain ⟨Ao21, co21, eo21⟩ := Kd.Rs HO_0.out;(first | subst eo21 | (injection eo21 with f1_ f2_ f3_; have f4_ := f1_.symm; have f5_ := f3_.symm; clear f1_ f2_ f3_; subst f4_; subst f5_));have p805 : 0 ≤ (x7_2 : Int) := of_decide_eq_true zs0;have q805 : x7_2 < (x0_2.length : Int) := of_decide_eq_true zs0;obtain ⟨ad805, e805, hx805_0⟩ := Kd.at_int (Kd.rr' HO_0.out).2.2 x7_2 p805 q805;cases e805;replace p805 := eq_true p805;replace q805 := eq_true q805;have p806 : 0 ≤ ((ji8) : Int) := of_decide_eq_true zs0;have q806 : (ji8) < (x0_2.length : Int) := of_decide_eq_true zs0;obtain ⟨ad806, e806, hx806_0⟩ := Kd.at_int (Kd.rr' HO_0.out).2.2 (ji8) p806 q806;obtain rfl : ad805 = ad806 := (by injection e806);replace p806 := eq_true p806;replace q806 := eq_true q806;refine start_ (n := 15) (S := fun w' => w'.cell? (ad805.add (x7_2).toNat) = some (.int .i64 (rd x0_2 x7_2)) ∧ w'.cell? (ad805.add ((ji8)).toNat) = some (.int .i64 (rd x0_2 (ji8)))) (ds := []) (zL 15 0) zk rfl rfl ⟨hx805_0, hx806_0⟩ (fun hHeld => ?_); refine with_tabW F182.tab4 F182.bits4 (fun HT_ HW_ => ?_);generalize wr.drew = w20 at HO_0 HK HB hx805_0 hx806_0 hHeld ⊢;refine zp 0 (some 16) (zL 15 1) HT_ ?_;refine zp 1 (some 17) (zL 15 3) HT_ ?_;refine zp 2 (some 18) (zL 15 7) HT_ ?_;refine zp 3 (some 19) (zL 15 15) HT_ ?_;refine zp 4 (some 20) (zL 15 31) HT_ ?_;refine zp 5 (some 21) (zL 15 63) HT_ ?_;refine zp 6 (some 22) (zL 15 127) HT_ ?_;refine zp 8 (some 24) (zL 15 383) HT_ ?_;refine zp 9 (some 25) (zL 15 895) HT_ ?_;refine zp 10 (some 26) (zL 15 1919) HT_ ?_;refine zp 11 (some 27) (zL 15 3967) HT_ ?_;refine zt 7 (some 23) (zL 15 4095) HT_ HW_ hHeld rfl ?_ (hy := by rintro w' ⟨s0, s1⟩; go_simp; with_reducible rfl);refine zt 12 (some 28) (zL 15 8191) HT_ HW_ hHeld rfl ?_ (hy := by rintro w' ⟨s0, s1⟩; go_simp; with_reducible rfl);refine one_ (i := 13) (N := some 29) (zL 15 16383) rfl rfl (one_of HT_.out zk) zd (fun K hK => ?_);refine zv Tryz.func188 #[.int .i64 (rd x0_2 x7_2), .int .i64 (rd x0_2 (ji8))] ?_ (hargs := by (try simp only [List.map_toArray, List.map_cons, List.map_nil]); first | done | (simp only [hji8]; rfl) | rfl);(with_reducible refine (F188.calls (rd x0_2 x7_2) (rd x0_2 (ji8)) false _ A11.out).mono ?_);rintro e w' ⟨rfl, ⟨nd, rfl⟩⟩;refine ⟨_, rfl, ?_⟩;refine hK.out _ _ ⟨hHeld.1, hHeld.2⟩ (fun hHeld => ?_);clear hK K;refine zq (some 29) ?_;refine zp 14 (some 30) (zL 15 32767) HT_ ?_;refine done_ (done_of HT_.out zk) ?_;(try go_wp2);go_roundg k2
        case measure => have := HK1.out; have := HK2.out; omega
        case rel => exact ⟨(x0_2), (wrap64 (x6_1 + 1)), zs7, H', ⟨by have := HK1.out; have := HK2.out; omega⟩, ⟨(zs5 HO_0)⟩, ⟨(zs33 HK)⟩, ⟨(zs3 HB)⟩⟩
      ·rw [if_neg c5] at H;have c5b0 : decide (a1 < x7_2) = false := decide_eq_false c5;clear c5;have H':=zM H;clear H;(try go_wp2);replace HO_0:=zM (Kd.Rd HO_0.out);replace HK:=zM (Kept.drew HK.out);replace HB:=zM (zC HB.out);refine start_ (n := 15) (S := fun w' => True) (ds := []) (zL 15 0) zk rfl rfl trivial (fun hHeld => ?_); refine with_tabW F182.tab4 F182.bits4 (fun HT_ HW_ => ?_);generalize wr.drew = w22 at HO_0 HK HB hHeld ⊢;refine zp 0 (some 16) (zL 15 1) HT_ ?_;refine zp 1 (some 17) (zL 15 3) HT_ ?_;refine zp 2 (some 18) (zL 15 7) HT_ ?_;refine zp 3 (some 19) (zL 15 15) HT_ ?_;refine pure_ (i := 4) (N := some 20) (v := undef) (a' := ?_) (zL 15 31) rfl rfl (any_of HT_.out zk) (fun _ _ _ h => h) (Or.inr ⟨by rfl, rfl⟩) ?_ ?_;rotate_left
       ·simp only [Act.put, zE, zF, zG, i64_w, i32_w];rfl
       refine pure_ (i := 5) (N := some 21) (v := undef) (a' := ?_) (zL 15 63) rfl rfl (any_of HT_.out zk) (fun _ _ _ h => h) (Or.inr ⟨by rfl, rfl⟩) ?_ ?_;rotate_left
       ·simp only [Act.put, zE, zF, zG, i64_w, i32_w];rfl
       refine pure_ (i := 6) (N := some 22) (v := undef) (a' := ?_) (zL 15 127) rfl rfl (any_of HT_.out zk) (fun _ _ _ h => h) (Or.inr ⟨by rfl, rfl⟩) ?_ ?_;rotate_left
       ·simp only [Act.put, zE, zF, zG, i64_w, i32_w];rfl
       refine pure_ (i := 7) (N := some 23) (v := undef) (a' := ?_) (zL 15 255) rfl rfl (any_of HT_.out zk) (fun _ _ _ h => h) (Or.inr ⟨by rfl, rfl⟩) ?_ ?_;rotate_left
       ·simp only [Act.put, zE, zF, zG, i64_w, i32_w];rfl
       refine pure_ (i := 8) (N := some 24) (v := undef) (a' := ?_) (zL 15 511) rfl rfl (any_of HT_.out zk) (fun _ _ _ h => h) (Or.inr ⟨by rfl, rfl⟩) ?_ ?_;rotate_left
       ·simp only [Act.put, zE, zF, zG, i64_w, i32_w];rfl
       refine pure_ (i := 9) (N := some 25) (v := undef) (a' := ?_) (zL 15 1023) rfl rfl (any_of HT_.out zk) (fun _ _ _ h => h) (Or.inr ⟨by rfl, rfl⟩) ?_ ?_;rotate_left
       ·simp only [Act.put, zE, zF, zG, i64_w, i32_w];rfl
       refine pure_ (i := 10) (N := some 26) (v := undef) (a' := ?_) (zL 15 2047) rfl rfl (any_of HT_.out zk) (fun _ _ _ h => h) (Or.inr ⟨by rfl, rfl⟩) ?_ ?_;rotate_left
       ·simp only [Act.put, zE, zF, zG, i64_w, i32_w];rfl
       refine pure_ (i := 11) (N := some 27) (v := undef) (a' := ?_) (zL 15 4095) rfl rfl (any_of HT_.out zk) (fun _ _ _ h => h) (Or.inr ⟨by rfl, rfl⟩) ?_ ?_;rotate_left
       ·simp only [Act.put, zE, zF, zG, i64_w, i32_w];rfl
       refine pure_ (i := 12) (N := some 28) (v := undef) (a' := ?_) (zL 15 8191) rfl rfl (any_of HT_.out zk) (fun _ _ _ h => h) (Or.inr ⟨by rfl, rfl⟩) ?_ ?_;rotate_left
       ·simp only [Act.put, zE, zF, zG, i64_w, i32_w];rfl
       refine pure_ (i := 13) (N := some 29) (v := undef) (a' := ?_) (zL 15 16383) rfl rfl (any_of HT_.out zk) (fun _ _ _ h => h) (Or.inr ⟨by rfl, rfl⟩) ?_ ?_;rotate_left
       ·simp only [Act.put, zE, zF, zG, i64_w, i32_w];rfl
       refine zp 14 (some 30) (zL 15 32767) HT_ ?_;refine done_ (done_of HT_.out zk) ?_;(try go_wp2);go_roundg k2
       case measure => have := HK1.out; have := HK2.out; omega
       case rel => exact ⟨(x0_2), (wrap64 (x6_1 + 1)), zs7, H', ⟨by have := HK1.out; have := HK2.out; omega⟩, ⟨(zs5 HO_0)⟩, ⟨(zs33 HK)⟩, ⟨(zs3 HB)⟩⟩
   ·rw [if_neg c4] at H;have c4b0 := decide_eq_false c4;clear c4;obtain rfl := Option.some.inj H;go_wp2;(first | go_end0 | ((try simp only [Exit.inBlock, Exit.then]); refine bodyPost_ret (results_none rfl _ _ _) rfl ?_));exact ⟨zs6, (zs5 HO_0), (zs3 HB), (zs33 HK)⟩
def F180.f (k : Nat) (l0 : List Int) (a1 a2 a3 : Int) : Option (List Int) := if 0 ≤ a1 ∧ a1 ≤ a2 ∧ a2 ≤ 12 then F182.f k l0 a1 a2 else none
theorem F180.mono : ∀ a0 a1 a2 a3 k, LeO (F180.f k a0 a1 a2 a3) (F180.f (k + 1) a0 a1 a2 a3) := by
 intro a0 a1 a2 a3 k;unfold F180.f;exact LeO.ite (F182.mono _ _ _ _) (LeO.none _)
theorem F180.calls (k : Nat) (P0_ : Nat → Prop) (u9000_ : Value) (l0 : List Int) (a1 a2 a3 : Int) (r : List Int) (w0 w : World) (hB : Below w0.heap.size w0 w) (ho0 : Kd.R (Kd.int .i64) 3 w w0.heap.size P0_ u9000_ l0) (h : F180.f k l0 a1 a2 a3 = some r) :
  Calls Tryz.prog 180 #[u9000_, .int .i64 a1, .int .i64 a2, .int .i64 a3] w fun e w' => e = .returned (.tuple #[]) ∧ Kd.R (Kd.int .i64) 3 w' w0.heap.size (fun k_ => (P0_ k_ ∨ w.heap.size ≤ k_)) u9000_ r ∧ Below w0.heap.size w0 w' ∧ Kept w w' (fun k_ => P0_ k_) := by
 unfold F180.f at h;by_cases hc : 0 ≤ a1 ∧ a1 ≤ a2 ∧ a2 ≤ 12
 ·rw [if_pos hc] at h;obtain ⟨h1, h2, h3⟩ := hc;obtain ⟨Ao, co, eo⟩ := Kd.Rs ho0;subst eo;have HC := F182.calls k P0_ _ l0 a1 a2 r w0 w hB ho0 h;clear ho0 h;have hd : decide (a2 - a1 ≤ 12) = true := decide_eq_true zo_;go_enter Tryz.func180, Tryz.ntmps180;go_wp2;refine wp_loop_rounds 1 ?_;rw [rounds_succ];go_wp2_with (go_at_call 182; refine HC.mono ?_; rintro e w' ⟨rfl, hr, hb, hk⟩);(first | go_end0 | ((try simp only [Exit.inBlock, Exit.then]); refine bodyPost_ret (results_none rfl _ _ _) rfl ?_));exact ⟨rfl, hr, hb, hk⟩
 ·rw [if_neg hc] at h; cases h
def F181.ren : Go.Shelf.Ren := { f := fun x => if x = 125 then 181 else if x = 128 then 191 else if x = 129 then 163 else 0, t := fun x => if x = 3 then 3 else if x = 4 then 4 else if x = 5 then 5 else if x = 9 then 9 else if x = 46 then 115 else if x = 51 then 139 else if x = 53 then 134 else 0, g := fun x => x }
theorem F181.lays : Lays.n125 Tryz.prog F181.ren := {
 mixed := by kernel_rfl
 f125 := by kernel_rfl
 f128 := by kernel_rfl
 f129 := by kernel_rfl
 t3 := by kernel_rfl
 a3 := fun _ => by kernel_rfl
 z3 := fun _ => by kernel_rfl
 v3 := fun _ => by kernel_rfl
 t4 := by kernel_rfl
 a4 := fun _ => by kernel_rfl
 z4 := fun _ => by kernel_rfl
 v4 := fun _ => by kernel_rfl
 t5 := by kernel_rfl
 a5 := fun _ => by kernel_rfl
 z5 := fun _ => by kernel_rfl
 v5 := fun _ => by kernel_rfl
 t9 := by kernel_rfl
 a9 := fun _ => by kernel_rfl
 z9 := fun _ => by kernel_rfl
 v9 := fun _ => by kernel_rfl
 t46 := by kernel_rfl
 a46 := fun _ => by kernel_rfl
 z46 := fun _ => by kernel_rfl
 v46 := fun _ => by kernel_rfl
 t51 := by kernel_rfl
 a51 := fun _ => by kernel_rfl
 z51 := fun _ => by kernel_rfl
 v51 := fun _ => by kernel_rfl
 t53 := by kernel_rfl
 a53 := fun _ => by kernel_rfl
 z53 := fun _ => by kernel_rfl
 v53 := fun _ => by kernel_rfl }
def F181.f (a0 : Int) : Option (Int) := if 0 ≤ a0 ∧ a0 ≤ 18446744073709551615 then some (Lib.bitLen a0.toNat : Int) else none
theorem F181.calls (a0 : Int) (r : Int) (w : World) (h : F181.f a0 = some r) :
  Calls Tryz.prog 181 #[.int .u64 a0] w fun e w' => e = .returned (.int .i64 r) ∧ D0w w w' := by
 unfold F181.f at h;by_cases hc : 0 ≤ a0 ∧ a0 ≤ 18446744073709551615
 ·rw [if_pos hc] at h;obtain rfl := Option.some.inj h;refine (Any.bits_Len (ρ := F181.ren) F181.lays a0 w hc.1 hc.2).mono ?_;rintro e w' ⟨rfl, rfl⟩;exact ⟨rfl, D0w.refl _⟩
 ·rw [if_neg hc] at h; cases h
def F175.f (k : Nat) (l0 : List Int) : Option (List Int) := (F181.f (IntKind.u64.wrap ((l0.length : Int)))).bind fun t812 => ((F180.f k l0 0 (l0.length : Int) t812).bind fun t813 => (some t813))
theorem F175.mono : ∀ a0 k, LeO (F175.f k a0) (F175.f (k + 1) a0) := by
 intro a0 k;unfold F175.f;have := @F180.mono; exact zm
theorem F175.calls (k : Nat) (P0_ : Nat → Prop) (u9000_ : Value) (l0 : List Int) (r : List Int) (w0 w : World) (hB : Below w0.heap.size w0 w) (ho0 : Kd.R (Kd.int .i64) 3 w w0.heap.size P0_ u9000_ l0) (h : F175.f k l0 = some r) :
  Calls Tryz.prog 175 #[u9000_] w fun e w' => e = .returned (.tuple #[]) ∧ Kd.R (Kd.int .i64) 3 w' w0.heap.size (fun k_ => (P0_ k_ ∨ w.heap.size ≤ k_)) u9000_ r ∧ Below w0.heap.size w0 w' ∧ Kept w w' (fun k_ => P0_ k_) := by
 have HO0:=zM (show Kd.R (Kd.int .i64) 3 w w0.heap.size (fun k_ => (P0_ k_ ∨ w.heap.size ≤ k_)) u9000_ l0 from Kd.Rm ho0 (fun k_ hk => (.inl hk)));have HK:=zM (Kept.refl w (fun k_ => P0_ k_));have HW0:=zM hB.size;have HB:=zM hB;clear hB;have H : ((F181.f (IntKind.u64.wrap ((l0.length : Int)))).bind fun t812 => ((F180.f k l0 0 (l0.length : Int) t812).bind fun t813 => (some t813))) = some r := h;clear h;replace H := zb H; obtain ⟨t812, A2, H⟩ := H; (try dsimp only at H);replace H := zb H; obtain ⟨t813, A3, H⟩ := H; (try dsimp only at H);obtain rfl := Option.some.inj H;obtain ⟨Ao4, co4, eo4⟩ := Kd.Rs HO0.out;subst eo4;go_enter Tryz.func175, Tryz.ntmps175;go_wp2_with (first | (refine zg 181 (some 9) Tryz.func181 #[.int .u64 (IntKind.u64.wrap ((l0.length : Int)))] ?_; (with_reducible refine (F181.calls (IntKind.u64.wrap ((l0.length : Int))) t812 _ A2.out).mono ?_); rintro e w' ⟨rfl, ⟨nd, rfl⟩⟩; refine ⟨_, rfl, ?_⟩) | (refine zg 180 (some 10) Tryz.func180 #[.slice Ao4 l0.length co4, .int .i64 0, .int .i64 (l0.length : Int), .int .i64 t812] ?_; (with_reducible refine (F180.calls k (fun k_ => some k_ = (.slice Ao4 l0.length co4 : Value).ownBlock) (.slice Ao4 l0.length co4) l0 0 (l0.length : Int) t812 t813 w0 _ (zs3 HB) ?side2 A3.out).mono ?_); (case side2 => exact Kd.R_tight rfl HO0.out); rintro e w5 ⟨rfl, hy0, hb, hkp⟩; refine ⟨_, rfl, ?_⟩; replace HK:=zM (Kept.then_ (S := (fun k_ => P0_ k_)) (zs33 HK) hkp (fun k_ hs_ => (fun e_ => (HO0.out.1 k_ e_.symm)) hs_)); replace HO0:=zM (Kd.R_reok rfl hy0 (fun k_ e_ => HO0.out.1 k_ e_)); replace HB:=zM (hb); clear hb hkp hy0));(first | go_end0 | ((try simp only [Exit.inBlock, Exit.then]); refine bodyPost_ret (results_none rfl _ _ _) rfl ?_));exact ⟨zs6, (zs5 HO0), (zs3 HB), (zs33 HK)⟩
def F135.ren : Go.Shelf.Ren := { f := fun x => if x = 11 then 179 else 0, t := fun x => if x = 0 then 0 else if x = 24 then 28 else if x = 26 then 3 else if x = 28 then 153 else if x = 33 then 57 else 0, g := fun x => x }
theorem F135.lays : SlLaysZI.n11 Tryz.prog F135.ren := {
 mixed := by kernel_rfl
 f11 := ⟨Tryz.f179.name, by decide, by kernel_rfl⟩
 t0 := by kernel_rfl
 a0 := fun _ => by kernel_rfl
 z0 := fun _ => by kernel_rfl
 v0 := fun _ => by kernel_rfl
 t24 := by kernel_rfl
 a24 := fun _ => by kernel_rfl
 z24 := fun _ => by kernel_rfl
 v24 := fun _ => by kernel_rfl
 t26 := by kernel_rfl
 a26 := fun _ => by kernel_rfl
 z26 := fun _ => by kernel_rfl
 v26 := fun _ => by kernel_rfl
 t28 := by kernel_rfl
 a28 := fun _ => by kernel_rfl
 z28 := fun _ => by kernel_rfl
 v28 := fun _ => by kernel_rfl
 i26 := by kernel_rfl }
theorem F135.values (l0 : List Int) (w0 : World) (fn : FuncId) (sv : Value) (Bs l D : Nat) (hBl : Bs ≠ l) (hDl : D ≠ l) (hDB : D ≠ Bs) (h0B : w0.heap.size ≤ Bs) (h0l : w0.heap.size ≤ l) (hlen : l0.length ≤ 1000) (A0 : Option Addr) (c0 : Nat) (hc0 : l0.length ≤ c0)
  (hr0 : Kd.C (Kd.int .i64) w0 A0 l0.length l0) (Bm : Nat) (hm : w0.cell? ⟨Bm, 0, none⟩ = some (.slice A0 l0.length c0)) (n : Nat) (hn : 1 ≤ n) (W : World) (h : AnyZI.ApAt F135.ren w0 fn sv Bs l D [] W) :
  CallsIn Fence.wide n Tryz.prog 176 #[.func (.yield l) #[] #[], .pointer (some ⟨Bm, 0, none⟩)] W fun e W' => (∃ v, e = .returned v) ∧ AnyZI.ApAt F135.ren w0 fn sv Bs l D l0 W' := by
 have hY : ∀ (k : Nat) (W1 : World), k < l0.length → AnyZI.ApAt F135.ren w0 fn sv Bs l D (l0.take k) W1 → YieldAt Fence.wide (n - 1) Tryz.prog l #[.int .i64 (rd l0 k)] W1 fun e W' => e = .returned (.bool true) ∧ AnyZI.ApAt F135.ren w0 fn sv Bs l D (l0.take k ++ [rd l0 k]) W' ∧ KeepsWalks W1 W' :=
  fun k W1 hk hJ => AnyZI.apYield F135.lays Fence.wide (n - 1) w0 fn trivial sv Bs l D hBl hDl hDB h0B h0l 2000 zd zd (l0.take k) (rd l0 k) W1 hJ (by rw [List.length_take]; omega)
 have hsnoc : ∀ k : Nat, k < l0.length → l0.take k ++ [rd l0 k] = l0.take (k + 1) := fun k hk => by
  rw [List.take_succ_eq_append_getElem hk];simp [rd, hk]
 have HR:=zM hr0;have HM:=zM hm;clear hr0 hm;have hcW : W.cell? ⟨Bm, 0, none⟩ = some (.slice A0 l0.length c0) := (h.below.cell (World.block_lt_of_cell? w0 _ HM.out)).trans HM.out;refine callsIn_of_wp Tryz.func176 rfl trivial ?_ rfl;simp only [Tryz.ntmps176, List.size_toArray, List.length_cons, List.length_nil, Nat.reduceAdd, Nat.reduceSub, Array.replicate_succ, Array.replicate_zero, List.push_toArray, List.append_toArray, List.nil_append, List.cons_append];gi_wp2;gi_loopw [7] (fun i wr => ∃ k : Nat, k ≤ l0.length ∧ i = .int .i64 k ∧ Qo (AnyZI.ApAt F135.ren w0 fn sv Bs l D (l0.take k) wr)) (fun i _ => l0.length - (Go.RowKit.intOf i).toNat)
 case atStart => exact ⟨0, Nat.zero_le _, rfl, ⟨by rw [List.take_zero]; exact h⟩⟩
 case round =>
  obtain ⟨k, hk, rfl, hJ⟩ := hrel;by_cases hlt : k < l0.length
  ·obtain ⟨ad, e1, hx⟩ := Kd.at_int HR.out (k : Int) zo_ zo_;cases e1;have hx2 : wr.cell? (ad.add k) = some (.int .i64 (rd l0 k)) := (hJ.out.below.cell (World.block_lt_of_cell? w0 _ hx)).trans hx;obtain ⟨fn2, tmps, assign, body, hy, hR⟩ := hY k wr hlt hJ.out;have b1 : decide ((k : Int) < (l0.length : Int)) = true := decide_eq_true zo_;(have b2 : (0 : Int) ≤ (k : Int) := by omega);gi_wp2;refine hR.mono ?_;rintro e W3 ⟨rfl, hJ3, hk3⟩;gi_wp2;rw [hsnoc k hlt] at hJ3;go_roundw
   case rel => exact ⟨k + 1, by omega, by go_num, ⟨hJ3⟩⟩
   case measure => simp [Go.RowKit.intOf]; omega
  ·(have hkl : k = l0.length := by omega);subst hkl;have hJ2 := hJ.out;rw [List.take_length] at hJ2;clear hJ;have b1 : decide ((l0.length : Int) < (l0.length : Int)) = false := decide_eq_false zo_;gi_wp2;go_end0;exact ⟨⟨_, rfl⟩, hJ2⟩
theorem F135.appends (l0 : List Int) (hlen : l0.length ≤ 1000) (A0 : Option Addr) (c0 : Nat) (hc0 : l0.length ≤ c0) (w : World) (hr0 : Kd.C (Kd.int .i64) w A0 l0.length l0) (Bm : Nat) (hm : w.cell? ⟨Bm, 0, none⟩ = some (.slice A0 l0.length c0)) (n : Nat) (hn : 2 ≤ n) :
  CallsIn Fence.wide n Tryz.prog 179 #[.slice none 0 0, .func (.func 176) #[] #[.pointer (some ⟨Bm, 0, none⟩)]] w fun e w' => ∃ v, e = .returned v ∧ w'.ownsRow w.heap.size 3 1 v l0.length (l0.map encZ) ∧ Below w.heap.size w w' := by
 have HR:=zM hr0;have HM:=zM hm;clear hr0 hm;refine callsIn_of_wp_marks Tryz.func179 rfl trivial ?_ rfl;simp only [Tryz.ntmps179, List.size_toArray, List.length_cons, List.length_nil, Nat.reduceAdd, Nat.reduceSub, Array.replicate_succ, Array.replicate_zero, List.push_toArray, List.append_toArray, List.nil_append, List.cons_append];gi_wp2;refine wpIn_rangeFunc ?_;intro fn _;have e98 : ∀ args w, (callFunc 176 args).run Tryz.prog w = .ok (.enter 176 args) w := enters_of Tryz.func176 zk rfl;obtain ⟨sv, hsv⟩ : ∃ sv, sv = Value.func (.func 176) #[] #[.pointer (some ⟨Bm, 0, none⟩)] := ⟨_, rfl⟩;obtain ⟨V, hV⟩ : ∃ V, w.alloc (.cells #[.slice none 0 0] 28) = V := ⟨_, rfl⟩;(have hVs : V.heap.size = w.heap.size + 1 := by rw [← hV]; simp);(have hVb : V.heap[w.heap.size]? = some (.cells #[.slice none 0 0] 28 (0, 0)) := by rw [← hV]; exact World.alloc_heap_new w _);(have hVw : Below w.heap.size w V := by rw [← hV]; exact (Below.refl _ w).alloc (Nat.le_refl _) _);obtain ⟨X, hX⟩ : ∃ X, (V.alloc (.deferred (some []))).alloc (.loop (AnyZI.apRec F135.ren fn sv w.heap.size V.heap.size .ready none)) = X := ⟨_, rfl⟩;(have hXs : X.heap.size = V.heap.size + 2 := by rw [← hX]; simp);(have hXw : Below w.heap.size w X := by rw [← hX]; exact (hVw.alloc hVw.size _).alloc (by have := hVw.size; simp; omega) _)
 have hXl : X.heap[V.heap.size + 1]? = some (.loop (AnyZI.apRec F135.ren fn sv w.heap.size V.heap.size .ready none)) := by
  rw [← hX];have := World.alloc_heap_new (V.alloc (.deferred (some []))) (.loop (AnyZI.apRec F135.ren fn sv w.heap.size V.heap.size .ready none));rwa [World.size_alloc] at this
 have hXd : X.heap[V.heap.size]? = some (.deferred (some [])) := by rw [← hX]; exact (Below.heap_alloc _ _ _ (by simp)).trans (World.alloc_heap_new V _)
 have hXb : X.heap[w.heap.size]? = some (.cells #[.slice none 0 0] 28 (0, 0)) := by
  rw [← hX]; exact (Below.heap_alloc _ _ _ (by simp; omega)).trans ((Below.heap_alloc _ _ _ zo_).trans hVb)
 have hM : AnyZI.ApAt F135.ren w fn sv w.heap.size (V.heap.size + 1) V.heap.size [] X := ⟨⟨_, hXb, ⟨rfl, .inl ⟨rfl, rfl⟩⟩, by simp⟩, hXl, hXd, hXw⟩;rw [← hsv, hV];refine ⟨V.heap.size + 1, [{ target := .collected V.heap.size, args := #[] }], X, { target := .fn (.func 176) #[.pointer (some ⟨Bm, 0, none⟩)], args := #[.func (.yield (V.heap.size + 1)) #[] #[]] }, X, 176, #[.func (.yield (V.heap.size + 1)) #[] #[], .pointer (some ⟨Bm, 0, none⟩)], X, ?_, ?_, fun _ _ => trivial, ?_, fun _ => by omega, ?_⟩
 ·rw [← hX]; exact run_enterLoop_outer _ _ _ _ _
 ·rw [hsv]; simp [resolve, go_sem]
 ·simp [invoke, go_sem, e98]
 ·refine (F135.values l0 w fn sv w.heap.size (V.heap.size + 1) V.heap.size zo_ zo_ zo_ (Nat.le_refl _) zo_ hlen A0 c0 hc0 HR.out Bm HM.out (n - 1) zo_ X hM).mono ?_;rintro e Y ⟨⟨v0, rfl⟩, h2⟩;obtain ⟨v, hv, hrow, hnil⟩ := h2.box;have hend := run_endLoop (P := Tryz.prog) h2.L (by simp [AnyZI.apRec]);obtain ⟨Z, hZ⟩ : ∃ Z, Y.putObj (V.heap.size + 1) (.loop { AnyZI.apRec F135.ren fn sv w.heap.size V.heap.size .ready none with state := .exhausted }) = Z := ⟨_, rfl⟩;rw [hZ] at hend;(have hg3 : Y.grownBy Z (some (V.heap.size + 1)) := by rw [← hZ]; exact grownBy_putObj_a _ _ _);(have hv3 : Z.heap[w.heap.size]? = some (.cells #[v] 28 (0, 0)) := by rw [← hZ]; exact (World.putObj_heap_other zo_).trans hv);(have hK3 : Z.heap[V.heap.size]? = some (.deferred (some [])) := by rw [← hZ]; exact (World.putObj_heap_other zo_).trans h2.K);have hrow3 := hrow.kept hg3 (ownsRow_ne_a hrow h2.L (fun cur e => by cases e));have hb3 : Below w.heap.size w Z := h2.below.grown hg3 h2.below.size (fun k e => by cases e; omega);obtain ⟨hc3, hf3⟩ := cell_of_box_a hv3;clear hZ;refine ⟨none, Z, hend, ?_⟩;gi_wp2;rw [← hVs];refine ⟨by simp, .inl ⟨_, _, rfl, run_takeDeferred hK3, ?_⟩⟩;exact ⟨_, results_tmp rfl _ _ _, v, rfl, hrow3.kept (grownBy_putObj_a _ _ _) (ownsRow_ne_a hrow3 hK3 (fun cur e => by cases e)), hb3.grown (grownBy_putObj_a _ _ _) hb3.size (fun k e => by cases e; omega)⟩
theorem F135.collects (l0 : List Int) (hlen : l0.length ≤ 1000) (A0 : Option Addr) (c0 : Nat) (hc0 : l0.length ≤ c0) (w : World) (hr0 : Kd.C (Kd.int .i64) w A0 l0.length l0) (Bm : Nat) (hm : w.cell? ⟨Bm, 0, none⟩ = some (.slice A0 l0.length c0)) :
  Calls Tryz.prog 174 #[.func (.func 176) #[] #[.pointer (some ⟨Bm, 0, none⟩)]] w fun e w' => ∃ v, e = .returned v ∧ Kd.R (Kd.int .i64) 3 w' w.heap.size (fun _ => True) v l0 ∧ Below w.heap.size w w' := by
 have HC := (callsIn_wide (n := 5)).1 (F135.appends l0 hlen A0 c0 hc0 w hr0 Bm hm 5 zo_);clear hr0 hm;go_enter Tryz.func174, Tryz.ntmps174;go_wp2_with (go_at_call 179; refine HC.mono ?_; rintro e w' ⟨v, rfl, hrow, hb⟩);go_ret;exact ⟨v, rfl, Kd.R_of_own (enc := Value.int .i64) hrow.loose (fun _ _ => trivial), hb⟩
theorem F135.sorted (k : Nat) (l0 : List Int) (hlen : l0.length ≤ 1000) (A0 : Option Addr) (c0 : Nat) (hc0 : l0.length ≤ c0) (w : World) (hr0 : Kd.C (Kd.int .i64) w A0 l0.length l0) (Bm : Nat) (hm : w.cell? ⟨Bm, 0, none⟩ = some (.slice A0 l0.length c0)) (s : List Int) (hs : F175.f k l0 = some s) :
  Calls Tryz.prog 160 #[.func (.func 176) #[] #[.pointer (some ⟨Bm, 0, none⟩)]] w fun e w' => ∃ v, e = .returned v ∧ Kd.R (Kd.int .i64) 3 w' w.heap.size (fun _ => True) v s ∧ Below w.heap.size w w' := by
 have HC := F135.collects l0 hlen A0 c0 hc0 w hr0 Bm hm;have HS:=zM hs;clear hr0 hm hs;go_enter Tryz.func160, Tryz.ntmps160
 go_wp2_with (first | (go_at_call 174; refine HC.mono ?_; rintro e w1 ⟨v, rfl, hR, hb⟩) | (go_at_call 175; refine (F175.calls k (fun _ => True) v l0 s w w1 hb hR HS.out).mono ?_; rintro e w2 ⟨rfl, hR2, hb2, hk2⟩))
 go_ret;exact ⟨v, rfl, Kd.Rm hR2 (fun _ _ => trivial), hb2⟩
def F135.f (k : Nat) (l0 : List Int) (a1 : Int) : Option (Bool) := if 1 ≤ a1 ∧ a1 ≤ 8 ∧ (l0.length : Int) = a1 then (F175.f k l0).bind fun s => if s.length ≤ 8 then some (decide (∀ i : Nat, i < s.length → rd s i = (i : Int) + 1)) else none else some false
theorem F135.mono : ∀ a0 a1 k, LeO (F135.f k a0 a1) (F135.f (k + 1) a0 a1) := by
 intro a0 a1 k;unfold F135.f;exact LeO.ite (LeO.bind (F175.mono _ _) (fun _ => LeO.refl _)) (LeO.refl _)
theorem F135.calls (k : Nat) (A0 : Option Addr) (c0 : Nat) (l0 : List Int) (a1 : Int) (r : Bool) (w : World) (hr0 : Kd.C (Kd.int .i64) w A0 l0.length l0) (hc0 : l0.length ≤ c0) (h : F135.f k l0 a1 = some r) :
  Calls Tryz.prog 135 #[.slice A0 l0.length c0, .int .i64 a1] w fun e w' => e = .returned (.bool r) ∧ Below w.heap.size w w' := by
 unfold F135.f at h;have HR:=zM hr0;have HB:=zM hc0;clear hr0 hc0;by_cases c1 : a1 < 1
 ·rw [if_neg zo_] at h;obtain rfl := Option.some.inj h;clear h;have d1 : decide (a1 < 1) = true := decide_eq_true c1;clear c1;go_enter Tryz.func135, Tryz.ntmps135;go_wp2;go_ret;exact ⟨rfl, Below.refl _ _⟩
 ·have d1 : decide (a1 < 1) = false := decide_eq_false c1;by_cases c2 : a1 > 8
  ·rw [if_neg zo_] at h;obtain rfl := Option.some.inj h;clear h;have d2 : decide (8 < a1) = true := decide_eq_true c2;clear c1 c2;go_enter Tryz.func135, Tryz.ntmps135;go_wp2;go_ret;exact ⟨rfl, Below.refl _ _⟩
  ·have d2 : decide (8 < a1) = false := decide_eq_false c2;by_cases c3 : (l0.length : Int) = a1
   ·rw [if_pos ⟨by omega, by omega, c3⟩] at h;obtain ⟨s, hs, h⟩ := Option.bind_eq_some_iff.mp h;by_cases c4 : s.length ≤ 8
    ·rw [if_pos c4] at h;obtain rfl := Option.some.inj h;clear h;have d3 : ((l0.length : Int) == a1) = true := beq_iff_eq.mpr c3;have d4 : ((l0.length : Int) != a1) = false := bne_eq_false_iff_eq.mpr c3;(have hl8 : l0.length ≤ 1000 := by omega)
     have HV : Calls Tryz.prog 161 #[.slice A0 l0.length c0] w fun e w' => e = .returned (.func (.func 176) #[] #[.pointer (some ⟨w.heap.size, 0, none⟩)]) ∧ w' = w.alloc (.cells #[.slice A0 l0.length c0] 28) := by
      clear c1 c2 c3 d1 d2 d3 d4;go_enter Tryz.func161, Tryz.ntmps161;go_wp2;go_ret;exact ⟨rfl, rfl⟩
     have hR1 : Kd.C (Kd.int .i64) (w.alloc (.cells #[.slice A0 l0.length c0] 28)) A0 l0.length l0 := Kd.Cb HR.out ((Below.refl _ w).alloc (Nat.le_refl _) _);have HS := F135.sorted k l0 hl8 A0 c0 HB.out (w.alloc (.cells #[.slice A0 l0.length c0] 28)) hR1 w.heap.size (by go_simp) s hs;clear hs hR1 c3;go_enter Tryz.func135, Tryz.ntmps135
     go_wp2_with (first | (go_at_call 161; refine HV.mono ?_; rintro e w' ⟨rfl, rfl⟩) | (go_at_call 160; refine HS.mono ?_; rintro e w2 ⟨v, rfl, hR2, hb2⟩; obtain ⟨Ao, co, eo⟩ := Kd.Rs hR2; subst eo))
     have HR2:=zM hR2;have HB2:=zM hb2;have HL:=zM c4;clear hR2 hb2 c4 c1 c2 d1 d2 d3 d4;go_loop [23] (fun i => ∃ j : Nat, j ≤ s.length ∧ i = .int .i64 j ∧ Qo (∀ q : Nat, q < j → rd s q = (q : Int) + 1)) (fun i => s.length - (Go.RowKit.intOf i).toNat)
     case atStart => exact ⟨0, Nat.zero_le _, rfl, ⟨fun q hq => by omega⟩⟩
     case round =>
      obtain ⟨j, hj, rfl, hJ⟩ := hrel;have hl8 := HL.out;by_cases hlt : j < s.length
      ·obtain ⟨ad, e1, hx0⟩ := Kd.at_int (Kd.rr' HR2.out).2.2 (j : Int) zo_ zo_;cases e1;have hx : w2.cell? (ad.add j) = some (.int .i64 (rd s (j : Int))) := hx0;clear hx0;(have hj1 : IntKind.i64.wrap ((j : Int) + 1) = (j : Int) + 1 := by rw [i64_w]; unfold wrap64; omega);have b1 : decide ((j : Int) < (s.length : Int)) = true := decide_eq_true zo_;(have b2 : (0 : Int) ≤ (j : Int) := by omega);by_cases e : rd s j = (j : Int) + 1
       ·have b3 : ((rd s (j : Int)) != (j : Int) + 1) = false := bne_eq_false_iff_eq.mpr e;have HE:=zM e;clear e;go_wp2;go_round
        case rel =>
         refine ⟨j + 1, by omega, by go_num, ⟨fun q hq => ?_⟩⟩;by_cases e2 : q = j
         ·subst e2; exact HE.out
         ·exact hJ.out q zo_
        case measure => simp [Go.RowKit.intOf]; omega
       ·have b3 : ((rd s (j : Int)) != (j : Int) + 1) = true := bne_iff_ne.mpr e;have HE:=zM e;clear e;go_wp2;go_ret;have hf : decide (∀ i : Nat, i < s.length → rd s i = (i : Int) + 1) = false := decide_eq_false (fun h => HE.out (h j hlt));rw [hf];exact ⟨rfl, ((Below.refl _ _).alloc (Nat.le_refl _) _).trans (HB2.out.mono (by simp))⟩
      ·have b1 : decide ((j : Int) < (s.length : Int)) = false := decide_eq_false zo_;go_wp2;go_ret;have hf : decide (∀ i : Nat, i < s.length → rd s i = (i : Int) + 1) = true := decide_eq_true (fun q hq => hJ.out q zo_);rw [hf];exact ⟨rfl, ((Below.refl _ _).alloc (Nat.le_refl _) _).trans (HB2.out.mono (by simp))⟩
    ·rw [if_neg c4] at h; cases h
   ·rw [if_neg (fun h => c3 h.2.2)] at h;obtain rfl := Option.some.inj h;clear h;have d3 : ((l0.length : Int) == a1) = false := beq_eq_false_iff_ne.mpr c3;have d4 : ((l0.length : Int) != a1) = true := bne_iff_ne.mpr c3;clear c1 c2 c3;go_enter Tryz.func135, Tryz.ntmps135;go_wp2;go_ret;exact ⟨rfl, Below.refl _ _⟩
def F142.f (k : Nat) (l0 : List Int) (l1 : List Int) : Option (List Int × Bool) := (F37.f k l0).bind fun t814 => (if t814 = true then ((F135.f k l1 (l0.length : Int)).bind fun t815 => (if t815 = true then ((F98.f k l0 l1).bind fun t816 => (some (t816, true))) else (some (([] : List Int), false)))) else (some (([] : List Int), false)))
theorem F142.mono : ∀ a0 a1 k, LeO (F142.f k a0 a1) (F142.f (k + 1) a0 a1) := by
 intro a0 a1 k;unfold F142.f;have := @F135.mono; have := @F37.mono; have := @F98.mono; exact zm
theorem F142.calls (k : Nat) (A0 : Option Addr) (c0 : Nat) (l0 : List Int) (A1 : Option Addr) (c1 : Nat) (l1 : List Int) (r1 : List Int) (r2 : Bool) (w : World) (hr0 : Kd.C (Kd.int .i64) w A0 l0.length l0) (hc0 : l0.length ≤ c0) (hr1 : Kd.C (Kd.int .i64) w A1 l1.length l1) (hc1 : l1.length ≤ c1) (h : F142.f k l0 l1 = some (r1, r2)) :
  Calls Tryz.prog 142 #[.slice A0 l0.length c0, .slice A1 l1.length c1] w fun e w' => ∃ v0_ : Value, e = .returned (.tuple #[v0_, .bool r2]) ∧ Kd.R (Kd.int .i64) 3 w' w.heap.size (fun _ => True) v0_ r1 ∧ Below w.heap.size w w' := by
 have HR0:=zM hr0;have HC0:=zM hc0;clear hr0 hc0;have HR1:=zM hr1;have HC1:=zM hc1;clear hr1 hc1;have HB:=zM (Below.refl w.heap.size w);have H : ((F37.f k l0).bind fun t814 => (if t814 = true then ((F135.f k l1 (l0.length : Int)).bind fun t815 => (if t815 = true then ((F98.f k l0 l1).bind fun t816 => (some (t816, true))) else (some (([] : List Int), false)))) else (some (([] : List Int), false)))) = some (r1, r2) := h;clear h;replace H := zb H; obtain ⟨t814, A3, H⟩ := H; (try dsimp only at H);by_cases c4 : t814 = true
 ·subst c4;(have H1 : ((F135.f k l1 (l0.length : Int)).bind fun t815 => (if t815 = true then ((F98.f k l0 l1).bind fun t816 => (some (t816, true))) else (some (([] : List Int), false)))) = some (r1, r2) := by rw [if_pos rfl] at H; exact H);clear H;have H := H1;clear H1;replace H := zb H; obtain ⟨t815, A5, H⟩ := H; (try dsimp only at H);by_cases c6 : t815 = true
  ·subst c6;(have H1 : ((F98.f k l0 l1).bind fun t816 => (some (t816, true))) = some (r1, r2) := by rw [if_pos rfl] at H; exact H);clear H;have H := H1;clear H1;replace H := zb H; obtain ⟨t816, A7, H⟩ := H; (try dsimp only at H);simp only [Option.some.injEq, Prod.mk.injEq] at H;obtain ⟨rfl, rfl⟩ := H;go_enter Tryz.func142, Tryz.ntmps142;go_wp2_with (first | (refine zg 37 (some 7) Tryz.func37 #[.slice A0 l0.length c0] ?_; (with_reducible refine (F37.calls k _ _ l0 true _ ?side1 ?side2 A3.out).mono ?_); (case side1 => exact (zs28 HR0)); (case side2 => exact HC0.out); rintro e w' ⟨rfl, ⟨nd, rfl⟩⟩; refine ⟨_, rfl, ?_⟩) | (go_at_call 135; (with_reducible refine (F135.calls k _ _ l1 (l0.length : Int) true _ ?side1 ?side2 A5.out).mono ?_); (case side1 => exact (zs28 HR1)); (case side2 => exact HC1.out); rintro e w8 ⟨rfl, hb⟩; replace HB:=zM (bS (zs3 HB) hb); clear hb) | (refine zg 98 (some 18) Tryz.func98 #[.slice A0 l0.length c0, .slice A1 l1.length c1] ?_; (with_reducible refine (F98.calls k _ _ l0 _ _ l1 t816 _ ?side1 ?side2 ?side3 ?side4 A7.out).mono ?_); (case side1 => exact (zs20 HR0 HB)); (case side2 => exact HC0.out); (case side3 => exact (zs20 HR1 HB)); (case side4 => exact HC1.out); rintro e w9 ⟨v817, rfl, ho0, hb⟩; refine ⟨_, rfl, ?_⟩; have HO818:=zM (Kd.Rl ho0 (bZ (zs3 HB))); replace HB:=zM (bS (zs3 HB) hb); clear hb ho0));go_ret2;exact ⟨_, zs6, (zs5 HO818), (zs3 HB)⟩
  ·replace c6 := Bool.eq_false_iff.mpr c6;subst c6;(have H1 : (some (([] : List Int), false)) = some (r1, r2) := by rw [if_neg (show ¬ (false = true) by decide)] at H; exact H);clear H;have H := H1;clear H1;simp only [Option.some.injEq, Prod.mk.injEq] at H;obtain ⟨rfl, rfl⟩ := H;go_enter Tryz.func142, Tryz.ntmps142;go_wp2_with (first | (refine zg 37 (some 7) Tryz.func37 #[.slice A0 l0.length c0] ?_; (with_reducible refine (F37.calls k _ _ l0 true _ ?side1 ?side2 A3.out).mono ?_); (case side1 => exact (zs28 HR0)); (case side2 => exact HC0.out); rintro e w' ⟨rfl, ⟨nd, rfl⟩⟩; refine ⟨_, rfl, ?_⟩) | (go_at_call 135; (with_reducible refine (F135.calls k _ _ l1 (l0.length : Int) false _ ?side1 ?side2 A5.out).mono ?_); (case side1 => exact (zs28 HR1)); (case side2 => exact HC1.out); rintro e w10 ⟨rfl, hb⟩; replace HB:=zM (bS (zs3 HB) hb); clear hb));go_ret2;exact ⟨_, zs6, by first | exact Kd.R_nil _ _ _ _ _ | exact Kd.N_nil _ _ _ _ _ | exact Kd.V_nil _ _ _ _ _ | exact Kd.Q_nil _ _ _ _ _ | exact Kd.S_nil _ _ _ _ _, (zs3 HB)⟩
 ·replace c4 := Bool.eq_false_iff.mpr c4;subst c4;(have H1 : (some (([] : List Int), false)) = some (r1, r2) := by rw [if_neg (show ¬ (false = true) by decide)] at H; exact H);clear H;have H := H1;clear H1;simp only [Option.some.injEq, Prod.mk.injEq] at H;obtain ⟨rfl, rfl⟩ := H;go_enter Tryz.func142, Tryz.ntmps142;go_wp2_with (first | (refine zg 37 (some 7) Tryz.func37 #[.slice A0 l0.length c0] ?_; (with_reducible refine (F37.calls k _ _ l0 false _ ?side1 ?side2 A3.out).mono ?_); (case side1 => exact (zs28 HR0)); (case side2 => exact HC0.out); rintro e w' ⟨rfl, ⟨nd, rfl⟩⟩; refine ⟨_, rfl, ?_⟩));go_ret2;exact ⟨_, zs6, by first | exact Kd.R_nil _ _ _ _ _ | exact Kd.N_nil _ _ _ _ _ | exact Kd.V_nil _ _ _ _ _ | exact Kd.Q_nil _ _ _ _ _ | exact Kd.S_nil _ _ _ _ _, (zs3 HB)⟩
def F112.f (k : Nat) (l0 : List Int) : Option (List Int) := (F56.f k l0).bind fun t819 => ((F142.f k l0 t819).bind fun bt822 => (some bt822.1))
theorem F112.mono : ∀ a0 k, LeO (F112.f k a0) (F112.f (k + 1) a0) := by
 intro a0 k;unfold F112.f;have := @F56.mono; have := @F142.mono; exact zm
theorem F112.calls (k : Nat) (A0 : Option Addr) (c0 : Nat) (l0 : List Int) (r : List Int) (w : World) (hr0 : Kd.C (Kd.int .i64) w A0 l0.length l0) (hc0 : l0.length ≤ c0) (h : F112.f k l0 = some r) :
  Calls Tryz.prog 112 #[.slice A0 l0.length c0] w fun e w' => ∃ v0_ : Value, e = .returned (v0_) ∧ Kd.R (Kd.int .i64) 3 w' w.heap.size (fun _ => True) v0_ r ∧ Below w.heap.size w w' := by
 have HR0:=zM hr0;have HC0:=zM hc0;clear hr0 hc0;have HB:=zM (Below.refl w.heap.size w);have H : ((F56.f k l0).bind fun t819 => ((F142.f k l0 t819).bind fun bt822 => (some bt822.1))) = some r := h;clear h;replace H := zb H; obtain ⟨t819, A2, H⟩ := H; (try dsimp only at H);replace H := zb H; obtain ⟨⟨t822, t823⟩, A3, H⟩ := H; (try dsimp only at H);obtain rfl := Option.some.inj H;go_enter Tryz.func112, Tryz.ntmps112;go_wp2_with (first | (refine zg 56 (some 8) Tryz.func56 #[.slice A0 l0.length c0] ?_; (with_reducible refine (F56.calls k _ _ l0 t819 _ ?side1 ?side2 A2.out).mono ?_); (case side1 => exact (zs28 HR0)); (case side2 => exact HC0.out); rintro e w4 ⟨v820, rfl, ho0, hb⟩; refine ⟨_, rfl, ?_⟩; have HO821:=zM (Kd.Rl ho0 (bZ (zs3 HB))); replace HB:=zM (bS (zs3 HB) hb); clear hb ho0; obtain ⟨Ao5, co5, eo5⟩ := Kd.Rs HO821.out; subst eo5) | (refine zg 142 (some 9) Tryz.func142 #[.slice A0 l0.length c0, .slice Ao5 t819.length co5] ?_; (with_reducible refine (F142.calls k _ _ l0 _ _ t819 t822 t823 _ ?side1 ?side2 ?side3 ?side4 A3.out).mono ?_); (case side1 => exact (zs20 HR0 HB)); (case side2 => exact HC0.out); (case side3 => exact (zs22 HO821)); (case side4 => exact (Kd.rr' HO821.out).2.1); rintro e w6 ⟨v824, rfl, ho0, hb⟩; refine ⟨_, rfl, ?_⟩; have HO825:=zM (Kd.Rl (Kd.R_new' ho0 (Kd.R_lt (zs5 HO821))) (bZ (zs3 HB))); replace HO821:=zM (Kd.R_elder' (zs5 HO821) (Kd.R_base ho0) hb); replace HB:=zM (bS (zs3 HB) hb); clear hb ho0));go_ret;exact ⟨_, zs6, (zs13 HO825), (zs3 HB)⟩
def F72.f (k : Nat) (l0 : List Int) (a1_0 : Int) (a1_1 : Int) (a1_2 : Int) : Option (List Int) := if a1_0 = 0 then ((F52.f l0).bind fun t827 => (if a1_1 < 1 then (some ([] : List Int)) else (if a1_1 > (t827.length : Int) then (some ([] : List Int)) else (if 0 ≤ (wrap64 (a1_1 - 1)) then (if (wrap64 (a1_1 - 1)) < (t827.length : Int) then (some (t827.set ((wrap64 (a1_1 - 1)) : Int).toNat a1_2)) else (none)) else (none))))) else (if a1_0 = 1 then ((F52.f l0).bind fun t831 => ((some (([a1_1] : List Int) : List Int)).bind fun y834 => (if t831.length + y834.length < 17592186044416 then ((F89.f (t831 ++ y834)).bind fun t840 => (some t840)) else (none)))) else (if a1_0 = 2 then (if 0 ≤ (wrap64 ((l0.length : Int) - 1)) then (if (wrap64 ((l0.length : Int) - 1)) ≤ (l0.length : Int) then ((F52.f (l0.take ((wrap64 ((l0.length : Int) - 1)) : Int).toNat)).bind fun t844 => (some t844)) else (none)) else (none)) else (if a1_0 = 3 then ((F111.f k l0).bind fun t847 => (some t847)) else ((F112.f k l0).bind fun t850 => (some t850)))))
theorem F72.mono : ∀ a0 a1 a2 a3 k, LeO (F72.f k a0 a1 a2 a3) (F72.f (k + 1) a0 a1 a2 a3) := by
 intro a0 a1 a2 a3 k;unfold F72.f;have := @F111.mono; have := @F112.mono; exact zm
def F72.T9 : Bool × List (List Nat × List Nat) := (true, [([], []), ([0], [0]), ([], []), ([2], [2]), ([3], [3]), ([1, 4, 1], [1, 4]), ([5, 5], [5]), ([6, 6, 0, 1, 2, 3, 4, 5, 6], [6])])
def F72.B9 : List Nat := [0, 1, 0, 4, 12, 31, 63, 127]
theorem F72.tab9 : rtab .any (opsOf Tryz.f72 9) = F72.T9 := by kernel_rfl
theorem F72.bits9 : waitsOk F72.T9.2 F72.B9 = true := by kernel_rfl
theorem F72.calls (k : Nat) (A0 : Option Addr) (c0 : Nat) (l0 : List Int) (a1_0 : Int) (a1_1 : Int) (a1_2 : Int) (r : List Int) (w : World) (hr0 : Kd.C (Kd.int .i64) w A0 l0.length l0) (hc0 : l0.length ≤ c0) (h : F72.f k l0 a1_0 a1_1 a1_2 = some r) :
  Calls Tryz.prog 72 #[.slice A0 l0.length c0, .agg #[.int .i64 a1_0, .int .i64 a1_1, .int .i64 a1_2]] w fun e w' => ∃ v0_ : Value, e = .returned (v0_) ∧ Kd.R (Kd.int .i64) 3 w' w.heap.size (fun _ => True) v0_ r ∧ Below w.heap.size w w' := by
 have hu39 := Tryz.underlying39;have HR0:=zM hr0;have HC0:=zM hc0;clear hr0 hc0;have HB:=zM (Below.refl w.heap.size w);have H : (if a1_0 = 0 then ((F52.f l0).bind fun t827 => (if a1_1 < 1 then (some ([] : List Int)) else (if a1_1 > (t827.length : Int) then (some ([] : List Int)) else (if 0 ≤ (wrap64 (a1_1 - 1)) then (if (wrap64 (a1_1 - 1)) < (t827.length : Int) then (some (t827.set ((wrap64 (a1_1 - 1)) : Int).toNat a1_2)) else (none)) else (none))))) else (if a1_0 = 1 then ((F52.f l0).bind fun t831 => ((some (([a1_1] : List Int) : List Int)).bind fun y834 => (if t831.length + y834.length < 17592186044416 then ((F89.f (t831 ++ y834)).bind fun t840 => (some t840)) else (none)))) else (if a1_0 = 2 then (if 0 ≤ (wrap64 ((l0.length : Int) - 1)) then (if (wrap64 ((l0.length : Int) - 1)) ≤ (l0.length : Int) then ((F52.f (l0.take ((wrap64 ((l0.length : Int) - 1)) : Int).toNat)).bind fun t844 => (some t844)) else (none)) else (none)) else (if a1_0 = 3 then ((F111.f k l0).bind fun t847 => (some t847)) else ((F112.f k l0).bind fun t850 => (some t850)))))) = some r := h;clear h;by_cases c3 : a1_0 = 0
 ·rw [if_pos c3] at H;have c3b0 := beq_iff_eq.mpr c3;have c3b1 := bne_eq_false_iff_eq.mpr c3;clear c3;replace H := zb H; obtain ⟨t827, A4, H⟩ := H; (try dsimp only at H);by_cases c5 : a1_1 < 1
  ·rw [if_pos c5] at H;have c5b0 := decide_eq_true c5;clear c5;obtain rfl := Option.some.inj H;go_enter Tryz.func72, Tryz.ntmps72;go_wp2_with (first | ((with_reducible refine gD (N := 3) rfl ?_); (try (refine gG (by rfl) ?_; dsimp only)); refine bX zs1 (N := 3) zs1 (cs := #[.int .i64 a1_0, .int .i64 a1_1, .int .i64 a1_2]) (t := 39) zs2 ?_; intro gb826 hg w6 hbox hb; have BK826:=zM (hbox); have GW826 := zg1 (zs3 HB) hg; have GE826 := zg1 (zs3 HB) hg; replace HB:=zM (bS (zs3 HB) hb); clear hb hbox hg; have ⟨hcz7_0, hfz7_0⟩ := cy0 BK826.out; have ⟨hcz7_1, hfz7_1⟩ := cy1 BK826.out; have ⟨hcz7_2, hfz7_2⟩ := cy2 BK826.out) | (refine zg 52 (some 11) Tryz.func52 #[.slice A0 l0.length c0] ?_; (with_reducible refine (F52.calls _ _ l0 t827 _ ?side1 ?side2 A4.out).mono ?_); (case side1 => exact (zs20 HR0 HB)); (case side2 => exact HC0.out); rintro e w8 ⟨v828, rfl, ho0, hb⟩; refine ⟨_, rfl, ?_⟩; have HO829:=zM (Kd.Rl ho0 (bZ (zs4 HB GE826))); replace BK826 := zb1 BK826 hb; replace HB:=zM (bS (zs4 HB GE826) hb); clear hb ho0; have ⟨hcz9_0, hfz9_0⟩ := cy0 BK826.out; have hcz9_1 := cz1 BK826.out; have hcz9_2 := cz2 BK826.out; have hfz9_1 := bF BK826.out 1; have hfz9_2 := bF BK826.out 2));go_ret;exact ⟨_, zs6, by first | exact Kd.R_nil _ _ _ _ _ | exact Kd.N_nil _ _ _ _ _ | exact Kd.V_nil _ _ _ _ _ | exact Kd.Q_nil _ _ _ _ _ | exact Kd.S_nil _ _ _ _ _, (zs4 HB GE826)⟩
  ·rw [if_neg c5] at H;have c5b0 := decide_eq_false c5;clear c5;by_cases c10 : a1_1 > (t827.length : Int)
   ·rw [if_pos c10] at H;have c10b0 : decide ((t827.length : Int) < a1_1) = true := decide_eq_true c10;clear c10;obtain rfl := Option.some.inj H;go_enter Tryz.func72, Tryz.ntmps72;go_wp2_with (first | ((with_reducible refine gD (N := 3) rfl ?_); (try (refine gG (by rfl) ?_; dsimp only)); refine bX zs1 (N := 3) zs1 (cs := #[.int .i64 a1_0, .int .i64 a1_1, .int .i64 a1_2]) (t := 39) zs2 ?_; intro gb826 hg w11 hbox hb; have BK826:=zM (hbox); have GW826 := zg1 (zs3 HB) hg; have GE826 := zg1 (zs3 HB) hg; replace HB:=zM (bS (zs3 HB) hb); clear hb hbox hg; have ⟨hcz12_0, hfz12_0⟩ := cy0 BK826.out; have ⟨hcz12_1, hfz12_1⟩ := cy1 BK826.out; have ⟨hcz12_2, hfz12_2⟩ := cy2 BK826.out) | (refine zg 52 (some 11) Tryz.func52 #[.slice A0 l0.length c0] ?_; (with_reducible refine (F52.calls _ _ l0 t827 _ ?side1 ?side2 A4.out).mono ?_); (case side1 => exact (zs20 HR0 HB)); (case side2 => exact HC0.out); rintro e w13 ⟨v828, rfl, ho0, hb⟩; refine ⟨_, rfl, ?_⟩; have HO829:=zM (Kd.Rl ho0 (bZ (zs4 HB GE826))); replace BK826 := zb1 BK826 hb; replace HB:=zM (bS (zs4 HB GE826) hb); clear hb ho0; have ⟨hcz14_0, hfz14_0⟩ := cy0 BK826.out; have hcz14_1 := cz1 BK826.out; have hcz14_2 := cz2 BK826.out; have hfz14_1 := bF BK826.out 1; have hfz14_2 := bF BK826.out 2; obtain ⟨Ao15, co15, eo15⟩ := Kd.Rs HO829.out; subst eo15));go_ret;exact ⟨_, zs6, by first | exact Kd.R_nil _ _ _ _ _ | exact Kd.N_nil _ _ _ _ _ | exact Kd.V_nil _ _ _ _ _ | exact Kd.Q_nil _ _ _ _ _ | exact Kd.S_nil _ _ _ _ _, (zs4 HB GE826)⟩
   ·rw [if_neg c10] at H;have c10b0 : decide ((t827.length : Int) < a1_1) = false := decide_eq_false c10;clear c10;obtain ⟨ji16, hji16⟩ : ∃ j_ : Int, (wrap64 (a1_1 - 1)) = j_ := ⟨_, rfl⟩;(replace H : (if 0 ≤ (ji16) then (if (ji16) < (t827.length : Int) then (some (t827.set ((ji16) : Int).toNat a1_2)) else (none)) else (none)) = some r := by first | (rw [hji16] at H; exact H) | (simp only [hji16] at H ⊢; exact H));(try rw [hji16] at A4);have hji16w : (IntKind.i64.wrap (a1_1 - 1)) = ji16 := (i64_w _).trans hji16;replace H := zn H; obtain ⟨c17, H⟩ := H;have c17b0 := decide_eq_true c17;clear c17;replace H := zn H; obtain ⟨c18, H⟩ := H;have c18b0 := decide_eq_true c18;clear c18;obtain ⟨y830, hy830⟩ : ∃ y_ : List Int, y_ = (t827.set ((ji16) : Int).toNat a1_2) := ⟨_, rfl⟩; rw [← hy830] at H; have Ny830:=zM hy830; clear hy830;obtain rfl := Option.some.inj H;go_enter Tryz.func72, Tryz.ntmps72;go_wp2_with (first | ((with_reducible refine gD (N := 3) rfl ?_); (try (refine gG (by rfl) ?_; dsimp only)); refine bX zs1 (N := 3) zs1 (cs := #[.int .i64 a1_0, .int .i64 a1_1, .int .i64 a1_2]) (t := 39) zs2 ?_; intro gb826 hg w20 hbox hb; have BK826:=zM (hbox); have GW826 := zg1 (zs3 HB) hg; have GE826 := zg1 (zs3 HB) hg; replace HB:=zM (bS (zs3 HB) hb); clear hb hbox hg; have ⟨hcz21_0, hfz21_0⟩ := cy0 BK826.out; have ⟨hcz21_1, hfz21_1⟩ := cy1 BK826.out; have ⟨hcz21_2, hfz21_2⟩ := cy2 BK826.out) | (refine zg 52 (some 11) Tryz.func52 #[.slice A0 l0.length c0] ?_; (with_reducible refine (F52.calls _ _ l0 t827 _ ?side1 ?side2 A4.out).mono ?_); (case side1 => exact (zs20 HR0 HB)); (case side2 => exact HC0.out); rintro e w22 ⟨v828, rfl, ho0, hb⟩; refine ⟨_, rfl, ?_⟩; have HO829:=zM (Kd.Rl ho0 (bZ (zs4 HB GE826))); replace BK826 := zb1 BK826 hb; replace HB:=zM (bS (zs4 HB GE826) hb); clear hb ho0; have ⟨hcz23_0, hfz23_0⟩ := cy0 BK826.out; have hcz23_1 := cz1 BK826.out; have hcz23_2 := cz2 BK826.out; have hfz23_1 := bF BK826.out 1; have hfz23_2 := bF BK826.out 2; obtain ⟨Ao24, co24, eo24⟩ := Kd.Rs HO829.out; subst eo24; have p19 : 0 ≤ ((ji16) : Int) := of_decide_eq_true zs0; have q19 : ((ji16) : Int) < ((t827.length : Int) : Int) := of_decide_eq_true zs0; obtain ⟨go19, co19, eo19, gb19, gl19, cl19, HG19⟩ := Kd.R_form HO829.out zo_; (first | cases eo19 | (injection eo19 with ea_ en_ ec_; (first | subst ea_ | (injection ea_ with ea_; subst ea_)); subst ec_; clear en_)); have GB19:=zM gb19; have GG19:=zM HG19; clear gb19 gl19 HG19; obtain ⟨hx19_0, hf19_0⟩ := Kd.R_celln 0 HO829.out ((ji16) : Int) p19 q19; replace p19 := eq_true p19; replace q19 := eq_true q19; obtain ⟨hy25_, hz25_⟩ := Kd.R_celln 0 HO829.out ((ji16) : Int) (of_decide_eq_true zs0) (of_decide_eq_true zs0); have HP25 := Kd.R_putg HO829.out ((ji16) : Int) a1_2) | ((with_reducible refine gate_store (t := 3) (p := 28) rfl ?_); refine store_event (t := 3) (p := 28) (v := ?vo_w26) (w1 := (w22.setCell ⟨go19, ((ji16) : Int).toNat, none⟩ (.int .i64 a1_2))) ?hg ?ho ?hn ?hr ?_; (case ho => rfl); (case hg => rfl); (case hn => rfl); (case hr => first | (go_simp; done) | (go_simp; rfl)); intro w26 hw; have hg : w22.grownBy w26 (some go19) := (by rw [hw]; exact HP25.2); have hp_ : Kd.R (Kd.int .i64) 3 w26 w.heap.size (fun _ => True) (.slice (some ⟨go19, 0, none⟩) t827.length co24) y830 := (by rw [hw, Ny830.out]; exact HP25.1); clear HP25; replace BK826:=zM (blk_grown (g := gb826) (o := .cells #[.int .i64 a1_0, .int .i64 a1_1, .int .i64 a1_2] 39 (0, 0)) (zs23 BK826) hg (Kd.R_ne HO829.out BK826.out zd)); replace HO829:=zM (hp_); replace HB:=zM ((by rw [hw]; exact zD (HB.out) GB19.out : Below w.heap.size w w26)); clear hg hw hp_));go_ret;(exact ⟨_, by first | rfl | (simp [eN, eS] <;> rfl) | (simp only [← hji16]; first | rfl | (simp [eN, eS] <;> rfl)) | (simp [*, eN, eS] <;> rfl), (zs5 HO829), (zs4 HB GE826)⟩)
 ·rw [if_neg c3] at H;have c3b0 := beq_eq_false_iff_ne.mpr c3;have c3b1 := bne_iff_ne.mpr c3;by_cases c27 : a1_0 = 1
  ·rw [if_pos c27] at H;have c27b0 := beq_iff_eq.mpr c27;have c27b1 := bne_eq_false_iff_eq.mpr c27;clear c27;replace H := zb H; obtain ⟨t831, A28, H⟩ := H; (try dsimp only at H);replace H := zy H; obtain ⟨y834, Ny834, H⟩ := H; (try dsimp only at H);replace H := zn H; obtain ⟨c29, H⟩ := H;have LMc29:=zM c29;clear c29;obtain ⟨y837, hy837⟩ : ∃ y_ : List Int, y_ = (t831 ++ y834) := ⟨_, rfl⟩; rw [← hy837] at H; have Ny837:=zM hy837; clear hy837;replace H := zb H; obtain ⟨t840, A30, H⟩ := H; (try dsimp only at H);obtain rfl := Option.some.inj H;go_enter Tryz.func72, Tryz.ntmps72;(try go_wp2_with (first | ((with_reducible refine gD (N := 3) rfl ?_); (try (refine gG (by rfl) ?_; dsimp only)); refine bX zs1 (N := 3) zs1 (cs := #[.int .i64 a1_0, .int .i64 a1_1, .int .i64 a1_2]) (t := 39) zs2 ?_; intro gb826 hg w31 hbox hb; have BK826:=zM (hbox); have GW826 := zg1 (zs3 HB) hg; have GE826 := zg1 (zs3 HB) hg; replace HB:=zM (bS (zs3 HB) hb); clear hb hbox hg; have ⟨hcz32_0, hfz32_0⟩ := cy0 BK826.out; have ⟨hcz32_1, hfz32_1⟩ := cy1 BK826.out; have ⟨hcz32_2, hfz32_2⟩ := cy2 BK826.out)));replace BK826:=zM (bW BK826.out);replace HB:=zM (zC HB.out);refine start_ (n := 8) (S := fun w' => w'.cell? ⟨gb826, 0, none⟩ = some (.int .i64 a1_0) ∧ w'.cell? ⟨gb826, 1, none⟩ = some (.int .i64 a1_1) ∧ w'.cell? ⟨gb826, 2, none⟩ = some (.int .i64 a1_2)) (ds := []) (zL 8 0) zk rfl rfl ⟨(bC BK826.out 0).trans rfl, (bC BK826.out 1).trans rfl, (bC BK826.out 2).trans rfl⟩ (fun hHeld => ?_); refine with_tabW F72.tab9 F72.bits9 (fun HT_ HW_ => ?_);generalize w31.drew = w33 at BK826 HB hHeld ⊢;refine zp 0 (some 32) (zL 8 1) HT_ ?_;refine zp 2 (some 34) (zL 8 5) HT_ ?_;refine zt 3 (some 35) (zL 8 13) HT_ HW_ hHeld rfl ?_ (hy := by rintro w' ⟨s0, s1, s2⟩; go_simp; with_reducible rfl);refine join_ (σ := Value × Value) 3 (zL 8 31) (fun s_ => [(33, s_.1), (36, s_.2)]) (fun s_ w' => (w'.cell? ⟨gb826, 0, none⟩ = some (.int .i64 a1_0) ∧ w'.cell? ⟨gb826, 1, none⟩ = some (.int .i64 a1_1) ∧ w'.cell? ⟨gb826, 2, none⟩ = some (.int .i64 a1_2)) ∧ (Kd.R (Kd.int .i64) 3 w' w.heap.size (fun k_ => some k_ ≠ (s_.2 : Value).ownBlock) s_.1 t831) ∧ (Kd.R (Kd.int .i64) 3 w' w.heap.size (fun k_ => some k_ ≠ (s_.1 : Value).ownBlock) s_.2 y834) ∧ (w'.heap[gb826]? = some (.cells #[.int .i64 a1_0, .int .i64 a1_1, .int .i64 a1_2] 39 (0, 0))) ∧ (Below w.heap.size w w')) ?_ ?_;rotate_left
   ·intro hCont;refine two_ (i := 1) (j := 4) (Ni := some 33) (Nj := some 36) (zL 8 15) (zL 8 29) rfl rfl rfl rfl (two_of HT_.out zk) zd zd (fun K hK => ?_) (fun K hK => ?_)
    ·skip
     refine zv Tryz.func52 #[.slice A0 l0.length c0] ?_;(with_reducible refine (F52.calls _ _ l0 t831 _ ?side1 ?side2 A28.out).mono ?_); (case side1 => exact (zs20 HR0 HB)); (case side2 => exact HC0.out);rintro e w34 ⟨v832, rfl, ho0, hb⟩;refine ⟨_, rfl, ?_⟩;have HO833:=zM (Kd.Rl ho0 (bZ (zs4 HB GE826)));replace BK826 := zb1 BK826 hb;replace HB:=zM (bS (zs4 HB GE826) hb);refine hK.out _ _ ⟨(bC BK826.out 0).trans rfl, (bC BK826.out 1).trans rfl, (bC BK826.out 2).trans rfl⟩ (fun hHeld => ?_);clear hK K;refine zq (some 33) ?_;refine one_ (i := 4) (N := some 36) (zL 8 31) rfl rfl (one_of HT_.out zk) zd (fun K hK => ?_);refine Kd.R_lit_step (Kd.int .i64) _ 3 zs1 (N := 36) zs1 (xs := ([a1_1] : List Int)) (inner := [.int .i64 a1_1]) (ok := fun _ => True) (okp := fun _ => True) zs2 ?hp (fun _ hk => hk) trivial (Below.refl _ _) (Nat.le_refl _) (by simp) ?_; (case hp => exact (zri _ fun _ => rfl));intro v835 w35 ho36 hb hg_ hnew_;clear hg_ hnew_;(first | rw [← Ny834.out] at ho36 | (simp only [Int.reduceToNat] at ho36; rw [← Ny834.out] at ho36));have HO836:=zM (Kd.Rl (Kd.R_new' ho36 (Kd.R_lt (zs5 HO833))) (bZ (zs4 HB GE826)));replace HO833:=zM (Kd.R_elder' (zs5 HO833) (Kd.R_base ho36) hb);replace BK826 := zb1 BK826 hb;replace HB:=zM (bS (zs4 HB GE826) hb);clear hb ho36;refine hK.out _ _ ⟨(bC BK826.out 0).trans rfl, (bC BK826.out 1).trans rfl, (bC BK826.out 2).trans rfl⟩ (fun hHeld => ?_);clear hK K;refine zq (some 36) ?_;exact norm_ (by simp only [putAll, Act.put, zE, zF, zG]) (hCont (v832, v835) _ ⟨hHeld, ((zs12 HO833)), ((zs12 HO836)), (zs23 BK826), (zs4 HB GE826)⟩)
    ·skip
     refine Kd.R_lit_step (Kd.int .i64) _ 3 zs1 (N := 36) zs1 (xs := ([a1_1] : List Int)) (inner := [.int .i64 a1_1]) (ok := fun _ => True) (okp := fun _ => True) zs2 ?hp (fun _ hk => hk) trivial (Below.refl _ _) (Nat.le_refl _) (by simp) ?_; (case hp => exact (zri _ fun _ => rfl));intro v835 w34 ho35 hb hg_ hnew_;clear hg_ hnew_;(first | rw [← Ny834.out] at ho35 | (simp only [Int.reduceToNat] at ho35; rw [← Ny834.out] at ho35));have HO836:=zM (Kd.Rl ho35 (bZ (zs4 HB GE826)));replace BK826 := zb1 BK826 hb;replace HB:=zM (bS (zs4 HB GE826) hb);clear hb ho35;refine hK.out _ _ ⟨(bC BK826.out 0).trans rfl, (bC BK826.out 1).trans rfl, (bC BK826.out 2).trans rfl⟩ (fun hHeld => ?_);clear hK K;refine zq (some 36) ?_;refine one_ (i := 1) (N := some 33) (zL 8 31) rfl rfl (one_of HT_.out zk) zd (fun K hK => ?_);refine zv Tryz.func52 #[.slice A0 l0.length c0] ?_;(with_reducible refine (F52.calls _ _ l0 t831 _ ?side1 ?side2 A28.out).mono ?_); (case side1 => exact (zs20 HR0 HB)); (case side2 => exact HC0.out);rintro e w36 ⟨v832, rfl, ho0, hb⟩;refine ⟨_, rfl, ?_⟩;have HO833:=zM (Kd.Rl (Kd.R_new' ho0 (Kd.R_lt (zs5 HO836))) (bZ (zs4 HB GE826)));replace HO836:=zM (Kd.R_elder' (zs5 HO836) (Kd.R_base ho0) hb);replace BK826 := zb1 BK826 hb;replace HB:=zM (bS (zs4 HB GE826) hb);refine hK.out _ _ ⟨(bC BK826.out 0).trans rfl, (bC BK826.out 1).trans rfl, (bC BK826.out 2).trans rfl⟩ (fun hHeld => ?_);clear hK K;refine zq (some 33) ?_;exact norm_ (by simp only [putAll, Act.put, zE, zF, zG]) (hCont (v832, v835) _ ⟨hHeld, ((zs12 HO833)), ((zs12 HO836)), (zs23 BK826), (zs4 HB GE826)⟩)
   rintro ⟨v832, v835⟩ w37 ⟨hS_, h0_, h1_, h2_, h3_⟩;have HO833 : Qo (Kd.R (Kd.int .i64) 3 w37 w.heap.size (fun k_ => some k_ ≠ (v835 : Value).ownBlock) v832 t831) := ⟨h0_⟩;have HO836 : Qo (Kd.R (Kd.int .i64) 3 w37 w.heap.size (fun k_ => some k_ ≠ (v832 : Value).ownBlock) v835 y834) := ⟨h1_⟩;replace BK826 : Qo (w37.heap[gb826]? = some (.cells #[.int .i64 a1_0, .int .i64 a1_1, .int .i64 a1_2] 39 (0, 0))) := ⟨h2_⟩;replace HB : Qo (Below w.heap.size w w37) := ⟨h3_⟩;clear h0_ h1_ h2_ h3_;have hHeld : w37.cell? ⟨gb826, 0, none⟩ = some (.int .i64 a1_0) ∧ w37.cell? ⟨gb826, 1, none⟩ = some (.int .i64 a1_1) ∧ w37.cell? ⟨gb826, 2, none⟩ = some (.int .i64 a1_2) := hS_;obtain ⟨Ao39, co39, eo39⟩ := Kd.Rs HO836.out;(first | subst eo39 | (injection eo39 with f1_ f2_ f3_; have f4_ := f1_.symm; have f5_ := f3_.symm; clear f1_ f2_ f3_; subst f4_; subst f5_));refine zQ ?_;refine one_ (i := 5) (N := some 37) (zL 8 63) rfl rfl (one_of HT_.out zk) zd (fun K hK => ?_);refine Kd.R_append_rows_step (Kd.int .i64) (w0 := w) w.heap.size (by rfl) (.tmp 33) (.tmp 36) 28 3 (.int .i64 0) 8 rfl Tryz.underlying28 info3 rfl zd zo_ v832 t831 y834 _ _ _ (fun k_ => some k_ ≠ (.slice Ao39 y834.length co39 : Value).ownBlock) (fun _ => False) rfl rfl ?aO ?aR (fun _ _ h => h) (fun _ h => h.elim) ?aF ?aB ?aS ?aL ?_;(case aR => repeat (first | exact (Kd.rr' HO836.out).2.2 | (with_reducible refine Kd.C_alloc ?_ _) | (with_reducible refine Kd.C_drewN ?_ _) | (with_reducible refine Kd.C_drew ?_)));(case aB => exact (zs4 HB GE826));(case aF => exact (fun k_ hk => Kd.fresh' (Kd.R_lt (zs5 HO836)) k_ hk));(case aO => exact (zs5 HO833));(case aS => exact (bZ (zs4 HB GE826)));(case aL => have := LMc29.out; omega);intro v838 w38 ho hb hg hat;rw [← Ny837.out] at ho;replace BK826:=zM (blk_grown (g := gb826) (o := .cells #[.int .i64 a1_0, .int .i64 a1_1, .int .i64 a1_2] 39 (0, 0)) (zs23 BK826) hg (Kd.R_ne HO833.out BK826.out zd));replace HO836:=zM (Kd.R_after (ok := (fun _ => True)) ((zs17 HO836)) hg hat);replace HB:=zM (hb);have HO839:=zM (ho);clear HO833;clear ho hb hg hat;obtain ⟨Ao40, co40, eo40⟩ := Kd.Rs HO839.out;(first | subst eo40 | (injection eo40 with f1_ f2_ f3_; have f4_ := f1_.symm; have f5_ := f3_.symm; clear f1_ f2_ f3_; subst f4_; subst f5_));refine hK.out _ _ ⟨(bC BK826.out 0).trans rfl, (bC BK826.out 1).trans rfl, (bC BK826.out 2).trans rfl⟩ (fun hHeld => ?_);clear hK K;refine zq (some 37) ?_;refine one_ (i := 6) (N := some 38) (zL 8 127) rfl rfl (one_of HT_.out zk) zd (fun K hK => ?_);refine zv Tryz.func89 #[.slice Ao40 y837.length co40] ?_;(with_reducible refine (F89.calls (fun k_ => some k_ = (.slice Ao40 y837.length co40 : Value).ownBlock) (.slice Ao40 y837.length co40) y837 t840 w _ (zs4 HB GE826) ?side2 A30.out).mono ?_); (case side2 => exact Kd.R_tight rfl HO839.out);rintro e w41 ⟨v841, rfl, ho0, hb, hkp⟩;refine ⟨_, rfl, ?_⟩;replace BK826:=zM (blk_kept (zs23 BK826) hkp (fun hs_ => (fun e_ => (Kd.R_ne HO839.out BK826.out zd) e_) hs_));have HO842:=zM (Kd.Rm (ok' := fun k_ => some k_ ≠ (.slice Ao39 y834.length co39 : Value).ownBlock) ho0 (fun k_ hk_ => Or.elim hk_ (fun hs_ => fun e_ => (((HO836.out).1 k_ e_.symm).2) hs_) (fun hn_ => (Kd.fresh' (Kd.R_lt (zs5 HO836)) k_ hn_))));replace HO836:=zM (Kd.Rm (ok' := fun k_ => some k_ ≠ (v841 : Value).ownBlock) (Kd.R_keptB (HO836.out) hkp (fun k_ hk_ hs_ => (hk_.2) hs_)) (fun k_ hk_ => fun e_ => Or.elim (ho0.1 k_ e_.symm) (fun hs_ => hk_.2.1 hs_) (fun hn_ => Nat.not_le.2 hk_.2.2 hn_)));replace HB:=zM (hb);clear HO839;refine hK.out _ _ ⟨(bC BK826.out 0).trans rfl, (bC BK826.out 1).trans rfl, (bC BK826.out 2).trans rfl⟩ (fun hHeld => ?_);clear hK K;refine zq (some 38) ?_;refine zp 7 (some 4) (zL 8 255) HT_ ?_;refine done_ (done_of HT_.out zk) ?_;(try go_wp2);go_ret;exact ⟨_, zs6, (zs13 HO842), (zs4 HB GE826)⟩
  ·rw [if_neg c27] at H;have c27b0 := beq_eq_false_iff_ne.mpr c27;have c27b1 := bne_iff_ne.mpr c27;by_cases c42 : a1_0 = 2
   ·rw [if_pos c42] at H;have c42b0 := beq_iff_eq.mpr c42;have c42b1 := bne_eq_false_iff_eq.mpr c42;clear c42;obtain ⟨ji43, hji43⟩ : ∃ j_ : Int, (wrap64 ((l0.length : Int) - 1)) = j_ := ⟨_, rfl⟩;(replace H : (if 0 ≤ (ji43) then (if (ji43) ≤ (l0.length : Int) then ((F52.f (l0.take ((ji43) : Int).toNat)).bind fun t844 => (some t844)) else (none)) else (none)) = some r := by first | (rw [hji43] at H; exact H) | (simp only [hji43] at H ⊢; exact H));have hji43w : (IntKind.i64.wrap ((l0.length : Int) - 1)) = ji43 := (i64_w _).trans hji43;replace H := zn H; obtain ⟨c44, H⟩ := H;have c44b0 := eq_true c44;have c44b1 := decide_eq_true c44;clear c44;replace H := zn H; obtain ⟨c45, H⟩ := H;have c45b0 := eq_true c45;have c45b1 := decide_eq_true c45;clear c45;replace H := zb H; obtain ⟨t844, A46, H⟩ := H; (try dsimp only at H);obtain rfl := Option.some.inj H;go_enter Tryz.func72, Tryz.ntmps72;(go_wp2_with (first | ((with_reducible refine gD (N := 3) rfl ?_); (try (refine gG (by rfl) ?_; dsimp only)); refine bX zs1 (N := 3) zs1 (cs := #[.int .i64 a1_0, .int .i64 a1_1, .int .i64 a1_2]) (t := 39) zs2 ?_; intro gb826 hg w47 hbox hb; have BK826:=zM (hbox); have GW826 := zg1 (zs3 HB) hg; have GE826 := zg1 (zs3 HB) hg; replace HB:=zM (bS (zs3 HB) hb); clear hb hbox hg; have ⟨hcz48_0, hfz48_0⟩ := cy0 BK826.out; have ⟨hcz48_1, hfz48_1⟩ := cy1 BK826.out; have ⟨hcz48_2, hfz48_2⟩ := cy2 BK826.out; obtain ⟨i049, hi049, _, hsz49, _⟩ := info_parts info3; obtain ⟨hcut49, hA49, hC49⟩ := print_take_of (P := Tryz.prog) (Value.int .i64) 0 28 3 .i64 Tryz.underlying28 hi049 hsz49 A0 c0 l0 (ji43) (of_decide_eq_true zs0) (of_decide_eq_true zs0) HC0.out; have HR843:=zM (Kd.C_of_reads (h1 := fun _ => rfl) (hA49 _ (Kd.reads_of_C HR0.out))); have HC843:=zM hC49; clear hA49 hC49 hi049 hsz49) | ((with_reducible refine gate_callee (f := 52) rfl ?_); refine goesL_ (some 46) rfl rfl Tryz.func52 zk rfl #[.slice A0 (l0.take ((ji43) : Int).toNat).length c0] rfl (by (try simp only [List.map_toArray, List.map_cons, List.map_nil]); first | done | (rw [show (l0.take ((ji43) : Int).toNat).length = (ji43).toNat from (by rw [List.length_take]; have h_ : ((ji43) : Int) ≤ (l0.length : Int) := of_decide_eq_true zs0; omega)] <;> rfl) | (simp only [hji43]; rfl) | rfl | (simp only [List.length_drop, List.length_take]; rfl)) ?_; (with_reducible refine (F52.calls _ _ (l0.take ((ji43) : Int).toNat) t844 _ ?side1 ?side2 A46.out).mono ?_); (case side1 => exact (zs20 HR843 HB)); (case side2 => exact HC843.out); rintro e w50 ⟨v845, rfl, ho0, hb⟩; refine ⟨_, rfl, ?_⟩; have HO846:=zM (Kd.Rl ho0 (bZ (zs4 HB GE826))); replace BK826 := zb1 BK826 hb; replace HB:=zM (bS (zs4 HB GE826) hb); clear hb ho0)));go_ret;(exact ⟨_, by first | rfl | (simp [eN, eS] <;> rfl) | (simp only [← hji43]; first | rfl | (simp [eN, eS] <;> rfl)) | (simp [*, eN, eS] <;> rfl), (zs5 HO846), (zs4 HB GE826)⟩)
   ·rw [if_neg c42] at H;have c42b0 := beq_eq_false_iff_ne.mpr c42;have c42b1 := bne_iff_ne.mpr c42;by_cases c51 : a1_0 = 3
    ·rw [if_pos c51] at H;have c51b0 := beq_iff_eq.mpr c51;have c51b1 := bne_eq_false_iff_eq.mpr c51;clear c51;replace H := zb H; obtain ⟨t847, A52, H⟩ := H; (try dsimp only at H);obtain rfl := Option.some.inj H;go_enter Tryz.func72, Tryz.ntmps72;go_wp2_with (first | ((with_reducible refine gD (N := 3) rfl ?_); (try (refine gG (by rfl) ?_; dsimp only)); refine bX zs1 (N := 3) zs1 (cs := #[.int .i64 a1_0, .int .i64 a1_1, .int .i64 a1_2]) (t := 39) zs2 ?_; intro gb826 hg w53 hbox hb; have BK826:=zM (hbox); have GW826 := zg1 (zs3 HB) hg; have GE826 := zg1 (zs3 HB) hg; replace HB:=zM (bS (zs3 HB) hb); clear hb hbox hg; have ⟨hcz54_0, hfz54_0⟩ := cy0 BK826.out; have ⟨hcz54_1, hfz54_1⟩ := cy1 BK826.out; have ⟨hcz54_2, hfz54_2⟩ := cy2 BK826.out) | (refine zg 111 (some 50) Tryz.func111 #[.slice A0 l0.length c0] ?_; (with_reducible refine (F111.calls k _ _ l0 t847 _ ?side1 ?side2 A52.out).mono ?_); (case side1 => exact (zs20 HR0 HB)); (case side2 => exact HC0.out); rintro e w55 ⟨v848, rfl, ho0, hb⟩; refine ⟨_, rfl, ?_⟩; have HO849:=zM (Kd.Rl ho0 (bZ (zs4 HB GE826))); replace BK826 := zb1 BK826 hb; replace HB:=zM (bS (zs4 HB GE826) hb); clear hb ho0));go_ret;exact ⟨_, zs6, (zs5 HO849), (zs4 HB GE826)⟩
    ·rw [if_neg c51] at H;have c51b0 := beq_eq_false_iff_ne.mpr c51;have c51b1 := bne_iff_ne.mpr c51;replace H := zb H; obtain ⟨t850, A56, H⟩ := H; (try dsimp only at H);obtain rfl := Option.some.inj H;go_enter Tryz.func72, Tryz.ntmps72;go_wp2_with (first | ((with_reducible refine gD (N := 3) rfl ?_); (try (refine gG (by rfl) ?_; dsimp only)); refine bX zs1 (N := 3) zs1 (cs := #[.int .i64 a1_0, .int .i64 a1_1, .int .i64 a1_2]) (t := 39) zs2 ?_; intro gb826 hg w57 hbox hb; have BK826:=zM (hbox); have GW826 := zg1 (zs3 HB) hg; have GE826 := zg1 (zs3 HB) hg; replace HB:=zM (bS (zs3 HB) hb); clear hb hbox hg; have ⟨hcz58_0, hfz58_0⟩ := cy0 BK826.out; have ⟨hcz58_1, hfz58_1⟩ := cy1 BK826.out; have ⟨hcz58_2, hfz58_2⟩ := cy2 BK826.out) | (refine zg 112 (some 52) Tryz.func112 #[.slice A0 l0.length c0] ?_; (with_reducible refine (F112.calls k _ _ l0 t850 _ ?side1 ?side2 A56.out).mono ?_); (case side1 => exact (zs20 HR0 HB)); (case side2 => exact HC0.out); rintro e w59 ⟨v851, rfl, ho0, hb⟩; refine ⟨_, rfl, ?_⟩; have HO852:=zM (Kd.Rl ho0 (bZ (zs4 HB GE826))); replace BK826 := zb1 BK826 hb; replace HB:=zM (bS (zs4 HB GE826) hb); clear hb ho0));go_ret;exact ⟨_, zs6, (zs5 HO852), (zs4 HB GE826)⟩
def F73.l0 : Nat → List Int → List Int → Int → Int → Option (Bool)
 | 0, _, _, _, _ => none
 | k + 1, x0, x1, x12, x13 => if x13 < x12 then (if 0 ≤ x13 then (if x13 < (x0.length : Int) then (if x13 < (x1.length : Int) then (if (rd x0 x13) = (rd x1 x13) then (F73.l0 k x0 x1 x12 (wrap64 (x13 + 1))) else (some false)) else (none)) else (none)) else (none)) else (some true)
def F73.f (k : Nat) (l0 : List Int) (l1 : List Int) : Option (Bool) := if (l0.length : Int) = (l1.length : Int) then (F73.l0 k l0 l1 (l0.length : Int) 0) else (some false)
theorem F73.ml : ∀ k, (∀ y0 y1 y2 y3, LeO (F73.l0 k y0 y1 y2 y3) (F73.l0 (k + 1) y0 y1 y2 y3))
 | 0 => fun _ _ _ _ r h => by simp [F73.l0] at h
 | k + 1 => by
  have ih0 := F73.ml k
  ·intro y0 y1 y2 y3
   unfold F73.l0
   exact zm
theorem F73.mono : ∀ a0 a1 k, LeO (F73.f k a0 a1) (F73.f (k + 1) a0 a1) := by
 intro a0 a1 k;have ih0 := F73.ml k;unfold F73.f;exact zm
theorem F73.calls (k : Nat) (A0 : Option Addr) (c0 : Nat) (l0 : List Int) (A1 : Option Addr) (c1 : Nat) (l1 : List Int) (r : Bool) (w : World) (hr0 : Kd.C (Kd.int .i64) w A0 l0.length l0) (hc0 : l0.length ≤ c0) (hr1 : Kd.C (Kd.int .i64) w A1 l1.length l1) (hc1 : l1.length ≤ c1) (h : F73.f k l0 l1 = some r) :
  Calls Tryz.prog 73 #[.slice A0 l0.length c0, .slice A1 l1.length c1] w fun e w' => e = .returned (.bool r) ∧ D0w w w' := by
 have HR0:=zM hr0;have HC0:=zM hc0;clear hr0 hc0;have HR1:=zM hr1;have HC1:=zM hc1;clear hr1 hc1;have H : (if (l0.length : Int) = (l1.length : Int) then (F73.l0 k l0 l1 (l0.length : Int) 0) else (some false)) = some r := h;clear h;by_cases c3 : (l0.length : Int) = (l1.length : Int)
 ·rw [if_pos c3] at H;have c3b0 := beq_iff_eq.mpr c3;have c3b1 := bne_eq_false_iff_eq.mpr c3;(have c3b2 : (l0.length == l1.length) = true := by first | simpa using c3 | (simp at c3 ⊢; omega));clear c3;have H':=zM H;clear H;go_enter Tryz.func73, Tryz.ntmps73;go_wp2;(repeat (go_quiet (fail); try go_wp2));go_loopg [13] k (fun kq v13 w' => ∃ (x13_1 : Int), v13 = .int .i64 x13_1 ∧ Qo (F73.l0 kq l0 l1 (l0.length : Int) x13_1 = some r) ∧ Qo (kq ≤ k) ∧ D0w w w')
  case atStart => exact ⟨(0), zs7, H', ⟨Nat.le_refl _⟩, by repeat (first | exact D0w.refl _ | apply D0w.step)⟩
  case round =>
   clear H';obtain ⟨x13_1, rfl, HA, HK1, ⟨m1, rfl⟩⟩ := hrel;cases gk with
   | zero => exact absurd HA.out (by simp [F73.l0])
   | succ k1 =>
    have H := HA.out;clear HA;simp only [F73.l0] at H;by_cases c4 : x13_1 < (l0.length : Int)
    ·rw [if_pos c4] at H;have c4b0 := decide_eq_true c4;clear c4;replace H := zn H; obtain ⟨c5, H⟩ := H;have c5b0 := decide_eq_true c5;clear c5;replace H := zn H; obtain ⟨c6, H⟩ := H;have c6b0 := decide_eq_true c6;clear c6;replace H := zn H; obtain ⟨c7, H⟩ := H;have c7b0 := decide_eq_true c7;clear c7;by_cases c8 : (rd l0 x13_1) = (rd l1 x13_1)
     ·rw [if_pos c8] at H;have c8b0 := beq_iff_eq.mpr c8;have c8b1 := bne_eq_false_iff_eq.mpr c8;clear c8;have H':=zM H;clear H;have p853 : 0 ≤ (x13_1 : Int) := of_decide_eq_true zs0;have q853 : x13_1 < (l0.length : Int) := of_decide_eq_true zs0;obtain ⟨ad853, e853, hx853_0⟩ := Kd.at_int HR0.out x13_1 p853 q853;cases e853;replace p853 := eq_true p853;replace q853 := eq_true q853;have p854 : 0 ≤ (x13_1 : Int) := of_decide_eq_true zs0;have q854 : x13_1 < (l1.length : Int) := of_decide_eq_true zs0;obtain ⟨ad854, e854, hx854_0⟩ := Kd.at_int HR1.out x13_1 p854 q854;cases e854;replace p854 := eq_true p854;replace q854 := eq_true q854;go_wp2;(repeat (go_quiet (fail); try go_wp2));go_roundg k1
      case measure => have := HK1.out; omega
      case rel => exact ⟨(wrap64 (x13_1 + 1)), zs7, H', ⟨by have := HK1.out; omega⟩, by repeat (first | exact D0w.refl _ | apply D0w.step)⟩
     ·rw [if_neg c8] at H;have c8b0 := beq_eq_false_iff_ne.mpr c8;have c8b1 := bne_iff_ne.mpr c8;obtain rfl := Option.some.inj H;have p853 : 0 ≤ (x13_1 : Int) := of_decide_eq_true zs0;have q853 : x13_1 < (l0.length : Int) := of_decide_eq_true zs0;obtain ⟨ad853, e853, hx853_0⟩ := Kd.at_int HR0.out x13_1 p853 q853;cases e853;replace p853 := eq_true p853;replace q853 := eq_true q853;have p854 : 0 ≤ (x13_1 : Int) := of_decide_eq_true zs0;have q854 : x13_1 < (l1.length : Int) := of_decide_eq_true zs0;obtain ⟨ad854, e854, hx854_0⟩ := Kd.at_int HR1.out x13_1 p854 q854;cases e854;replace p854 := eq_true p854;replace q854 := eq_true q854;go_wp2;(repeat (go_quiet (fail); try go_wp2));go_ret;exact ⟨by first | rfl | (simp; done) | (simp [*]; done), by repeat (first | exact D0w.refl _ | apply D0w.step)⟩
    ·rw [if_neg c4] at H;have c4b0 := decide_eq_false c4;clear c4;obtain rfl := Option.some.inj H;go_wp2;(repeat (go_quiet (fail); try go_wp2));go_ret;exact ⟨by first | rfl | (simp; done) | (simp [*]; done), by repeat (first | exact D0w.refl _ | apply D0w.step)⟩
 ·rw [if_neg c3] at H;have c3b0 := beq_eq_false_iff_ne.mpr c3;have c3b1 := bne_iff_ne.mpr c3;(have c3b2 : (l0.length == l1.length) = false := by first | simpa using c3 | (simp at c3 ⊢; omega));obtain rfl := Option.some.inj H;go_enter Tryz.func73, Tryz.ntmps73;go_wp2;(repeat (go_quiet (fail); try go_wp2));go_ret;exact ⟨by first | rfl | (simp; done) | (simp [*]; done), by repeat (first | exact D0w.refl _ | apply D0w.step)⟩
def F74.f (l0 : List (List Int)) : Option (List (List Int)) := some l0
theorem F74.calls (A : Option Addr) (c m : Nat) (xs ys : List (List Int)) (base : Nat) (ok : Nat → Prop) (A' : Option Addr) (n' c' : Nat) (w : World) (hA : A' = if c = m then A else A.map (·.add (m * 1))) (hn : n' = xs.length - m) (hc : c' = c - m) (hy : ys = xs.drop m) (hm : m < xs.length) (hx : xs.length ≤ 5864062014805) (hbase : base ≤ w.heap.size)
  (h : Kd.S (Kd.slice 3 (Kd.int .i64)) 28 w base ok (.slice A xs.length c) xs) :
  Calls Tryz.prog 74 #[.slice A' n' c'] w fun e w' => ∃ v : Value, e = .returned v ∧ Kd.S (Kd.slice 3 (Kd.int .i64)) 28 w' base (fun k => ok k ∨ w.heap.size ≤ k) v ys ∧ Below w.heap.size w w' := by
 obtain ⟨f, ad, hA2, hr⟩ := Kd.S_tail h hm;have hA3 : A' = some ad := hA.trans hA2;subst hA3;rw [← hn] at hr;have HR:=zM hr;have HBase:=zM hbase;have HN:=zM (show n' ≤ 5864062014805 by omega);clear hA hA2 hr hbase hn hc h hm hx;have HY:=zM hy;clear hy;go_enter Tryz.func74, Tryz.ntmps74;have hz := fun w' : World => Lib.run_eql_slice_nil (P := Tryz.prog) (w := w')
 go_wp2_with (first | ((with_reducible refine gD (N := 5) rfl ?_); refine Kd.R_lit (Kd.tag f (Kd.slice 3 (Kd.int .i64))) (w0 := w) w.heap.size 28 zs1 (N := 5) zs1 (xs := ([] : List (List Int × Nat))) (inner := []) (ok := fun k => w.heap.size ≤ k) (okp := fun _ => False) zs2 ?hp (fun _ hk => hk.elim) (Nat.le_refl _) (Below.refl _ _) (Nat.le_refl _) (by simp) ?_; (case hp => exact (Reps.none _ _)); intro v1 w1 ho1 hb1 hg1 hnew1; clear hg1; have HO1:=zM ho1; have HB1:=zM hb1; have HV1:=zM hnew1; clear ho1 hb1 hnew1) | ((with_reducible refine gD (N := 7) rfl ?_); refine Kd.R_append_rows (Kd.tag f (Kd.slice 3 (Kd.int .i64))) (Rr := fun p cs => (Kd.tag f (Kd.slice 3 (Kd.int .i64))).M w base (fun k => ok k ∧ k < w.heap.size) p cs) (w0 := w) base rfl (.tmp 5) (.tmp 6) 29 28 (.slice none 0 0) 24 rfl Tryz.underlying29 info28 rfl Nat.zero_lt_one zd v1 [] (xs.zipIdx.drop m) (some ad) n' c' (fun k => ok k ∨ w.heap.size ≤ k) (fun k => ok k ∧ k < w.heap.size) rfl rfl ?aO ?aR (fun p cs hk => Kd.M_below hk HB1.out) ?aK (fun k hk => .inr (Nat.le_trans HB1.out.size hk)) ?aB (Nat.le_trans HBase.out HB1.out.size) (by have := HN.out; simp only [List.length_nil]; omega) ?_; (case aO => exact Kd.Rl (Kd.Rm HO1.out (fun _ hk => .inr hk)) HBase.out); (case aR => exact ReadsRow.imp_ HR.out HB1.out (fun _ _ h => h)); (case aK => exact fun k hk => ⟨.inl hk.1, fun e_ => by obtain ⟨b, h1, h2⟩ := HV1.out; rw [h1] at e_; have := Option.some.inj e_; have := hk.2; omega⟩); (case aB => exact below_less HB1.out HBase.out); intro v2 w2 ho2 hb2 hg2 hat2; have HB2:=zM (below_grown_new HB1.out hg2 HV1.out); have HO2:=zM ho2; clear ho2 hb2 hg2 hat2))
 go_ret;refine ⟨_, rfl, ?_, HB2.out⟩;rw [HY.out];exact Kd.S_untail HO2.out
def F32.j0 : Nat → List Int → Bool → List Int → List (List Int) → Option (List Int × (List (List Int)) × Bool)
 | 0, _, _, _, _ => none
 | k + 1, x8, x56, x866000, x866001 => if x56 = true then (some (x866000, x866001, false)) else (if x866001.length < 5864062014805 then ((some (x866001 ++ [x866000] : List (List Int))).bind fun y873 => (if (y873.length : Int) > 8 then (some (x8, y873.drop (y873.length - 8), true)) else (some (x8, y873, true)))) else (none))
def F32.f (k : Nat) (l0_0 : List Int) (l0_1 : List (List Int)) (a1_0 : Int) (a1_1 : Int) (a1_2 : Int) : Option (List Int × (List (List Int)) × Bool) := (F29.f k l0_0 l0_1).bind fun t858 => (if t858 = true then ((F30.f k l0_0 l0_1).bind fun bt859 => ((F33.f a1_0 a1_1 a1_2).bind fun t866 => (if t866 = true then (if a1_0 = 5 then (if (bt859.2.length : Int) = 0 then (some (bt859.1, bt859.2, false)) else (if 0 ≤ (wrap64 ((bt859.2.length : Int) - 1)) then (if (wrap64 ((bt859.2.length : Int) - 1)) < (bt859.2.length : Int) then (some (rd_L4 bt859.2 (wrap64 ((bt859.2.length : Int) - 1)), bt859.2.take ((wrap64 ((bt859.2.length : Int) - 1))).toNat, true)) else (none)) else (none))) else ((F72.f k l0_0 a1_0 a1_1 a1_2).bind fun t868 => ((F37.f k t868).bind fun t871 => (if t871 = true then ((F73.f k t868 l0_0).bind fun t872 => (F32.j0 k t868 t872 bt859.1 bt859.2)) else (F32.j0 k t868 true bt859.1 bt859.2))))) else (some (bt859.1, bt859.2, false))))) else (some (([] : List Int), ([] : List (List Int)), false)))
theorem F32.ml : ∀ k, (∀ y0 y1 y2 y3, LeO (F32.j0 k y0 y1 y2 y3) (F32.j0 (k + 1) y0 y1 y2 y3))
 | 0 => fun _ _ _ _ r h => by simp [F32.j0] at h
 | k + 1 => by
  have ih0 := F32.ml k
  ·intro y0 y1 y2 y3
   unfold F32.j0
   have := @F29.mono; have := @F30.mono; have := @F37.mono; have := @F72.mono; have := @F73.mono; exact zm
theorem F32.mono : ∀ a0 a1 a2 a3 a4 k, LeO (F32.f k a0 a1 a2 a3 a4) (F32.f (k + 1) a0 a1 a2 a3 a4) := by
 intro a0 a1 a2 a3 a4 k;have ih0 := F32.ml k;unfold F32.f;have := @F29.mono; have := @F30.mono; have := @F37.mono; have := @F72.mono; have := @F73.mono; exact zm
section
set_option maxHeartbeats 8000000
set_option maxRecDepth 100000
theorem dd_j0 {k : Nat} {x : List Int} {e : Bool} {m : List Int} {s : List (List Int)} {r : List Int × List (List Int) × Bool} (h : F32.j0 k x e m s = some r) : (if e = true then some (m, s, false) else if s.length < 5864062014805 then (if ((s ++ [m]).length : Int) > 8 then some (x, (s ++ [m]).drop ((s ++ [m]).length - 8), true) else some (x, s ++ [m], true)) else none) = some r := by
 cases k with
 | zero => simp [F32.j0] at h
 | succ k => exact h
theorem F32.calls (k : Nat) (A0 : Option Addr) (c0 : Nat) (l : List Int) (A1 : Option Addr) (c1 : Nat) (q : List (List Int)) (a b c : Int) (r1 : List Int) (r2 : List (List Int)) (r3 : Bool) (w : World) (hr0 : Kd.C (Kd.int .i64) w A0 l.length l) (hc0 : l.length ≤ c0) (hr1 : Kd.C (Kd.slice 3 (Kd.int .i64)) w A1 q.length q) (hc1 : q.length ≤ c1) (h : F32.f k l q a b c = some (r1, r2, r3)) :
 Calls Tryz.prog 32 #[.agg #[.slice A0 l.length c0, .slice A1 q.length c1], .agg #[.int .i64 a, .int .i64 b, .int .i64 c]] w fun e w' => ∃ v0_ v1_ : Value, e = .returned (.tuple #[.agg #[v0_, v1_], .bool r3]) ∧ Kd.R (Kd.int .i64) 3 w' w.heap.size (fun _ => True) v0_ r1 ∧ Kd.S (Kd.slice 3 (Kd.int .i64)) 28 w' w.heap.size (fun k_ => some k_ ≠ (v0_ : Value).ownBlock) v1_ r2 ∧ Below w.heap.size w w' := by
 have hu31 := Tryz.underlying31
 have hu39 := Tryz.underlying39
 have HR := Qo.mk (And.intro hr0 (And.intro hc0 (And.intro hr1 hc1)))
 clear hr0 hc0 hr1 hc1
 unfold F32.f at h
 replace h := Option.bind_eq_some_iff.mp h; obtain ⟨t, e_, h⟩ := h
 have E1 := Qo.mk e_
 clear e_
 have H := Qo.mk h
 clear h
 go_enter Tryz.func32, Tryz.ntmps32
 have kn := ddF.new w #[.slice A0 l.length c0, .slice A1 q.length c1] #[.int .i64 a, .int .i64 b, .int .i64 c]
 go_upto_if 12 with (go_at_call 29; (with_reducible refine Calls.mono (F29.calls k _ _ l _ _ q t _ (Kd.Cb HR.out.1 kn.low) HR.out.2.1 (Kd.Cb HR.out.2.2.1 kn.low) HR.out.2.2.2 E1.out) ?_); rintro e w1 ⟨rfl, hb1⟩; have HF := Qo.mk (kn.below hb1); clear hb1 kn)
 by_cases ok : t = true
 rotate_left
 ·have h := H.out
  clear H
  rw [if_neg ok] at h
  simp only [Option.some.injEq, Prod.mk.injEq] at h
  obtain ⟨rfl, rfl, rfl⟩ := h
  rw [Bool.not_eq_true] at ok
  subst ok
  have kr0 := (bC HF.out.r 0).trans rfl
  have kr1 := (bC HF.out.r 1).trans rfl
  have kf0 := bF HF.out.r 0
  have kf1 := bF HF.out.r 1
  go_wp2
  have z := HF.out.fin (Kd.R_nil (Kd.int .i64) 3 w1 _ _) (Kd.S_nil (Kd.slice 3 (Kd.int .i64)) 28 w1 _ _)
  exact bodyPost_ret (rC rfl _ _ (w.heap.size + 2) 31 #[_, _] (0, 0) _ rfl z.1 Tryz.underlying31 rfl zh7) rfl ⟨_, _, rfl, z.2⟩
 subst ok
 have h := H.out
 clear H
 rw [if_pos rfl] at h
 replace h := Option.bind_eq_some_iff.mp h; obtain ⟨⟨m, s⟩, e_, h⟩ := h
 have E2 := Qo.mk e_
 clear e_
 replace h := Option.bind_eq_some_iff.mp h; obtain ⟨u, e_, h⟩ := h
 have E3 := Qo.mk e_
 clear e_
 dsimp only at h
 have H := Qo.mk h
 clear h
 obtain ⟨ka0, ka1, kd⟩ := HF.out.args
 go_upto_region 4 with (go_at_call 30; (with_reducible refine Calls.mono (F30.calls k _ _ l _ _ q m s _ (Kd.Cb HR.out.1 HF.out.low) HR.out.2.1 (Kd.Cb HR.out.2.2.1 HF.out.low) HR.out.2.2.2 E2.out) ?_); rintro e w2 ⟨v0, v1, rfl, hr2, hs2, hb2⟩; obtain ⟨B0, b0, rfl⟩ := Kd.Rs hr2; obtain ⟨B1, b1, rfl⟩ := Kd.S_slice hs2; have HO := Qo.mk (dkC.new (Kd.Rl hr2 HF.out.low.size) (Kd.S_lower hs2 HF.out.low.size)); have hf2 := HF.out.below hb2; clear hr2 hs2 hb2)
 have HG := Qo.mk (hf2.below (below_alloc (Below.refl _ _) (Obj.cells #[.slice B0 m.length b0, .slice B1 s.length b1] 31)))
 have GL := Qo.mk hf2.lt
 clear HF hf2 ka0 ka1 kd
 generalize (w2.alloc (Obj.cells #[.slice B0 m.length b0, .slice B1 s.length b1] 31)) = w3 at *
 generalize w2.heap.size = g at *
 obtain ⟨ka0, ka1, kd⟩ := HG.out.args
 go_upto_if 18 with (go_at_call 33; (with_reducible refine Calls.mono (F33.calls a b c u _ E3.out) ?_); rintro e w4 ⟨rfl, hb4⟩; have hg4 := HG.out.below hb4; have ho4 := HO.out.below hb4; clear HG HO ka0 ka1 kd; have HG := Qo.mk hg4; have HO := Qo.mk ho4; clear hg4 ho4 hb4)
 have kr0 := (bC HG.out.r 0).trans rfl
 have kr1 := (bC HG.out.r 1).trans rfl
 have kf0 := bF HG.out.r 0
 have kf1 := bF HG.out.r 1
 obtain ⟨ko0, ko1, kg0, kg1⟩ := HO.out.cells
 obtain ⟨ka0, ka1, kd0, kd1, kd2⟩ := HG.out.args
 have n0 : ¬ (w.heap.size + 2 = g) := by have := GL.out; omega
 have n1 : ¬ (g = w.heap.size + 2) := by have := GL.out; omega
 by_cases nm : u = true
 rotate_left
 ·have h := H.out
  clear H
  rw [if_neg nm] at h
  simp only [Option.some.injEq, Prod.mk.injEq] at h
  obtain ⟨rfl, rfl, rfl⟩ := h
  rw [Bool.not_eq_true] at nm
  subst nm
  go_wp2
  have z := HG.out.fin HO.out.r HO.out.s
  exact bodyPost_ret (rC rfl _ _ (w.heap.size + 2) 31 #[_, _] (0, 0) _ rfl z.1 Tryz.underlying31 rfl zh7) rfl ⟨_, _, rfl, z.2⟩
 subst nm
 have h := H.out
 clear H
 rw [if_pos rfl] at h
 by_cases a5 : a = 5
 ·rw [if_pos a5] at h
  have a5' : (a == 5) = true := beq_iff_eq.mpr a5
  by_cases s0 : (s.length : Int) = 0
  ·rw [if_pos s0] at h
   simp only [Option.some.injEq, Prod.mk.injEq] at h
   obtain ⟨rfl, rfl, rfl⟩ := h
   have s0' : ((s.length : Int) == 0) = true := beq_iff_eq.mpr s0
   go_wp2
   have z := HG.out.fin HO.out.r HO.out.s
   exact bodyPost_ret (rC rfl _ _ (w.heap.size + 2) 31 #[_, _] (0, 0) _ rfl z.1 Tryz.underlying31 rfl zh7) rfl ⟨_, _, rfl, z.2⟩
  rw [if_neg s0] at h
  have s0' : ((s.length : Int) == 0) = false := beq_eq_false_iff_ne.mpr s0
  generalize hi : wrap64 ((s.length : Int) - 1) = i at h
  by_cases i0 : 0 ≤ i
  rotate_left
  ·rw [if_neg i0] at h; cases h
  rw [if_pos i0] at h
  by_cases i1 : i < (s.length : Int)
  rotate_left
  ·rw [if_neg i1] at h; cases h
  rw [if_pos i1] at h
  simp only [Option.some.injEq, Prod.mk.injEq] at h
  obtain ⟨rfl, rfl, rfl⟩ := h
  have hS := HO.out.s
  have hlen := (Kd.S_reads' hS).2.1
  obtain ⟨ad, A, cA, e0, hx, hl, hc⟩ := at_L4 (Kd.S_reads' hS).2.2 i i0 i1
  cases e0
  have i2 : i + 1 = (s.length : Int) := by
   have hm := (Kd.S_reads' hS).2.2.2.1
   (try simp only [maxLen] at hm)
   rw [← hi]
   unfold wrap64
   omega
  obtain ⟨hpa, hpb⟩ := Kd.S_pop hS i i0 i2 hx
  rw [show s.length - 1 = i.toNat by omega] at hpb
  obtain ⟨i0z, hi0z, _⟩ := info_parts info28
  have hcut : ∀ W : World, (Instr.slice 29 (.slice (some ad) s.length b1) none (some (.int .i64 i)) none).run Tryz.prog W = .ok (.slice (some ad) i.toNat b1) W := cut_to (P := Tryz.prog) 29 28 .i64 Tryz.underlying29 hi0z (some ad) s.length b1 i i0 (by omega) hlen
  have HP := Qo.mk (And.intro hpa hpb)
  have HL := Qo.mk (show i.toNat ≤ b1 by omega)
  have p0 : (0 ≤ i) = True := eq_true i0
  have p1 : (i < (s.length : Int)) = True := eq_true i1
  clear hS hlen hl hc hpa hpb hi0z s0 i2
  go_wp2_with (go_at_call 53; (with_reducible refine Calls.mono (F53.calls _ _ _ _ HL.out) ?_); rintro e w' ⟨rfl, rfl⟩)
  have o := dkC.put HO.out.k (Kd.Rm HP.out.1 (fun _ _ => trivial)) (Kd.Sm (Kd.S_clipn HP.out.2) (fun _ hk => hk.2))
  have z := ((HG.out.far GL.out 0 _).far GL.out 1 _).fin o.r o.s
  exact bodyPost_ret (rC rfl _ _ (w.heap.size + 2) 31 #[_, _] (0, 0) _ rfl z.1 Tryz.underlying31 rfl zh7) rfl ⟨_, _, rfl, z.2⟩
 rw [if_neg a5] at h
 have a5' : (a == 5) = false := beq_eq_false_iff_ne.mpr a5
 replace h := Option.bind_eq_some_iff.mp h; obtain ⟨x, e_, h⟩ := h
 have E4 := Qo.mk e_
 clear e_
 replace h := Option.bind_eq_some_iff.mp h; obtain ⟨t1, e_, h⟩ := h
 have E5 := Qo.mk e_
 clear e_
 obtain ⟨e, he, h⟩ : ∃ e, ((t1 = true → F73.f k x l = some e) ∧ (t1 = false → e = true)) ∧ F32.j0 k x e m s = some (r1, r2, r3) := by
  cases t1 with
  | true => obtain ⟨e, h1, h2⟩ := Option.bind_eq_some_iff.mp h; exact ⟨e, ⟨fun _ => h1, fun z => by cases z⟩, h2⟩
  | false => exact ⟨true, ⟨fun z => (by cases z), fun _ => rfl⟩, h⟩
 have h := dd_j0 h
 have E6 := Qo.mk he
 have H := Qo.mk h
 clear h he
 go_upto_region 14 with (go_at_call 72; (with_reducible refine Calls.mono (F72.calls k _ _ l a b c x _ (Kd.Cb HR.out.1 HG.out.low) HR.out.2.1 E4.out) ?_); rintro e w5 ⟨v, rfl, hr5, hb5⟩; obtain ⟨B, bb, rfl⟩ := Kd.Rs hr5; have HM := Qo.mk (Kd.Rl (Kd.R_new' hr5 (Kd.R_lt HO.out.r)) HG.out.low.size); have HS := Qo.mk (Kd.S_elder' HO.out.s (Kd.R_base hr5) hb5); have HV := Qo.mk (Kd.R_elder' HO.out.r (Kd.R_base hr5) hb5); have hg5 := HG.out.below hb5; have ho5 := HO.out.k; have hk5 := bB ho5 hb5; clear hr5 hb5 ho5)
 have hb0 := Below.refl w5.heap.size w5
 go_cut [56] (fun v56 wc => v56 = .bool e ∧ Qo (Below w5.heap.size w5 wc))
 case first =>
  obtain ⟨ka0, ka1, kd0, kd1, kd2⟩ := hg5.args
  have HX := Qo.mk (Kd.rr' HM.out).2
  have HW := Qo.mk hg5.low
  clear hg5 hk5
  cases t1
  ·obtain rfl := E6.out.2 rfl
   go_wp2_with (go_at_call 37; ((with_reducible refine Calls.mono (F37.calls k _ _ x false w5 HX.out.2 HX.out.1 E5.out) ?_); rintro e w6 ⟨rfl, hd6⟩; have HB6 := Qo.mk (below_drawn hd6); clear hd6))
   go_meet
   case rel => exact ⟨rfl, HB6⟩
  ·have E7 := Qo.mk (E6.out.1 rfl)
   go_wp2_with (first
    | (go_at_call 37; ((with_reducible refine Calls.mono (F37.calls k _ _ x true w5 HX.out.2 HX.out.1 E5.out) ?_); rintro e w6 ⟨rfl, hd6⟩; have hb6 := below_drawn hd6; have ka0 := pB hb6 ka0; have ka1 := pB hb6 ka1; have HB6 := Qo.mk hb6; clear hd6 hb6))
    | (go_at_call 73; ((with_reducible refine Calls.mono (F73.calls k _ _ x _ _ l e w6 (Kd.Cb HX.out.2 HB6.out) HX.out.1 (Kd.Cb HR.out.1 (HW.out.trans (HB6.out.mono HW.out.size))) HR.out.2.1 E7.out) ?_); rintro e w7 ⟨rfl, hd7⟩; have HB7 := Qo.mk (HB6.out.trans ((below_drawn hd7).mono HB6.out.size)); clear hd7)))
   go_meet
   case rel => exact ⟨rfl, HB7⟩
 case rest =>
  obtain ⟨rfl, hb⟩ := hcut
  have hgc := hg5.below hb.out
  have hkc := bB hk5 hb.out
  have HM := Qo.mk (Kd.R_below HM.out hb.out)
  have HS := Qo.mk (Kd.S_below HS.out hb.out)
  have HV := Qo.mk (Kd.R_below HV.out hb.out)
  have h := H.out
  clear H hb hb0 hg5 hk5 E6 E5 E4 E3 E2 E1 ka0 ka1 kd0 kd1 kd2 ko0 ko1 kg0 kg1 kr0 kr1 kf0 kf1 HG HO
  have HG := Qo.mk hgc
  have HK := Qo.mk hkc
  clear hgc hkc
  have kr0 := (bC HG.out.r 0).trans rfl
  have kr1 := (bC HG.out.r 1).trans rfl
  have kf0 := bF HG.out.r 0
  have kf1 := bF HG.out.r 1
  have ko0 : wc.cell? ⟨g, 0, none⟩ = some (.slice B0 m.length b0) := (bC HK.out 0).trans rfl
  have ko1 : wc.cell? ⟨g, 1, none⟩ = some (.slice B1 s.length b1) := (bC HK.out 1).trans rfl
  have kg0 := bF HK.out 0
  have kg1 := bF HK.out 1
  cases e
  rotate_left
  ·rw [if_pos rfl] at h
   simp only [Option.some.injEq, Prod.mk.injEq] at h
   obtain ⟨rfl, rfl, rfl⟩ := h
   go_wp2
   have z := HG.out.fin (Kd.Rm HV.out (fun _ _ => trivial)) (Kd.Sm HS.out (fun _ h => h.1))
   exact bodyPost_ret (rC rfl _ _ (w.heap.size + 2) 31 #[_, _] (0, 0) _ rfl z.1 Tryz.underlying31 rfl zh7) rfl ⟨_, _, rfl, z.2⟩
  rw [if_neg zh5] at h
  by_cases big : s.length < 5864062014805
  rotate_left
  ·rw [if_neg big] at h; cases h
  rw [if_pos big] at h
  have HX := Qo.mk (Kd.R_apart' HV.out (Kd.S_typed HS.out) zh5)
  have BG := Qo.mk big
  obtain ⟨y, hy⟩ : ∃ y, y = s ++ [m] := ⟨_, rfl⟩
  have LY := Qo.mk (show y.length ≤ 5864062014805 by rw [hy, List.length_append, List.length_singleton]; omega)
  rw [← hy] at h
  have HY := Qo.mk hy
  clear big hy
  have H := Qo.mk h
  clear h
  go_upto_region 17 with ((with_reducible refine gB (b := .append) (xs := #[.tmp 59, .tmp 62]) rfl ?_); at_builtin; refine Kd.S_append (Kd.slice 3 (Kd.int .i64)) (w0 := w) w.heap.size rfl (.tmp 59) (.tmp 62) 29 28 (.slice none 0 0) 24 rfl Tryz.underlying29 info28 rfl zh5 (by omega) (.slice B1 s.length b1) s m [.slice B0 m.length b0] (fun k_ => some k_ ≠ (.slice B x.length bb : Value).ownBlock) (fun k_ => some k_ = (.slice B0 m.length b0 : Value).ownBlock) rfl rfl (Kd.M_row (Kd.Rm (Kd.R_tight rfl HV.out) (fun _ h_ => h_))) (fun k_ hk_ => have z_ := HX.out.1 k_ hk_.symm; ⟨z_.1.2, z_.2⟩) (Kd.fresh' (Kd.R_lt HM.out)) (Kd.Sm HS.out (fun k_ hk => ⟨hk.2, hk.1⟩)) HG.out.low HG.out.low.size (by have := BG.out; omega) ?_; intro v7 w7 hs7 hb7 hg7 _; have hm7 := Kd.R_over' HM.out (Kd.S_typed HS.out) zh5 hg7; have hf7 := HG.out.grown hb7 (Kd.S_typed HS.out) hg7; have hk7 := blk_grown HK.out hg7 (Kd.S_ne HS.out HK.out zh5); rw [← HY.out] at hs7; obtain ⟨B7, b7, rfl⟩ := Kd.S_slice hs7; clear hg7 hb7; have ko0 := (bC hk7 0).trans rfl; have ko1 := (bC hk7 1).trans rfl; have kg0 := bF hk7 0; have kg1 := bF hk7 1)
  have HK : Qo ((w7.setCell ⟨g, 1, none⟩ (.slice B7 y.length b7)).heap[g]? = some (.cells #[.slice B0 m.length b0, .slice B7 y.length b7] 31 (0, 0))) := ⟨bP hk7 1 (.slice B7 y.length b7) rfl⟩
  have HS := Qo.mk (Kd.Sm (Kd.Sf (p := ⟨g, 1, none⟩) (Kd.S_types hs7 hk7 zh5) (fun _ h => h.2) (.slice B7 y.length b7)) (fun _ h => h.1))
  have HM := Qo.mk (Kd.Rm (Kd.Rf (p := ⟨g, 1, none⟩) (Kd.Rt hm7 hk7 zh5) (fun _ h => h.2) (.slice B7 y.length b7)) (fun _ _ => trivial))
  have HG := Qo.mk (hf7.far GL.out 1 (.slice B7 y.length b7))
  clear hk7 hs7 hm7 hf7 ko0 ko1 kg0 kg1 kr0 kr1 kf0 kf1 HV HX
  generalize w7.setCell ⟨g, 1, none⟩ (.slice B7 y.length b7) = w8 at *
  have ko0 : w8.cell? ⟨g, 0, none⟩ = some (.slice B0 m.length b0) := (bC HK.out 0).trans rfl
  have ko1 : w8.cell? ⟨g, 1, none⟩ = some (.slice B7 y.length b7) := (bC HK.out 1).trans rfl
  have kg0 := bF HK.out 0
  have kg1 := bF HK.out 1
  go_upto_if 69 with (fail)
  go_cut [9] (fun v9 wd => ∃ (z : List (List Int)) (B9 : Option Addr) (b9 : Nat), v9 = .int .i64 y.length ∧ Qo (some (x, z, true) = some (r1, r2, r3)) ∧ Qo (wd.heap[g]? = some (.cells #[.slice B0 m.length b0, .slice B9 z.length b9] 31 (0, 0))) ∧ Qo (Kd.S (Kd.slice 3 (Kd.int .i64)) 28 wd w.heap.size (fun k_ => some k_ ≠ (.slice B x.length bb : Value).ownBlock) (.slice B9 z.length b9) z) ∧ Qo (Kd.R (Kd.int .i64) 3 wd w.heap.size (fun _ => True) (.slice B x.length bb) x) ∧ Qo (ddF w wd #[.slice A0 l.length c0, .slice A1 q.length c1] #[.int .i64 a, .int .i64 b, .int .i64 c]))
  case first =>
   have h := H.out
   clear H
   by_cases g8 : (y.length : Int) > 8
   rotate_left
   ·rw [if_neg g8] at h
    have H := Qo.mk h
    clear h
    go_wp2
    go_meet
    case rel => exact ⟨y, B7, b7, rfl, H, HK, HS, HM, HG⟩
   ·rw [if_pos g8] at h
    obtain ⟨j, hj⟩ : ∃ j, j = y.length - 8 := ⟨_, rfl⟩
    rw [← hj] at h
    obtain ⟨z, hz⟩ : ∃ z, z = y.drop j := ⟨_, rfl⟩
    rw [← hz] at h
    have H := Qo.mk h
    clear h
    obtain ⟨i0z, hi0z, _, hszz, _⟩ := info_parts info28
    have hw : wrap64 ((y.length : Int) - 8) = (j : Int) := by have := LY.out; unfold wrap64; omega
    have hcut : ∀ W : World, (Instr.slice 29 (.slice B7 y.length b7) (some (.int .i64 (j : Int))) none none).run Tryz.prog W = .ok (.slice (if b7 = j then B7 else B7.map (·.add (j * 1))) (y.length - j) (b7 - j)) W := by
     intro W
     have h_ := cut_from (P := Tryz.prog) 29 28 .i64 Tryz.underlying29 hi0z 1 hszz B7 y.length b7 (j : Int) (by omega) (by omega) W
     rw [Int.toNat_natCast] at h_
     exact h_
    obtain ⟨Az, hAz⟩ : ∃ A1, A1 = (if b7 = j then B7 else B7.map (·.add (j * 1))) := ⟨_, rfl⟩
    obtain ⟨nz, hnz⟩ : ∃ n1, n1 = y.length - j := ⟨_, rfl⟩
    obtain ⟨kz, hkz⟩ : ∃ c1, c1 = b7 - j := ⟨_, rfl⟩
    rw [← hAz, ← hnz, ← hkz] at hcut
    have HZ := Qo.mk (And.intro hAz (And.intro hnz (And.intro hkz (And.intro hz (show j < y.length by omega)))))
    clear hAz hnz hkz hi0z hszz hj hz
    go_wp2_with (go_at_call 74; ((with_reducible refine Calls.mono (F74.calls B7 b7 j y z w.heap.size _ Az nz kz w8 HZ.out.1 HZ.out.2.1 HZ.out.2.2.1 HZ.out.2.2.2.1 HZ.out.2.2.2.2 LY.out HG.out.low.size HS.out) ?_); rintro e w9 ⟨v9, rfl, hs9, hb9⟩; obtain ⟨B9, b9, rfl⟩ := Kd.S_slice hs9; have hs9 := Kd.Sm hs9 (fun k hk => hk.elim id (fun h => Kd.fresh' (Kd.R_lt HM.out) k h)); have hm9 := Kd.R_below HM.out hb9; have hk9 := bB HK.out hb9; have hg9 := HG.out.below hb9; clear hb9; have ko0 := (bC hk9 0).trans rfl; have ko1 := (bC hk9 1).trans rfl; have kg0 := bF hk9 0; have kg1 := bF hk9 1))
    go_meet
    case rel => exact ⟨z, B9, b9, rfl, H, ⟨bP hk9 1 _ rfl⟩, ⟨Kd.Sm (Kd.Sf (Kd.S_types hs9 hk9 zh5) (fun _ h => h.2) _) (fun _ h => h.1)⟩, ⟨Kd.Rm (Kd.Rf (Kd.Rt hm9 hk9 zh5) (fun _ h => h.2) _) (fun _ _ => trivial)⟩, ⟨hg9.far GL.out 1 _⟩⟩
  case rest =>
   clear H HK HS HM HG ko0 ko1 kg0 kg1
   obtain ⟨z, B9, b9, rfl, H, HK, HS, HM, HG⟩ := hcut
   have h := H.out
   clear H
   simp only [Option.some.injEq, Prod.mk.injEq] at h
   obtain ⟨rfl, rfl, rfl⟩ := h
   have ko0 : wc.cell? ⟨g, 0, none⟩ = some (.slice B0 m.length b0) := (bC HK.out 0).trans rfl
   have ko1 : wc.cell? ⟨g, 1, none⟩ = some (.slice B9 z.length b9) := (bC HK.out 1).trans rfl
   have kg0 := bF HK.out 0
   have kg1 := bF HK.out 1
   have kr0 := (bC HG.out.r 0).trans rfl
   have kr1 := (bC HG.out.r 1).trans rfl
   have kf0 := bF HG.out.r 0
   have kf1 := bF HG.out.r 1
   go_wp2_with (go_at_call 53; (with_reducible refine Calls.mono (F53.calls _ _ _ _ (Kd.S_reads' HS.out).2.1) ?_); rintro e w' ⟨rfl, rfl⟩)
   have o := dkC.put2 HK.out HM.out (Kd.S_clipn HS.out)
   have z := ((HG.out.far GL.out 1 _).far GL.out 0 _).fin o.r o.s
   exact bodyPost_ret (rC rfl _ _ (w.heap.size + 2) 31 #[_, _] (0, 0) _ rfl z.1 Tryz.underlying31 rfl zh7) rfl ⟨_, _, rfl, z.2⟩
end
end Go.Proofs.YtnpoeeliaolbaaaGreatDoor.LA
