/- Printed by a program of this session (wip/lp/lp.py) out of the translation: functions with the same answers as the Go code, and their contracts; no conditions beyond those that each theorem names. -/
import Derived.Test.YtbbhdgpiocojaaaLHx0
import Derived.Test.YtbbhdgpiocojaaaLHx2
namespace Go.Proofs.Ytbbhdgpiocojaaa.LH
open Go.RowKit Go.Proofs.YtbbhdgpiocojaaaV.PrintWords Go.Proofs.YtbbhdgpiocojaaaV.PrintLast Go.Proofs.YtbbhdgpiocojaaaV.PrintMore
attribute [local go_sem] max2_int min2_int max_two min_two max_three min_three max_four min_four   -- for this text's walks alone
set_option linter.unusedVariables false
set_option linter.unusedSimpArgs false

/-! ### slices_insertionSortOrdered_int: function 139 -/
mutual
def slices_insertionSortOrdered_int.l0 : Nat → List Int → Int → Int → Int → Option (List Int)
 | 0, _, _, _, _ => none
 | k + 1, x0, x1, x2, x6 => if x6 < x2 then (slices_insertionSortOrdered_int.l1 k x0 x1 x2 x6 x6) else (some x0)
def slices_insertionSortOrdered_int.l1 : Nat → List Int → Int → Int → Int → Int → Option (List Int)
 | 0, _, _, _, _, _ => none
 | k + 1, x0, x1, x2, x6, x7 => if x7 > x1 then (if 0 ≤ x7 then (if x7 < (x0.length : Int) then (if 0 ≤ (wrap64 (x7 - 1)) then (if (wrap64 (x7 - 1)) < (x0.length : Int) then ((cmp_Less_int.f (rd x0 x7) (rd x0 (wrap64 (x7 - 1)))).bind fun t132 => (if t132 = true then (slices_insertionSortOrdered_int.l1 k ((x0.set (x7 : Int).toNat (rd x0 (wrap64 (x7 - 1)))).set ((wrap64 (x7 - 1)) : Int).toNat (rd x0 x7)) x1 x2 x6 (wrap64 (x7 - 1))) else (slices_insertionSortOrdered_int.l0 k x0 x1 x2 (wrap64 (x6 + 1))))) else (none)) else (none)) else (none)) else (none)) else (slices_insertionSortOrdered_int.l0 k x0 x1 x2 (wrap64 (x6 + 1)))
end
def slices_insertionSortOrdered_int.f (k : Nat) (l0 : List Int) (a1 : Int) (a2 : Int) : Option (List Int) := slices_insertionSortOrdered_int.l0 k l0 a1 a2 (wrap64 (a1 + 1))
theorem slices_insertionSortOrdered_int.mono_l : ∀ k, (∀ y0 y1 y2 y3, LeO (slices_insertionSortOrdered_int.l0 k y0 y1 y2 y3) (slices_insertionSortOrdered_int.l0 (k + 1) y0 y1 y2 y3)) ∧ (∀ y0 y1 y2 y3 y4, LeO (slices_insertionSortOrdered_int.l1 k y0 y1 y2 y3 y4) (slices_insertionSortOrdered_int.l1 (k + 1) y0 y1 y2 y3 y4))
 | 0 => ⟨fun _ _ _ _ r h => by simp [slices_insertionSortOrdered_int.l0] at h, fun _ _ _ _ _ r h => by simp [slices_insertionSortOrdered_int.l1] at h⟩
 | k + 1 => by
  obtain ⟨ih0, ih1⟩ := slices_insertionSortOrdered_int.mono_l k
  refine ⟨?_, ?_⟩
  ·intro y0 y1 y2 y3
   unfold slices_insertionSortOrdered_int.l0
   exact zmono
  ·intro y0 y1 y2 y3 y4
   unfold slices_insertionSortOrdered_int.l1
   exact zmono
theorem slices_insertionSortOrdered_int.mono : ∀ a0 a1 a2 k, LeO (slices_insertionSortOrdered_int.f k a0 a1 a2) (slices_insertionSortOrdered_int.f (k + 1) a0 a1 a2) := by
 intro a0 a1 a2 k;obtain ⟨ih0, ih1⟩ := slices_insertionSortOrdered_int.mono_l k;unfold slices_insertionSortOrdered_int.f;exact zmono
def slices_insertionSortOrdered_int.T4 : Bool × List (List Nat × List Nat) := (true, [([], []), ([], []), ([0, 1], [0, 1]), ([2], [2]), ([3], [3]), ([3], [3]), ([4, 5, 3], [3, 4, 5]), ([6, 3], [3, 6]), ([3], [3]), ([3], [3]), ([9, 3], [3, 9]), ([8, 10, 3], [3, 8, 10]), ([11, 3], [3, 11]), ([7, 12, 3, 3], [3, 7, 12]), ([3, 13], [3, 13])])
def slices_insertionSortOrdered_int.B4 : List Nat := [0, 0, 3, 7, 15, 15, 63, 127, 15, 15, 527, 1807, 3855, 8191, 16383]
theorem slices_insertionSortOrdered_int.tab4 : rtab .any (opsOf Try.f139 4) = slices_insertionSortOrdered_int.T4 := by kernel_rfl
theorem slices_insertionSortOrdered_int.bits4 : waitsOk slices_insertionSortOrdered_int.T4.2 slices_insertionSortOrdered_int.B4 = true := by kernel_rfl
def slices_insertionSortOrdered_int.T6 : Bool × List (List Nat × List Nat) := (true, [([], []), ([], []), ([], []), ([], []), ([3], [3]), ([], []), ([], []), ([6], [6]), ([5, 7], [5, 7]), ([8], [8]), ([], []), ([], []), ([10, 11], [10, 11]), ([12], [12]), ([0, 1, 0, 1, 5, 6, 7, 8, 9, 13], [0, 1]), ([14, 9, 0, 1, 5, 6, 7, 8, 9, 13], [9, 14]), ([2, 4, 0, 1, 2, 3, 4, 5, 6, 7, 8, 9, 10, 11, 12, 13, 14, 15], [2, 4]), ([16, 13, 15, 0, 1, 2, 3, 4, 5, 6, 7, 8, 9, 10, 11, 12, 13, 14, 15], [13, 16])])
def slices_insertionSortOrdered_int.B6 : List Nat := [0, 0, 0, 0, 8, 0, 0, 64, 224, 480, 0, 0, 3072, 7168, 16355, 32739, 65535, 131071]
theorem slices_insertionSortOrdered_int.tab6 : rtab .any (opsOf Try.f139 6) = slices_insertionSortOrdered_int.T6 := by kernel_rfl
theorem slices_insertionSortOrdered_int.bits6 : waitsOk slices_insertionSortOrdered_int.T6.2 slices_insertionSortOrdered_int.B6 = true := by kernel_rfl
set_option maxHeartbeats 8000000 in
set_option maxRecDepth 100000 in
theorem slices_insertionSortOrdered_int.calls (k : Nat) (P0_ : Nat → Prop) (u9000_ : Value) (l0 : List Int) (a1 : Int) (a2 : Int) (r : List Int) (w0 w : World) (hB : Below w0.heap.size w0 w) (ho0 : Kd.R (Kd.int .i64) 3 w w0.heap.size P0_ u9000_ l0) (h : slices_insertionSortOrdered_int.f k l0 a1 a2 = some r) :
  Calls Try.prog 139 #[u9000_, .int .i64 a1, .int .i64 a2] w fun e w' => e = .returned (.tuple #[]) ∧ Kd.R (Kd.int .i64) 3 w' w0.heap.size (fun k_ => (P0_ k_ ∨ w.heap.size ≤ k_)) u9000_ r ∧ Below w0.heap.size w0 w' ∧ Kept w w' (fun k_ => P0_ k_) := by
 have HO0:=zM (show Kd.R (Kd.int .i64) 3 w w0.heap.size (fun k_ => (P0_ k_ ∨ w.heap.size ≤ k_)) u9000_ l0 from Kd.R_mono ho0 (fun k_ hk => (.inl hk)));have HK:=zM (Kept.refl w (fun k_ => P0_ k_));have HW0:=zM hB.size;have HB:=zM hB;clear hB;have H : (slices_insertionSortOrdered_int.l0 k l0 a1 a2 (wrap64 (a1 + 1))) = some r := h;clear h;have H':=zM H;clear H;go_enter Try.func139, Try.ntmps139;go_wp2;go_loopg [6] k (fun kq v6 w' => ∃ (x0_1 : List Int) (x6_1 : Int), v6 = .int .i64 x6_1 ∧ Aside0 (slices_insertionSortOrdered_int.l0 kq x0_1 a1 a2 x6_1 = some r) ∧ Aside0 (kq ≤ k) ∧ Aside0 (Kd.R (Kd.int .i64) 3 w' w0.heap.size (fun k_ => (P0_ k_ ∨ w.heap.size ≤ k_)) u9000_ x0_1) ∧ Aside0 (Kept w w' (fun k_ => P0_ k_)) ∧ Aside0 (Below w0.heap.size w0 w'))
 case atStart => exact ⟨(l0), (wrap64 (a1 + 1)), zs0, H', ⟨Nat.le_refl _⟩, ⟨(zs8 HO0)⟩, ⟨(zs14 HK)⟩, ⟨(zs6 HB)⟩⟩
 case round =>
  clear H';obtain ⟨x0_1, x6_1, rfl, HA, HK1, HO_0, HK, HB⟩ := hrel;cases gk with
  | zero => exact absurd HA.out (by simp [slices_insertionSortOrdered_int.l0])
  | succ k1 =>
   have H := HA.out;clear HA;simp only [slices_insertionSortOrdered_int.l0] at H;by_cases c4 : x6_1 < a2
   ·rw [if_pos c4] at H;have c4b0 := decide_eq_true c4;clear c4;have H':=zM H;clear H;go_wp2;go_loopg [7] k1 (fun kq v7 w' => ∃ (x0_2 : List Int) (x7_2 : Int), v7 = .int .i64 x7_2 ∧ Aside0 (slices_insertionSortOrdered_int.l1 kq x0_2 a1 a2 x6_1 x7_2 = some r) ∧ Aside0 (kq ≤ k1) ∧ Aside0 (Kd.R (Kd.int .i64) 3 w' w0.heap.size (fun k_ => (P0_ k_ ∨ w.heap.size ≤ k_)) u9000_ x0_2) ∧ Aside0 (Kept w w' (fun k_ => P0_ k_)) ∧ Aside0 (Below w0.heap.size w0 w'))
    case atStart => exact ⟨(x0_1), (x6_1), zs0, H', ⟨Nat.le_refl _⟩, ⟨(zs8 HO_0)⟩, ⟨(zs14 HK)⟩, ⟨(zs6 HB)⟩⟩
    case round =>
     clear H';obtain ⟨x0_2, x7_2, rfl, HA, HK2, HO_0, HK, HB⟩ := hrel;cases gk with
     | zero => exact absurd HA.out (by simp [slices_insertionSortOrdered_int.l1])
     | succ k2 =>
      have H := HA.out;clear HA;simp only [slices_insertionSortOrdered_int.l1] at H;by_cases c5 : x7_2 > a1
      ·rw [if_pos c5] at H;have c5b0 : decide (a1 < x7_2) = true := decide_eq_true c5;clear c5;replace H := zn H; obtain ⟨c6, H⟩ := H;have c6b0 := decide_eq_true c6;clear c6;replace H := zn H; obtain ⟨c7, H⟩ := H;have c7b0 := decide_eq_true c7;clear c7;obtain ⟨ji8, hji8⟩ : ∃ j_ : Int, (wrap64 (x7_2 - 1)) = j_ := ⟨_, rfl⟩;(replace H : (if 0 ≤ (ji8) then (if (ji8) < (x0_2.length : Int) then ((cmp_Less_int.f (rd x0_2 x7_2) (rd x0_2 (ji8))).bind fun t132 => (if t132 = true then (slices_insertionSortOrdered_int.l1 k2 ((x0_2.set (x7_2 : Int).toNat (rd x0_2 (ji8))).set ((ji8) : Int).toNat (rd x0_2 x7_2)) a1 a2 x6_1 ji8) else (slices_insertionSortOrdered_int.l0 k2 x0_2 a1 a2 (wrap64 (x6_1 + 1))))) else (none)) else (none)) = some r := by first | (rw [hji8] at H; exact H) | (simp only [hji8] at H ⊢; exact H));have hji8w : (IntKind.i64.wrap (x7_2 - 1)) = ji8 := (i64_w _).trans hji8;replace H := zn H; obtain ⟨c9, H⟩ := H;have c9b0 := decide_eq_true c9;clear c9;replace H := zn H; obtain ⟨c10, H⟩ := H;have c10b0 := decide_eq_true c10;clear c10;replace H := zb H; obtain ⟨t132, A11, H⟩ := H; (try dsimp only at H);by_cases c12 : t132 = true
       ·subst c12;(have H1 : (slices_insertionSortOrdered_int.l1 k2 ((x0_2.set (x7_2 : Int).toNat (rd x0_2 (ji8))).set ((ji8) : Int).toNat (rd x0_2 x7_2)) a1 a2 x6_1 ji8) = some r := by rw [if_pos rfl] at H; exact H);clear H;have H := H1;clear H1;obtain ⟨y135, hy135⟩ : ∃ y_ : List Int, y_ = (x0_2.set (x7_2 : Int).toNat (rd x0_2 (ji8))) := ⟨_, rfl⟩; rw [← hy135] at H; have Ny135:=zM hy135; clear hy135;obtain ⟨y136, hy136⟩ : ∃ y_ : List Int, y_ = (y135.set ((ji8) : Int).toNat (rd x0_2 x7_2)) := ⟨_, rfl⟩; rw [← hy136] at H; have Ny136:=zM hy136; clear hy136;have H':=zM H;clear H;(try go_wp2);replace HO_0:=zM (Kd.R_drew HO_0.out);replace HK:=zM (Kept.drew HK.out);replace HB:=zM (zC HB.out);obtain ⟨Ao16, co16, eo16⟩ := Kd.R_slice HO_0.out;(first | subst eo16 | (injection eo16 with f1_ f2_ f3_; have f4_ := f1_.symm; have f5_ := f3_.symm; clear f1_ f2_ f3_; subst f4_; subst f5_));have p130 : 0 ≤ (x7_2 : Int) := of_decide_eq_true zs1;have q130 : x7_2 < (x0_2.length : Int) := of_decide_eq_true zs1;obtain ⟨ad130, e130, hx130_0⟩ := Kd.at_int (Kd.R_reads' HO_0.out).2.2 x7_2 p130 q130;cases e130;replace p130 := eq_true p130;replace q130 := eq_true q130;have p131 : 0 ≤ ((ji8) : Int) := of_decide_eq_true zs1;have q131 : (ji8) < (x0_2.length : Int) := of_decide_eq_true zs1;obtain ⟨ad131, e131, hx131_0⟩ := Kd.at_int (Kd.R_reads' HO_0.out).2.2 (ji8) p131 q131;obtain rfl : ad130 = ad131 := (by injection e131);replace p131 := eq_true p131;replace q131 := eq_true q131;refine start_ (n := 15) (S := fun w' => w'.cell? (ad130.add (x7_2).toNat) = some (.int .i64 (rd x0_2 x7_2)) ∧ w'.cell? (ad130.add ((ji8)).toNat) = some (.int .i64 (rd x0_2 (ji8)))) (ds := []) (zL 15 0) zk rfl rfl ⟨hx130_0, hx131_0⟩ (fun hHeld => ?_); refine with_tabW slices_insertionSortOrdered_int.tab4 slices_insertionSortOrdered_int.bits4 (fun HT_ HW_ => ?_);generalize wr.drew = w15 at HO_0 HK HB hx130_0 hx131_0 hHeld ⊢;refine zp 0 (some 16) (zL 15 1) HT_ ?_;refine zp 1 (some 17) (zL 15 3) HT_ ?_;refine zp 2 (some 18) (zL 15 7) HT_ ?_;refine zp 3 (some 19) (zL 15 15) HT_ ?_;refine zp 4 (some 20) (zL 15 31) HT_ ?_;refine zp 5 (some 21) (zL 15 63) HT_ ?_;refine zp 6 (some 22) (zL 15 127) HT_ ?_;refine zp 8 (some 24) (zL 15 383) HT_ ?_;refine zp 9 (some 25) (zL 15 895) HT_ ?_;refine zp 10 (some 26) (zL 15 1919) HT_ ?_;refine zp 11 (some 27) (zL 15 3967) HT_ ?_;refine zt 7 (some 23) (zL 15 4095) HT_ HW_ hHeld rfl ?_ (hy := by rintro w' ⟨s0, s1⟩; go_simp; with_reducible rfl);refine zt 12 (some 28) (zL 15 8191) HT_ HW_ hHeld rfl ?_ (hy := by rintro w' ⟨s0, s1⟩; go_simp; with_reducible rfl);refine one_ (i := 13) (N := some 29) (zL 15 16383) rfl rfl (one_of HT_.out zk) zd (fun K hK => ?_);refine zv Try.func145 #[.int .i64 (rd x0_2 x7_2), .int .i64 (rd x0_2 (ji8))] ?_ (hargs := by (try simp only [List.map_toArray, List.map_cons, List.map_nil]); first | done | (simp only [hji8]; rfl) | rfl);(with_reducible refine (cmp_Less_int.calls (rd x0_2 x7_2) (rd x0_2 (ji8)) true _ A11.out).mono ?_);rintro e w' ⟨rfl, ⟨nd, rfl⟩⟩;refine ⟨_, rfl, ?_⟩;refine hK.out _ _ ⟨hHeld.1, hHeld.2⟩ (fun hHeld => ?_);clear hK K;refine zq (some 29) ?_;refine zp 14 (some 30) (zL 15 32767) HT_ ?_;refine done_ (done_of HT_.out zk) ?_;(try go_wp2);(try (rw [drewN_self w15]; generalize hq_ : World.drewN w15 _ = w15; replace HO_0 : Aside0 (Kd.R (Kd.int .i64) 3 w15 w0.heap.size (fun k_ => (P0_ k_ ∨ w.heap.size ≤ k_)) (.slice (some ad130) x0_2.length co16) x0_2) := ⟨by rw [← hq_]; exact (zs8 HO_0)⟩; replace HK : Aside0 (Kept w w15 (fun k_ => P0_ k_)) := ⟨by rw [← hq_]; exact (zs14 HK)⟩; replace HB : Aside0 (Below w0.heap.size w0 w15) := ⟨by rw [← hq_]; exact (zs6 HB)⟩; clear hq_));replace HO_0:=zM (Kd.R_drew HO_0.out);replace HK:=zM (Kept.drew HK.out);replace HB:=zM (zC HB.out);have p133 : 0 ≤ ((ji8) : Int) := of_decide_eq_true zs1;have q133 : (ji8) < (x0_2.length : Int) := of_decide_eq_true zs1;obtain ⟨ad133, e133, hx133_0⟩ := Kd.at_int (Kd.R_reads' HO_0.out).2.2 (ji8) p133 q133;obtain rfl : ad130 = ad133 := (by injection e133);replace p133 := eq_true p133;replace q133 := eq_true q133;have p134 : 0 ≤ (x7_2 : Int) := of_decide_eq_true zs1;have q134 : x7_2 < (x0_2.length : Int) := of_decide_eq_true zs1;obtain ⟨ad134, e134, hx134_0⟩ := Kd.at_int (Kd.R_reads' HO_0.out).2.2 x7_2 p134 q134;obtain rfl : ad130 = ad134 := (by injection e134);replace p134 := eq_true p134;replace q134 := eq_true q134;have p13 : 0 ≤ (x7_2 : Int) := of_decide_eq_true zs1;have q13 : (x7_2 : Int) < ((x0_2.length : Int) : Int) := of_decide_eq_true zs1;obtain ⟨go13, co13, eo13, gb13, gl13, cl13, HG13⟩ := Kd.R_form HO_0.out zo_;(first | cases eo13 | (injection eo13 with ea_ en_ ec_; (first | subst ea_ | (injection ea_ with ea_; subst ea_)); subst ec_; clear en_));have GB13:=zM gb13;have GG13:=zM HG13;clear gb13 gl13 HG13;have HMgo13:=zM (show (P0_ go13 ∨ w.heap.size ≤ go13) from (HO_0.out.1 _ rfl));(first | simp only [add_plain] at hx130_0 | skip);(first | simp only [add_plain] at hx131_0 | skip);(first | simp only [add_plain] at hx133_0 | skip);(first | simp only [add_plain] at hx134_0 | skip);obtain ⟨hx13_0, hf13_0⟩ := Kd.R_celln 0 HO_0.out (x7_2 : Int) p13 q13;replace p13 := eq_true p13;replace q13 := eq_true q13;have HP18 := Kd.R_putn HO_0.out (x7_2 : Int) (rd x0_2 (ji8));rw [← Ny135.out] at HP18;have HQ18:=zM HP18;clear HP18;have p14 : 0 ≤ ((ji8) : Int) := of_decide_eq_true zs1;have q14 : ((ji8) : Int) < ((x0_2.length : Int) : Int) := of_decide_eq_true zs1;obtain ⟨hx14_0, hf14_0⟩ := Kd.R_celln 0 HQ18.out ((ji8) : Int) p14 q14;replace p14 := eq_true p14;replace q14 := eq_true q14;have HP19 := Kd.R_putn HQ18.out ((ji8) : Int) (rd x0_2 x7_2);rw [← Ny136.out] at HP19;have HQ19:=zM HP19;clear HP19;refine start_ (n := 18) (S := fun w' => w'.cell? ⟨go13, ((ji8)).toNat, none⟩ = some (.int .i64 (rd x0_2 (ji8))) ∧ w'.cell? ⟨go13, (x7_2).toNat, none⟩ = some (.int .i64 (rd x0_2 x7_2))) (ds := [15, 17]) (zL 18 0) zk rfl rfl ⟨hx133_0, hx134_0⟩ (fun hHeld => ?_); refine with_tabW slices_insertionSortOrdered_int.tab6 slices_insertionSortOrdered_int.bits6 (fun HT_ HW_ => ?_);generalize w15.drew = w17 at HO_0 HK HB GG13 HQ18 HQ19 hf13_0 hf14_0 hx130_0 hx131_0 hx133_0 hx134_0 hx13_0 hx14_0 hHeld ⊢;refine zp 0 (some 33) (zL 18 1) HT_ ?_;refine zp 1 (some 34) (zL 18 3) HT_ ?_;refine zp 2 (some 35) (zL 18 7) HT_ ?_;refine zp 3 (some 36) (zL 18 15) HT_ ?_;refine zp 4 (some 37) (zL 18 31) HT_ ?_;refine zp 5 (some 38) (zL 18 63) HT_ ?_;refine zp 6 (some 39) (zL 18 127) HT_ ?_;refine zp 7 (some 40) (zL 18 255) HT_ ?_;refine zp 8 (some 41) (zL 18 511) HT_ ?_;refine zp 10 (some 43) (zL 18 1535) HT_ ?_;refine zp 11 (some 44) (zL 18 3583) HT_ ?_;refine zp 12 (some 45) (zL 18 7679) HT_ ?_;refine zt 9 (some 42) (zL 18 8191) HT_ HW_ hHeld rfl ?_ (hy := by rintro w' ⟨s0, s1⟩; go_simp; with_reducible rfl);refine zt 13 (some 46) (zL 18 16383) HT_ HW_ hHeld rfl ?_ (hy := by rintro w' ⟨s0, s1⟩; go_simp; with_reducible rfl);refine zp 14 (some 47) (zL 18 32767) HT_ ?_;refine last_ (i := 15) (N := none) (zL 18 65535) rfl rfl (one_of HT_.out zk) zd (fun K hK => ?_);refine skip_ (w1 := ?_) (by rfl) rfl ?_ ?_;rotate_left
        ·go_simp;rfl
        refine hK.out _ _ ?_;clear hK K;refine zp 16 (some 48) (zL 18 131071) HT_ ?_;refine last_ (i := 17) (N := none) (zL 18 262143) rfl rfl (one_of HT_.out zk) zd (fun K hK => ?_);refine skip_ (w1 := ?_) (by rfl) rfl ?_ ?_;rotate_left
        ·go_simp;rfl
        refine hK.out _ _ ?_;clear hK K;refine done_ (done_of HT_.out zk) ?_;(try go_wp2);go_roundg k2
        case measure => have := HK1.out; have := HK2.out; omega
        case rel => exact ⟨(y136), (ji8), (by first | rfl | (simp; done) | (simp only [← hji8] <;> (first | rfl | simp)) | (simp [*]; done)), H', ⟨by have := HK1.out; have := HK2.out; omega⟩, ⟨(zs8 HQ19)⟩, ⟨(by repeat (first | (with_reducible first | exact HK.out | apply Kept.alloc | apply Kept.drewN | apply Kept.drew | refine Kept.setCell ?_ HMgo13.out _ | refine Kept.setCell ?_ HMgo13.out _) | exact HK.out))⟩, ⟨(by repeat (first | (with_reducible first | exact HB.out | apply zB | apply zA | apply zC | refine zD ?_ GB13.out | refine zD ?_ GB13.out) | exact HB.out))⟩⟩
       ·replace c12 := Bool.eq_false_iff.mpr c12;subst c12;(have H1 : (slices_insertionSortOrdered_int.l0 k2 x0_2 a1 a2 (wrap64 (x6_1 + 1))) = some r := by rw [if_neg (show ¬ (false = true) by decide)] at H; exact H);clear H;have H := H1;clear H1;have H':=zM H;clear H;(try go_wp2);replace HO_0:=zM (Kd.R_drew HO_0.out);replace HK:=zM (Kept.drew HK.out);replace HB:=zM (zC HB.out);obtain ⟨Ao21, co21, eo21⟩ := Kd.R_slice HO_0.out;(first | subst eo21 | (injection eo21 with f1_ f2_ f3_; have f4_ := f1_.symm; have f5_ := f3_.symm; clear f1_ f2_ f3_; subst f4_; subst f5_));have p130 : 0 ≤ (x7_2 : Int) := of_decide_eq_true zs1;have q130 : x7_2 < (x0_2.length : Int) := of_decide_eq_true zs1;obtain ⟨ad130, e130, hx130_0⟩ := Kd.at_int (Kd.R_reads' HO_0.out).2.2 x7_2 p130 q130;cases e130;replace p130 := eq_true p130;replace q130 := eq_true q130;have p131 : 0 ≤ ((ji8) : Int) := of_decide_eq_true zs1;have q131 : (ji8) < (x0_2.length : Int) := of_decide_eq_true zs1;obtain ⟨ad131, e131, hx131_0⟩ := Kd.at_int (Kd.R_reads' HO_0.out).2.2 (ji8) p131 q131;obtain rfl : ad130 = ad131 := (by injection e131);replace p131 := eq_true p131;replace q131 := eq_true q131;refine start_ (n := 15) (S := fun w' => w'.cell? (ad130.add (x7_2).toNat) = some (.int .i64 (rd x0_2 x7_2)) ∧ w'.cell? (ad130.add ((ji8)).toNat) = some (.int .i64 (rd x0_2 (ji8)))) (ds := []) (zL 15 0) zk rfl rfl ⟨hx130_0, hx131_0⟩ (fun hHeld => ?_); refine with_tabW slices_insertionSortOrdered_int.tab4 slices_insertionSortOrdered_int.bits4 (fun HT_ HW_ => ?_);generalize wr.drew = w20 at HO_0 HK HB hx130_0 hx131_0 hHeld ⊢;refine zp 0 (some 16) (zL 15 1) HT_ ?_;refine zp 1 (some 17) (zL 15 3) HT_ ?_;refine zp 2 (some 18) (zL 15 7) HT_ ?_;refine zp 3 (some 19) (zL 15 15) HT_ ?_;refine zp 4 (some 20) (zL 15 31) HT_ ?_;refine zp 5 (some 21) (zL 15 63) HT_ ?_;refine zp 6 (some 22) (zL 15 127) HT_ ?_;refine zp 8 (some 24) (zL 15 383) HT_ ?_;refine zp 9 (some 25) (zL 15 895) HT_ ?_;refine zp 10 (some 26) (zL 15 1919) HT_ ?_;refine zp 11 (some 27) (zL 15 3967) HT_ ?_;refine zt 7 (some 23) (zL 15 4095) HT_ HW_ hHeld rfl ?_ (hy := by rintro w' ⟨s0, s1⟩; go_simp; with_reducible rfl);refine zt 12 (some 28) (zL 15 8191) HT_ HW_ hHeld rfl ?_ (hy := by rintro w' ⟨s0, s1⟩; go_simp; with_reducible rfl);refine one_ (i := 13) (N := some 29) (zL 15 16383) rfl rfl (one_of HT_.out zk) zd (fun K hK => ?_);refine zv Try.func145 #[.int .i64 (rd x0_2 x7_2), .int .i64 (rd x0_2 (ji8))] ?_ (hargs := by (try simp only [List.map_toArray, List.map_cons, List.map_nil]); first | done | (simp only [hji8]; rfl) | rfl);(with_reducible refine (cmp_Less_int.calls (rd x0_2 x7_2) (rd x0_2 (ji8)) false _ A11.out).mono ?_);rintro e w' ⟨rfl, ⟨nd, rfl⟩⟩;refine ⟨_, rfl, ?_⟩;refine hK.out _ _ ⟨hHeld.1, hHeld.2⟩ (fun hHeld => ?_);clear hK K;refine zq (some 29) ?_;refine zp 14 (some 30) (zL 15 32767) HT_ ?_;refine done_ (done_of HT_.out zk) ?_;(try go_wp2);go_roundg k2
        case measure => have := HK1.out; have := HK2.out; omega
        case rel => exact ⟨(x0_2), (wrap64 (x6_1 + 1)), zs0, H', ⟨by have := HK1.out; have := HK2.out; omega⟩, ⟨(zs8 HO_0)⟩, ⟨(zs14 HK)⟩, ⟨(zs6 HB)⟩⟩
      ·rw [if_neg c5] at H;have c5b0 : decide (a1 < x7_2) = false := decide_eq_false c5;clear c5;have H':=zM H;clear H;(try go_wp2);replace HO_0:=zM (Kd.R_drew HO_0.out);replace HK:=zM (Kept.drew HK.out);replace HB:=zM (zC HB.out);refine start_ (n := 15) (S := fun w' => True) (ds := []) (zL 15 0) zk rfl rfl trivial (fun hHeld => ?_); refine with_tabW slices_insertionSortOrdered_int.tab4 slices_insertionSortOrdered_int.bits4 (fun HT_ HW_ => ?_);generalize wr.drew = w22 at HO_0 HK HB hHeld ⊢;refine zp 0 (some 16) (zL 15 1) HT_ ?_;refine zp 1 (some 17) (zL 15 3) HT_ ?_;refine zp 2 (some 18) (zL 15 7) HT_ ?_;refine zp 3 (some 19) (zL 15 15) HT_ ?_;refine pure_ (i := 4) (N := some 20) (v := undef) (a' := ?_) (zL 15 31) rfl rfl (any_of HT_.out zk) (fun _ _ _ h => h) (Or.inr ⟨by rfl, rfl⟩) ?_ ?_;rotate_left
       ·simp only [Act.put, zE, zF, zG, i64_w, i32_w];rfl
       refine pure_ (i := 5) (N := some 21) (v := undef) (a' := ?_) (zL 15 63) rfl rfl (any_of HT_.out zk) (fun _ _ _ h => h) (Or.inr ⟨by rfl, rfl⟩) ?_ ?_;rotate_left
       ·simp only [Act.put, zE, zF, zG, i64_w, i32_w];rfl
       refine pure_ (i := 6) (N := some 22) (v := undef) (a' := ?_) (zL 15 127) rfl rfl (any_of HT_.out zk) (fun _ _ _ h => h) (Or.inr ⟨by rfl, rfl⟩) ?_ ?_;rotate_left
       ·simp only [Act.put, zE, zF, zG, i64_w, i32_w];rfl
       refine pure_ (i := 7) (N := some 23) (v := undef) (a' := ?_) (zL 15 255) rfl rfl (any_of HT_.out zk) (fun _ _ _ h => h) (Or.inr ⟨by rfl, rfl⟩) ?_ ?_;rotate_left
       ·simp only [Act.put, zE, zF, zG, i64_w, i32_w];rfl
       refine pure_ (i := 8) (N := some 24) (v := undef) (a' := ?_) (zL 15 511) rfl rfl (any_of HT_.out zk) (fun _ _ _ h => h) (Or.inr ⟨by rfl, rfl⟩) ?_ ?_;rotate_left
       ·simp only [Act.put, zE, zF, zG, i64_w, i32_w];rfl
       refine pure_ (i := 9) (N := some 25) (v := undef) (a' := ?_) (zL 15 1023) rfl rfl (any_of HT_.out zk) (fun _ _ _ h => h) (Or.inr ⟨by rfl, rfl⟩) ?_ ?_;rotate_left
       ·simp only [Act.put, zE, zF, zG, i64_w, i32_w];rfl
       refine pure_ (i := 10) (N := some 26) (v := undef) (a' := ?_) (zL 15 2047) rfl rfl (any_of HT_.out zk) (fun _ _ _ h => h) (Or.inr ⟨by rfl, rfl⟩) ?_ ?_;rotate_left
       ·simp only [Act.put, zE, zF, zG, i64_w, i32_w];rfl
       refine pure_ (i := 11) (N := some 27) (v := undef) (a' := ?_) (zL 15 4095) rfl rfl (any_of HT_.out zk) (fun _ _ _ h => h) (Or.inr ⟨by rfl, rfl⟩) ?_ ?_;rotate_left
       ·simp only [Act.put, zE, zF, zG, i64_w, i32_w];rfl
       refine pure_ (i := 12) (N := some 28) (v := undef) (a' := ?_) (zL 15 8191) rfl rfl (any_of HT_.out zk) (fun _ _ _ h => h) (Or.inr ⟨by rfl, rfl⟩) ?_ ?_;rotate_left
       ·simp only [Act.put, zE, zF, zG, i64_w, i32_w];rfl
       refine pure_ (i := 13) (N := some 29) (v := undef) (a' := ?_) (zL 15 16383) rfl rfl (any_of HT_.out zk) (fun _ _ _ h => h) (Or.inr ⟨by rfl, rfl⟩) ?_ ?_;rotate_left
       ·simp only [Act.put, zE, zF, zG, i64_w, i32_w];rfl
       refine zp 14 (some 30) (zL 15 32767) HT_ ?_;refine done_ (done_of HT_.out zk) ?_;(try go_wp2);go_roundg k2
       case measure => have := HK1.out; have := HK2.out; omega
       case rel => exact ⟨(x0_2), (wrap64 (x6_1 + 1)), zs0, H', ⟨by have := HK1.out; have := HK2.out; omega⟩, ⟨(zs8 HO_0)⟩, ⟨(zs14 HK)⟩, ⟨(zs6 HB)⟩⟩
   ·rw [if_neg c4] at H;have c4b0 := decide_eq_false c4;clear c4;obtain rfl := Option.some.inj H;go_wp2;(first | go_end0 | ((try simp only [Exit.inBlock, Exit.then]); refine bodyPost_ret (results_none rfl _ _ _) rfl ?_));exact ⟨zs9, (zs8 HO_0), (zs6 HB), (zs14 HK)⟩

/-! ### slices_pdqsortOrdered_int: function 137, told by hand -/
def slices_pdqsortOrdered_int.f (k : Nat) (l0 : List Int) (a1 a2 a3 : Int) : Option (List Int) := if 0 ≤ a1 ∧ a1 ≤ a2 ∧ a2 ≤ 12 then slices_insertionSortOrdered_int.f k l0 a1 a2 else none
theorem slices_pdqsortOrdered_int.mono : ∀ a0 a1 a2 a3 k, LeO (slices_pdqsortOrdered_int.f k a0 a1 a2 a3) (slices_pdqsortOrdered_int.f (k + 1) a0 a1 a2 a3) := by
 intro a0 a1 a2 a3 k;unfold slices_pdqsortOrdered_int.f;exact LeO.ite (slices_insertionSortOrdered_int.mono _ _ _ _) (LeO.none _)
set_option maxHeartbeats 2000000 in
set_option maxRecDepth 100000 in
theorem slices_pdqsortOrdered_int.calls (k : Nat) (P0_ : Nat → Prop) (u9000_ : Value) (l0 : List Int) (a1 a2 a3 : Int) (r : List Int) (w0 w : World) (hB : Below w0.heap.size w0 w) (ho0 : Kd.R (Kd.int .i64) 3 w w0.heap.size P0_ u9000_ l0) (h : slices_pdqsortOrdered_int.f k l0 a1 a2 a3 = some r) :
  Calls Try.prog 137 #[u9000_, .int .i64 a1, .int .i64 a2, .int .i64 a3] w fun e w' => e = .returned (.tuple #[]) ∧ Kd.R (Kd.int .i64) 3 w' w0.heap.size (fun k_ => (P0_ k_ ∨ w.heap.size ≤ k_)) u9000_ r ∧ Below w0.heap.size w0 w' ∧ Kept w w' (fun k_ => P0_ k_) := by
 unfold slices_pdqsortOrdered_int.f at h;by_cases hc : 0 ≤ a1 ∧ a1 ≤ a2 ∧ a2 ≤ 12
 ·rw [if_pos hc] at h;obtain ⟨h1, h2, h3⟩ := hc;obtain ⟨Ao, co, eo⟩ := Kd.R_slice ho0;subst eo;have HC := slices_insertionSortOrdered_int.calls k P0_ _ l0 a1 a2 r w0 w hB ho0 h;clear ho0 h;have hd : decide (a2 - a1 ≤ 12) = true := decide_eq_true zo_;go_enter Try.func137, Try.ntmps137;go_wp2;refine wp_loop_rounds 1 ?_;rw [rounds_succ];go_wp2_with (go_at_call 139; refine HC.mono ?_; rintro e w' ⟨rfl, hr, hb, hk⟩);(first | go_end0 | ((try simp only [Exit.inBlock, Exit.then]); refine bodyPost_ret (results_none rfl _ _ _) rfl ?_));exact ⟨rfl, hr, hb, hk⟩
 ·rw [if_neg hc] at h; cases h

/-! ### bits_Len: function 138, told by hand -/
def bits_Len.ren : Go.Shelf.Ren := { f := fun x => if x = 125 then 138 else if x = 128 then 148 else if x = 129 then 149 else 0, t := fun x => if x = 3 then 3 else if x = 4 then 4 else if x = 5 then 5 else if x = 9 then 9 else if x = 46 then 121 else if x = 51 then 131 else if x = 53 then 133 else 0, g := fun x => x }
theorem bits_Len.lays : Lays.n125 Try.prog bits_Len.ren := {
 mixed := by kernel_rfl
 f125 := by kernel_rfl
 f128 := by kernel_rfl
 f129 := by kernel_rfl
 t3 := by kernel_rfl
 a3 := fun _ => by kernel_rfl
 z3 := fun _ => by kernel_rfl
 v3 := fun _ => by kernel_rfl
 t4 := by kernel_rfl
 a4 := fun _ => by kernel_rfl
 z4 := fun _ => by kernel_rfl
 v4 := fun _ => by kernel_rfl
 t5 := by kernel_rfl
 a5 := fun _ => by kernel_rfl
 z5 := fun _ => by kernel_rfl
 v5 := fun _ => by kernel_rfl
 t9 := by kernel_rfl
 a9 := fun _ => by kernel_rfl
 z9 := fun _ => by kernel_rfl
 v9 := fun _ => by kernel_rfl
 t46 := by kernel_rfl
 a46 := fun _ => by kernel_rfl
 z46 := fun _ => by kernel_rfl
 v46 := fun _ => by kernel_rfl
 t51 := by kernel_rfl
 a51 := fun _ => by kernel_rfl
 z51 := fun _ => by kernel_rfl
 v51 := fun _ => by kernel_rfl
 t53 := by kernel_rfl
 a53 := fun _ => by kernel_rfl
 z53 := fun _ => by kernel_rfl
 v53 := fun _ => by kernel_rfl }
def bits_Len.f (a0 : Int) : Option (Int) := if 0 ≤ a0 ∧ a0 ≤ 18446744073709551615 then some (Lib.bitLen a0.toNat : Int) else none
theorem bits_Len.calls (a0 : Int) (r : Int) (w : World) (h : bits_Len.f a0 = some r) :
  Calls Try.prog 138 #[.int .u64 a0] w fun e w' => e = .returned (.int .i64 r) ∧ Drawn0 w w' := by
 unfold bits_Len.f at h;by_cases hc : 0 ≤ a0 ∧ a0 ≤ 18446744073709551615
 ·rw [if_pos hc] at h;obtain rfl := Option.some.inj h;refine (Any.bits_Len (ρ := bits_Len.ren) bits_Len.lays a0 w hc.1 hc.2).mono ?_;rintro e w' ⟨rfl, rfl⟩;exact ⟨rfl, Drawn0.refl _⟩
 ·rw [if_neg hc] at h; cases h

end Go.Proofs.Ytbbhdgpiocojaaa.LH
