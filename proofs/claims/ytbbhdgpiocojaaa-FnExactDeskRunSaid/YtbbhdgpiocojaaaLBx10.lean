/- Printed by a program of this session (wip/lp/lp.py) out of the translation: functions with the same answers as the Go code, and their contracts; no conditions beyond those that each theorem names. -/
import Derived.Test.YtbbhdgpiocojaaaLBx0
namespace Go.Proofs.Ytbbhdgpiocojaaa.LB
open Go.RowKit Go.Proofs.YtbbhdgpiocojaaaV.PrintWords Go.Proofs.YtbbhdgpiocojaaaV.PrintLast Go.Proofs.YtbbhdgpiocojaaaV.PrintMore
attribute [local go_sem] max2_int min2_int max_two min_two max_three min_three max_four min_four   -- for this text's walks alone
set_option linter.unusedVariables false
set_option linter.unusedSimpArgs false

/-! ### laws_toDeed: function 14 -/
def laws_toDeed.f (a0_0 : Int) (a0_1 : Int) (a0_2 : Int) : Option (Int × Int × Int) := some (a0_0, a0_1, a0_2)
set_option maxHeartbeats 8000000 in
set_option maxRecDepth 100000 in
theorem laws_toDeed.calls (a0_0 : Int) (a0_1 : Int) (a0_2 : Int) (r1 : Int) (r2 : Int) (r3 : Int) (w : World) (h : laws_toDeed.f a0_0 a0_1 a0_2 = some (r1, r2, r3)) :
  Calls Try.prog 14 #[.agg #[.int .i64 a0_0, .int .i64 a0_1, .int .i64 a0_2]] w fun e w' => e = .returned (.agg #[.int .i64 r1, .int .i64 r2, .int .i64 r3]) ∧ Below w.heap.size w w' := by
 have hu27 := Try.underlying27;have hu33 := Try.underlying33;have HB:=zM (Below.refl w.heap.size w);have H : (some (a0_0, a0_1, a0_2)) = some (r1, r2, r3) := h;clear h;simp only [Option.some.injEq, Prod.mk.injEq] at H;obtain ⟨rfl, rfl, rfl⟩ := H;go_enter Try.func14, Try.ntmps14;go_wp2_with (first | ((with_reducible refine gate_dst (N := 1) rfl ?_); refine box_event zs3 (N := 1) zs3 (cs := #[.int .i64 a0_0, .int .i64 a0_1, .int .i64 a0_2]) (t := 27) zs4 ?_; intro gb323 hg w2 hbox hb; have BK323:=zM (hbox); have GW323 := zg1 (zs5 HB) hg; have GE323 := zg1 (zs5 HB) hg; replace HB:=zM (below_step (zs5 HB) hb); clear hb hbox hg) | ((with_reducible refine gate_dst (N := 2) rfl ?_); refine box_event zs3 (N := 2) zs3 (cs := #[.int .i64 0, .int .i64 0, .int .i64 0]) (t := 33) zs4 ?_; intro gb324 hg w3 hbox hb; have BK324:=zM (hbox); have GW324 := zg1 (zs8 HB GE323) hg; have GE324 := zg1 (zs8 HB GE323) hg; replace HB:=zM (below_step (zs8 HB GE323) hb); have NB323_324 := znlt BK323 hg; have NB324_323 := zngt BK323 hg; replace BK323 := zb1 BK323 hb; clear hb hbox hg) | ((with_reducible refine gate_dst (N := 3) rfl ?_); refine box_event zs3 (N := 3) zs3 (cs := #[.int .i64 0, .int .i64 0, .int .i64 0]) (t := 33) zs4 ?_; intro gb325 hg w4 hbox hb; have BK325:=zM (hbox); have GW325 := zg1 (zs11 HB GE323 GE324) hg; have GE325 := zg1 (zs11 HB GE323 GE324) hg; replace HB:=zM (below_step (zs11 HB GE323 GE324) hb); have NB323_325 := znlt BK323 hg; have NB325_323 := zngt BK323 hg; replace BK323 := zb1 BK323 hb; have NB324_325 := znlt BK324 hg; have NB325_324 := zngt BK324 hg; replace BK324 := zb1 BK324 hb; clear hb hbox hg; have hnb5 := NB323_324.out; have hnc5 := NB324_323.out; have hnb6 := NB323_325.out; have hnc6 := NB325_323.out; have ⟨hcz7_0, hfz7_0⟩ := cy0 BK323.out; have ⟨hcz7_1, hfz7_1⟩ := cy1 BK323.out; have ⟨hcz7_2, hfz7_2⟩ := cy2 BK323.out; have hnb8 := NB325_324.out; have hnc8 := NB324_325.out; have ⟨hcz9_0, hfz9_0⟩ := cy0 BK325.out; have hcz9_1 := cz1 BK325.out; have hcz9_2 := cz2 BK325.out; have hfz9_1 := blk_frozen BK325.out 1; have hfz9_2 := blk_frozen BK325.out 2; have hcz10_0 := cz0 BK324.out; have hcz10_1 := cz1 BK324.out; have hcz10_2 := cz2 BK324.out; have hfz10_0 := blk_frozen BK324.out 0; have hfz10_1 := blk_frozen BK324.out 1; have hfz10_2 := blk_frozen BK324.out 2));refine bodyPost_ret (results_cell_row rfl _ _ gb324 33 #[.int .i64 a0_0, .int .i64 a0_1, .int .i64 a0_2] (0, 0) _ rfl (by (with_reducible repeat (first | refine blk_drewN ?_ _ | refine blk_drew ?_ | refine blk_alloc ?_ _)); refine blk_put (cs := #[.int .i64 a0_0, .int .i64 a0_1, .int .i64 0]) ?_ 2 _ rfl; (with_reducible repeat (first | refine blk_drewN ?_ _ | refine blk_drew ?_ | refine blk_alloc ?_ _)); refine blk_put (cs := #[.int .i64 a0_0, .int .i64 0, .int .i64 0]) ?_ 1 _ rfl; (with_reducible repeat (first | refine blk_drewN ?_ _ | refine blk_drew ?_ | refine blk_alloc ?_ _)); refine blk_put (cs := #[.int .i64 0, .int .i64 0, .int .i64 0]) ?_ 0 _ rfl; (with_reducible repeat (first | refine blk_drewN ?_ _ | refine blk_drew ?_ | refine blk_alloc ?_ _)); refine blk_far ?_ NB324_325.out _; (with_reducible repeat (first | refine blk_drewN ?_ _ | refine blk_drew ?_ | refine blk_alloc ?_ _)); refine blk_far ?_ NB324_325.out _; (with_reducible repeat (first | refine blk_drewN ?_ _ | refine blk_drew ?_ | refine blk_alloc ?_ _)); refine blk_far ?_ NB324_325.out _; (with_reducible repeat (first | refine blk_drewN ?_ _ | refine blk_drew ?_ | refine blk_alloc ?_ _)); exact BK324.out) Try.underlying33 rfl zk) rfl ?_;exact ⟨zs7, (zs12 HB GE323 GE324 GE325)⟩

/-! ### laws_toDeedS: function 21 -/
def laws_toDeedS.l0 : Nat → List (S27) → List (S33) → Int → Option ((List (S33)))
 | 0, _, _, _ => none
 | k + 1, x0, x3, x4 => if x4 < (x0.length : Int) then (if 0 ≤ x4 then ((laws_toDeed.f ((rd_T27 x0 x4).f0) ((rd_T27 x0 x4).f1) ((rd_T27 x0 x4).f2)).bind fun bt330 => (if x4 < (x3.length : Int) then (laws_toDeedS.l0 k x0 (x3.set (x4 : Int).toNat (⟨bt330.1, bt330.2.1, bt330.2.2⟩ : S33)) (wrap64 (x4 + 1))) else (none))) else (none)) else (some x3)
def laws_toDeedS.f (k : Nat) (l0 : List (S27)) : Option ((List (S33))) := if 0 ≤ (l0.length : Int) then (if ((l0.length : Int) : Int).toNat ≤ 11728124029610 then (laws_toDeedS.l0 k l0 (List.replicate ((l0.length : Int) : Int).toNat z33) 0) else (none)) else (none)
theorem laws_toDeedS.mono_l : ∀ k, (∀ y0 y1 y2, LeO (laws_toDeedS.l0 k y0 y1 y2) (laws_toDeedS.l0 (k + 1) y0 y1 y2))
 | 0 => fun _ _ _ r h => by simp [laws_toDeedS.l0] at h
 | k + 1 => by
  have ih0 := laws_toDeedS.mono_l k
  ·intro y0 y1 y2
   unfold laws_toDeedS.l0
   exact zmono
theorem laws_toDeedS.mono : ∀ a0 k, LeO (laws_toDeedS.f k a0) (laws_toDeedS.f (k + 1) a0) := by
 intro a0 k;have ih0 := laws_toDeedS.mono_l k;unfold laws_toDeedS.f;exact zmono
set_option maxHeartbeats 8000000 in
set_option maxRecDepth 100000 in
theorem laws_toDeedS.calls (k : Nat) (A0 : Option Addr) (c0 : Nat) (l0 : List (S27)) (r : List (S33)) (w : World) (hr0 : Kd.C k27 w A0 l0.length l0) (hc0 : l0.length ≤ c0) (h : laws_toDeedS.f k l0 = some r) :
  Calls Try.prog 21 #[.slice A0 l0.length c0] w fun e w' => ∃ v0_ : Value, e = .returned (v0_) ∧ Kd.R k33 33 w' w.heap.size (fun _ => True) v0_ r ∧ Below w.heap.size w w' := by
 have hu27 := Try.underlying27;have hu33 := Try.underlying33;have HR0:=zM hr0;have HC0:=zM hc0;clear hr0 hc0;have HB:=zM (Below.refl w.heap.size w);have H : (if 0 ≤ (l0.length : Int) then (if ((l0.length : Int) : Int).toNat ≤ 11728124029610 then (laws_toDeedS.l0 k l0 (List.replicate ((l0.length : Int) : Int).toNat z33) 0) else (none)) else (none)) = some r := h;clear h;replace H := zn H; obtain ⟨c2, H⟩ := H;have c2b0 := eq_true c2;have c2b1 := decide_eq_true c2;clear c2;replace H := zn H; obtain ⟨c3, H⟩ := H;have c3b0 := eq_true c3;have c3b1 := decide_eq_true c3;clear c3;obtain ⟨y326, hy326⟩ : ∃ y_ : List (S33), y_ = (List.replicate ((l0.length : Int) : Int).toNat z33) := ⟨_, rfl⟩; rw [← hy326] at H; have Ny326:=zM hy326; clear hy326;have H':=zM H;clear H;go_enter Try.func21, Try.ntmps21;go_wp2_with (first | ((with_reducible refine gate_dst (N := 7) rfl ?_); refine Kd.R_make k33 _ 33 rfl (N := 7) rfl 42 _ _ rfl (l0.length : Int) rfl rfl Try.underlying42 (.agg #[(.int .i64 0), (.int .i64 0), (.int .i64 0)]) 24 info33 rfl zd zo_ z33 (ok := fun _ => True) (okp := fun _ => True) (k33_mkM _ _ _ z33 ) (fun _ hk => hk) trivial (of_decide_eq_true zs1) (Nat.le_trans (Nat.mul_le_mul_right _ (of_decide_eq_true zs1 : (l0.length : Int).toNat ≤ 11728124029610)) zo_) (Below.refl _ _) (Nat.le_refl _) ?_; intro v327 w4 ho5 hb hg_ hnew_; clear hg_ hnew_; (first | rw [← Ny326.out] at ho5 | (simp only [Int.reduceToNat] at ho5; rw [← Ny326.out] at ho5)); have HO328:=zM (Kd.R_lower ho5 (below_size (zs5 HB))); replace HB:=zM (below_step (zs5 HB) hb); clear hb ho5));go_loopg [4] k (fun kq v4 w' => ∃ (x3_1 : List (S33)) (x4_1 : Int), v4 = .int .i64 x4_1 ∧ Aside0 (laws_toDeedS.l0 kq l0 x3_1 x4_1 = some r) ∧ Aside0 (kq ≤ k) ∧ Aside0 (Kd.R k33 33 w' w.heap.size (fun _ => True) v327 x3_1) ∧ Aside0 (Below w.heap.size w w'))
 case atStart => exact ⟨(y326), (0), zs0, H', ⟨Nat.le_refl _⟩, ⟨(zs9 HO328)⟩, ⟨(zs5 HB)⟩⟩
 case round =>
  clear H';obtain ⟨x3_1, x4_1, rfl, HA, HK1, HO_3, HB⟩ := hrel;cases gk with
  | zero => exact absurd HA.out (by simp [laws_toDeedS.l0])
  | succ k1 =>
   have H := HA.out;clear HA;simp only [laws_toDeedS.l0] at H;by_cases c6 : x4_1 < (l0.length : Int)
   ·rw [if_pos c6] at H;have c6b0 := decide_eq_true c6;clear c6;replace H := zn H; obtain ⟨c7, H⟩ := H;have c7b0 := decide_eq_true c7;clear c7;replace H := zb H; obtain ⟨⟨t330, t331, t332⟩, A8, H⟩ := H; (try dsimp only at H);replace H := zn H; obtain ⟨c9, H⟩ := H;have c9b0 := decide_eq_true c9;clear c9;obtain ⟨y333, hy333⟩ : ∃ y_ : List (S33), y_ = (x3_1.set (x4_1 : Int).toNat (⟨t330, t331, t332⟩ : S33)) := ⟨_, rfl⟩; rw [← hy333] at H; have Ny333:=zM hy333; clear hy333;have H':=zM H;clear H;have p329 : 0 ≤ (x4_1 : Int) := of_decide_eq_true zs1;have q329 : x4_1 < (l0.length : Int) := of_decide_eq_true zs1;obtain ⟨ad329, e329, hx329_0, hx329_1, hx329_2⟩ := at_T27 HR0.out x4_1 p329 q329;cases e329;replace hx329_0 := (HB.out.cell (World.block_lt_of_cell? w _ hx329_0)).trans hx329_0;replace hx329_1 := (HB.out.cell (World.block_lt_of_cell? w _ hx329_1)).trans hx329_1;replace hx329_2 := (HB.out.cell (World.block_lt_of_cell? w _ hx329_2)).trans hx329_2;replace p329 := eq_true p329;replace q329 := eq_true q329;go_wp2_with (first | (refine zg 14 (some 20) Try.func14 #[.agg #[.int .i64 ((rd_T27 l0 x4_1).f0), .int .i64 ((rd_T27 l0 x4_1).f1), .int .i64 ((rd_T27 l0 x4_1).f2)]] ?_; (with_reducible refine (laws_toDeed.calls ((rd_T27 l0 x4_1).f0) ((rd_T27 l0 x4_1).f1) ((rd_T27 l0 x4_1).f2) t330 t331 t332 _ A8.out).mono ?_); rintro e w11 ⟨rfl, hb⟩; refine ⟨_, rfl, ?_⟩; replace HO_3 := zrR HO_3 hb; replace HB:=zM (below_step (zs5 HB) hb); clear hb; have p10 : 0 ≤ (x4_1 : Int) := of_decide_eq_true zs1; have q10 : (x4_1 : Int) < ((x3_1.length : Int) : Int) := of_decide_eq_true zs1; obtain ⟨go10, co10, eo10, gb10, gl10, cl10, HG10⟩ := Kd.R_form HO_3.out zo_; (first | cases eo10 | (injection eo10 with ea_ en_ ec_; (first | subst ea_ | (injection ea_ with ea_; subst ea_)); subst ec_; clear en_)); have GB10:=zM gb10; have GG10:=zM HG10; clear gb10 gl10 HG10; obtain ⟨ce10, hcl10, hM10, hcc10, hfr10⟩ := Kd.R_elem HO_3.out z33 (x4_1 : Int) p10 q10; obtain rfl := k33_openM hM10; have hx10_0 : w11.cell? ⟨go10, (x4_1 : Int).toNat * 3, none⟩ = some (.int .i64 ((rd_T33 x3_1 x4_1).f0)) := hcc10 0 _ rfl; have hx10_1 : w11.cell? ⟨go10, (x4_1 : Int).toNat * 3 + 1, none⟩ = some (.int .i64 ((rd_T33 x3_1 x4_1).f1)) := hcc10 1 _ rfl; have hx10_2 : w11.cell? ⟨go10, (x4_1 : Int).toNat * 3 + 2, none⟩ = some (.int .i64 ((rd_T33 x3_1 x4_1).f2)) := hcc10 2 _ rfl; have hf10_0 : w11.frozen? ⟨go10, (x4_1 : Int).toNat * 3, none⟩ = false := hfr10 0; have hf10_1 : w11.frozen? ⟨go10, (x4_1 : Int).toNat * 3 + 1, none⟩ = false := hfr10 1; have hf10_2 : w11.frozen? ⟨go10, (x4_1 : Int).toNat * 3 + 2, none⟩ = false := hfr10 2; clear hcl10 hcc10 hfr10; replace p10 := eq_true p10; replace q10 := eq_true q10; have HX12:=zM (show Kd.R k33 33 w11 w.heap.size (fun _ => True) (.slice (some ⟨go10, 0, none⟩) x3_1.length co10) x3_1 from (zs9 HO_3)); obtain ⟨ce12, hcl12, hM12, hcc12, hfr12⟩ := Kd.R_elem HX12.out z33 (x4_1 : Int) (of_decide_eq_true zs1) (by have h_ : (x4_1 : Int) < ((x3_1.length : Int) : Int) := of_decide_eq_true zs1; first | exact h_ | (have e_ := (Kd.R_reads' HO_3.out).1; omega) | simpa using h_); obtain rfl := k33_openM hM12; have HP12 := Kd.R_seg HX12.out (x4_1 : Int) (of_decide_eq_true zs1) (by have h_ : (x4_1 : Int) < ((x3_1.length : Int) : Int) := of_decide_eq_true zs1; first | exact h_ | (have e_ := (Kd.R_reads' HO_3.out).1; omega) | simpa using h_) (seg := [.int .i64 t330, .int .i64 t331, .int .i64 t332]) (j := 0) hcl12 hcc12 (show 3 ≤ 3 from by decide) (x' := (⟨t330, t331, t332⟩ : S33)) (k33_mkM _ _ _ (⟨t330, t331, t332⟩ : S33) ) (fun _ hk => hk); have hx12_0 := hcc12 0 _ rfl; (try simp only [show (k33).sz = 3 from rfl, Nat.mul_one, Nat.add_zero] at hx12_0); have hf12_0 := hfr12 0; (try simp only [show (k33).sz = 3 from rfl, Nat.mul_one, Nat.add_zero] at hf12_0); have hx12_1 := hcc12 1 _ rfl; (try simp only [show (k33).sz = 3 from rfl, Nat.mul_one, Nat.add_zero] at hx12_1); have hf12_1 := hfr12 1; (try simp only [show (k33).sz = 3 from rfl, Nat.mul_one, Nat.add_zero] at hf12_1); have hx12_2 := hcc12 2 _ rfl; (try simp only [show (k33).sz = 3 from rfl, Nat.mul_one, Nat.add_zero] at hx12_2); have hf12_2 := hfr12 2; (try simp only [show (k33).sz = 3 from rfl, Nat.mul_one, Nat.add_zero] at hf12_2); clear hcl12 hcc12 hfr12) | ((with_reducible refine gate_store (t := 33) (p := 21) rfl ?_); refine store_event (t := 33) (p := 21) (v := ?vo_w13) (w1 := (((w11.setCell ⟨go10, (x4_1 : Int).toNat * 3, none⟩ (.int .i64 t330)).setCell ⟨go10, (x4_1 : Int).toNat * 3 + 1, none⟩ (.int .i64 t331)).setCell ⟨go10, (x4_1 : Int).toNat * 3 + 2, none⟩ (.int .i64 t332))) ?hg ?ho ?hn ?hr ?_; (case ho => rfl); (case hg => rfl); (case hn => rfl); (case hr => first | (go_simp; done) | (go_simp; rfl)); intro w13 hw; have hg : w11.grownBy w13 (some go10) := (by rw [hw]; exact HP12.2); have hp_ : Kd.R k33 33 w13 w.heap.size (fun _ => True) (.slice (some ⟨go10, 0, none⟩) x3_1.length co10) y333 := (by rw [hw, Ny333.out]; exact HP12.1); clear HP12; replace HO_3:=zM (hp_); replace HB:=zM ((by rw [hw]; exact zD (zD (zD (HB.out) GB10.out) GB10.out) GB10.out : Below w.heap.size w w13)); clear hg hw hp_));go_roundg k1
    case measure => have := HK1.out; omega
    case rel => exact ⟨(y333), (wrap64 (x4_1 + 1)), zs0, H', ⟨by have := HK1.out; omega⟩, ⟨(zs9 HO_3)⟩, ⟨(zs5 HB)⟩⟩
   ·rw [if_neg c6] at H;have c6b0 := decide_eq_false c6;clear c6;obtain rfl := Option.some.inj H;go_wp2;go_ret;exact ⟨_, zs7, (zs9 HO_3), (zs5 HB)⟩
/-! ### impl_steps: function 84 -/
def impl_steps.l0 : Nat → List Int → Int → Int → Int → Option (Int)
 | 0, _, _, _, _ => none
 | k + 1, x0, x1, x7, x8 => if x8 < x7 then (if 0 ≤ (wrap64 (x1 - 1)) then (if (wrap64 (x1 - 1)) < (x0.length : Int) then (if (rd x0 (wrap64 (x1 - 1))) = 0 then (some x8) else (impl_steps.l0 k x0 (rd x0 (wrap64 (x1 - 1))) x7 (wrap64 (x8 + 1)))) else (none)) else (none)) else (some (-1))
def impl_steps.f (k : Nat) (l0 : List Int) (a1 : Int) : Option (Int) := impl_steps.l0 k l0 a1 (l0.length : Int) 0
theorem impl_steps.mono_l : ∀ k, (∀ y0 y1 y2 y3, LeO (impl_steps.l0 k y0 y1 y2 y3) (impl_steps.l0 (k + 1) y0 y1 y2 y3))
 | 0 => fun _ _ _ _ r h => by simp [impl_steps.l0] at h
 | k + 1 => by
  have ih0 := impl_steps.mono_l k
  ·intro y0 y1 y2 y3
   unfold impl_steps.l0
   exact zmono
theorem impl_steps.mono : ∀ a0 a1 k, LeO (impl_steps.f k a0 a1) (impl_steps.f (k + 1) a0 a1) := by
 intro a0 a1 k;have ih0 := impl_steps.mono_l k;unfold impl_steps.f;exact zmono
set_option maxHeartbeats 8000000 in
set_option maxRecDepth 100000 in
theorem impl_steps.calls (k : Nat) (A0 : Option Addr) (c0 : Nat) (l0 : List Int) (a1 : Int) (r : Int) (w : World) (hr0 : Kd.C (Kd.int .i64) w A0 l0.length l0) (hc0 : l0.length ≤ c0) (h : impl_steps.f k l0 a1 = some r) :
  Calls Try.prog 84 #[.slice A0 l0.length c0, .int .i64 a1] w fun e w' => e = .returned (.int .i64 r) ∧ Drawn0 w w' := by
 have HR0:=zM hr0;have HC0:=zM hc0;clear hr0 hc0;have H : (impl_steps.l0 k l0 a1 (l0.length : Int) 0) = some r := h;clear h;have H':=zM H;clear H;go_enter Try.func84, Try.ntmps84;go_wp2;go_loopg [1, 8] k (fun kq v1 v8 w' => ∃ (x1_1 : Int) (x8_1 : Int), v1 = .int .i64 x1_1 ∧ v8 = .int .i64 x8_1 ∧ Aside0 (impl_steps.l0 kq l0 x1_1 (l0.length : Int) x8_1 = some r) ∧ Aside0 (kq ≤ k) ∧ Drawn0 w w')
 case atStart => exact ⟨(a1), (0), zs0, zs0, H', ⟨Nat.le_refl _⟩, by repeat (first | exact Drawn0.refl _ | apply Drawn0.step)⟩
 case round =>
  clear H';obtain ⟨x1_1, x8_1, rfl, rfl, HA, HK1, ⟨m1, rfl⟩⟩ := hrel;cases gk with
  | zero => exact absurd HA.out (by simp [impl_steps.l0])
  | succ k1 =>
   have H := HA.out;clear HA;simp only [impl_steps.l0] at H;by_cases c3 : x8_1 < (l0.length : Int)
   ·rw [if_pos c3] at H;have c3b0 := decide_eq_true c3;clear c3;obtain ⟨ji4, hji4⟩ : ∃ j_ : Int, (wrap64 (x1_1 - 1)) = j_ := ⟨_, rfl⟩;(replace H : (if 0 ≤ (ji4) then (if (ji4) < (l0.length : Int) then (if (rd l0 (ji4)) = 0 then (some x8_1) else (impl_steps.l0 k1 l0 (rd l0 (ji4)) (l0.length : Int) (wrap64 (x8_1 + 1)))) else (none)) else (none)) = some r := by first | (rw [hji4] at H; exact H) | (simp only [hji4] at H ⊢; exact H));have hji4w : (IntKind.i64.wrap (x1_1 - 1)) = ji4 := (i64_w _).trans hji4;replace H := zn H; obtain ⟨c5, H⟩ := H;have c5b0 := decide_eq_true c5;clear c5;replace H := zn H; obtain ⟨c6, H⟩ := H;have c6b0 := decide_eq_true c6;clear c6;by_cases c7 : (rd l0 (ji4)) = 0
    ·rw [if_pos c7] at H;have c7b0 := beq_iff_eq.mpr c7;have c7b1 := bne_eq_false_iff_eq.mpr c7;clear c7;obtain rfl := Option.some.inj H;have p334 : 0 ≤ ((ji4) : Int) := of_decide_eq_true zs1;have q334 : (ji4) < (l0.length : Int) := of_decide_eq_true zs1;obtain ⟨ad334, e334, hx334_0⟩ := Kd.at_int HR0.out (ji4) p334 q334;cases e334;replace p334 := eq_true p334;replace q334 := eq_true q334;go_wp2;go_ret;(exact ⟨by first | rfl | (simp; done) | (simp only [← hji4] <;> (first | rfl | simp)) | (simp [*]; done), by repeat (first | exact Drawn0.refl _ | apply Drawn0.step)⟩)
    ·rw [if_neg c7] at H;have c7b0 := beq_eq_false_iff_ne.mpr c7;have c7b1 := bne_iff_ne.mpr c7;have H':=zM H;clear H;have p334 : 0 ≤ ((ji4) : Int) := of_decide_eq_true zs1;have q334 : (ji4) < (l0.length : Int) := of_decide_eq_true zs1;obtain ⟨ad334, e334, hx334_0⟩ := Kd.at_int HR0.out (ji4) p334 q334;cases e334;replace p334 := eq_true p334;replace q334 := eq_true q334;go_wp2;go_roundg k1
     case measure => have := HK1.out; omega
     case rel => exact ⟨(rd l0 (ji4)), (wrap64 (x8_1 + 1)), (by first | rfl | (simp; done) | (simp only [← hji4] <;> (first | rfl | simp)) | (simp [*]; done)), zs0, H', ⟨by have := HK1.out; omega⟩, by repeat (first | exact Drawn0.refl _ | apply Drawn0.step)⟩
   ·rw [if_neg c3] at H;have c3b0 := decide_eq_false c3;clear c3;obtain rfl := Option.some.inj H;go_wp2;go_ret;exact ⟨by first | rfl | (simp; done) | (simp [*]; done), by repeat (first | exact Drawn0.refl _ | apply Drawn0.step)⟩

/-! ### impl_TreeOk: function 38 -/
mutual
def impl_TreeOk.j0 : Nat → List Int → Bool → Option (Bool)
 | 0, _, _ => none
 | k + 1, x0, x14 => if x14 = true then (some false) else (impl_TreeOk.l0 k x0 0 x0 (x0.length : Int) 0)
def impl_TreeOk.l0 : Nat → List Int → Int → List Int → Int → Int → Option (Bool)
 | 0, _, _, _, _, _ => none
 | k + 1, x0, x3, x15, x16, x17 => if x17 < x16 then (if 0 ≤ x17 then (if x17 < (x15.length : Int) then (if (rd x15 x17) < 0 then (impl_TreeOk.j2 k x0 x3 (rd x15 x17) x15 x16 x17 true) else (impl_TreeOk.j2 k x0 x3 (rd x15 x17) x15 x16 x17 (decide ((rd x15 x17) > (x0.length : Int))))) else (none)) else (none)) else (impl_TreeOk.l1 k x0 x3 (x0.length : Int) 0)
def impl_TreeOk.j2 : Nat → List Int → Int → Int → List Int → Int → Int → Bool → Option (Bool)
 | 0, _, _, _, _, _, _, _ => none
 | k + 1, x0, x3, x5, x15, x16, x17, x28 => if x28 = true then (some false) else (if x5 = 0 then (impl_TreeOk.l0 k x0 (wrap64 (x3 + 1)) x15 x16 (wrap64 (x17 + 1))) else (impl_TreeOk.l0 k x0 x3 x15 x16 (wrap64 (x17 + 1))))
def impl_TreeOk.l1 : Nat → List Int → Int → Int → Int → Option (Bool)
 | 0, _, _, _, _ => none
 | k + 1, x0, x3, x35, x36 => if x36 < x35 then ((impl_steps.f k x0 (wrap64 (x36 + 1))).bind fun t336 => (if t336 < 0 then (some false) else (impl_TreeOk.l1 k x0 x3 x35 (wrap64 (x36 + 1))))) else (some (x3 == 1))
end
def impl_TreeOk.f (k : Nat) (l0 : List Int) : Option (Bool) := if (l0.length : Int) < 1 then (impl_TreeOk.j0 k l0 true) else (impl_TreeOk.j0 k l0 (decide ((l0.length : Int) > 8)))
theorem impl_TreeOk.mono_l : ∀ k, (∀ y0 y1, LeO (impl_TreeOk.j0 k y0 y1) (impl_TreeOk.j0 (k + 1) y0 y1)) ∧ (∀ y0 y1 y2 y3 y4, LeO (impl_TreeOk.l0 k y0 y1 y2 y3 y4) (impl_TreeOk.l0 (k + 1) y0 y1 y2 y3 y4)) ∧ (∀ y0 y1 y2 y3 y4 y5 y6, LeO (impl_TreeOk.j2 k y0 y1 y2 y3 y4 y5 y6) (impl_TreeOk.j2 (k + 1) y0 y1 y2 y3 y4 y5 y6)) ∧ (∀ y0 y1 y2 y3, LeO (impl_TreeOk.l1 k y0 y1 y2 y3) (impl_TreeOk.l1 (k + 1) y0 y1 y2 y3))
 | 0 => ⟨fun _ _ r h => by simp [impl_TreeOk.j0] at h, fun _ _ _ _ _ r h => by simp [impl_TreeOk.l0] at h, fun _ _ _ _ _ _ _ r h => by simp [impl_TreeOk.j2] at h, fun _ _ _ _ r h => by simp [impl_TreeOk.l1] at h⟩
 | k + 1 => by
  obtain ⟨ih0, ih1, ih2, ih3⟩ := impl_TreeOk.mono_l k
  refine ⟨?_, ?_, ?_, ?_⟩
  ·intro y0 y1
   unfold impl_TreeOk.j0
   have := @impl_steps.mono; exact zmono
  ·intro y0 y1 y2 y3 y4
   unfold impl_TreeOk.l0
   have := @impl_steps.mono; exact zmono
  ·intro y0 y1 y2 y3 y4 y5 y6
   unfold impl_TreeOk.j2
   have := @impl_steps.mono; exact zmono
  ·intro y0 y1 y2 y3
   unfold impl_TreeOk.l1
   have := @impl_steps.mono; exact zmono
theorem impl_TreeOk.mono : ∀ a0 k, LeO (impl_TreeOk.f k a0) (impl_TreeOk.f (k + 1) a0) := by
 intro a0 k;obtain ⟨ih0, ih1, ih2, ih3⟩ := impl_TreeOk.mono_l k;unfold impl_TreeOk.f;have := @impl_steps.mono; exact zmono
set_option maxHeartbeats 8000000 in
set_option maxRecDepth 100000 in
theorem impl_TreeOk.calls (k : Nat) (A0 : Option Addr) (c0 : Nat) (l0 : List Int) (r : Bool) (w : World) (hr0 : Kd.C (Kd.int .i64) w A0 l0.length l0) (hc0 : l0.length ≤ c0) (h : impl_TreeOk.f k l0 = some r) :
  Calls Try.prog 38 #[.slice A0 l0.length c0] w fun e w' => e = .returned (.bool r) ∧ Drawn0 w w' := by
 have HR0:=zM hr0;have HC0:=zM hc0;clear hr0 hc0;have H : (if (l0.length : Int) < 1 then (impl_TreeOk.j0 k l0 true) else (impl_TreeOk.j0 k l0 (decide ((l0.length : Int) > 8)))) = some r := h;clear h;have HC2:=zM H;clear H;go_enter Try.func38, Try.ntmps38;go_upto_region 1 with (fail);go_cut [14] (fun v14 wc => ∃ (kq : Nat) (x14_1 : Bool), v14 = .bool x14_1 ∧ Aside0 (impl_TreeOk.j0 kq l0 x14_1 = some r) ∧ Aside0 (kq ≤ k) ∧ Drawn0 w wc)
 case first =>
  have H := HC2.out;clear HC2;by_cases c3 : (l0.length : Int) < 1
  ·rw [if_pos c3] at H;have c3b0 := decide_eq_true c3;have c3b1 : decide (l0.length < 1) = true := decide_eq_true zo_;clear c3;(first | rw [c3b0] | (simp only [i64_w, i32_w]; rw [c3b0]) | skip);have H':=zM H;clear H;go_wp2;go_meet
   case rel => exact ⟨_, (true), zs0, H', ⟨zs17⟩, by repeat (first | exact Drawn0.refl _ | apply Drawn0.step)⟩
  ·rw [if_neg c3] at H;have c3b0 := decide_eq_false c3;have c3b1 : decide (l0.length < 1) = false := decide_eq_false zo_;clear c3;(first | rw [c3b0] | (simp only [i64_w, i32_w]; rw [c3b0]) | skip);have H':=zM H;clear H;go_wp2;go_meet
   case rel => exact ⟨_, (decide ((l0.length : Int) > 8)), zs0, H', ⟨zs17⟩, by repeat (first | exact Drawn0.refl _ | apply Drawn0.step)⟩
 case rest =>
  clear HC2;obtain ⟨kq, x14_1, rfl, HA, HJ1, ⟨mc1, rfl⟩⟩ := hcut;cases kq with
  | zero => exact absurd HA.out (by simp [impl_TreeOk.j0])
  | succ kj1 =>
   have H := HA.out;clear HA;simp only [impl_TreeOk.j0] at H;by_cases c4 : x14_1 = true
   ·subst c4;(have H1 : (some false) = some r := by rw [if_pos rfl] at H; exact H);clear H;have H := H1;clear H1;obtain rfl := Option.some.inj H;go_wp2;go_ret;exact ⟨by first | rfl | (simp; done) | (simp [*]; done), by repeat (first | exact Drawn0.refl _ | apply Drawn0.step)⟩
   ·replace c4 := Bool.eq_false_iff.mpr c4;subst c4;(have H1 : (impl_TreeOk.l0 kj1 l0 0 l0 (l0.length : Int) 0) = some r := by rw [if_neg (show ¬ (false = true) by decide)] at H; exact H);clear H;have H := H1;clear H1;have H':=zM H;clear H;go_wp2;go_loopg [3, 17] kj1 (fun kq v3 v17 w' => ∃ (x3_2 : Int) (x17_2 : Int), v3 = .int .i64 x3_2 ∧ v17 = .int .i64 x17_2 ∧ Aside0 (impl_TreeOk.l0 kq l0 x3_2 l0 (l0.length : Int) x17_2 = some r) ∧ Aside0 (kq ≤ kj1) ∧ Drawn0 w w')
    case atStart => exact ⟨(0), (0), zs0, zs0, H', ⟨Nat.le_refl _⟩, by repeat (first | exact Drawn0.refl _ | apply Drawn0.step)⟩
    case round =>
     clear H';obtain ⟨x3_2, x17_2, rfl, rfl, HA, HK2, ⟨m2, rfl⟩⟩ := hrel;cases gk with
     | zero => exact absurd HA.out (by simp [impl_TreeOk.l0])
     | succ k2 =>
      have H := HA.out;clear HA;simp only [impl_TreeOk.l0] at H;by_cases c5 : x17_2 < (l0.length : Int)
      ·rw [if_pos c5] at H;have c5b0 := decide_eq_true c5;clear c5;replace H := zn H; obtain ⟨c6, H⟩ := H;have c6b0 := decide_eq_true c6;clear c6;replace H := zn H; obtain ⟨c7, H⟩ := H;have c7b0 := decide_eq_true c7;clear c7;have HC8:=zM H;clear H;have p335 : 0 ≤ (x17_2 : Int) := of_decide_eq_true zs1;have q335 : x17_2 < (l0.length : Int) := of_decide_eq_true zs1;obtain ⟨ad335, e335, hx335_0⟩ := Kd.at_int HR0.out x17_2 p335 q335;cases e335;replace p335 := eq_true p335;replace q335 := eq_true q335;go_upto_region 7 with (fail);go_cut [28] (fun v28 wc => ∃ (kq : Nat) (x28_7 : Bool), v28 = .bool x28_7 ∧ Aside0 (impl_TreeOk.j2 kq l0 x3_2 (rd l0 x17_2) l0 (l0.length : Int) x17_2 x28_7 = some r) ∧ Aside0 (kq ≤ k2) ∧ Drawn0 w wc)
       case first =>
        have H := HC8.out;clear HC8;by_cases c9 : (rd l0 x17_2) < 0
        ·rw [if_pos c9] at H;have c9b0 := decide_eq_true c9;clear c9;(first | rw [c9b0] | (simp only [i64_w, i32_w]; rw [c9b0]) | skip);have H':=zM H;clear H;go_wp2;go_meet
         case rel => exact ⟨_, (true), zs0, H', ⟨by have := HJ1.out; have := HK2.out; first | omega | exact Nat.le_refl _⟩, by repeat (first | exact Drawn0.refl _ | apply Drawn0.step)⟩
        ·rw [if_neg c9] at H;have c9b0 := decide_eq_false c9;clear c9;(first | rw [c9b0] | (simp only [i64_w, i32_w]; rw [c9b0]) | skip);have H':=zM H;clear H;go_wp2;go_meet
         case rel => exact ⟨_, (decide ((rd l0 x17_2) > (l0.length : Int))), zs0, H', ⟨by have := HJ1.out; have := HK2.out; first | omega | exact Nat.le_refl _⟩, by repeat (first | exact Drawn0.refl _ | apply Drawn0.step)⟩
       case rest =>
        clear HC8;obtain ⟨kq, x28_7, rfl, HA, HJ7, ⟨mc7, rfl⟩⟩ := hcut;cases kq with
        | zero => exact absurd HA.out (by simp [impl_TreeOk.j2])
        | succ kj7 =>
         have H := HA.out;clear HA;simp only [impl_TreeOk.j2] at H;by_cases c10 : x28_7 = true
         ·subst c10;(have H1 : (some false) = some r := by rw [if_pos rfl] at H; exact H);clear H;have H := H1;clear H1;obtain rfl := Option.some.inj H;go_wp2;go_ret;exact ⟨by first | rfl | (simp; done) | (simp [*]; done), by repeat (first | exact Drawn0.refl _ | apply Drawn0.step)⟩
         ·replace c10 := Bool.eq_false_iff.mpr c10;subst c10;(have H1 : (if (rd l0 x17_2) = 0 then (impl_TreeOk.l0 kj7 l0 (wrap64 (x3_2 + 1)) l0 (l0.length : Int) (wrap64 (x17_2 + 1))) else (impl_TreeOk.l0 kj7 l0 x3_2 l0 (l0.length : Int) (wrap64 (x17_2 + 1)))) = some r := by rw [if_neg (show ¬ (false = true) by decide)] at H; exact H);clear H;have H := H1;clear H1;by_cases c11 : (rd l0 x17_2) = 0
          ·rw [if_pos c11] at H;have c11b0 := beq_iff_eq.mpr c11;have c11b1 := bne_eq_false_iff_eq.mpr c11;clear c11;have H':=zM H;clear H;go_wp2;go_roundg kj7
           case measure => have := HJ1.out; have := HK2.out; have := HJ7.out; omega
           case rel => exact ⟨(wrap64 (x3_2 + 1)), (wrap64 (x17_2 + 1)), zs0, zs0, H', ⟨by have := HJ1.out; have := HK2.out; have := HJ7.out; omega⟩, by repeat (first | exact Drawn0.refl _ | apply Drawn0.step)⟩
          ·rw [if_neg c11] at H;have c11b0 := beq_eq_false_iff_ne.mpr c11;have c11b1 := bne_iff_ne.mpr c11;have H':=zM H;clear H;go_wp2;go_roundg kj7
           case measure => have := HJ1.out; have := HK2.out; have := HJ7.out; omega
           case rel => exact ⟨(x3_2), (wrap64 (x17_2 + 1)), zs0, zs0, H', ⟨by have := HJ1.out; have := HK2.out; have := HJ7.out; omega⟩, by repeat (first | exact Drawn0.refl _ | apply Drawn0.step)⟩
      ·rw [if_neg c5] at H;have c5b0 := decide_eq_false c5;clear c5;have H':=zM H;clear H;go_wp2;go_loopg [36] k2 (fun kq v36 w' => ∃ (x36_3 : Int), v36 = .int .i64 x36_3 ∧ Aside0 (impl_TreeOk.l1 kq l0 x3_2 (l0.length : Int) x36_3 = some r) ∧ Aside0 (kq ≤ k2) ∧ Drawn0 w w')
       case atStart => exact ⟨(0), zs0, H', ⟨Nat.le_refl _⟩, by repeat (first | exact Drawn0.refl _ | apply Drawn0.step)⟩
       case round =>
        clear H';obtain ⟨x36_3, rfl, HA, HK3, ⟨m3, rfl⟩⟩ := hrel;cases gk with
        | zero => exact absurd HA.out (by simp [impl_TreeOk.l1])
        | succ k3 =>
         have H := HA.out;clear HA;simp only [impl_TreeOk.l1] at H;by_cases c12 : x36_3 < (l0.length : Int)
         ·rw [if_pos c12] at H;have c12b0 := decide_eq_true c12;clear c12;replace H := zb H; obtain ⟨t336, A13, H⟩ := H; (try dsimp only at H);by_cases c14 : t336 < 0
          ·rw [if_pos c14] at H;have c14b0 := decide_eq_true c14;clear c14;obtain rfl := Option.some.inj H;go_wp2_with (first | (refine zg 84 (some 42) Try.func84 #[.slice A0 l0.length c0, .int .i64 (wrap64 (x36_3 + 1))] ?_; (with_reducible refine (impl_steps.calls k3 _ _ l0 (wrap64 (x36_3 + 1)) t336 _ ?side1 ?side2 A13.out).mono ?_); (case side1 => exact (zs2 HR0)); (case side2 => exact HC0.out); rintro e w' ⟨rfl, ⟨nd, rfl⟩⟩; refine ⟨_, rfl, ?_⟩));go_ret;exact ⟨by first | rfl | (simp; done) | (simp [*]; done), by repeat (first | exact Drawn0.refl _ | apply Drawn0.step)⟩
          ·rw [if_neg c14] at H;have c14b0 := decide_eq_false c14;clear c14;have H':=zM H;clear H;go_wp2_with (first | (refine zg 84 (some 42) Try.func84 #[.slice A0 l0.length c0, .int .i64 (wrap64 (x36_3 + 1))] ?_; (with_reducible refine (impl_steps.calls k3 _ _ l0 (wrap64 (x36_3 + 1)) t336 _ ?side1 ?side2 A13.out).mono ?_); (case side1 => exact (zs2 HR0)); (case side2 => exact HC0.out); rintro e w' ⟨rfl, ⟨nd, rfl⟩⟩; refine ⟨_, rfl, ?_⟩));go_roundg k3
           case measure => have := HJ1.out; have := HK2.out; have := HK3.out; omega
           case rel => exact ⟨(wrap64 (x36_3 + 1)), zs0, H', ⟨by have := HJ1.out; have := HK2.out; have := HK3.out; omega⟩, by repeat (first | exact Drawn0.refl _ | apply Drawn0.step)⟩
         ·rw [if_neg c12] at H;have c12b0 := decide_eq_false c12;clear c12;obtain rfl := Option.some.inj H;go_wp2;go_ret;exact ⟨by first | rfl | (simp; done) | (simp [*]; done), by repeat (first | exact Drawn0.refl _ | apply Drawn0.step)⟩

/-! ### impl_DeskOk_1: function 76 -/
def impl_DeskOk_1.f (k : Nat) (l0 : List Int) : Option (Bool) := (impl_TreeOk.f k l0).bind fun t337 => (some (!t337))
theorem impl_DeskOk_1.mono : ∀ a0 k, LeO (impl_DeskOk_1.f k a0) (impl_DeskOk_1.f (k + 1) a0) := by
 intro a0 k;unfold impl_DeskOk_1.f;have := @impl_TreeOk.mono; exact zmono
set_option maxHeartbeats 8000000 in
set_option maxRecDepth 100000 in
theorem impl_DeskOk_1.calls (k : Nat) (A0 : Option Addr) (c0 : Nat) (l0 : List Int) (r : Bool) (w : World) (hr0 : Kd.C (Kd.int .i64) w A0 l0.length l0) (hc0 : l0.length ≤ c0) (h : impl_DeskOk_1.f k l0 = some r) :
  Calls Try.prog 76 #[.slice A0 l0.length c0] w fun e w' => e = .returned (.bool r) ∧ Drawn0 w w' := by
 have HR0:=zM hr0;have HC0:=zM hc0;clear hr0 hc0;have H : ((impl_TreeOk.f k l0).bind fun t337 => (some (!t337))) = some r := h;clear h;replace H := zb H; obtain ⟨t337, A2, H⟩ := H; (try dsimp only at H);obtain rfl := Option.some.inj H;go_enter Try.func76, Try.ntmps76;go_wp2_with (first | (refine zg 38 (some 4) Try.func38 #[.slice A0 l0.length c0] ?_; (with_reducible refine (impl_TreeOk.calls k _ _ l0 t337 _ ?side1 ?side2 A2.out).mono ?_); (case side1 => exact (zs2 HR0)); (case side2 => exact HC0.out); rintro e w' ⟨rfl, ⟨nd, rfl⟩⟩; refine ⟨_, rfl, ?_⟩));go_ret;exact ⟨by first | rfl | (simp; done) | (simp [*]; done), by repeat (first | exact Drawn0.refl _ | apply Drawn0.step)⟩

/-! ### slices_IndexFunc_int_int_DeskOk_1: function 174 -/
def slices_IndexFunc_int_int_DeskOk_1.l0 : Nat → List (List Int) → Int → Int → Option (Int)
 | 0, _, _, _ => none
 | k + 1, x0, x7, x8 => if x8 < x7 then (if 0 ≤ x8 then (if x8 < (x0.length : Int) then ((impl_DeskOk_1.f k (rd_L1 x0 x8)).bind fun t339 => (if t339 = true then (some x8) else (slices_IndexFunc_int_int_DeskOk_1.l0 k x0 x7 (wrap64 (x8 + 1))))) else (none)) else (none)) else (some (-1))
def slices_IndexFunc_int_int_DeskOk_1.f (k : Nat) (l0 : List (List Int)) (a1 : Int) : Option (Int) := slices_IndexFunc_int_int_DeskOk_1.l0 k l0 (l0.length : Int) 0
theorem slices_IndexFunc_int_int_DeskOk_1.mono_l : ∀ k, (∀ y0 y1 y2, LeO (slices_IndexFunc_int_int_DeskOk_1.l0 k y0 y1 y2) (slices_IndexFunc_int_int_DeskOk_1.l0 (k + 1) y0 y1 y2))
 | 0 => fun _ _ _ r h => by simp [slices_IndexFunc_int_int_DeskOk_1.l0] at h
 | k + 1 => by
  have ih0 := slices_IndexFunc_int_int_DeskOk_1.mono_l k
  ·intro y0 y1 y2
   unfold slices_IndexFunc_int_int_DeskOk_1.l0
   have := @impl_DeskOk_1.mono; exact zmono
theorem slices_IndexFunc_int_int_DeskOk_1.mono : ∀ a0 a1 k, LeO (slices_IndexFunc_int_int_DeskOk_1.f k a0 a1) (slices_IndexFunc_int_int_DeskOk_1.f (k + 1) a0 a1) := by
 intro a0 a1 k;have ih0 := slices_IndexFunc_int_int_DeskOk_1.mono_l k;unfold slices_IndexFunc_int_int_DeskOk_1.f;have := @impl_DeskOk_1.mono; exact zmono
set_option maxHeartbeats 8000000 in
set_option maxRecDepth 100000 in
theorem slices_IndexFunc_int_int_DeskOk_1.calls (k : Nat) (A0 : Option Addr) (c0 : Nat) (l0 : List (List Int)) (a1 : Int) (r : Int) (w : World) (hr0 : Kd.C (Kd.slice 3 (Kd.int .i64)) w A0 l0.length l0) (hc0 : l0.length ≤ c0) (h : slices_IndexFunc_int_int_DeskOk_1.f k l0 a1 = some r) :
  Calls Try.prog 109 #[.slice A0 l0.length c0, .func (.func 76) #[] #[]] w fun e w' => e = .returned (.int .i64 r) ∧ Drawn0 w w' := by
 have HR0:=zM hr0;have HC0:=zM hc0;clear hr0 hc0;have H : (slices_IndexFunc_int_int_DeskOk_1.l0 k l0 (l0.length : Int) 0) = some r := h;clear h;have H':=zM H;clear H;go_enter Try.func109, Try.ntmps109;go_wp2;go_loopg [8] k (fun kq v8 w' => ∃ (x8_1 : Int), v8 = .int .i64 x8_1 ∧ Aside0 (slices_IndexFunc_int_int_DeskOk_1.l0 kq l0 (l0.length : Int) x8_1 = some r) ∧ Aside0 (kq ≤ k) ∧ Drawn0 w w')
 case atStart => exact ⟨(0), zs0, H', ⟨Nat.le_refl _⟩, by repeat (first | exact Drawn0.refl _ | apply Drawn0.step)⟩
 case round =>
  clear H';obtain ⟨x8_1, rfl, HA, HK1, ⟨m1, rfl⟩⟩ := hrel;cases gk with
  | zero => exact absurd HA.out (by simp [slices_IndexFunc_int_int_DeskOk_1.l0])
  | succ k1 =>
   have H := HA.out;clear HA;simp only [slices_IndexFunc_int_int_DeskOk_1.l0] at H;by_cases c3 : x8_1 < (l0.length : Int)
   ·rw [if_pos c3] at H;have c3b0 := decide_eq_true c3;clear c3;replace H := zn H; obtain ⟨c4, H⟩ := H;have c4b0 := decide_eq_true c4;clear c4;replace H := zn H; obtain ⟨c5, H⟩ := H;have c5b0 := decide_eq_true c5;clear c5;replace H := zb H; obtain ⟨t339, A6, H⟩ := H; (try dsimp only at H);by_cases c7 : t339 = true
    ·subst c7;(have H1 : (some x8_1) = some r := by rw [if_pos rfl] at H; exact H);clear H;have H := H1;clear H1;obtain rfl := Option.some.inj H;have p338 : 0 ≤ (x8_1 : Int) := of_decide_eq_true zs1;have q338 : x8_1 < (l0.length : Int) := of_decide_eq_true zs1;obtain ⟨ad338, A338_0, c338_0, e338, hx338_0, hl338_0, hi338_0⟩ := at_L1 HR0.out x8_1 p338 q338;cases e338;have HR338_0:=zM hi338_0;have HC338_0:=zM hl338_0;clear hi338_0 hl338_0;replace p338 := eq_true p338;replace q338 := eq_true q338;go_wp2_with (first | (go_at_call 76; (with_reducible refine (impl_DeskOk_1.calls k1 _ _ (rd_L1 l0 x8_1) true _ ?side1 ?side2 A6.out).mono ?_); (case side1 => exact (zs2 HR338_0)); (case side2 => exact HC338_0.out); rintro e w' ⟨rfl, ⟨nd, rfl⟩⟩));go_ret;exact ⟨by first | rfl | (simp; done) | (simp [*]; done), by repeat (first | exact Drawn0.refl _ | apply Drawn0.step)⟩
    ·replace c7 := Bool.eq_false_iff.mpr c7;subst c7;(have H1 : (slices_IndexFunc_int_int_DeskOk_1.l0 k1 l0 (l0.length : Int) (wrap64 (x8_1 + 1))) = some r := by rw [if_neg (show ¬ (false = true) by decide)] at H; exact H);clear H;have H := H1;clear H1;have H':=zM H;clear H;have p338 : 0 ≤ (x8_1 : Int) := of_decide_eq_true zs1;have q338 : x8_1 < (l0.length : Int) := of_decide_eq_true zs1;obtain ⟨ad338, A338_0, c338_0, e338, hx338_0, hl338_0, hi338_0⟩ := at_L1 HR0.out x8_1 p338 q338;cases e338;have HR338_0:=zM hi338_0;have HC338_0:=zM hl338_0;clear hi338_0 hl338_0;replace p338 := eq_true p338;replace q338 := eq_true q338;go_wp2_with (first | (go_at_call 76; (with_reducible refine (impl_DeskOk_1.calls k1 _ _ (rd_L1 l0 x8_1) false _ ?side1 ?side2 A6.out).mono ?_); (case side1 => exact (zs2 HR338_0)); (case side2 => exact HC338_0.out); rintro e w' ⟨rfl, ⟨nd, rfl⟩⟩));go_roundg k1
     case measure => have := HK1.out; omega
     case rel => exact ⟨(wrap64 (x8_1 + 1)), zs0, H', ⟨by have := HK1.out; omega⟩, by repeat (first | exact Drawn0.refl _ | apply Drawn0.step)⟩
   ·rw [if_neg c3] at H;have c3b0 := decide_eq_false c3;clear c3;obtain rfl := Option.some.inj H;go_wp2;go_ret;exact ⟨by first | rfl | (simp; done) | (simp [*]; done), by repeat (first | exact Drawn0.refl _ | apply Drawn0.step)⟩

/-! ### slices_ContainsFunc_int_int_DeskOk_1: function 173 -/
def slices_ContainsFunc_int_int_DeskOk_1.f (k : Nat) (l0 : List (List Int)) (a1 : Int) : Option (Bool) := (slices_IndexFunc_int_int_DeskOk_1.f k l0 a1).bind fun t340 => (some (decide (t340 ≥ 0)))
theorem slices_ContainsFunc_int_int_DeskOk_1.mono : ∀ a0 a1 k, LeO (slices_ContainsFunc_int_int_DeskOk_1.f k a0 a1) (slices_ContainsFunc_int_int_DeskOk_1.f (k + 1) a0 a1) := by
 intro a0 a1 k;unfold slices_ContainsFunc_int_int_DeskOk_1.f;have := @slices_IndexFunc_int_int_DeskOk_1.mono; exact zmono
set_option maxHeartbeats 8000000 in
set_option maxRecDepth 100000 in
theorem slices_ContainsFunc_int_int_DeskOk_1.calls (k : Nat) (A0 : Option Addr) (c0 : Nat) (l0 : List (List Int)) (a1 : Int) (r : Bool) (w : World) (hr0 : Kd.C (Kd.slice 3 (Kd.int .i64)) w A0 l0.length l0) (hc0 : l0.length ≤ c0) (h : slices_ContainsFunc_int_int_DeskOk_1.f k l0 a1 = some r) :
  Calls Try.prog 75 #[.slice A0 l0.length c0, .func (.func 76) #[] #[]] w fun e w' => e = .returned (.bool r) ∧ Drawn0 w w' := by
 have HR0:=zM hr0;have HC0:=zM hc0;clear hr0 hc0;have H : ((slices_IndexFunc_int_int_DeskOk_1.f k l0 a1).bind fun t340 => (some (decide (t340 ≥ 0)))) = some r := h;clear h;replace H := zb H; obtain ⟨t340, A3, H⟩ := H; (try dsimp only at H);obtain rfl := Option.some.inj H;go_enter Try.func75, Try.ntmps75;go_wp2_with (first | (refine zg 109 (some 7) Try.func109 #[.slice A0 l0.length c0, .func (.func 76) #[] #[]] ?_; (with_reducible refine (slices_IndexFunc_int_int_DeskOk_1.calls k _ _ l0 a1 t340 _ ?side1 ?side2 A3.out).mono ?_); (case side1 => exact (zs2 HR0)); (case side2 => exact HC0.out); rintro e w' ⟨rfl, ⟨nd, rfl⟩⟩; refine ⟨_, rfl, ?_⟩));go_ret;exact ⟨by first | rfl | (simp; done) | (simp [*]; done), by repeat (first | exact Drawn0.refl _ | apply Drawn0.step)⟩

end Go.Proofs.Ytbbhdgpiocojaaa.LB
