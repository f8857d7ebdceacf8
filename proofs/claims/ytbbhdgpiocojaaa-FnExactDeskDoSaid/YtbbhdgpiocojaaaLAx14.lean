/- Printed by a program of this session (wip/lp/lp.py) out of the translation: functions with the same answers as the Go code, and their contracts; no conditions beyond those that each theorem names. -/
import Derived.Test.YtbbhdgpiocojaaaLAx0
namespace Go.Proofs.Ytbbhdgpiocojaaa.LA
open Go.RowKit Go.Proofs.YtbbhdgpiocojaaaV.PrintWords Go.Proofs.YtbbhdgpiocojaaaV.PrintLast Go.Proofs.YtbbhdgpiocojaaaV.PrintMore
attribute [local go_sem] max2_int min2_int max_two min_two max_three min_three max_four min_four   -- for this text's walks alone
set_option linter.unusedVariables false
set_option linter.unusedSimpArgs false

/-! ### laws_markIntS: function 65 -/
def laws_markIntS.l0 : Nat → List Int → Int → Int → Option (Int × List Int)
 | 0, _, _, _ => none
 | k + 1, x0, x1, x5 => if x5 < (x0.length : Int) then (if 0 ≤ x5 then (laws_markIntS.l0 k (x0.set (x5 : Int).toNat x1) (wrap64 (x1 + 1)) (wrap64 (x5 + 1))) else (none)) else (some (x1, x0))
def laws_markIntS.f (k : Nat) (l0 : List Int) (a1 : Int) : Option (Int × List Int) := laws_markIntS.l0 k l0 a1 0
theorem laws_markIntS.mono_l : ∀ k, (∀ y0 y1 y2, LeO (laws_markIntS.l0 k y0 y1 y2) (laws_markIntS.l0 (k + 1) y0 y1 y2))
 | 0 => fun _ _ _ r h => by simp [laws_markIntS.l0] at h
 | k + 1 => by
  have ih0 := laws_markIntS.mono_l k
  ·intro y0 y1 y2
   unfold laws_markIntS.l0
   exact zmono
theorem laws_markIntS.mono : ∀ a0 a1 k, LeO (laws_markIntS.f k a0 a1) (laws_markIntS.f (k + 1) a0 a1) := by
 intro a0 a1 k;have ih0 := laws_markIntS.mono_l k;unfold laws_markIntS.f;exact zmono
set_option maxHeartbeats 8000000 in
set_option maxRecDepth 100000 in
theorem laws_markIntS.calls (k : Nat) (P0_ : Nat → Prop) (u9000_ : Value) (l0 : List Int) (a1 : Int) (r1 : Int) (r2 : List Int) (w0 w : World) (hB : Below w0.heap.size w0 w) (ho0 : Kd.R (Kd.int .i64) 3 w w0.heap.size P0_ u9000_ l0) (h : laws_markIntS.f k l0 a1 = some (r1, r2)) :
  Calls Try.prog 65 #[u9000_, .int .i64 a1] w fun e w' => e = .returned (.int .i64 r1) ∧ Kd.R (Kd.int .i64) 3 w' w0.heap.size (fun k_ => (P0_ k_ ∨ w.heap.size ≤ k_)) u9000_ r2 ∧ Below w0.heap.size w0 w' ∧ Kept w w' (fun k_ => P0_ k_) := by
 have HO0:=zM (show Kd.R (Kd.int .i64) 3 w w0.heap.size (fun k_ => (P0_ k_ ∨ w.heap.size ≤ k_)) u9000_ l0 from Kd.R_mono ho0 (fun k_ hk => (.inl hk)));have HK:=zM (Kept.refl w (fun k_ => P0_ k_));have HW0:=zM hB.size;have HB:=zM hB;clear hB;have H : (laws_markIntS.l0 k l0 a1 0) = some (r1, r2) := h;clear h;have H':=zM H;clear H;go_enter Try.func65, Try.ntmps65;go_wp2;go_loopg [1, 5] k (fun kq v1 v5 w' => ∃ (x0_1 : List Int) (x1_1 : Int) (x5_1 : Int), v1 = .int .i64 x1_1 ∧ v5 = .int .i64 x5_1 ∧ Aside0 (laws_markIntS.l0 kq x0_1 x1_1 x5_1 = some (r1, r2)) ∧ Aside0 (kq ≤ k) ∧ Aside0 (Kd.R (Kd.int .i64) 3 w' w0.heap.size (fun k_ => (P0_ k_ ∨ w.heap.size ≤ k_)) u9000_ x0_1) ∧ Aside0 (Kept w w' (fun k_ => P0_ k_)) ∧ Aside0 (Below w0.heap.size w0 w'))
 case atStart => exact ⟨(l0), (a1), (0), zs0, zs0, H', ⟨Nat.le_refl _⟩, ⟨(zs10 HO0)⟩, ⟨(zs23 HK)⟩, ⟨(zs5 HB)⟩⟩
 case round =>
  clear H';obtain ⟨x0_1, x1_1, x5_1, rfl, rfl, HA, HK1, HO_0, HK, HB⟩ := hrel;cases gk with
  | zero => exact absurd HA.out (by simp [laws_markIntS.l0])
  | succ k1 =>
   have H := HA.out;clear HA;simp only [laws_markIntS.l0] at H;by_cases c3 : x5_1 < (x0_1.length : Int)
   ·rw [if_pos c3] at H;have c3b0 := decide_eq_true c3;clear c3;replace H := zn H; obtain ⟨c4, H⟩ := H;have c4b0 := decide_eq_true c4;clear c4;obtain ⟨y461, hy461⟩ : ∃ y_ : List Int, y_ = (x0_1.set (x5_1 : Int).toNat x1_1) := ⟨_, rfl⟩; rw [← hy461] at H; have Ny461:=zM hy461; clear hy461;have H':=zM H;clear H;obtain ⟨Ao6, co6, eo6⟩ := Kd.R_slice HO_0.out;subst eo6;have p5 : 0 ≤ (x5_1 : Int) := of_decide_eq_true zs1;have q5 : (x5_1 : Int) < ((x0_1.length : Int) : Int) := of_decide_eq_true zs1;obtain ⟨go5, co5, eo5, gb5, gl5, cl5, HG5⟩ := Kd.R_form HO_0.out zo_;(first | cases eo5 | (injection eo5 with ea_ en_ ec_; (first | subst ea_ | (injection ea_ with ea_; subst ea_)); subst ec_; clear en_));have GB5:=zM gb5;have GG5:=zM HG5;clear gb5 gl5 HG5;have HMgo5:=zM (show (P0_ go5 ∨ w.heap.size ≤ go5) from (HO_0.out.1 _ rfl));obtain ⟨hx5_0, hf5_0⟩ := Kd.R_celln 0 HO_0.out (x5_1 : Int) p5 q5;replace p5 := eq_true p5;replace q5 := eq_true q5;have HP7 := Kd.R_putg HO_0.out (x5_1 : Int) x1_1;go_wp2_with (first | ((with_reducible refine gate_store (t := 3) (p := 15) rfl ?_); refine store_event (t := 3) (p := 15) (v := ?vo_w8) (w1 := (wr.setCell ⟨go5, (x5_1 : Int).toNat, none⟩ (.int .i64 x1_1))) ?hg ?ho ?hn ?hr ?_; (case ho => rfl); (case hg => rfl); (case hn => rfl); (case hr => first | (go_simp; done) | (go_simp; rfl)); intro w8 hw; have hg : wr.grownBy w8 (some go5) := (by rw [hw]; exact HP7.2); have hp_ : Kd.R (Kd.int .i64) 3 w8 w0.heap.size (fun k_ => (P0_ k_ ∨ w.heap.size ≤ k_)) (.slice (some ⟨go5, 0, none⟩) x0_1.length co6) y461 := (by rw [hw, Ny461.out]; exact HP7.1); clear HP7; replace HB:=zM ((by rw [hw]; exact zD (HB.out) GB5.out : Below w0.heap.size w0 w8)); replace HK:=zM (Kept.of_grown (S := (fun k_ => P0_ k_)) hg (zs23 HK) (fun k_ e_ => (HO_0.out.1 k_ e_))); replace HO_0:=zM (hp_); clear hg hw hp_));go_roundg k1
    case measure => have := HK1.out; omega
    case rel => exact ⟨(y461), (wrap64 (x1_1 + 1)), (wrap64 (x5_1 + 1)), zs0, zs0, H', ⟨by have := HK1.out; omega⟩, ⟨(zs10 HO_0)⟩, ⟨(zs23 HK)⟩, ⟨(zs5 HB)⟩⟩
   ·rw [if_neg c3] at H;have c3b0 := decide_eq_false c3;clear c3;simp only [Option.some.injEq, Prod.mk.injEq] at H;obtain ⟨rfl, rfl⟩ := H;obtain ⟨Ao9, co9, eo9⟩ := Kd.R_slice HO_0.out;subst eo9;go_wp2;go_ret;exact ⟨zs7, (zs10 HO_0), (zs5 HB), (zs23 HK)⟩

/-! ### laws_markIntSS: function 66, told by hand -/
def laws_markIntSS.l0 : Nat → List (List Int) → Int → Int → Option (Int × List (List Int))
 | 0, _, _, _ => none
 | k + 1, x0, x1, x5 => if x5 < (x0.length : Int) then (if 0 ≤ x5 then ((laws_markIntS.f k (x0.getD x5.toNat []) x1).bind fun p => (laws_markIntSS.l0 k (x0.set x5.toNat p.2) p.1 (wrap64 (x5 + 1)))) else (none)) else (some (x1, x0))
def laws_markIntSS.f (k : Nat) (l0 : List (List Int)) (a1 : Int) : Option (Int × List (List Int)) := laws_markIntSS.l0 k l0 a1 0
theorem laws_markIntSS.mono_l : ∀ k, (∀ y0 y1 y2, LeO (laws_markIntSS.l0 k y0 y1 y2) (laws_markIntSS.l0 (k + 1) y0 y1 y2))
 | 0 => fun _ _ _ r h => by simp [laws_markIntSS.l0] at h
 | k + 1 => by
  have ih0 := laws_markIntSS.mono_l k
  intro y0 y1 y2
  unfold laws_markIntSS.l0
  exact LeO.ite (LeO.ite (LeO.bind (laws_markIntS.mono _ _ _) (fun _ => ih0 _ _ _)) (LeO.none _)) (LeO.refl _)
theorem laws_markIntSS.mono : ∀ a0 a1 k, LeO (laws_markIntSS.f k a0 a1) (laws_markIntSS.f (k + 1) a0 a1) := fun _ _ k => laws_markIntSS.mono_l k _ _ _
set_option maxHeartbeats 8000000 in
set_option maxRecDepth 100000 in
theorem laws_markIntSS.calls (k : Nat) (P0_ : Nat → Prop) (v : Value) (l0 : List (List Int)) (a1 : Int) (r1 : Int) (r2 : List (List Int)) (w0 w : World) (hB : Below w0.heap.size w0 w) (ho : Kd.S (Kd.slice 3 (Kd.int .i64)) 22 w w0.heap.size P0_ v l0) (h : laws_markIntSS.f k l0 a1 = some (r1, r2)) :
  Calls Try.prog 66 #[v, .int .i64 a1] w fun e w' => e = .returned (.int .i64 r1) ∧ Kd.S (Kd.slice 3 (Kd.int .i64)) 22 w' w0.heap.size P0_ v r2 ∧ Below w0.heap.size w0 w' ∧ Kept w w' P0_ := by
 obtain ⟨A, c, rfl⟩ := Kd.S_slice ho;have HO:=zM ho;have HB:=zM hB;have HK:=zM (Kept.refl w P0_);have H' : Aside0 (laws_markIntSS.l0 k l0 a1 0 = some (r1, r2)) := ⟨h⟩;clear ho hB h;go_enter Try.func66, Try.ntmps66;go_wp2;go_loopg [1, 5] k (fun kq v1 v5 w' => ∃ (x0 : List (List Int)) (x1 x5 : Int), v1 = .int .i64 x1 ∧ v5 = .int .i64 x5 ∧ Aside0 (laws_markIntSS.l0 kq x0 x1 x5 = some (r1, r2)) ∧ Aside0 (kq ≤ k) ∧ Aside0 (x0.length = l0.length) ∧ Aside0 (Kd.S (Kd.slice 3 (Kd.int .i64)) 22 w' w0.heap.size P0_ (.slice A l0.length c) x0) ∧ Aside0 (Kept w w' P0_) ∧ Aside0 (Below w0.heap.size w0 w'))
 case atStart => exact ⟨l0, a1, 0, (by first | rfl | (simp; done)), (by first | rfl | (simp; done)), H', ⟨Nat.le_refl _⟩, ⟨rfl⟩, HO, HK, HB⟩
 case round =>
  clear H' HO HK HB;obtain ⟨x0, x1, x5, rfl, rfl, HA, HK1, HL, HO, HK, HB⟩ := hrel;cases gk with
  | zero => exact absurd HA.out (by simp [laws_markIntSS.l0])
  | succ k1 =>
   have H := HA.out;clear HA;simp only [laws_markIntSS.l0] at H;by_cases c5 : x5 < (x0.length : Int)
   ·rw [if_pos c5] at H;replace H := zn H; obtain ⟨c6, H⟩ := H;obtain ⟨p, hp, H⟩ := Option.bind_eq_some_iff.mp H;obtain ⟨t, row⟩ := p;obtain ⟨y0, hy0⟩ : ∃ y : List Int, y = x0.getD x5.toNat [] := ⟨_, rfl⟩;rw [← hy0] at hp;have HP:=zM hp;have H':=zM H;clear hp H;have hl := HL.out;obtain ⟨g, cap, hv, _, _, _⟩ := Kd.S_form HO.out zo_;injection hv with hA hn_ hc_;subst hA;subst hc_;clear hn_;obtain ⟨oki, cs, hcl, hM, hcc, hfr, hoki, hH⟩ := Kd.S_elem HO.out [] x5 c6 zo_;rw [← hy0] at hM;clear hy0;obtain ⟨vi, rfl, hR⟩ := hM;have hc0 := hcc 0 _ rfl;obtain ⟨Ai, ci, rfl⟩ := Kd.R_slice hR;rw [show (Kd.slice 3 (Kd.int .i64)).sz = 1 from rfl, Nat.mul_one, Nat.add_zero] at hc0;have hown := hR.1;have HR:=zM hR;have HH:=zM hH;have HI:=zM hoki;have HW:=zM hown;have b1 : decide (x5 < (l0.length : Int)) = true := decide_eq_true zo_;have p5 : (0 ≤ x5) = True := eq_true c6;have q5 : (x5 < (l0.length : Int)) = True := eq_true zo_;clear hR hH hoki hown hcl hcc hfr hl c5 c6;go_wp2_with (go_at_call 65; (with_reducible refine (laws_markIntS.calls k1 oki _ y0 x1 t row w0 _ HB.out HR.out HP.out).mono ?_); rintro e w2 ⟨rfl, hR2, hB2, hK2⟩; have HR2:=zM hR2; have HB2:=zM hB2; have HK2:=zM hK2; clear hR2 hB2 hK2);go_roundg k1
    case measure => have := HK1.out; omega
    case rel =>
     refine ⟨x0.set x5.toNat row, t, wrap64 (x5 + 1), zs0, zs0, H', ⟨by have := HK1.out; omega⟩, ⟨by rw [List.length_set]; exact HL.out⟩, ⟨?_⟩, ⟨HK.out.then_ HK2.out (fun k hk => .inl (HI.out k hk).1)⟩, HB2⟩;refine Kd.H_back (okp := oki) (Kd.H_kept HH.out HK2.out (fun _ _ hn => hn)) ?_ (fun _ hk => hk);exact ⟨_, rfl, Kd.R_mono (Kd.R_tight rfl HR2.out) (fun k hk => HW.out k hk.symm)⟩
   ·rw [if_neg c5] at H;simp only [Option.some.injEq, Prod.mk.injEq] at H;obtain ⟨rfl, rfl⟩ := H;have hl := HL.out;have b1 : decide (x5 < (l0.length : Int)) = false := decide_eq_false zo_;clear hl c5;go_wp2;go_ret;exact ⟨by first | rfl | (simp; done), HO.out, HB.out, HK.out⟩

/-! ### laws_markDesk: function 17, told by hand -/
def laws_markDesk.f (k : Nat) (l0 : List Int) (l1 : List (List Int)) (a1 : Int) : Option (Int × List Int × List (List Int)) := (laws_markIntS.f k l0 a1).bind fun p => (laws_markIntSS.f k l1 p.1).bind fun q => some (q.1, p.2, q.2)
set_option maxHeartbeats 8000000 in
set_option maxRecDepth 100000 in
theorem laws_markDesk.calls (k : Nat) (P0_ P1_ : Nat → Prop) (v0 v1 : Value) (l0 : List Int) (l1 : List (List Int)) (a1 : Int) (r1 : Int) (y0 : List Int) (y1 : List (List Int)) (w0 w : World) (hB : Below w0.heap.size w0 w)
  (ho0 : Kd.R (Kd.int .i64) 3 w w0.heap.size P0_ v0 l0) (ho1 : Kd.S (Kd.slice 3 (Kd.int .i64)) 22 w w0.heap.size P1_ v1 l1) (hap : ∀ k, P1_ k → some k ≠ v0.ownBlock) (h : laws_markDesk.f k l0 l1 a1 = some (r1, y0, y1)) :
  Calls Try.prog 17 #[.agg #[v0, v1], .int .i64 a1] w fun e w' => e = .returned (.int .i64 r1) ∧ Kd.R (Kd.int .i64) 3 w' w0.heap.size P0_ v0 y0 ∧ Kd.S (Kd.slice 3 (Kd.int .i64)) 22 w' w0.heap.size P1_ v1 y1 ∧ Below w0.heap.size w0 w' ∧ Kept w w' (fun k => P0_ k ∨ P1_ k) := by
 unfold laws_markDesk.f at h;obtain ⟨p, e1, h⟩ := Option.bind_eq_some_iff.mp h;obtain ⟨q, e2, h⟩ := Option.bind_eq_some_iff.mp h;obtain ⟨t, z0⟩ := p;obtain ⟨u, z1⟩ := q;simp only [Option.some.injEq, Prod.mk.injEq] at h;obtain ⟨rfl, rfl, rfl⟩ := h;have E1:=zM e1;have E2:=zM e2;obtain ⟨A, c, rfl⟩ := Kd.R_slice ho0;obtain ⟨B, d, rfl⟩ := Kd.S_slice ho1;have HO:=zM ho0;have HP:=zM ho1;have HA:=zM hap;have HB:=zM hB;have HL:=zM (Kd.R_lt ho0);have HW:=zM ho0.1;clear e1 e2 ho0 ho1 hap hB;have HX : Aside0 ((w.alloc (.cells #[.slice A l0.length c, .slice B l1.length d] 29)).heap[w.heap.size]? = some (.cells #[.slice A l0.length c, .slice B l1.length d] 29 (0, 0))) := ⟨World.alloc_heap_new w _⟩;go_enter Try.func17, Try.ntmps17
 go_wp2_with (first | (go_at_call 65; (with_reducible refine (laws_markIntS.calls k (fun k => some k = (Value.slice A l0.length c).ownBlock) _ l0 a1 t z0 w0 _ (zB HB.out _) (Kd.R_alloc (Kd.R_tight rfl HO.out) _) E1.out).mono ?_); clear E1; rintro e w2 ⟨rfl, hR, hB2, hK⟩; have hx := blk_kept HX.out hK (fun he => by have := HL.out _ he.symm; omega); have hx1 : w2.cell? ⟨w.heap.size, 1, none⟩ = some (.slice B l1.length d) := (blk_cell hx 1).trans rfl; have HR2:=zM hR; have HB2:=zM hB2; have HS2:=zM (Kd.S_kept (Kd.S_alloc HP.out _) hK (fun k hk he => HA.out k hk he)); have HK2:=zM hK; clear hR hB2 hK hx) | (go_at_call 66; (with_reducible refine (laws_markIntSS.calls k P1_ _ l1 t u z1 w0 _ HB2.out HS2.out E2.out).mono ?_); clear E2; rintro e w3 ⟨rfl, hS, hB3, hK3⟩; have HS3:=zM hS; have HB3:=zM hB3; have HK3:=zM hK3; clear hS hB3 hK3))
 go_ret;refine ⟨rfl, Kd.R_mono (Kd.R_kept (Kd.R_tight rfl HR2.out) HK3.out (fun k hk h1 => HA.out k h1 hk)) (fun k hk => HW.out k hk.symm), HS3.out, HB3.out, ?_⟩;exact (((Kept.refl w _).alloc _).then_ HK2.out (fun k hk => .inl (.inl (HW.out k hk.symm)))).then_ HK3.out (fun k hk => .inl (.inr hk))

/-! ### laws_heldIntS: function 67 -/
def laws_heldIntS.l0 : Nat → List Int → Int → Int → Option (Int)
 | 0, _, _, _ => none
 | k + 1, x0, x1, x5 => if x5 < (x0.length : Int) then (if 0 ≤ x5 then (if (rd x0 x5) = x1 then (laws_heldIntS.l0 k x0 (wrap64 (x1 + 1)) (wrap64 (x5 + 1))) else (some (-1))) else (none)) else (some x1)
def laws_heldIntS.f (k : Nat) (l0 : List Int) (a1 : Int) : Option (Int) := laws_heldIntS.l0 k l0 a1 0
theorem laws_heldIntS.mono_l : ∀ k, (∀ y0 y1 y2, LeO (laws_heldIntS.l0 k y0 y1 y2) (laws_heldIntS.l0 (k + 1) y0 y1 y2))
 | 0 => fun _ _ _ r h => by simp [laws_heldIntS.l0] at h
 | k + 1 => by
  have ih0 := laws_heldIntS.mono_l k
  ·intro y0 y1 y2
   unfold laws_heldIntS.l0
   exact zmono
theorem laws_heldIntS.mono : ∀ a0 a1 k, LeO (laws_heldIntS.f k a0 a1) (laws_heldIntS.f (k + 1) a0 a1) := by
 intro a0 a1 k;have ih0 := laws_heldIntS.mono_l k;unfold laws_heldIntS.f;exact zmono
set_option maxHeartbeats 8000000 in
set_option maxRecDepth 100000 in
theorem laws_heldIntS.calls (k : Nat) (A0 : Option Addr) (c0 : Nat) (l0 : List Int) (a1 : Int) (r : Int) (w : World) (hr0 : Kd.C (Kd.int .i64) w A0 l0.length l0) (hc0 : l0.length ≤ c0) (h : laws_heldIntS.f k l0 a1 = some r) :
  Calls Try.prog 67 #[.slice A0 l0.length c0, .int .i64 a1] w fun e w' => e = .returned (.int .i64 r) ∧ Drawn0 w w' := by
 have HR0:=zM hr0;have HC0:=zM hc0;clear hr0 hc0;have H : (laws_heldIntS.l0 k l0 a1 0) = some r := h;clear h;have H':=zM H;clear H;go_enter Try.func67, Try.ntmps67;go_wp2;go_loopg [1, 5] k (fun kq v1 v5 w' => ∃ (x1_1 : Int) (x5_1 : Int), v1 = .int .i64 x1_1 ∧ v5 = .int .i64 x5_1 ∧ Aside0 (laws_heldIntS.l0 kq l0 x1_1 x5_1 = some r) ∧ Aside0 (kq ≤ k) ∧ Drawn0 w w')
 case atStart => exact ⟨(a1), (0), zs0, zs0, H', ⟨Nat.le_refl _⟩, by repeat (first | exact Drawn0.refl _ | apply Drawn0.step)⟩
 case round =>
  clear H';obtain ⟨x1_1, x5_1, rfl, rfl, HA, HK1, ⟨m1, rfl⟩⟩ := hrel;cases gk with
  | zero => exact absurd HA.out (by simp [laws_heldIntS.l0])
  | succ k1 =>
   have H := HA.out;clear HA;simp only [laws_heldIntS.l0] at H;by_cases c3 : x5_1 < (l0.length : Int)
   ·rw [if_pos c3] at H;have c3b0 := decide_eq_true c3;clear c3;replace H := zn H; obtain ⟨c4, H⟩ := H;have c4b0 := decide_eq_true c4;clear c4;by_cases c5 : (rd l0 x5_1) = x1_1
    ·rw [if_pos c5] at H;have c5b0 := beq_iff_eq.mpr c5;have c5b1 := bne_eq_false_iff_eq.mpr c5;clear c5;have H':=zM H;clear H;have p462 : 0 ≤ (x5_1 : Int) := of_decide_eq_true zs1;have q462 : x5_1 < (l0.length : Int) := of_decide_eq_true zs1;obtain ⟨ad462, e462, hx462_0⟩ := Kd.at_int HR0.out x5_1 p462 q462;cases e462;replace p462 := eq_true p462;replace q462 := eq_true q462;go_wp2;go_roundg k1
     case measure => have := HK1.out; omega
     case rel => exact ⟨(wrap64 (x1_1 + 1)), (wrap64 (x5_1 + 1)), zs0, zs0, H', ⟨by have := HK1.out; omega⟩, by repeat (first | exact Drawn0.refl _ | apply Drawn0.step)⟩
    ·rw [if_neg c5] at H;have c5b0 := beq_eq_false_iff_ne.mpr c5;have c5b1 := bne_iff_ne.mpr c5;obtain rfl := Option.some.inj H;have p462 : 0 ≤ (x5_1 : Int) := of_decide_eq_true zs1;have q462 : x5_1 < (l0.length : Int) := of_decide_eq_true zs1;obtain ⟨ad462, e462, hx462_0⟩ := Kd.at_int HR0.out x5_1 p462 q462;cases e462;replace p462 := eq_true p462;replace q462 := eq_true q462;go_wp2;go_ret;exact ⟨by first | rfl | (simp; done) | (simp [*]; done), by repeat (first | exact Drawn0.refl _ | apply Drawn0.step)⟩
   ·rw [if_neg c3] at H;have c3b0 := decide_eq_false c3;clear c3;obtain rfl := Option.some.inj H;go_wp2;go_ret;exact ⟨by first | rfl | (simp; done) | (simp [*]; done), by repeat (first | exact Drawn0.refl _ | apply Drawn0.step)⟩

/-! ### laws_heldIntSS: function 68 -/
def laws_heldIntSS.l0 : Nat → List (List Int) → Int → Int → Option (Int)
 | 0, _, _, _ => none
 | k + 1, x0, x1, x5 => if x5 < (x0.length : Int) then (if 0 ≤ x5 then ((laws_heldIntS.f k (rd_L1 x0 x5) x1).bind fun t464 => (if t464 < 0 then (some (-1)) else (laws_heldIntSS.l0 k x0 t464 (wrap64 (x5 + 1))))) else (none)) else (some x1)
def laws_heldIntSS.f (k : Nat) (l0 : List (List Int)) (a1 : Int) : Option (Int) := laws_heldIntSS.l0 k l0 a1 0
theorem laws_heldIntSS.mono_l : ∀ k, (∀ y0 y1 y2, LeO (laws_heldIntSS.l0 k y0 y1 y2) (laws_heldIntSS.l0 (k + 1) y0 y1 y2))
 | 0 => fun _ _ _ r h => by simp [laws_heldIntSS.l0] at h
 | k + 1 => by
  have ih0 := laws_heldIntSS.mono_l k
  ·intro y0 y1 y2
   unfold laws_heldIntSS.l0
   have := @laws_heldIntS.mono; exact zmono
theorem laws_heldIntSS.mono : ∀ a0 a1 k, LeO (laws_heldIntSS.f k a0 a1) (laws_heldIntSS.f (k + 1) a0 a1) := by
 intro a0 a1 k;have ih0 := laws_heldIntSS.mono_l k;unfold laws_heldIntSS.f;have := @laws_heldIntS.mono; exact zmono
set_option maxHeartbeats 8000000 in
set_option maxRecDepth 100000 in
theorem laws_heldIntSS.calls (k : Nat) (A0 : Option Addr) (c0 : Nat) (l0 : List (List Int)) (a1 : Int) (r : Int) (w : World) (hr0 : Kd.C (Kd.slice 3 (Kd.int .i64)) w A0 l0.length l0) (hc0 : l0.length ≤ c0) (h : laws_heldIntSS.f k l0 a1 = some r) :
  Calls Try.prog 68 #[.slice A0 l0.length c0, .int .i64 a1] w fun e w' => e = .returned (.int .i64 r) ∧ Drawn0 w w' := by
 have HR0:=zM hr0;have HC0:=zM hc0;clear hr0 hc0;have H : (laws_heldIntSS.l0 k l0 a1 0) = some r := h;clear h;have H':=zM H;clear H;go_enter Try.func68, Try.ntmps68;go_wp2;go_loopg [1, 5] k (fun kq v1 v5 w' => ∃ (x1_1 : Int) (x5_1 : Int), v1 = .int .i64 x1_1 ∧ v5 = .int .i64 x5_1 ∧ Aside0 (laws_heldIntSS.l0 kq l0 x1_1 x5_1 = some r) ∧ Aside0 (kq ≤ k) ∧ Drawn0 w w')
 case atStart => exact ⟨(a1), (0), zs0, zs0, H', ⟨Nat.le_refl _⟩, by repeat (first | exact Drawn0.refl _ | apply Drawn0.step)⟩
 case round =>
  clear H';obtain ⟨x1_1, x5_1, rfl, rfl, HA, HK1, ⟨m1, rfl⟩⟩ := hrel;cases gk with
  | zero => exact absurd HA.out (by simp [laws_heldIntSS.l0])
  | succ k1 =>
   have H := HA.out;clear HA;simp only [laws_heldIntSS.l0] at H;by_cases c3 : x5_1 < (l0.length : Int)
   ·rw [if_pos c3] at H;have c3b0 := decide_eq_true c3;clear c3;replace H := zn H; obtain ⟨c4, H⟩ := H;have c4b0 := decide_eq_true c4;clear c4;replace H := zb H; obtain ⟨t464, A5, H⟩ := H; (try dsimp only at H);by_cases c6 : t464 < 0
    ·rw [if_pos c6] at H;have c6b0 := decide_eq_true c6;clear c6;obtain rfl := Option.some.inj H;have p463 : 0 ≤ (x5_1 : Int) := of_decide_eq_true zs1;have q463 : x5_1 < (l0.length : Int) := of_decide_eq_true zs1;obtain ⟨ad463, A463_0, c463_0, e463, hx463_0, hl463_0, hi463_0⟩ := at_L1 HR0.out x5_1 p463 q463;cases e463;have HR463_0:=zM hi463_0;have HC463_0:=zM hl463_0;clear hi463_0 hl463_0;replace p463 := eq_true p463;replace q463 := eq_true q463;go_wp2_with (first | (refine zg 67 (some 17) Try.func67 #[.slice A463_0 (rd_L1 l0 x5_1).length c463_0, .int .i64 x1_1] ?_; (with_reducible refine (laws_heldIntS.calls k1 _ _ (rd_L1 l0 x5_1) x1_1 t464 _ ?side1 ?side2 A5.out).mono ?_); (case side1 => exact (zs2 HR463_0)); (case side2 => exact HC463_0.out); rintro e w' ⟨rfl, ⟨nd, rfl⟩⟩; refine ⟨_, rfl, ?_⟩));go_ret;exact ⟨by first | rfl | (simp; done) | (simp [*]; done), by repeat (first | exact Drawn0.refl _ | apply Drawn0.step)⟩
    ·rw [if_neg c6] at H;have c6b0 := decide_eq_false c6;clear c6;have H':=zM H;clear H;have p463 : 0 ≤ (x5_1 : Int) := of_decide_eq_true zs1;have q463 : x5_1 < (l0.length : Int) := of_decide_eq_true zs1;obtain ⟨ad463, A463_0, c463_0, e463, hx463_0, hl463_0, hi463_0⟩ := at_L1 HR0.out x5_1 p463 q463;cases e463;have HR463_0:=zM hi463_0;have HC463_0:=zM hl463_0;clear hi463_0 hl463_0;replace p463 := eq_true p463;replace q463 := eq_true q463;go_wp2_with (first | (refine zg 67 (some 17) Try.func67 #[.slice A463_0 (rd_L1 l0 x5_1).length c463_0, .int .i64 x1_1] ?_; (with_reducible refine (laws_heldIntS.calls k1 _ _ (rd_L1 l0 x5_1) x1_1 t464 _ ?side1 ?side2 A5.out).mono ?_); (case side1 => exact (zs2 HR463_0)); (case side2 => exact HC463_0.out); rintro e w' ⟨rfl, ⟨nd, rfl⟩⟩; refine ⟨_, rfl, ?_⟩));go_roundg k1
     case measure => have := HK1.out; omega
     case rel => exact ⟨(t464), (wrap64 (x5_1 + 1)), zs0, zs0, H', ⟨by have := HK1.out; omega⟩, by repeat (first | exact Drawn0.refl _ | apply Drawn0.step)⟩
   ·rw [if_neg c3] at H;have c3b0 := decide_eq_false c3;clear c3;obtain rfl := Option.some.inj H;go_wp2;go_ret;exact ⟨by first | rfl | (simp; done) | (simp [*]; done), by repeat (first | exact Drawn0.refl _ | apply Drawn0.step)⟩

/-! ### laws_heldDesk: function 18 -/
def laws_heldDesk.f (k : Nat) (l0_0 : List Int) (l0_1 : List (List Int)) (a1 : Int) : Option (Int) := (laws_heldIntS.f k l0_0 a1).bind fun t466 => (if t466 < 0 then (some (-1)) else ((laws_heldIntSS.f k l0_1 t466).bind fun t467 => (if t467 < 0 then (some (-1)) else (some t467))))
theorem laws_heldDesk.mono : ∀ a0 a1 a2 k, LeO (laws_heldDesk.f k a0 a1 a2) (laws_heldDesk.f (k + 1) a0 a1 a2) := by
 intro a0 a1 a2 k;unfold laws_heldDesk.f;have := @laws_heldIntS.mono; have := @laws_heldIntSS.mono; exact zmono
set_option maxHeartbeats 8000000 in
set_option maxRecDepth 100000 in
theorem laws_heldDesk.calls (k : Nat) (A0_0 : Option Addr) (c0_0 : Nat) (l0_0 : List Int) (A0_1 : Option Addr) (c0_1 : Nat) (l0_1 : List (List Int)) (a1 : Int) (r : Int) (w : World) (hr0_0 : Kd.C (Kd.int .i64) w A0_0 l0_0.length l0_0) (hc0_0 : l0_0.length ≤ c0_0) (hr0_1 : Kd.C (Kd.slice 3 (Kd.int .i64)) w A0_1 l0_1.length l0_1) (hc0_1 : l0_1.length ≤ c0_1) (h : laws_heldDesk.f k l0_0 l0_1 a1 = some r) :
  Calls Try.prog 18 #[.agg #[.slice A0_0 l0_0.length c0_0, .slice A0_1 l0_1.length c0_1], .int .i64 a1] w fun e w' => e = .returned (.int .i64 r) ∧ Below w.heap.size w w' := by
 have hu29 := Try.underlying29;have HR0_0:=zM hr0_0;have HC0_0:=zM hc0_0;clear hr0_0 hc0_0;have HR0_1:=zM hr0_1;have HC0_1:=zM hc0_1;clear hr0_1 hc0_1;have HB:=zM (Below.refl w.heap.size w);have H : ((laws_heldIntS.f k l0_0 a1).bind fun t466 => (if t466 < 0 then (some (-1)) else ((laws_heldIntSS.f k l0_1 t466).bind fun t467 => (if t467 < 0 then (some (-1)) else (some t467))))) = some r := h;clear h;replace H := zb H; obtain ⟨t466, A3, H⟩ := H; (try dsimp only at H);by_cases c4 : t466 < 0
 ·rw [if_pos c4] at H;have c4b0 := decide_eq_true c4;clear c4;obtain rfl := Option.some.inj H;go_enter Try.func18, Try.ntmps18;go_wp2_with (first | ((with_reducible refine gate_dst (N := 2) rfl ?_); refine box_event zs3 (N := 2) zs3 (cs := #[.slice A0_0 l0_0.length c0_0, .slice A0_1 l0_1.length c0_1]) (t := 29) zs4 ?_; intro gb465 hg w5 hbox hb; have BK465:=zM (hbox); have GW465 := zg1 (zs5 HB) hg; have GE465 := zg1 (zs5 HB) hg; replace HB:=zM (below_step (zs5 HB) hb); clear hb hbox hg; have ⟨hcz6_0, hfz6_0⟩ := cy0 BK465.out; have ⟨hcz6_1, hfz6_1⟩ := cy1 BK465.out) | (refine zg 67 (some 8) Try.func67 #[.slice A0_0 l0_0.length c0_0, .int .i64 a1] ?_; (with_reducible refine (laws_heldIntS.calls k _ _ l0_0 a1 t466 _ ?side1 ?side2 A3.out).mono ?_); (case side1 => exact (zs6 HR0_0 HB)); (case side2 => exact HC0_0.out); rintro e w' ⟨rfl, ⟨nd, rfl⟩⟩; refine ⟨_, rfl, ?_⟩));go_ret;exact ⟨zs7, (zs8 HB GE465)⟩
 ·rw [if_neg c4] at H;have c4b0 := decide_eq_false c4;clear c4;replace H := zb H; obtain ⟨t467, A7, H⟩ := H; (try dsimp only at H);by_cases c8 : t467 < 0
  ·rw [if_pos c8] at H;have c8b0 := decide_eq_true c8;clear c8;obtain rfl := Option.some.inj H;go_enter Try.func18, Try.ntmps18;go_wp2_with (first | ((with_reducible refine gate_dst (N := 2) rfl ?_); refine box_event zs3 (N := 2) zs3 (cs := #[.slice A0_0 l0_0.length c0_0, .slice A0_1 l0_1.length c0_1]) (t := 29) zs4 ?_; intro gb465 hg w9 hbox hb; have BK465:=zM (hbox); have GW465 := zg1 (zs5 HB) hg; have GE465 := zg1 (zs5 HB) hg; replace HB:=zM (below_step (zs5 HB) hb); clear hb hbox hg; have ⟨hcz10_0, hfz10_0⟩ := cy0 BK465.out; have ⟨hcz10_1, hfz10_1⟩ := cy1 BK465.out) | (refine zg 67 (some 8) Try.func67 #[.slice A0_0 l0_0.length c0_0, .int .i64 a1] ?_; (with_reducible refine (laws_heldIntS.calls k _ _ l0_0 a1 t466 _ ?side1 ?side2 A3.out).mono ?_); (case side1 => exact (zs6 HR0_0 HB)); (case side2 => exact HC0_0.out); rintro e w' ⟨rfl, ⟨nd, rfl⟩⟩; refine ⟨_, rfl, ?_⟩) | (refine zg 68 (some 14) Try.func68 #[.slice A0_1 l0_1.length c0_1, .int .i64 t466] ?_; (with_reducible refine (laws_heldIntSS.calls k _ _ l0_1 t466 t467 _ ?side1 ?side2 A7.out).mono ?_); (case side1 => exact (zs29 HR0_1)); (case side2 => exact HC0_1.out); rintro e w' ⟨rfl, ⟨nd, rfl⟩⟩; refine ⟨_, rfl, ?_⟩));go_ret;exact ⟨zs7, (zs8 HB GE465)⟩
  ·rw [if_neg c8] at H;have c8b0 := decide_eq_false c8;clear c8;obtain rfl := Option.some.inj H;go_enter Try.func18, Try.ntmps18;go_wp2_with (first | ((with_reducible refine gate_dst (N := 2) rfl ?_); refine box_event zs3 (N := 2) zs3 (cs := #[.slice A0_0 l0_0.length c0_0, .slice A0_1 l0_1.length c0_1]) (t := 29) zs4 ?_; intro gb465 hg w11 hbox hb; have BK465:=zM (hbox); have GW465 := zg1 (zs5 HB) hg; have GE465 := zg1 (zs5 HB) hg; replace HB:=zM (below_step (zs5 HB) hb); clear hb hbox hg; have ⟨hcz12_0, hfz12_0⟩ := cy0 BK465.out; have ⟨hcz12_1, hfz12_1⟩ := cy1 BK465.out) | (refine zg 67 (some 8) Try.func67 #[.slice A0_0 l0_0.length c0_0, .int .i64 a1] ?_; (with_reducible refine (laws_heldIntS.calls k _ _ l0_0 a1 t466 _ ?side1 ?side2 A3.out).mono ?_); (case side1 => exact (zs6 HR0_0 HB)); (case side2 => exact HC0_0.out); rintro e w' ⟨rfl, ⟨nd, rfl⟩⟩; refine ⟨_, rfl, ?_⟩) | (refine zg 68 (some 14) Try.func68 #[.slice A0_1 l0_1.length c0_1, .int .i64 t466] ?_; (with_reducible refine (laws_heldIntSS.calls k _ _ l0_1 t466 t467 _ ?side1 ?side2 A7.out).mono ?_); (case side1 => exact (zs29 HR0_1)); (case side2 => exact HC0_1.out); rintro e w' ⟨rfl, ⟨nd, rfl⟩⟩; refine ⟨_, rfl, ?_⟩));go_ret;exact ⟨zs7, (zs8 HB GE465)⟩

end Go.Proofs.Ytbbhdgpiocojaaa.LA
