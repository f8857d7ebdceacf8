/- Printed out of the translation: functions with the answers of the Go code, and their contracts; no further conditions. -/
import Derived.Test.YtnpoeeliaolbaaaGreatDoorLAx0
import Derived.Test.YtnpoeeliaolbaaaGreatDoorLAx6
import Derived.Test.YtnpoeeliaolbaaaGreatDoorLAx9
namespace Go.Proofs.YtnpoeeliaolbaaaGreatDoor.LA
open Go.RowKit Go.Proofs.YtnpoeeliaolbaaaGreatDoorV.PrintWords Go.Proofs.YtnpoeeliaolbaaaGreatDoorV.PrintLast Go.Proofs.YtnpoeeliaolbaaaGreatDoorV.PrintMore
attribute [local go_sem] max2_int min2_int max_two min_two max_three min_three max_four min_four
set_option linter.unusedVariables false
set_option linter.unusedSimpArgs false
set_option maxHeartbeats 16000000
set_option maxRecDepth 100000
mutual
def F115.l0 : Nat → List Int → Int → Int → Int → List Int → Int → Option (Int × List Int)
 | 0, _, _, _, _, _, _ => none
 | k + 1, x1, x3, x10, x11, x1000, x1001 => if x11 < x10 then ((F19.f k x1000 x1001 (wrap64 (x10 - x11))).bind fun bt317 => ((F115.f k x1000 bt317.2 x1 x11 (wrap64 (x11 + bt317.1)) x10).bind fun bt319 => (F115.l0 k bt319.2 x3 x10 (wrap64 ((wrap64 (x11 + bt317.1)) + 1)) x1000 bt319.1))) else (F115.l1 k x1 x3 x10 (wrap64 (x10 + 1)) x1000 x1001)
def F115.l1 : Nat → List Int → Int → Int → Int → List Int → Int → Option (Int × List Int)
 | 0, _, _, _, _, _, _ => none
 | k + 1, x1, x3, x10, x11, x1000, x1001 => if x11 ≤ x3 then ((F19.f k x1000 x1001 (wrap64 ((wrap64 (x3 - x11)) + 1))).bind fun bt321 => ((F115.f k x1000 bt321.2 x1 x11 (wrap64 (x11 + bt321.1)) x10).bind fun bt323 => (F115.l1 k bt323.2 x3 x10 (wrap64 ((wrap64 (x11 + bt321.1)) + 1)) x1000 bt323.1))) else (some (x1001, x1))
def F115.f : Nat → List Int → Int → List Int → Int → Int → Int → Option (Int × List Int)
 | 0, _, _, _, _, _, _ => none
 | k + 1, s0_0, s0_1, l1, a2, a3, a4 => if a2 > a3 then (some (s0_1, l1)) else ((F19.f k s0_0 s0_1 (wrap64 ((wrap64 (a3 - a2)) + 1))).bind fun bt314 => (if 0 ≤ (wrap64 ((wrap64 (a2 + bt314.1)) - 1)) then (if (wrap64 ((wrap64 (a2 + bt314.1)) - 1)) < (l1.length : Int) then (F115.l0 k (l1.set ((wrap64 ((wrap64 (a2 + bt314.1)) - 1)) : Int).toNat a4) a3 (wrap64 (a2 + bt314.1)) a2 s0_0 bt314.2) else (none)) else (none)))
end
theorem F115.ml : ∀ k, (∀ y0 y1 y2 y3 y4 y5, LeO (F115.f k y0 y1 y2 y3 y4 y5) (F115.f (k + 1) y0 y1 y2 y3 y4 y5)) ∧ (∀ y0 y1 y2 y3 y4 y5, LeO (F115.l0 k y0 y1 y2 y3 y4 y5) (F115.l0 (k + 1) y0 y1 y2 y3 y4 y5)) ∧ (∀ y0 y1 y2 y3 y4 y5, LeO (F115.l1 k y0 y1 y2 y3 y4 y5) (F115.l1 (k + 1) y0 y1 y2 y3 y4 y5))
 | 0 => ⟨fun _ _ _ _ _ _ r h => by simp [F115.f] at h, fun _ _ _ _ _ _ r h => by simp [F115.l0] at h, fun _ _ _ _ _ _ r h => by simp [F115.l1] at h⟩
 | k + 1 => by
  obtain ⟨ih0, ih1, ih2⟩ := F115.ml k
  refine ⟨?_, ?_, ?_⟩
  ·intro y0 y1 y2 y3 y4 y5
   unfold F115.f
   have := @F19.mono; exact zm
  ·intro y0 y1 y2 y3 y4 y5
   unfold F115.l0
   have := @F19.mono; exact zm
  ·intro y0 y1 y2 y3 y4 y5
   unfold F115.l1
   have := @F19.mono; exact zm
theorem F115.mono : ∀ a0 a1 a2 a3 a4 a5 k, LeO (F115.f k a0 a1 a2 a3 a4 a5) (F115.f (k + 1) a0 a1 a2 a3 a4 a5) := by
 intro a0 a1 a2 a3 a4 a5 k;obtain ⟨ih0, ih1, ih2⟩ := F115.ml k;exact ih0 a0 a1 a2 a3 a4 a5
theorem F115.calls (k : Nat) : ∀ (g : Nat) (s0_0 : List Int) (s0_1 : Int) (P1_ : Nat → Prop) (u9000_ : Value) (l1 : List Int) (a2 : Int) (a3 : Int) (a4 : Int) (r1 : Int) (r2 : List Int) (w0 w : World) (hI : Iq w0 w g s0_0 s0_1) (hB : Below w0.heap.size w0 w) (ho1 : Kd.R (Kd.int .i64) 3 w w0.heap.size P1_ u9000_ l1) (h : F115.f k s0_0 s0_1 l1 a2 a3 a4 = some (r1, r2)),
  Calls Tryz.prog 115 #[.pointer (some ⟨g, 0, none⟩), u9000_, .int .i64 a2, .int .i64 a3, .int .i64 a4] w fun e w' => e = .returned (.tuple #[]) ∧ Iq w0 w' g s0_0 r1 ∧ Kd.R (Kd.int .i64) 3 w' w0.heap.size (fun k_ => (P1_ k_ ∨ w.heap.size ≤ k_)) u9000_ r2 ∧ Below w0.heap.size w0 w' ∧ Kept w w' (fun k_ => (P1_ k_) ∨ k_ = g) := by
 induction k using Nat.strongRecOn with
 | _ k ih =>
 intro g s0_0 s0_1 P1_ u9000_ l1 a2 a3 a4 r1 r2 w0 w hI hB ho1 h;cases k with
 | zero => exact absurd h (by simp [F115.f])
 | succ k =>
 simp only [F115.f] at h;have HO1:=zM (show Kd.R (Kd.int .i64) 3 w w0.heap.size (fun k_ => (P1_ k_ ∨ w.heap.size ≤ k_)) u9000_ l1 from Kd.Rm ho1 (fun k_ hk => (.inl hk)));have HI0:=zM hI;have HL:=zM hB.size;clear hI;have HK:=zM (Kept.refl w (fun k_ => (P1_ k_) ∨ k_ = g));have HW0:=zM hB.size;have HB:=zM hB;clear hB;have H : (if a2 > a3 then (some (s0_1, l1)) else ((F19.f k s0_0 s0_1 (wrap64 ((wrap64 (a3 - a2)) + 1))).bind fun bt314 => (if 0 ≤ (wrap64 ((wrap64 (a2 + bt314.1)) - 1)) then (if (wrap64 ((wrap64 (a2 + bt314.1)) - 1)) < (l1.length : Int) then (F115.l0 k (l1.set ((wrap64 ((wrap64 (a2 + bt314.1)) - 1)) : Int).toNat a4) a3 (wrap64 (a2 + bt314.1)) a2 s0_0 bt314.2) else (none)) else (none)))) = some (r1, r2) := h;clear h;by_cases c6 : a2 > a3
 ·rw [if_pos c6] at H;have c6b0 : decide (a3 < a2) = true := decide_eq_true c6;clear c6;simp only [Option.some.injEq, Prod.mk.injEq] at H;obtain ⟨rfl, rfl⟩ := H;go_enter Tryz.func115, Tryz.ntmps115;go_wp2;(first | go_end0 | ((try simp only [Exit.inBlock, Exit.then]); refine bodyPost_ret (results_none rfl _ _ _) rfl ?_));exact ⟨zs6, (zs9 HI0), (zs5 HO1), (zs11 HB HI0), (zs21 HK)⟩
 ·rw [if_neg c6] at H;have c6b0 : decide (a3 < a2) = false := decide_eq_false c6;clear c6;replace H := zb H; obtain ⟨⟨t314, t315⟩, A7, H⟩ := H; (try dsimp only at H);obtain ⟨ji8, hji8⟩ : ∃ j_ : Int, (wrap64 ((wrap64 (a2 + t314)) - 1)) = j_ := ⟨_, rfl⟩;(replace H : (if 0 ≤ (ji8) then (if (ji8) < (l1.length : Int) then (F115.l0 k (l1.set ((ji8) : Int).toNat a4) a3 (wrap64 (a2 + t314)) a2 s0_0 t315) else (none)) else (none)) = some (r1, r2) := by first | (rw [hji8] at H; exact H) | (simp only [hji8] at H ⊢; exact H));(try rw [hji8] at A7);have hji8w : (IntKind.i64.wrap ((wrap64 (a2 + t314)) - 1)) = ji8 := (i64_w _).trans hji8;replace H := zn H; obtain ⟨c9, H⟩ := H;have c9b0 := decide_eq_true c9;clear c9;replace H := zn H; obtain ⟨c10, H⟩ := H;have c10b0 := decide_eq_true c10;clear c10;obtain ⟨y316, hy316⟩ : ∃ y_ : List Int, y_ = (l1.set ((ji8) : Int).toNat a4) := ⟨_, rfl⟩; rw [← hy316] at H; have Ny316:=zM hy316; clear hy316;have H':=zM H;clear H;go_enter Tryz.func115, Tryz.ntmps115;go_wp2_with (first | (refine zg 19 (some 23) Tryz.func19 #[.pointer (some ⟨g, 0, none⟩), .int .i64 (wrap64 ((wrap64 (a3 - a2)) + 1))] ?_; (with_reducible refine (F19.calls k g s0_0 s0_1 (wrap64 ((wrap64 (a3 - a2)) + 1)) t314 t315 w0 _ (zs9 HI0) (zs11 HB HI0) A7.out).mono ?_); rintro e w12 ⟨rfl, hi, hb, hk⟩; refine ⟨_, rfl, ?_⟩; replace HO1:=zM (Kd.Rm (Kd.Rk (Iq.apart (show Iq w0 _ g s0_0 s0_1 from (zs9 HI0)) (zs5 HO1) zd) hk (fun _ h => h.2)) (fun _ h => h.1)); replace HK:=zM (Kept.of_keep (S := (fun k_ => (P1_ k_) ∨ k_ = g)) (zs21 HK) hk (.inl (.inr rfl))); replace HB:=zM (hb); replace HI0:=zM (hi); clear hb hk hi; have p11 : 0 ≤ ((ji8) : Int) := of_decide_eq_true zs0; have q11 : ((ji8) : Int) < ((l1.length : Int) : Int) := of_decide_eq_true zs0; obtain ⟨go11, co11, eo11, gb11, gl11, cl11, HG11⟩ := Kd.R_form HO1.out zo_; (first | cases eo11 | (injection eo11 with ea_ en_ ec_; (first | subst ea_ | (injection ea_ with ea_; subst ea_)); subst ec_; clear en_)); have GB11:=zM gb11; have GG11:=zM HG11; clear gb11 gl11 HG11; have HMgo11:=zM (show (P1_ go11 ∨ w.heap.size ≤ go11) from (HO1.out.1 _ rfl)); obtain ⟨hx11_0, hf11_0⟩ := Kd.R_celln 0 HO1.out ((ji8) : Int) p11 q11; replace p11 := eq_true p11; replace q11 := eq_true q11; obtain ⟨hy13_, hz13_⟩ := Kd.R_celln 0 HO1.out ((ji8) : Int) (of_decide_eq_true zs0) (of_decide_eq_true zs0); have HP13 := Kd.R_putg HO1.out ((ji8) : Int) a4) | ((with_reducible refine gate_store (t := 3) (p := 29) rfl ?_); refine store_event (t := 3) (p := 29) (v := ?vo_w14) (w1 := (w12.setCell ⟨go11, ((ji8) : Int).toNat, none⟩ (.int .i64 a4))) ?hg ?ho ?hn ?hr ?_; (case ho => rfl); (case hg => rfl); (case hn => rfl); (case hr => first | (go_simp; done) | (go_simp; rfl)); intro w14 hw; have hg : w12.grownBy w14 (some go11) := (by rw [hw]; exact HP13.2); have hp_ : Kd.R (Kd.int .i64) 3 w14 w0.heap.size (fun k_ => (P1_ k_ ∨ w.heap.size ≤ k_)) (.slice (some ⟨go11, 0, none⟩) l1.length co11) y316 := (by rw [hw, Ny316.out]; exact HP13.1); clear HP13; replace HI0:=zM (Iq.grown (zs9 HI0) hg (Iq.own_ne HI0.out HO1.out zd)); replace HB:=zM ((by rw [hw]; exact zD (HB.out) GB11.out : Below w0.heap.size w0 w14)); replace HK:=zM (Kept.of_grown (S := (fun k_ => (P1_ k_) ∨ k_ = g)) hg (zs21 HK) (fun k_ e_ => Or.imp_left Or.inl ((HO1.out.1 k_ e_)))); replace HO1:=zM (hp_); clear hg hw hp_));go_loopg [11] k (fun kq v11 w' => ∃ (x1_1 : List Int) (x11_1 : Int) (x1001_1 : Int), v11 = .int .i64 x11_1 ∧ Qo (F115.l0 kq x1_1 a3 (wrap64 (a2 + t314)) x11_1 s0_0 x1001_1 = some (r1, r2)) ∧ Qo (kq ≤ k) ∧ Qo (Kd.R (Kd.int .i64) 3 w' w0.heap.size (fun k_ => (P1_ k_ ∨ w.heap.size ≤ k_)) (.slice (some ⟨go11, 0, none⟩) l1.length co11) x1_1) ∧ Qo (Iq w0 w' g s0_0 x1001_1) ∧ Qo (Kept w w' (fun k_ => (P1_ k_) ∨ k_ = g)) ∧ Qo (Below w0.heap.size w0 w'))
  case atStart => exact ⟨(y316), (a2), (t315), zs7, H', ⟨Nat.le_refl _⟩, ⟨(zs5 HO1)⟩, ⟨(zs9 HI0)⟩, ⟨(zs21 HK)⟩, ⟨(zs11 HB HI0)⟩⟩
  case round =>
   clear H';obtain ⟨x1_1, x11_1, x1001_1, rfl, HA, HK1, HO_1, HI0, HK, HB⟩ := hrel;have hl1_1 := (Kd.rr' HO_1.out).1;rw [hl1_1] at HO_1;(try simp only [hl1_1]);cases gk with
   | zero => exact absurd HA.out (by simp [F115.l0])
   | succ k1 =>
    have H := HA.out;clear HA;simp only [F115.l0] at H;by_cases c15 : x11_1 < (wrap64 (a2 + t314))
    ·rw [if_pos c15] at H;have c15b0 := decide_eq_true c15;clear c15;replace H := zb H; obtain ⟨⟨t317, t318⟩, A16, H⟩ := H; (try dsimp only at H);replace H := zb H; obtain ⟨⟨t319, t320⟩, A17, H⟩ := H; (try dsimp only at H);have H':=zM H;clear H;go_wp2_with (first | (refine zg 19 (some 39) Tryz.func19 #[.pointer (some ⟨g, 0, none⟩), .int .i64 (wrap64 ((wrap64 (a2 + t314)) - x11_1))] ?_; (with_reducible refine (F19.calls k1 g s0_0 x1001_1 (wrap64 ((wrap64 (a2 + t314)) - x11_1)) t317 t318 w0 _ (zs9 HI0) (zs11 HB HI0) A16.out).mono ?_); rintro e w18 ⟨rfl, hi, hb, hk⟩; refine ⟨_, rfl, ?_⟩; replace HO_1:=zM (Kd.Rm (Kd.Rk (Iq.apart (show Iq w0 _ g s0_0 x1001_1 from (zs9 HI0)) (zs5 HO_1) zd) hk (fun _ h => h.2)) (fun _ h => h.1)); replace HK:=zM (Kept.of_keep (S := (fun k_ => (P1_ k_) ∨ k_ = g)) (zs21 HK) hk (.inl (.inr rfl))); replace HB:=zM (hb); replace HI0:=zM (hi); clear hb hk hi) | (refine zg 115 (some 46) Tryz.func115 #[.pointer (some ⟨g, 0, none⟩), .slice (some ⟨go11, 0, none⟩) x1_1.length co11, .int .i64 x11_1, .int .i64 (wrap64 (x11_1 + t317)), .int .i64 (wrap64 (a2 + t314))] ?_; (with_reducible refine (ih k1 (by have := HK1.out; omega) g s0_0 t318 (fun k_ => some k_ = (.slice (some ⟨go11, 0, none⟩) x1_1.length co11 : Value).ownBlock) (.slice (some ⟨go11, 0, none⟩) x1_1.length co11) x1_1 x11_1 (wrap64 (x11_1 + t317)) (wrap64 (a2 + t314)) t319 t320 w0 _ (zs9 HI0) (zs11 HB HI0) ?side3 A17.out).mono ?_); (case side3 => exact Kd.R_tight rfl HO_1.out); rintro e w19 ⟨rfl, hi, hy0, hb, hkp⟩; refine ⟨_, rfl, ?_⟩; replace HI0:=zM (hi); replace HK:=zM (Kept.then_ (S := (fun k_ => (P1_ k_) ∨ k_ = g)) (zs21 HK) hkp (fun k_ hs_ => Or.elim hs_ (fun hs_ => (fun e_ => Or.imp_left Or.inl ((HO_1.out.1 k_ e_.symm))) hs_) (fun e_ => .inl (.inr e_)))); replace HO_1:=zM (Kd.R_reok rfl hy0 (fun k_ e_ => HO_1.out.1 k_ e_)); replace HB:=zM (hb); clear hb hkp hy0));(try simp only [← hl1_1]);go_roundg k1
     case measure => have := HK1.out; omega
     case rel => exact ⟨(t320), (wrap64 ((wrap64 (x11_1 + t317)) + 1)), (t319), zs7, H', ⟨by have := HK1.out; omega⟩, ⟨by (try simp only [hl1_1]); (with_reducible repeat (first | apply Kd.Ra | apply Kd.RdN | apply Kd.Rd)); exact HO_1.out⟩, ⟨(zs9 HI0)⟩, ⟨(zs21 HK)⟩, ⟨(zs11 HB HI0)⟩⟩
    ·rw [if_neg c15] at H;have c15b0 := decide_eq_false c15;clear c15;have H':=zM H;clear H;go_wp2;go_loopg [11] k1 (fun kq v11 w' => ∃ (x1_2 : List Int) (x11_2 : Int) (x1001_2 : Int), v11 = .int .i64 x11_2 ∧ Qo (F115.l1 kq x1_2 a3 (wrap64 (a2 + t314)) x11_2 s0_0 x1001_2 = some (r1, r2)) ∧ Qo (kq ≤ k1) ∧ Qo (Kd.R (Kd.int .i64) 3 w' w0.heap.size (fun k_ => (P1_ k_ ∨ w.heap.size ≤ k_)) (.slice (some ⟨go11, 0, none⟩) x1_1.length co11) x1_2) ∧ Qo (Iq w0 w' g s0_0 x1001_2) ∧ Qo (Kept w w' (fun k_ => (P1_ k_) ∨ k_ = g)) ∧ Qo (Below w0.heap.size w0 w'))
     case atStart => exact ⟨(x1_1), (wrap64 ((wrap64 (a2 + t314)) + 1)), (x1001_1), zs7, H', ⟨Nat.le_refl _⟩, ⟨by (try simp only [hl1_1]); (with_reducible repeat (first | apply Kd.Ra | apply Kd.RdN | apply Kd.Rd)); exact HO_1.out⟩, ⟨(zs9 HI0)⟩, ⟨(zs21 HK)⟩, ⟨(zs11 HB HI0)⟩⟩
     case round =>
      clear H';obtain ⟨x1_2, x11_2, x1001_2, rfl, HA, HK2, HO_1, HI0, HK, HB⟩ := hrel;have hl1_2 := (Kd.rr' HO_1.out).1;rw [hl1_2] at HO_1;(try simp only [hl1_2]);cases gk with
      | zero => exact absurd HA.out (by simp [F115.l1])
      | succ k2 =>
       have H := HA.out;clear HA;simp only [F115.l1] at H;by_cases c20 : x11_2 ≤ a3
       ·rw [if_pos c20] at H;have c20b0 := decide_eq_true c20;clear c20;replace H := zb H; obtain ⟨⟨t321, t322⟩, A21, H⟩ := H; (try dsimp only at H);replace H := zb H; obtain ⟨⟨t323, t324⟩, A22, H⟩ := H; (try dsimp only at H);have H':=zM H;clear H;go_wp2_with (first | (refine zg 19 (some 60) Tryz.func19 #[.pointer (some ⟨g, 0, none⟩), .int .i64 (wrap64 ((wrap64 (a3 - x11_2)) + 1))] ?_; (with_reducible refine (F19.calls k2 g s0_0 x1001_2 (wrap64 ((wrap64 (a3 - x11_2)) + 1)) t321 t322 w0 _ (zs9 HI0) (zs11 HB HI0) A21.out).mono ?_); rintro e w23 ⟨rfl, hi, hb, hk⟩; refine ⟨_, rfl, ?_⟩; replace HO_1:=zM (Kd.Rm (Kd.Rk (Iq.apart (show Iq w0 _ g s0_0 x1001_2 from (zs9 HI0)) (zs5 HO_1) zd) hk (fun _ h => h.2)) (fun _ h => h.1)); replace HK:=zM (Kept.of_keep (S := (fun k_ => (P1_ k_) ∨ k_ = g)) (zs21 HK) hk (.inl (.inr rfl))); replace HB:=zM (hb); replace HI0:=zM (hi); clear hb hk hi) | (refine zg 115 (some 67) Tryz.func115 #[.pointer (some ⟨g, 0, none⟩), .slice (some ⟨go11, 0, none⟩) x1_2.length co11, .int .i64 x11_2, .int .i64 (wrap64 (x11_2 + t321)), .int .i64 (wrap64 (a2 + t314))] ?_; (with_reducible refine (ih k2 (by have := HK1.out; have := HK2.out; omega) g s0_0 t322 (fun k_ => some k_ = (.slice (some ⟨go11, 0, none⟩) x1_2.length co11 : Value).ownBlock) (.slice (some ⟨go11, 0, none⟩) x1_2.length co11) x1_2 x11_2 (wrap64 (x11_2 + t321)) (wrap64 (a2 + t314)) t323 t324 w0 _ (zs9 HI0) (zs11 HB HI0) ?side3 A22.out).mono ?_); (case side3 => exact Kd.R_tight rfl HO_1.out); rintro e w24 ⟨rfl, hi, hy0, hb, hkp⟩; refine ⟨_, rfl, ?_⟩; replace HI0:=zM (hi); replace HK:=zM (Kept.then_ (S := (fun k_ => (P1_ k_) ∨ k_ = g)) (zs21 HK) hkp (fun k_ hs_ => Or.elim hs_ (fun hs_ => (fun e_ => Or.imp_left Or.inl ((HO_1.out.1 k_ e_.symm))) hs_) (fun e_ => .inl (.inr e_)))); replace HO_1:=zM (Kd.R_reok rfl hy0 (fun k_ e_ => HO_1.out.1 k_ e_)); replace HB:=zM (hb); clear hb hkp hy0));(try simp only [← hl1_2]);go_roundg k2
        case measure => have := HK1.out; have := HK2.out; omega
        case rel => exact ⟨(t324), (wrap64 ((wrap64 (x11_2 + t321)) + 1)), (t323), zs7, H', ⟨by have := HK1.out; have := HK2.out; omega⟩, ⟨by (try simp only [hl1_1]); (try simp only [hl1_2]); (with_reducible repeat (first | apply Kd.Ra | apply Kd.RdN | apply Kd.Rd)); exact HO_1.out⟩, ⟨(zs9 HI0)⟩, ⟨(zs21 HK)⟩, ⟨(zs11 HB HI0)⟩⟩
       ·rw [if_neg c20] at H;have c20b0 := decide_eq_false c20;clear c20;simp only [Option.some.injEq, Prod.mk.injEq] at H;obtain ⟨rfl, rfl⟩ := H;go_wp2;(first | go_end0 | ((try simp only [Exit.inBlock, Exit.then]); refine bodyPost_ret (results_none rfl _ _ _) rfl ?_));(exact ⟨by first | rfl | (simp [eN, eS] <;> rfl) | (simp only [← hji8]; first | rfl | (simp [eN, eS] <;> rfl)) | (simp [*, eN, eS] <;> rfl), (zs9 HI0), (by first | exact (zs5 HO_1) | (simp only [hl1_1, hl1_2]; exact (zs5 HO_1))), (zs11 HB HI0), (zs21 HK)⟩)
def F81.f (k : Nat) (s0_0 : List Int) (s0_1 : Int) (a1 : Int) : Option (List Int × Int) := (F19.f k s0_0 s0_1 3).bind fun bt325 => (if bt325.1 = 0 then ((F78.f k s0_0 bt325.2 a1).bind fun bt327 => (some (bt327.1, bt327.2))) else ((F19.f k s0_0 bt325.2 7).bind fun bt331 => (if 0 ≤ (wrap64 (1 + bt331.1)) then (if (wrap64 (1 + bt331.1) : Int).toNat ≤ 35184372088832 then ((F115.f k s0_0 bt331.2 (List.replicate (wrap64 (1 + bt331.1) : Int).toNat 0) 1 (wrap64 (1 + bt331.1)) 0).bind fun bt336 => (some (bt336.2, bt336.1))) else (none)) else (none))))
theorem F81.mono : ∀ a0 a1 a2 k, LeO (F81.f k a0 a1 a2) (F81.f (k + 1) a0 a1 a2) := by
 intro a0 a1 a2 k;unfold F81.f;have := @F115.mono; have := @F19.mono; have := @F78.mono; exact zm
theorem F81.calls (k : Nat) (g : Nat) (s0_0 : List Int) (s0_1 : Int) (a1 : Int) (r1 : List Int) (r2 : Int) (w0 w : World) (hI : Iq w0 w g s0_0 s0_1) (hB : Below w0.heap.size w0 w) (h : F81.f k s0_0 s0_1 a1 = some (r1, r2)) :
  Calls Tryz.prog 81 #[.pointer (some ⟨g, 0, none⟩), .int .i64 a1] w fun e w' => ∃ v0_ : Value, e = .returned (v0_) ∧ Kd.R (Kd.int .i64) 3 w' w.heap.size (fun _ => True) v0_ r1 ∧ Iq w0 w' g s0_0 r2 ∧ Below w0.heap.size w0 w' ∧ KB w w' g none := by
 have HI0:=zM hI;have HK:=zM (KB.refl w g none);have HL:=zM hB.size;clear hI;have HW0:=zM hB.size;have HB:=zM hB;clear hB;have H : ((F19.f k s0_0 s0_1 3).bind fun bt325 => (if bt325.1 = 0 then ((F78.f k s0_0 bt325.2 a1).bind fun bt327 => (some (bt327.1, bt327.2))) else ((F19.f k s0_0 bt325.2 7).bind fun bt331 => (if 0 ≤ (wrap64 (1 + bt331.1)) then (if (wrap64 (1 + bt331.1) : Int).toNat ≤ 35184372088832 then ((F115.f k s0_0 bt331.2 (List.replicate (wrap64 (1 + bt331.1) : Int).toNat 0) 1 (wrap64 (1 + bt331.1)) 0).bind fun bt336 => (some (bt336.2, bt336.1))) else (none)) else (none))))) = some (r1, r2) := h;clear h;replace H := zb H; obtain ⟨⟨t325, t326⟩, A3, H⟩ := H; (try dsimp only at H);by_cases c4 : t325 = 0
 ·rw [if_pos c4] at H;have c4b0 := beq_iff_eq.mpr c4;have c4b1 := bne_eq_false_iff_eq.mpr c4;clear c4;replace H := zb H; obtain ⟨⟨t327, t330⟩, A5, H⟩ := H; (try dsimp only at H);simp only [Option.some.injEq, Prod.mk.injEq] at H;obtain ⟨rfl, rfl⟩ := H;go_enter Tryz.func81, Tryz.ntmps81;go_wp2_with (first | (refine zg 19 (some 8) Tryz.func19 #[.pointer (some ⟨g, 0, none⟩), .int .i64 3] ?_; (with_reducible refine (F19.calls k g s0_0 s0_1 3 t325 t326 w0 _ (zs9 HI0) (zs11 HB HI0) A3.out).mono ?_); rintro e w6 ⟨rfl, hi, hb, hk⟩; refine ⟨_, rfl, ?_⟩; replace HK:=zM (KB.trans (zs10 HK) hk (.inl rfl)); replace HB:=zM (hb); replace HI0:=zM (hi); clear hb hk hi) | (refine zg 78 (some 12) Tryz.func78 #[.pointer (some ⟨g, 0, none⟩), .int .i64 a1] ?_; (with_reducible refine (F78.calls k g s0_0 t326 a1 t327 t330 w0 _ (zs9 HI0) (zs11 HB HI0) A5.out).mono ?_); rintro e w7 ⟨v328, rfl, ho0, hi, hb, hk⟩; refine ⟨_, rfl, ?_⟩; have HO329:=zM (Kd.Rl ho0 (kS (w := w) (g := g) (row := none) (zs10 HK))); replace HK:=zM (KB.trans (zs10 HK) hk (.inl rfl)); replace HB:=zM (hb); replace HI0:=zM (hi); clear hb hk hi ho0));go_ret;exact ⟨_, zs6, (zs5 HO329), (zs9 HI0), (zs11 HB HI0), (zs10 HK)⟩
 ·rw [if_neg c4] at H;have c4b0 := beq_eq_false_iff_ne.mpr c4;have c4b1 := bne_iff_ne.mpr c4;replace H := zb H; obtain ⟨⟨t331, t332⟩, A8, H⟩ := H; (try dsimp only at H);obtain ⟨ji9, hji9⟩ : ∃ j_ : Int, (wrap64 (1 + t331)) = j_ := ⟨_, rfl⟩;(replace H : (if 0 ≤ (ji9) then (if (ji9 : Int).toNat ≤ 35184372088832 then ((F115.f k s0_0 t332 (List.replicate (ji9 : Int).toNat 0) 1 (ji9) 0).bind fun bt336 => (some (bt336.2, bt336.1))) else (none)) else (none)) = some (r1, r2) := by first | (rw [hji9] at H; exact H) | (simp only [hji9] at H ⊢; exact H));(try rw [hji9] at A3);(try rw [hji9] at A8);have hji9w : (IntKind.i64.wrap (1 + t331)) = ji9 := (i64_w _).trans hji9;replace H := zn H; obtain ⟨c10, H⟩ := H;have c10b0 := eq_true c10;have c10b1 := decide_eq_true c10;clear c10;replace H := zn H; obtain ⟨c11, H⟩ := H;have c11b0 := eq_true c11;have c11b1 := decide_eq_true c11;clear c11;obtain ⟨y333, hy333⟩ : ∃ y_ : List Int, y_ = (List.replicate (ji9 : Int).toNat 0) := ⟨_, rfl⟩; rw [← hy333] at H; have Ny333:=zM hy333; clear hy333;replace H := zb H; obtain ⟨⟨t336, t337⟩, A12, H⟩ := H; (try dsimp only at H);simp only [Option.some.injEq, Prod.mk.injEq] at H;obtain ⟨rfl, rfl⟩ := H;go_enter Tryz.func81, Tryz.ntmps81;go_wp2_with (first | (refine zg 19 (some 8) Tryz.func19 #[.pointer (some ⟨g, 0, none⟩), .int .i64 3] ?_; (with_reducible refine (F19.calls k g s0_0 s0_1 3 t325 t326 w0 _ (zs9 HI0) (zs11 HB HI0) A3.out).mono ?_); rintro e w13 ⟨rfl, hi, hb, hk⟩; refine ⟨_, rfl, ?_⟩; replace HK:=zM (KB.trans (zs10 HK) hk (.inl rfl)); replace HB:=zM (hb); replace HI0:=zM (hi); clear hb hk hi) | (refine zg 19 (some 14) Tryz.func19 #[.pointer (some ⟨g, 0, none⟩), .int .i64 7] ?_; (with_reducible refine (F19.calls k g s0_0 t326 7 t331 t332 w0 _ (zs9 HI0) (zs11 HB HI0) A8.out).mono ?_); rintro e w14 ⟨rfl, hi, hb, hk⟩; refine ⟨_, rfl, ?_⟩; replace HK:=zM (KB.trans (zs10 HK) hk (.inl rfl)); replace HB:=zM (hb); replace HI0:=zM (hi); clear hb hk hi) | ((with_reducible refine gD (N := 17) rfl ?_); refine Kd.R_make (Kd.int .i64) _ 3 rfl (N := 17) rfl 28 _ _ rfl ji9 rfl rfl Tryz.underlying28 (.int .i64 0) 8 info3 rfl zd zo_ 0 (ok := fun _ => True) (okp := fun _ => True) rfl (fun _ hk => hk) trivial (of_decide_eq_true zs0) (Nat.le_trans (Nat.mul_le_mul_right _ (of_decide_eq_true zs0 : ji9.toNat ≤ 35184372088832)) zo_) (Below.refl _ _) (Nat.le_refl _) ?_; intro v334 w15 ho16 hb hg_ hnew_; clear hg_ hnew_; (first | rw [← Ny333.out] at ho16 | (simp only [Int.reduceToNat] at ho16; rw [← Ny333.out] at ho16)); have HO335:=zM (Kd.Rl ho16 (kS (w := w) (g := g) (row := none) (zs10 HK))); replace HK:=zM (KB.trans (zs10 HK) (KB.of_below hb g none) (.inl rfl)); replace HB:=zM (bS (zs11 HB HI0) hb); replace HI0:=zM (Iq.below (zs9 HI0) hb); clear hb ho16; obtain ⟨Ao17, co17, eo17⟩ := Kd.Rs HO335.out; subst eo17) | (refine zg 115 (some 21) Tryz.func115 #[.pointer (some ⟨g, 0, none⟩), .slice Ao17 y333.length co17, .int .i64 1, .int .i64 ji9, .int .i64 0] ?_ (hargs := by (try simp only [List.map_toArray, List.map_cons, List.map_nil]); first | done | (simp only [hji9]; rfl) | rfl); (with_reducible refine (F115.calls k g s0_0 t332 (fun k_ => some k_ = (.slice Ao17 y333.length co17 : Value).ownBlock) (.slice Ao17 y333.length co17) y333 1 ji9 0 t336 t337 w0 _ (zs9 HI0) (zs11 HB HI0) ?side3 A12.out).mono ?_); (case side3 => exact Kd.Rl (Kd.R_tight rfl HO335.out) HL.out); rintro e w18 ⟨rfl, hi, hy0, hb, hkp⟩; refine ⟨_, rfl, ?_⟩; have n0_:=zM (hi); have n1_:=zM (Kd.R_reok rfl (Kd.R_raise (d := (Kd.int .i64)) (b := w0.heap.size) (b' := w.heap.size) (fun _ _ _ _ h_ => h_) hy0 (fun k_ e_ => Or.elim (hy0.1 k_ e_) (fun hs_ => (fun e_ => Kd.R_base HO335.out k_ e_.symm) hs_) (fun hn_ => Nat.le_trans (kS (w := w) (g := g) (row := none) (zs10 HK)) hn_))) (fun k_ e_ => HO335.out.1 k_ e_)); have n2_:=zM (Kept.keepG (zs10 HK) hkp (fun k_ hs_ => Or.elim hs_ (fun hs_ => (fun e_ => .inr (Kd.R_base HO335.out k_ e_.symm)) hs_) (fun e_ => .inl e_))); have n3_:=zM (hb); clear HI0; clear HO335; clear HK; clear HB; have HI0 := n0_; have HO335 := n1_; have HK := n2_; have HB := n3_; clear n0_ n1_ n2_ n3_; clear hb hkp hy0));go_ret;(exact ⟨_, by first | rfl | (simp [eN, eS] <;> rfl) | (simp only [← hji9]; first | rfl | (simp [eN, eS] <;> rfl)) | (simp [*, eN, eS] <;> rfl), (zs5 HO335), (zs9 HI0), (zs11 HB HI0), (zs10 HK)⟩)
def F39.j0 : Nat → Int → List Int → Bool → List Int → Int → Option (List Int × Int)
 | 0, _, _, _, _, _ => none
 | k + 1, x1, x5, x17, x1000, x1001 => if x17 = true then ((F80.f k x1000 x1001 (x5.length : Int)).bind fun bt345 => ((F79.f k x5 bt345.1).bind fun bt349 => (some (bt349.1, bt345.2)))) else ((F19.f k x1000 x1001 3).bind fun bt353 => (if bt353.1 = 0 then ((F81.f k x1000 bt353.2 x1).bind fun bt355 => (some (bt355.1, bt355.2))) else (some (x5, bt353.2))))
def F39.f (k : Nat) (s0_0 : List Int) (s0_1 : Int) (a1 : Int) : Option (List Int × Int) := (F78.f k s0_0 s0_1 a1).bind fun bt338 => ((F19.f k s0_0 bt338.2 2).bind fun bt342 => (if bt342.1 = 0 then ((F28.f k bt338.1).bind fun t344 => (F39.j0 k a1 bt338.1 t344 s0_0 bt342.2)) else (F39.j0 k a1 bt338.1 false s0_0 bt342.2)))
theorem F39.ml : ∀ k, (∀ y0 y1 y2 y3 y4, LeO (F39.j0 k y0 y1 y2 y3 y4) (F39.j0 (k + 1) y0 y1 y2 y3 y4))
 | 0 => fun _ _ _ _ _ r h => by simp [F39.j0] at h
 | k + 1 => by
  have ih0 := F39.ml k
  ·intro y0 y1 y2 y3 y4
   unfold F39.j0
   have := @F79.mono; have := @F28.mono; have := @F81.mono; have := @F80.mono; have := @F19.mono; have := @F78.mono; exact zm
theorem F39.mono : ∀ a0 a1 a2 k, LeO (F39.f k a0 a1 a2) (F39.f (k + 1) a0 a1 a2) := by
 intro a0 a1 a2 k;have ih0 := F39.ml k;unfold F39.f;have := @F79.mono; have := @F28.mono; have := @F81.mono; have := @F80.mono; have := @F19.mono; have := @F78.mono; exact zm
theorem F39.calls (k : Nat) (g : Nat) (s0_0 : List Int) (s0_1 : Int) (a1 : Int) (r1 : List Int) (r2 : Int) (w0 w : World) (hI : Iq w0 w g s0_0 s0_1) (hB : Below w0.heap.size w0 w) (h : F39.f k s0_0 s0_1 a1 = some (r1, r2)) :
  Calls Tryz.prog 39 #[.pointer (some ⟨g, 0, none⟩), .int .i64 a1] w fun e w' => ∃ v0_ : Value, e = .returned (v0_) ∧ Kd.R (Kd.int .i64) 3 w' w.heap.size (fun _ => True) v0_ r1 ∧ Iq w0 w' g s0_0 r2 ∧ Below w0.heap.size w0 w' ∧ KB w w' g none := by
 have HI0:=zM hI;have HK:=zM (KB.refl w g none);have HL:=zM hB.size;clear hI;have HW0:=zM hB.size;have HB:=zM hB;clear hB;have H : ((F78.f k s0_0 s0_1 a1).bind fun bt338 => ((F19.f k s0_0 bt338.2 2).bind fun bt342 => (if bt342.1 = 0 then ((F28.f k bt338.1).bind fun t344 => (F39.j0 k a1 bt338.1 t344 s0_0 bt342.2)) else (F39.j0 k a1 bt338.1 false s0_0 bt342.2)))) = some (r1, r2) := h;clear h;replace H := zb H; obtain ⟨⟨t338, t341⟩, A3, H⟩ := H; (try dsimp only at H);have HC4:=zM H;clear H;go_enter Tryz.func39, Tryz.ntmps39;go_upto_region 2 with (first | (refine zg 78 (some 10) Tryz.func78 #[.pointer (some ⟨g, 0, none⟩), .int .i64 a1] ?_; (with_reducible refine (F78.calls k g s0_0 s0_1 a1 t338 t341 w0 _ (zs9 HI0) (zs11 HB HI0) A3.out).mono ?_); rintro e w5 ⟨v339, rfl, ho0, hi, hb, hk⟩; refine ⟨_, rfl, ?_⟩; have HO340:=zM (Kd.Rl ho0 (kS (w := w) (g := g) (row := none) (zs10 HK))); replace HK:=zM (KB.trans (zs10 HK) hk (.inl rfl)); replace HB:=zM (hb); replace HI0:=zM (hi); clear hb hk hi ho0));(try simp only [Act.put, zE, zF, zG]);go_cut [17] (fun v17 wc => ∃ (kq : Nat) (x17_3 : Bool) (x1001_3 : Int), v17 = .bool x17_3 ∧ Qo (F39.j0 kq a1 t338 x17_3 s0_0 x1001_3 = some (r1, r2)) ∧ Qo (kq ≤ k) ∧ Qo (Kd.R (Kd.int .i64) 3 wc w.heap.size (fun _ => True) v339 t338) ∧ Qo (Iq w0 wc g s0_0 x1001_3) ∧ Qo (KB w wc g none) ∧ Qo (Below w0.heap.size w0 wc))
 case first =>
  have H := HC4.out;clear HC4;replace H := zb H; obtain ⟨⟨t342, t343⟩, A6, H⟩ := H; (try dsimp only at H);by_cases c7 : t342 = 0
  ·rw [if_pos c7] at H;have c7b0 := beq_iff_eq.mpr c7;have c7b1 := bne_eq_false_iff_eq.mpr c7;clear c7;(first | rw [c7b0] | (simp only [i64_w, i32_w]; rw [c7b0]) | skip);replace H := zb H; obtain ⟨t344, A8, H⟩ := H; (try dsimp only at H);have H':=zM H;clear H;go_wp2_with (first | (refine zg 19 (some 12) Tryz.func19 #[.pointer (some ⟨g, 0, none⟩), .int .i64 2] ?_; (with_reducible refine (F19.calls k g s0_0 t341 2 t342 t343 w0 _ (zs9 HI0) (zs11 HB HI0) A6.out).mono ?_); rintro e w9 ⟨rfl, hi, hb, hk⟩; refine ⟨_, rfl, ?_⟩; replace HO340:=zM (Kd.Rm (Kd.Rk (Iq.apart (show Iq w0 _ g s0_0 t341 from (zs9 HI0)) (zs5 HO340) zd) hk (fun _ h => h.2)) (fun _ h => h.1)); replace HK:=zM (KB.trans (zs10 HK) hk (.inl rfl)); replace HB:=zM (hb); replace HI0:=zM (hi); clear hb hk hi; obtain ⟨Ao10, co10, eo10⟩ := Kd.Rs HO340.out; subst eo10) | (go_at_call 28; (with_reducible refine (F28.calls k _ _ t338 t344 _ ?side1 ?side2 A8.out).mono ?_); (case side1 => exact (zs22 HO340)); (case side2 => exact (Kd.rr' HO340.out).2.1); rintro e w' ⟨rfl, ⟨nd, rfl⟩⟩));go_meet
   case rel => exact ⟨_, (t344), (t343), zs7, H', ⟨zs8⟩, ⟨(zs5 HO340)⟩, ⟨(zs9 HI0)⟩, ⟨(zs10 HK)⟩, ⟨(zs11 HB HI0)⟩⟩
  ·rw [if_neg c7] at H;have c7b0 := beq_eq_false_iff_ne.mpr c7;have c7b1 := bne_iff_ne.mpr c7;(first | rw [c7b0] | (simp only [i64_w, i32_w]; rw [c7b0]) | skip);have H':=zM H;clear H;go_wp2_with (first | (refine zg 19 (some 12) Tryz.func19 #[.pointer (some ⟨g, 0, none⟩), .int .i64 2] ?_; (with_reducible refine (F19.calls k g s0_0 t341 2 t342 t343 w0 _ (zs9 HI0) (zs11 HB HI0) A6.out).mono ?_); rintro e w11 ⟨rfl, hi, hb, hk⟩; refine ⟨_, rfl, ?_⟩; replace HO340:=zM (Kd.Rm (Kd.Rk (Iq.apart (show Iq w0 _ g s0_0 t341 from (zs9 HI0)) (zs5 HO340) zd) hk (fun _ h => h.2)) (fun _ h => h.1)); replace HK:=zM (KB.trans (zs10 HK) hk (.inl rfl)); replace HB:=zM (hb); replace HI0:=zM (hi); clear hb hk hi));go_meet
   case rel => exact ⟨_, (false), (t343), zs7, H', ⟨zs8⟩, ⟨(zs5 HO340)⟩, ⟨(zs9 HI0)⟩, ⟨(zs10 HK)⟩, ⟨(zs11 HB HI0)⟩⟩
 case rest =>
  clear HC4;obtain ⟨kq, x17_3, x1001_3, rfl, HA, HJ3, HO_5, HI0, HK, HB⟩ := hcut;cases kq with
  | zero => exact absurd HA.out (by simp [F39.j0])
  | succ kj3 =>
   have H := HA.out;clear HA;simp only [F39.j0] at H;by_cases c12 : x17_3 = true
   ·subst c12;(have H1 : ((F80.f kj3 s0_0 x1001_3 (t338.length : Int)).bind fun bt345 => ((F79.f kj3 t338 bt345.1).bind fun bt349 => (some (bt349.1, bt345.2)))) = some (r1, r2) := by rw [if_pos rfl] at H; exact H);clear H;have H := H1;clear H1;replace H := zb H; obtain ⟨⟨t345, t348⟩, A13, H⟩ := H; (try dsimp only at H);replace H := zb H; obtain ⟨⟨t349, t350⟩, A14, H⟩ := H; (try dsimp only at H);simp only [Option.some.injEq, Prod.mk.injEq] at H;obtain ⟨rfl, rfl⟩ := H;obtain ⟨Ao15, co15, eo15⟩ := Kd.Rs HO_5.out;subst eo15;go_wp2_with (first | (refine zg 80 (some 23) Tryz.func80 #[.pointer (some ⟨g, 0, none⟩), .int .i64 (t338.length : Int)] ?_; (with_reducible refine (F80.calls kj3 g s0_0 x1001_3 (t338.length : Int) t345 t348 w0 _ (zs9 HI0) (zs11 HB HI0) A13.out).mono ?_); rintro e w16 ⟨v346, rfl, ho0, hi, hb, hk⟩; refine ⟨_, rfl, ?_⟩; have HO347:=zM (Kd.Rl (Kd.R_new' ho0 (Kd.R_lt (zs5 HO_5))) (kS (w := w) (g := g) (row := none) (zs10 HK))); replace HO_5:=zM (Kd.Rm (Kd.R_told (Kd.R_oldK (Iq.apart (show Iq w0 _ g s0_0 x1001_3 from (zs9 HI0)) (zs5 HO_5) zd) hk) (Kd.R_base ho0)) (fun _ h_ => h_.1)); replace HK:=zM (KB.trans (zs10 HK) hk (.inl rfl)); replace HB:=zM (hb); replace HI0:=zM (hi); clear hb hk hi ho0; obtain ⟨Ao17, co17, eo17⟩ := Kd.Rs HO347.out; subst eo17) | (refine zg 79 (some 24) Tryz.func79 #[.slice Ao15 t338.length co15, .slice Ao17 t345.length co17] ?_; (with_reducible refine (F79.calls kj3 _ _ t338 _ _ t345 t349 t350 _ ?side1 ?side2 ?side3 ?side4 A14.out).mono ?_); (case side1 => exact (zs22 HO_5)); (case side2 => exact (Kd.rr' HO_5.out).2.1); (case side3 => exact (zs22 HO347)); (case side4 => exact (Kd.rr' HO347.out).2.1); rintro e w18 ⟨v351, rfl, ho0, hb⟩; refine ⟨_, rfl, ?_⟩; have HO352:=zM (Kd.Rl (Kd.R_new' (Kd.R_new' ho0 (Kd.R_lt (zs5 HO_5))) (Kd.R_lt (zs5 HO347))) (kS (w := w) (g := g) (row := none) (zs10 HK))); replace HO_5:=zM (Kd.R_elder' (zs5 HO_5) (Kd.R_base ho0) hb); replace HO347:=zM (Kd.R_elder' (zs5 HO347) (Kd.R_base ho0) hb); replace HK:=zM (KB.trans (zs10 HK) (KB.of_below hb g none) (.inl rfl)); replace HB:=zM (bS (zs11 HB HI0) hb); replace HI0:=zM (Iq.below (zs9 HI0) hb); clear hb ho0));go_ret;exact ⟨_, zs6, (zs13 HO352), (zs9 HI0), (zs11 HB HI0), (zs10 HK)⟩
   ·replace c12 := Bool.eq_false_iff.mpr c12;subst c12;(have H1 : ((F19.f kj3 s0_0 x1001_3 3).bind fun bt353 => (if bt353.1 = 0 then ((F81.f kj3 s0_0 bt353.2 a1).bind fun bt355 => (some (bt355.1, bt355.2))) else (some (t338, bt353.2)))) = some (r1, r2) := by rw [if_neg (show ¬ (false = true) by decide)] at H; exact H);clear H;have H := H1;clear H1;replace H := zb H; obtain ⟨⟨t353, t354⟩, A19, H⟩ := H; (try dsimp only at H);by_cases c20 : t353 = 0
    ·rw [if_pos c20] at H;have c20b0 := beq_iff_eq.mpr c20;have c20b1 := bne_eq_false_iff_eq.mpr c20;clear c20;replace H := zb H; obtain ⟨⟨t355, t358⟩, A21, H⟩ := H; (try dsimp only at H);simp only [Option.some.injEq, Prod.mk.injEq] at H;obtain ⟨rfl, rfl⟩ := H;go_wp2_with (first | (refine zg 19 (some 29) Tryz.func19 #[.pointer (some ⟨g, 0, none⟩), .int .i64 3] ?_; (with_reducible refine (F19.calls kj3 g s0_0 x1001_3 3 t353 t354 w0 _ (zs9 HI0) (zs11 HB HI0) A19.out).mono ?_); rintro e w22 ⟨rfl, hi, hb, hk⟩; refine ⟨_, rfl, ?_⟩; replace HO_5:=zM (Kd.Rm (Kd.Rk (Iq.apart (show Iq w0 _ g s0_0 x1001_3 from (zs9 HI0)) (zs5 HO_5) zd) hk (fun _ h => h.2)) (fun _ h => h.1)); replace HK:=zM (KB.trans (zs10 HK) hk (.inl rfl)); replace HB:=zM (hb); replace HI0:=zM (hi); clear hb hk hi) | (refine zg 81 (some 33) Tryz.func81 #[.pointer (some ⟨g, 0, none⟩), .int .i64 a1] ?_; (with_reducible refine (F81.calls kj3 g s0_0 t354 a1 t355 t358 w0 _ (zs9 HI0) (zs11 HB HI0) A21.out).mono ?_); rintro e w23 ⟨v356, rfl, ho0, hi, hb, hk⟩; refine ⟨_, rfl, ?_⟩; have HO357:=zM (Kd.Rl (Kd.R_new' ho0 (Kd.R_lt (zs5 HO_5))) (kS (w := w) (g := g) (row := none) (zs10 HK))); replace HO_5:=zM (Kd.Rm (Kd.R_told (Kd.R_oldK (Iq.apart (show Iq w0 _ g s0_0 t354 from (zs9 HI0)) (zs5 HO_5) zd) hk) (Kd.R_base ho0)) (fun _ h_ => h_.1)); replace HK:=zM (KB.trans (zs10 HK) hk (.inl rfl)); replace HB:=zM (hb); replace HI0:=zM (hi); clear hb hk hi ho0));go_ret;exact ⟨_, zs6, (zs13 HO357), (zs9 HI0), (zs11 HB HI0), (zs10 HK)⟩
    ·rw [if_neg c20] at H;have c20b0 := beq_eq_false_iff_ne.mpr c20;have c20b1 := bne_iff_ne.mpr c20;simp only [Option.some.injEq, Prod.mk.injEq] at H;obtain ⟨rfl, rfl⟩ := H;go_wp2_with (first | (refine zg 19 (some 29) Tryz.func19 #[.pointer (some ⟨g, 0, none⟩), .int .i64 3] ?_; (with_reducible refine (F19.calls kj3 g s0_0 x1001_3 3 t353 t354 w0 _ (zs9 HI0) (zs11 HB HI0) A19.out).mono ?_); rintro e w24 ⟨rfl, hi, hb, hk⟩; refine ⟨_, rfl, ?_⟩; replace HO_5:=zM (Kd.Rm (Kd.Rk (Iq.apart (show Iq w0 _ g s0_0 x1001_3 from (zs9 HI0)) (zs5 HO_5) zd) hk (fun _ h => h.2)) (fun _ h => h.1)); replace HK:=zM (KB.trans (zs10 HK) hk (.inl rfl)); replace HB:=zM (hb); replace HI0:=zM (hi); clear hb hk hi));go_ret;exact ⟨_, zs6, (zs5 HO_5), (zs9 HI0), (zs11 HB HI0), (zs10 HK)⟩
def F18.l0 : Nat → List (S39) → List (S39) → Int → List Int → Int → Option ((List (S39)) × Int)
 | 0, _, _, _, _, _ => none
 | k + 1, x3, x4, x5, x1000, x1001 => if x5 < (x4.length : Int) then (if 0 ≤ x5 then ((F38.f k ((r9 x4 x5).f0) ((r9 x4 x5).f1) ((r9 x4 x5).f2)).bind fun t371 => (if t371.toList = ([] : List UInt8) then (F18.l0 k x3 x4 (wrap64 (x5 + 1)) x1000 x1001) else (if x3.length < 5864062014805 then (F18.l0 k (x3 ++ [(⟨(r9 x4 x5).f0, (r9 x4 x5).f1, (r9 x4 x5).f2⟩ : S39)]) x4 (wrap64 (x5 + 1)) x1000 x1001) else (none)))) else (none)) else (some (x3, x1001))
def F18.f (k : Nat) (s0_0 : List Int) (s0_1 : Int) : Option ((List (S39)) × Int) := (F39.f k s0_0 s0_1 0).bind fun bt362 => ((F27.f k s0_0 bt362.2 bt362.1).bind fun bt366 => (F18.l0 k (([] : List (S39))) bt366.1 0 s0_0 bt366.2))
theorem F18.ml : ∀ k, (∀ y0 y1 y2 y3 y4, LeO (F18.l0 k y0 y1 y2 y3 y4) (F18.l0 (k + 1) y0 y1 y2 y3 y4))
 | 0 => fun _ _ _ _ _ r h => by simp [F18.l0] at h
 | k + 1 => by
  have ih0 := F18.ml k
  ·intro y0 y1 y2 y3 y4
   unfold F18.l0
   have := @F38.mono; have := @F27.mono; have := @F39.mono; exact zm
theorem F18.mono : ∀ a0 a1 k, LeO (F18.f k a0 a1) (F18.f (k + 1) a0 a1) := by
 intro a0 a1 k;have ih0 := F18.ml k;unfold F18.f;have := @F38.mono; have := @F27.mono; have := @F39.mono; exact zm
theorem F18.calls (k : Nat) (g : Nat) (s0_0 : List Int) (s0_1 : Int) (r1 : List (S39)) (r2 : Int) (w0 w : World) (hI : Iq w0 w g s0_0 s0_1) (hB : Below w0.heap.size w0 w) (h : F18.f k s0_0 s0_1 = some (r1, r2)) :
  Calls Tryz.prog 18 #[.pointer (some ⟨g, 0, none⟩)] w fun e w' => ∃ v0_ : Value, e = .returned (v0_) ∧ Kd.R k39 39 w' w.heap.size (fun _ => True) v0_ r1 ∧ Iq w0 w' g s0_0 r2 ∧ Below w0.heap.size w0 w' ∧ KB w w' g none := by
 have hu39 := Tryz.underlying39;have HI0:=zM hI;have HK:=zM (KB.refl w g none);have HL:=zM hB.size;clear hI;have HW0:=zM hB.size;have HB:=zM hB;clear hB;have H : ((F39.f k s0_0 s0_1 0).bind fun bt362 => ((F27.f k s0_0 bt362.2 bt362.1).bind fun bt366 => (F18.l0 k (([] : List (S39))) bt366.1 0 s0_0 bt366.2))) = some (r1, r2) := h;clear h;obtain ⟨y359, hy359⟩ : ∃ y_ : List (S39), y_ = (([] : List (S39))) := ⟨_, rfl⟩;(replace H : ((F39.f k s0_0 s0_1 0).bind fun bt362 => ((F27.f k s0_0 bt362.2 bt362.1).bind fun bt366 => (F18.l0 k y359 bt366.1 0 s0_0 bt366.2))) = some (r1, r2) := by first | (rw [hy359]; with_reducible exact H) | (have H2_ := (Option.bind_some _ _).symm.trans H; rw [hy359]; with_reducible exact H2_) | (have H2_ := (Option.bind_some _ _).symm.trans H; with_reducible exact H2_) | with_reducible exact H | (rw [hy359]; exact H) | exact H);have Ny359:=zM hy359;clear hy359;replace H := zb H; obtain ⟨⟨t362, t365⟩, A2, H⟩ := H; (try dsimp only at H);replace H := zb H; obtain ⟨⟨t366, t369⟩, A3, H⟩ := H; (try dsimp only at H);have H':=zM H;clear H;go_enter Tryz.func18, Tryz.ntmps18;go_wp2_with (first | ((with_reducible refine gD (N := 6) rfl ?_); refine Kd.R_lit k39 _ 39 zs1 (N := 6) zs1 (xs := ([] : List (S39))) (inner := []) (ok := fun _ => True) (okp := fun _ => True) zs2 ?hp (fun _ hk => hk) trivial (Below.refl _ _) (Nat.le_refl _) (by simp) ?_; (case hp => exact (Reps.none _ _)); intro v360 w4 ho5 hb hg_ hnew_; clear hg_ hnew_; (first | rw [← Ny359.out] at ho5 | (simp only [Int.reduceToNat] at ho5; rw [← Ny359.out] at ho5)); have HO361:=zM (Kd.Rl ho5 (kS (w := w) (g := g) (row := none) (zs10 HK))); replace HK:=zM (KB.trans (zs10 HK) (KB.of_below hb g none) (.inl rfl)); replace HB:=zM (bS (zs11 HB HI0) hb); replace HI0:=zM (Iq.below (zs9 HI0) hb); clear hb ho5) | (refine zg 39 (some 9) Tryz.func39 #[.pointer (some ⟨g, 0, none⟩), .int .i64 0] ?_; (with_reducible refine (F39.calls k g s0_0 s0_1 0 t362 t365 w0 _ (zs9 HI0) (zs11 HB HI0) A2.out).mono ?_); rintro e w6 ⟨v363, rfl, ho0, hi, hb, hk⟩; refine ⟨_, rfl, ?_⟩; replace HO361:=zM (Kd.Rm (Kd.Rk (Iq.apart (show Iq w0 _ g s0_0 s0_1 from (zs9 HI0)) (zs5 HO361) zd) hk (fun _ h => h.2)) (fun _ h => h.1)); have HO364:=zM (Kd.Rl ho0 (kS (w := w) (g := g) (row := none) (zs10 HK))); replace HK:=zM (KB.trans (zs10 HK) hk (.inl rfl)); replace HB:=zM (hb); replace HI0:=zM (hi); clear hb hk hi ho0; obtain ⟨Ao7, co7, eo7⟩ := Kd.Rs HO364.out; subst eo7) | (refine zg 27 (some 10) Tryz.func27 #[.pointer (some ⟨g, 0, none⟩), .slice Ao7 t362.length co7] ?_; (with_reducible refine (F27.calls k g s0_0 t365 _ _ t362 t366 t369 w0 _ (zs9 HI0) (zs11 HB HI0) ?side3 ?side4 ?side5 A3.out).mono ?_); (case side3 => exact (zs22 HO364)); (case side4 => exact (Kd.rr' HO364.out).2.1); (case side5 => exact far_slice (Iq.own_ne HI0.out HO364.out zd)); rintro e w8 ⟨v367, rfl, ho0, hi, hb, hk⟩; refine ⟨_, rfl, ?_⟩; replace HO364:=zM (Kd.Rm (Kd.Rk (Iq.apart (show Iq w0 _ g s0_0 t365 from (zs9 HI0)) (zs5 HO364) zd) hk (fun _ h => h.2)) (fun _ h => h.1)); have HO368:=zM (Kd.Rl (Kd.R_new' ho0 (Kd.R_lt (zs5 HO361))) (kS (w := w) (g := g) (row := none) (zs10 HK))); replace HO361:=zM (Kd.Rm (Kd.R_told (Kd.R_oldK (Iq.apart (show Iq w0 _ g s0_0 t365 from (zs9 HI0)) (zs5 HO361) zd) hk) (Kd.R_base ho0)) (fun _ h_ => h_.1)); replace HK:=zM (KB.trans (zs10 HK) hk (.inl rfl)); replace HB:=zM (hb); replace HI0:=zM (hi); clear hb hk hi ho0));go_loopg [3, 5] k (fun kq v3 v5 w' => ∃ (x3_1 : List (S39)) (x5_1 : Int), v5 = .int .i64 x5_1 ∧ Qo (F18.l0 kq x3_1 t366 x5_1 s0_0 t369 = some (r1, r2)) ∧ Qo (kq ≤ k) ∧ Qo (Kd.R k39 39 w' w.heap.size (fun k_ => some k_ ≠ (v367 : Value).ownBlock) v3 x3_1) ∧ Qo (Kd.R k39 39 w' w.heap.size (fun k_ => some k_ ≠ (v3 : Value).ownBlock) v367 t366) ∧ Qo (Iq w0 w' g s0_0 t369) ∧ Qo (KB w w' g none) ∧ Qo (Below w0.heap.size w0 w'))
 case atStart => exact ⟨(y359), (0), zs7, H', ⟨Nat.le_refl _⟩, ⟨(zs12 HO361)⟩, ⟨(zs12 HO368)⟩, ⟨(zs9 HI0)⟩, ⟨(zs10 HK)⟩, ⟨(zs11 HB HI0)⟩⟩
 case round =>
  clear H';obtain ⟨x3_1, x5_1, rfl, HA, HK1, HO_3, HO_4, HI0, HK, HB⟩ := hrel;cases gk with
  | zero => exact absurd HA.out (by simp [F18.l0])
  | succ k1 =>
   have H := HA.out;clear HA;simp only [F18.l0] at H;by_cases c9 : x5_1 < (t366.length : Int)
   ·rw [if_pos c9] at H;have c9b0 := decide_eq_true c9;clear c9;replace H := zn H; obtain ⟨c10, H⟩ := H;have c10b0 := decide_eq_true c10;clear c10;replace H := zb H; obtain ⟨t371, A11, H⟩ := H; (try dsimp only at H);by_cases c12 : t371.toList = ([] : List UInt8)
    ·rw [if_pos c12] at H;have c12b0 := beq_iff_eq.mpr c12;have c12b1 := bne_eq_false_iff_eq.mpr c12;clear c12;have H':=zM H;clear H;obtain ⟨Ao13, co13, eo13⟩ := Kd.Rs HO_4.out;subst eo13;have p370 : 0 ≤ (x5_1 : Int) := of_decide_eq_true zs0;have q370 : x5_1 < (t366.length : Int) := of_decide_eq_true zs0;obtain ⟨ad370, e370, hx370_0, hx370_1, hx370_2⟩ := at_T39 (Kd.rr' HO_4.out).2.2 x5_1 p370 q370;cases e370;replace p370 := eq_true p370;replace q370 := eq_true q370;go_wp2_with (first | (refine zg 38 (some 21) Tryz.func38 #[.agg #[.int .i64 ((r9 t366 x5_1).f0), .int .i64 ((r9 t366 x5_1).f1), .int .i64 ((r9 t366 x5_1).f2)]] ?_; (with_reducible refine (F38.calls k1 ((r9 t366 x5_1).f0) ((r9 t366 x5_1).f1) ((r9 t366 x5_1).f2) t371 _ A11.out).mono ?_); rintro e w14 ⟨rfl, hb⟩; refine ⟨_, rfl, ?_⟩; replace HO_3 := zrR HO_3 hb; replace HO_4 := zrR HO_4 hb; replace HK:=zM (KB.trans (zs10 HK) (KB.of_below hb g none) (.inl rfl)); replace HB:=zM (bS (zs11 HB HI0) hb); replace HI0:=zM (Iq.below (zs9 HI0) hb); clear hb));go_roundg k1
     case measure => have := HK1.out; omega
     case rel => exact ⟨(x3_1), (wrap64 (x5_1 + 1)), zs7, H', ⟨by have := HK1.out; omega⟩, ⟨(zs5 HO_3)⟩, ⟨(zs5 HO_4)⟩, ⟨(zs9 HI0)⟩, ⟨(zs10 HK)⟩, ⟨(zs11 HB HI0)⟩⟩
    ·rw [if_neg c12] at H;have c12b0 := beq_eq_false_iff_ne.mpr c12;have c12b1 := bne_iff_ne.mpr c12;replace H := zn H; obtain ⟨c15, H⟩ := H;have LMc15:=zM c15;clear c15;obtain ⟨y373, hy373⟩ : ∃ y_ : List (S39), y_ = (x3_1 ++ [(⟨(r9 t366 x5_1).f0, (r9 t366 x5_1).f1, (r9 t366 x5_1).f2⟩ : S39)]) := ⟨_, rfl⟩;(replace H : (F18.l0 k1 y373 t366 (wrap64 (x5_1 + 1)) s0_0 t369) = some (r1, r2) := by first | (rw [hy373]; with_reducible exact H) | (have H2_ := (Option.bind_some _ _).symm.trans H; rw [hy373]; with_reducible exact H2_) | (have H2_ := (Option.bind_some _ _).symm.trans H; with_reducible exact H2_) | with_reducible exact H | (rw [hy373]; exact H) | exact H);have Ny373:=zM hy373;clear hy373;have H':=zM H;clear H;obtain ⟨Ao16, co16, eo16⟩ := Kd.Rs HO_4.out;subst eo16;have p370 : 0 ≤ (x5_1 : Int) := of_decide_eq_true zs0;have q370 : x5_1 < (t366.length : Int) := of_decide_eq_true zs0;obtain ⟨ad370, e370, hx370_0, hx370_1, hx370_2⟩ := at_T39 (Kd.rr' HO_4.out).2.2 x5_1 p370 q370;cases e370;replace p370 := eq_true p370;replace q370 := eq_true q370;go_wp2_with (first | (refine zg 38 (some 21) Tryz.func38 #[.agg #[.int .i64 ((r9 t366 x5_1).f0), .int .i64 ((r9 t366 x5_1).f1), .int .i64 ((r9 t366 x5_1).f2)]] ?_; (with_reducible refine (F38.calls k1 ((r9 t366 x5_1).f0) ((r9 t366 x5_1).f1) ((r9 t366 x5_1).f2) t371 _ A11.out).mono ?_); rintro e w17 ⟨rfl, hb⟩; refine ⟨_, rfl, ?_⟩; replace HO_3 := zrR HO_3 hb; replace HO_4 := zrR HO_4 hb; replace HK:=zM (KB.trans (zs10 HK) (KB.of_below hb g none) (.inl rfl)); replace HB:=zM (bS (zs11 HB HI0) hb); replace HI0:=zM (Iq.below (zs9 HI0) hb); clear hb; have p372 : 0 ≤ (x5_1 : Int) := of_decide_eq_true zs0; have q372 : x5_1 < (t366.length : Int) := of_decide_eq_true zs0; obtain ⟨ad372, e372, hx372_0, hx372_1, hx372_2⟩ := at_T39 (Kd.rr' HO_4.out).2.2 x5_1 p372 q372; obtain rfl : ad370 = ad372 := (by injection e372); replace p372 := eq_true p372; replace q372 := eq_true q372) | ((with_reducible refine gB (b := .append) (xs := #[.tmp 23, .tmp 28]) rfl ?_); at_builtin; refine Kd.R_append k39 w.heap.size rfl (.tmp 23) (.tmp 28) 24 39 (.agg #[(.int .i64 0), (.int .i64 0), (.int .i64 0)]) 24 rfl Tryz.underlying24 info39 rfl zd zo_ u3 x3_1 (⟨(r9 t366 x5_1).f0, (r9 t366 x5_1).f1, (r9 t366 x5_1).f2⟩ : S39) [.int .i64 ((r9 t366 x5_1).f0), .int .i64 ((r9 t366 x5_1).f1), .int .i64 ((r9 t366 x5_1).f2)] (fun k_ => some k_ ≠ (.slice (some ad370) t366.length co16 : Value).ownBlock) (fun _ => False) rfl rfl ?aP (fun _ hk => hk.elim) ?aF ?aO (Below.refl _ _) ?aS ?aL ?_; (case aP => exact k39_mkM _ _ _ (⟨(r9 t366 x5_1).f0, (r9 t366 x5_1).f1, (r9 t366 x5_1).f2⟩ : S39)); (case aF => exact (fun k_ hk => Kd.fresh' (Kd.R_lt (zs5 HO_4)) k_ hk)); (case aO => exact (zs5 HO_3)); (case aS => exact (kS (w := w) (g := g) (row := none) (zs10 HK))); (case aL => have := LMc15.out; omega); intro v374 w18 ho hb hg hat; rw [← Ny373.out] at ho; replace HO_4:=zM (Kd.R_after (ok := (fun _ => True)) ((zs17 HO_4)) hg hat); replace HB:=zM (below_weaken (zs11 HB HI0) HL.out hb); replace HI0:=zM (Iq.grown (zs9 HI0) hg (Iq.own_ne HI0.out HO_3.out zd)); replace HK:=zM (KB.trans (zs10 HK) (KB.of_grown hg g) (Kd.R_base2 HO_3.out)); have HO375:=zM (ho); clear HO_3; clear ho hb hg hat));go_roundg k1
     case measure => have := HK1.out; omega
     case rel => exact ⟨(y373), (wrap64 (x5_1 + 1)), zs7, H', ⟨by have := HK1.out; omega⟩, ⟨(zs5 HO375)⟩, ⟨(zs12 HO_4)⟩, ⟨(zs9 HI0)⟩, ⟨(zs10 HK)⟩, ⟨(zs11 HB HI0)⟩⟩
   ·rw [if_neg c9] at H;have c9b0 := decide_eq_false c9;clear c9;simp only [Option.some.injEq, Prod.mk.injEq] at H;obtain ⟨rfl, rfl⟩ := H;obtain ⟨Ao19, co19, eo19⟩ := Kd.Rs HO_4.out;subst eo19;go_wp2;go_ret;exact ⟨_, zs6, (zs13 HO_3), (zs9 HI0), (zs11 HB HI0), (zs10 HK)⟩
def F20.f (k : Nat) (s0_0 : List Int) (s0_1 : Int) (a1 : ByteArray) : Option (ByteArray × Int) := if (a1.size : Int) = 0 then (some ((⟨#[10]⟩ : ByteArray), s0_1)) else ((F19.f k s0_0 s0_1 (a1.size : Int)).bind fun bt376 => (if 0 ≤ bt376.1 then (if bt376.1 ≤ (a1.size : Int) then ((some (([(⟨#[]⟩ : ByteArray), (⟨#[48]⟩ : ByteArray), (⟨#[32]⟩ : ByteArray), (⟨#[10]⟩ : ByteArray), (⟨#[45]⟩ : ByteArray), (⟨#[98, 97, 99, 107]⟩ : ByteArray)] : List ByteArray) : List ByteArray)).bind fun y378 => ((F19.f k s0_0 bt376.2 6).bind fun bt381 => (if 0 ≤ bt381.1 then (if bt381.1 < (y378.length : Int) then (if (a1.extract 0 (bt376.1 : Int).toNat).size + (rdOf ByteArray.empty y378 bt381.1).size ≤ 9223372036854775807 then (if 0 ≤ (wrap64 (bt376.1 + 1)) then (if (wrap64 (bt376.1 + 1)) ≤ (a1.size : Int) then (if ((a1.extract 0 (bt376.1 : Int).toNat) ++ (rdOf ByteArray.empty y378 bt381.1)).size + (a1.extract ((wrap64 (bt376.1 + 1)) : Int).toNat a1.size).size ≤ 9223372036854775807 then (some (((a1.extract 0 (bt376.1 : Int).toNat) ++ (rdOf ByteArray.empty y378 bt381.1)) ++ (a1.extract ((wrap64 (bt376.1 + 1)) : Int).toNat a1.size), bt381.2)) else (none)) else (none)) else (none)) else (none)) else (none)) else (none)))) else (none)) else (none)))
theorem F20.mono : ∀ a0 a1 a2 k, LeO (F20.f k a0 a1 a2) (F20.f (k + 1) a0 a1 a2) := by
 intro a0 a1 a2 k;unfold F20.f;have := @F19.mono; exact zm
def F20.T4 : Bool × List (List Nat × List Nat) := (true, [([], []), ([], []), ([0, 1], [0, 1]), ([], []), ([], []), ([4], [4]), ([3, 5], [3, 5]), ([6], [6]), ([2, 7], [2, 7]), ([], []), ([], []), ([10], [10]), ([9, 11], [9, 11]), ([8, 12], [8, 12]), ([13, 5, 0, 1, 2, 3, 4, 5, 6, 7, 8, 9, 10, 11, 12, 13], [13])])
def F20.B4 : List Nat := [0, 0, 3, 0, 0, 16, 56, 120, 255, 0, 0, 1024, 3584, 8191, 16383]
theorem F20.tab4 : rtab .any (opsOf Tryz.f20 4) = F20.T4 := by kernel_rfl
theorem F20.bits4 : waitsOk F20.T4.2 F20.B4 = true := by kernel_rfl
theorem F20.calls (k : Nat) (g : Nat) (s0_0 : List Int) (s0_1 : Int) (a1 : ByteArray) (r1 : ByteArray) (r2 : Int) (w0 w : World) (hI : Iq w0 w g s0_0 s0_1) (hB : Below w0.heap.size w0 w) (h : F20.f k s0_0 s0_1 a1 = some (r1, r2)) :
  Calls Tryz.prog 20 #[.pointer (some ⟨g, 0, none⟩), .string a1] w fun e w' => e = .returned (.string r1) ∧ Iq w0 w' g s0_0 r2 ∧ Below w0.heap.size w0 w' ∧ KB w w' g none := by
 have HI0:=zM hI;have HK:=zM (KB.refl w g none);have HL:=zM hB.size;clear hI;have HW0:=zM hB.size;have HB:=zM hB;clear hB;have H : (if (a1.size : Int) = 0 then (some ((⟨#[10]⟩ : ByteArray), s0_1)) else ((F19.f k s0_0 s0_1 (a1.size : Int)).bind fun bt376 => (if 0 ≤ bt376.1 then (if bt376.1 ≤ (a1.size : Int) then ((some (([(⟨#[]⟩ : ByteArray), (⟨#[48]⟩ : ByteArray), (⟨#[32]⟩ : ByteArray), (⟨#[10]⟩ : ByteArray), (⟨#[45]⟩ : ByteArray), (⟨#[98, 97, 99, 107]⟩ : ByteArray)] : List ByteArray) : List ByteArray)).bind fun y378 => ((F19.f k s0_0 bt376.2 6).bind fun bt381 => (if 0 ≤ bt381.1 then (if bt381.1 < (y378.length : Int) then (if (a1.extract 0 (bt376.1 : Int).toNat).size + (rdOf ByteArray.empty y378 bt381.1).size ≤ 9223372036854775807 then (if 0 ≤ (wrap64 (bt376.1 + 1)) then (if (wrap64 (bt376.1 + 1)) ≤ (a1.size : Int) then (if ((a1.extract 0 (bt376.1 : Int).toNat) ++ (rdOf ByteArray.empty y378 bt381.1)).size + (a1.extract ((wrap64 (bt376.1 + 1)) : Int).toNat a1.size).size ≤ 9223372036854775807 then (some (((a1.extract 0 (bt376.1 : Int).toNat) ++ (rdOf ByteArray.empty y378 bt381.1)) ++ (a1.extract ((wrap64 (bt376.1 + 1)) : Int).toNat a1.size), bt381.2)) else (none)) else (none)) else (none)) else (none)) else (none)) else (none)))) else (none)) else (none)))) = some (r1, r2) := h;clear h;by_cases c3 : (a1.size : Int) = 0
 ·rw [if_pos c3] at H;have c3b0 := beq_iff_eq.mpr c3;have c3b1 := bne_eq_false_iff_eq.mpr c3;clear c3;simp only [Option.some.injEq, Prod.mk.injEq] at H;obtain ⟨rfl, rfl⟩ := H;go_enter Tryz.func20, Tryz.ntmps20;go_wp2;go_ret;exact ⟨zs6, (zs9 HI0), (zs11 HB HI0), (zs10 HK)⟩
 ·rw [if_neg c3] at H;have c3b0 := beq_eq_false_iff_ne.mpr c3;have c3b1 := bne_iff_ne.mpr c3;replace H := zb H; obtain ⟨⟨t376, t377⟩, A4, H⟩ := H; (try dsimp only at H);replace H := zn H; obtain ⟨c5, H⟩ := H;have c5b0 := eq_true c5;have c5b1 := decide_eq_true c5;clear c5;replace H := zn H; obtain ⟨c6, H⟩ := H;have c6b0 := eq_true c6;have c6b1 := decide_eq_true c6;clear c6;replace H := zy H; obtain ⟨y378, Ny378, H⟩ := H; (try dsimp only at H);replace H := zb H; obtain ⟨⟨t381, t382⟩, A7, H⟩ := H; (try dsimp only at H);replace H := zn H; obtain ⟨c8, H⟩ := H;have c8b0 := decide_eq_true c8;clear c8;replace H := zn H; obtain ⟨c9, H⟩ := H;have c9b0 := decide_eq_true c9;clear c9;replace H := zn H; obtain ⟨c10, H⟩ := H;have c10b0 := eq_true c10;have c10b1 := decide_eq_true c10;(try have c10b2 : (9223372036854775807 < (a1.extract 0 (t376 : Int).toNat).size + (rdOf ByteArray.empty y378 t381).size) = False := eq_false (Nat.not_lt.2 c10));obtain ⟨ji11, hji11⟩ : ∃ j_ : Int, (wrap64 (t376 + 1)) = j_ := ⟨_, rfl⟩;(replace H : (if 0 ≤ (ji11) then (if (ji11) ≤ (a1.size : Int) then (if ((a1.extract 0 (t376 : Int).toNat) ++ (rdOf ByteArray.empty y378 t381)).size + (a1.extract ((ji11) : Int).toNat a1.size).size ≤ 9223372036854775807 then (some (((a1.extract 0 (t376 : Int).toNat) ++ (rdOf ByteArray.empty y378 t381)) ++ (a1.extract ((ji11) : Int).toNat a1.size), t382)) else (none)) else (none)) else (none)) = some (r1, r2) := by first | (rw [hji11] at H; exact H) | (simp only [hji11] at H ⊢; exact H));(try rw [hji11] at A4);(try rw [hji11] at A7);have hji11w : (IntKind.i64.wrap (t376 + 1)) = ji11 := (i64_w _).trans hji11;replace H := zn H; obtain ⟨c12, H⟩ := H;have c12b0 := eq_true c12;have c12b1 := decide_eq_true c12;clear c12;replace H := zn H; obtain ⟨c13, H⟩ := H;have c13b0 := eq_true c13;have c13b1 := decide_eq_true c13;clear c13;replace H := zn H; obtain ⟨c14, H⟩ := H;have c14b0 := eq_true c14;have c14b1 := decide_eq_true c14;(try have c14b2 : (9223372036854775807 < ((a1.extract 0 (t376 : Int).toNat) ++ (rdOf ByteArray.empty y378 t381)).size + (a1.extract ((ji11) : Int).toNat a1.size).size) = False := eq_false (Nat.not_lt.2 c14));have c14z := c14;(try simp only [ByteArray.size_append] at c14z);have c14y := eq_false (Nat.not_lt.2 c14z);simp only [Option.some.injEq, Prod.mk.injEq] at H;obtain ⟨rfl, rfl⟩ := H;go_enter Tryz.func20, Tryz.ntmps20;(try go_wp2_with (first | (refine zg 19 (some 12) Tryz.func19 #[.pointer (some ⟨g, 0, none⟩), .int .i64 (a1.size : Int)] ?_; (with_reducible refine (F19.calls k g s0_0 s0_1 (a1.size : Int) t376 t377 w0 _ (zs9 HI0) (zs11 HB HI0) A4.out).mono ?_); rintro e w15 ⟨rfl, hi, hb, hk⟩; refine ⟨_, rfl, ?_⟩; replace HK:=zM (KB.trans (zs10 HK) hk (.inl rfl)); replace HB:=zM (hb); replace HI0:=zM (hi); clear hb hk hi)));have pi383 : (0 ≤ (t381 : Int)) = True := eq_true (of_decide_eq_true zs0);have qi383 : (t381 < (y378.length : Int)) = True := eq_true (of_decide_eq_true zs0);replace HI0:=zM (Iq.drew HI0.out);replace HK:=zM (keep_drew HK.out);replace HB:=zM (zC HB.out);refine start_ (n := 15) (S := fun w' => True) (ds := []) (zL 15 0) zk rfl rfl trivial (fun hHeld => ?_); refine with_tabW F20.tab4 F20.bits4 (fun HT_ HW_ => ?_);generalize w15.drew = w16 at HI0 HK HB hHeld ⊢;refine zp 0 (some 13) (zL 15 1) HT_ ?_;refine zp 1 (some 14) (zL 15 3) HT_ ?_;refine zp 4 (some 17) (zL 15 19) HT_ ?_;refine zp 9 (some 22) (zL 15 531) HT_ ?_;refine zp 10 (some 23) (zL 15 1555) HT_ ?_;refine inv_at [2, 3, 5, 6, 7, 8, 11, 12, 13, 14] (fun a0_ b a w' => ∃ (v379 : Value) (adz_v379 : Addr) (m6_ : Value), a = putSel a0_ b [(2, 15, .string (a1.extract 0 (t376 : Int).toNat)), (3, 16, v379), (5, 18, .int .i64 t381), (6, 19, m6_), (7, 20, .string (rdOf ByteArray.empty y378 t381)), (8, 21, .string ((a1.extract 0 (t376 : Int).toNat) ++ (rdOf ByteArray.empty y378 t381))), (11, 24, .int .i64 ji11), (12, 25, .string (a1.extract ((ji11) : Int).toNat a1.size)), (13, 26, .string (((a1.extract 0 (t376 : Int).toNat) ++ (rdOf ByteArray.empty y378 t381)) ++ (a1.extract ((ji11) : Int).toNat a1.size))), (14, 4, .string (((a1.extract 0 (t376 : Int).toNat) ++ (rdOf ByteArray.empty y378 t381)) ++ (a1.extract ((ji11) : Int).toNat a1.size)))] ∧ (b 5 = false → Iq w0 w' g s0_0 t377) ∧ (KB w w' g none) ∧ (Below w0.heap.size w0 w') ∧ (b 3 = true → Kd.R Kd.string 9 w' w.heap.size (fun _ => True) v379 y378) ∧ (b 3 = true → ∃ c_, (v379 : Value) = .slice (some adz_v379) y378.length c_) ∧ (b 5 = true → Iq w0 w' g s0_0 t382) ∧ (b 6 = true → (m6_ : Value) = .pointer (some (adz_v379.add (t381).toNat)))) HT_.out HW_.out zk zk ?_ ?_ ?_
  ·exact ⟨.bool false, ⟨0, 0, none⟩, .bool false, by simp only [putSel, Bool.false_eq_true, if_false], fun _ => HI0.out, HK.out, HB.out, fun h_ => absurd h_ zd, fun h_ => absurd h_ zd, fun h_ => absurd h_ zd, fun h_ => absurd h_ zd⟩
  ·skip
   clear HB HI0 HK;refine steps_cons ?_ ?_
   ·rintro b a w' ⟨v379, adz_v379, m6_, ha, Q_HI0, Q_HK, Q_HB, Q_HO380, Q_HA_HO380, Q_HI0_e5, Q_X6_⟩ hb_ hon hoff;refine ⟨_, rfl, fun K hK => ?_⟩;(have e13 : a.tmps[13]? = some (.string a1) := by rw [ha]; exact (putSel_off rfl).trans rfl);(have e14 : a.tmps[14]? = some (.int .i64 t376) := by rw [ha]; exact (putSel_off rfl).trans rfl);replace ha:=zM ha;have HK:=zM Q_HK;have HB:=zM Q_HB;refine value_ (w1 := w') (v := .string (a1.extract 0 (t376 : Int).toNat)) (by rfl) rfl ?_ ?_
    ·go_simp;(try simp only [i64_w]);(try rfl);(all_goals try ((try simp only [ByteArray.size_append, ByteArray.size_extract] at c10); (try simp only [ByteArray.size_append, ByteArray.size_extract] at c14); (try have y_c5b0 := of_eq_true c5b0); (try have y_c6b0 := of_eq_true c6b0); (try have y_c10b0 := of_eq_true c10b0); (try have y_c12b0 := of_eq_true c12b0); (try have y_c13b0 := of_eq_true c13b0); (try have y_c14b0 := of_eq_true c14b0); omega))
    refine hK.out _ _ ⟨v379, adz_v379, m6_, (by rw [ha.out]; exact putSel_upk 0 hb_ rfl rfl rfl), Q_HI0, Q_HK, Q_HB, Q_HO380, Q_HA_HO380, Q_HI0_e5, Q_X6_⟩
   refine steps_cons ?_ ?_
   ·rintro b a w' ⟨v379, adz_v379, m6_, ha, Q_HI0, Q_HK, Q_HB, Q_HO380, Q_HA_HO380, Q_HI0_e5, Q_X6_⟩ hb_ hon hoff;refine ⟨_, rfl, fun K hK => ?_⟩;replace ha:=zM ha;have HK:=zM Q_HK;have HB:=zM Q_HB;refine Kd.R_lit_step Kd.string _ 9 zs1 (N := 16) zs1 (xs := ([(⟨#[]⟩ : ByteArray), (⟨#[48]⟩ : ByteArray), (⟨#[32]⟩ : ByteArray), (⟨#[10]⟩ : ByteArray), (⟨#[45]⟩ : ByteArray), (⟨#[98, 97, 99, 107]⟩ : ByteArray)] : List ByteArray)) (inner := [.string (⟨#[]⟩ : ByteArray), .string (⟨#[48]⟩ : ByteArray), .string (⟨#[32]⟩ : ByteArray), .string (⟨#[10]⟩ : ByteArray), .string (⟨#[45]⟩ : ByteArray), .string (⟨#[98, 97, 99, 107]⟩ : ByteArray)]) (ok := fun _ => True) (okp := fun _ => True) zs2 ?hp (fun _ hk => hk) trivial (Below.refl _ _) (Nat.le_refl _) (by simp) ?_; (case hp => exact (Reps.one (show Kd.M Kd.string _ _ _ (⟨#[]⟩ : ByteArray) [.string (⟨#[]⟩ : ByteArray)] from rfl) (Reps.one (show Kd.M Kd.string _ _ _ (⟨#[48]⟩ : ByteArray) [.string (⟨#[48]⟩ : ByteArray)] from rfl) (Reps.one (show Kd.M Kd.string _ _ _ (⟨#[32]⟩ : ByteArray) [.string (⟨#[32]⟩ : ByteArray)] from rfl) (Reps.one (show Kd.M Kd.string _ _ _ (⟨#[10]⟩ : ByteArray) [.string (⟨#[10]⟩ : ByteArray)] from rfl) (Reps.one (show Kd.M Kd.string _ _ _ (⟨#[45]⟩ : ByteArray) [.string (⟨#[45]⟩ : ByteArray)] from rfl) (Reps.one (show Kd.M Kd.string _ _ _ (⟨#[98, 97, 99, 107]⟩ : ByteArray) [.string (⟨#[98, 97, 99, 107]⟩ : ByteArray)] from rfl) (Reps.none _ _))))))));intro v379 w17 ho18 hb hg_ hnew_;clear hg_ hnew_;(first | rw [← Ny378.out] at ho18 | (simp only [Int.reduceToNat] at ho18; rw [← Ny378.out] at ho18));have n0_:=zM (Kd.Rl ho18 (kS (w := w) (g := g) (row := none) (zs10 HK)));have n2_:=zM (KB.trans (zs10 HK) (KB.of_below hb g none) (.inl rfl));have n3_:=zM (bS (zs3 HB) hb);have z_HI0 := fun (h0_ : b 5 = false) => (show Iq w0 w17 g s0_0 t377 from by first | exact (Iq.below (by repeat (first | (with_reducible first | exact (Q_HI0 h0_) | apply Iq.alloc | apply Iq.drewN | apply Iq.drew | apply Iq.set_1) | exact (Q_HI0 h0_))) hb));have z_HI0_e5 := fun (h0_ : b 5 = true) => (show Iq w0 w17 g s0_0 t382 from by first | exact (Iq.below (by repeat (first | (with_reducible first | exact (Q_HI0_e5 h0_) | apply Iq.alloc | apply Iq.drewN | apply Iq.drew | apply Iq.set_1) | exact (Q_HI0_e5 h0_))) hb));clear HK;clear HB;have HO380 := n0_;have HK := n2_;have HB := n3_;clear n0_ n2_ n3_;clear hb ho18;obtain ⟨Ao19, co19, eo19⟩ := Kd.Rs HO380.out;subst eo19;obtain ⟨ado19, fo19, _⟩ := Kd.at_string (Kd.rr' HO380.out).2.2 0 zd (by rw [Ny378.out]; simp);cases fo19;refine hK.out _ _ ⟨.slice (some ado19) y378.length co19, ado19, m6_, (by rw [ha.out]; exact putSel_upk 1 hb_ rfl rfl rfl), z_HI0, (zs10 HK), (zs3 HB), fun _ => (zs5 HO380), fun _ => ⟨_, rfl⟩, z_HI0_e5, fun h0_ => absurd ((hoff 6 zk).symm.trans h0_) zd⟩
   refine steps_cons ?_ ?_
   ·rintro b a w' ⟨v379, adz_v379, m6_, ha, Q_HI0, Q_HK, Q_HB, Q_HO380, Q_HA_HO380, Q_HI0_e5, Q_X6_⟩ hb_ hon hoff;refine ⟨_, rfl, fun K hK => ?_⟩;(have e17 : a.tmps[17]? = some (.pointer (some ⟨g, 0, none⟩)) := by rw [ha]; exact (putSel_off rfl).trans rfl);replace ha:=zM ha;have HI0:=zM (Q_HI0 hb_);have HK:=zM Q_HK;have HB:=zM Q_HB;refine goes_ Tryz.func19 zk rfl #[.pointer (some ⟨g, 0, none⟩), .int .i64 6] (by rfl) rfl rfl (by first | (simp only [List.map_toArray, List.map_cons, List.map_nil, Act.eval, Array.getD_eq_getD_getElem?, Option.getD_some, e17]; done) | (simp only [List.map_toArray, List.map_cons, List.map_nil, Act.eval, Array.getD_eq_getD_getElem?, Option.getD_some, e17]; rfl)) ?_;(with_reducible refine (F19.calls k g s0_0 t377 6 t381 t382 w0 _ (zs9 HI0) (zs11 HB HI0) A7.out).mono ?_);rintro e w17 ⟨rfl, hi, hb, hk⟩;refine ⟨_, rfl, ?_⟩;have n0_:=zM (KB.trans (zs10 HK) hk (.inl rfl));have n1_:=zM (hb);have n2_:=zM (hi);have z_HO380 := fun (h0_ : b 3 = true) => (show Kd.R Kd.string 9 w17 w.heap.size (fun _ => True) v379 y378 from by first | exact (Kd.Rm (Kd.Rk (Iq.apart (show Iq w0 _ g s0_0 t377 from (zs9 HI0)) (by (with_reducible repeat (first | apply Kd.Ra | apply Kd.RdN | apply Kd.Rd)); exact (Q_HO380 h0_)) zd) hk (fun _ h => h.2)) (fun _ h => h.1)) | exact Kd.Rm (Kd.Rm (Kd.Rk (Iq.apart (show Iq w0 _ g s0_0 t377 from (zs9 HI0)) (by (with_reducible repeat (first | apply Kd.Ra | apply Kd.RdN | apply Kd.Rd)); exact (Q_HO380 h0_)) zd) hk (fun _ h => h.2)) (fun _ h => h.1)) (fun _ h_ => by first | trivial | exact h_ | exact h_.1));clear HK;clear HB;clear HI0;have HK := n0_;have HB := n1_;have HI0 := n2_;clear n0_ n1_ n2_;refine hK.out _ _ ⟨v379, adz_v379, m6_, (by rw [ha.out]; exact putSel_upk 2 hb_ rfl rfl rfl), fun h0_ => absurd ((up_self b 5).symm.trans h0_) zd, (zs10 HK), (zs11 HB HI0), z_HO380, Q_HA_HO380, fun _ => (zs9 HI0), fun h0_ => absurd ((hoff 6 zk).symm.trans h0_) zd⟩
   refine steps_cons ?_ ?_
   ·rintro b a w' ⟨v379, adz_v379, m6_, ha, Q_HI0, Q_HK, Q_HB, Q_HO380, Q_HA_HO380, Q_HI0_e5, Q_X6_⟩ hb_ hon hoff;refine ⟨_, rfl, fun K hK => ?_⟩;(have e16 : a.tmps[16]? = some (v379) := by rw [ha]; exact putSel_on (e := (3, 16, v379)) 1 rfl rfl (hon 3 zk) rfl);(have e18 : a.tmps[18]? = some (.int .i64 t381) := by rw [ha]; exact putSel_on (e := (5, 18, .int .i64 t381)) 2 rfl rfl (hon 5 zk) rfl);replace ha:=zM ha;have HK:=zM Q_HK;have HB:=zM Q_HB;have HO380:=zM (Q_HO380 (hon 3 zk));have HA_HO380:=zM (Q_HA_HO380 (hon 3 zk));have HI0:=zM (Q_HI0_e5 (hon 5 zk));obtain ⟨c_, hv_⟩ := HA_HO380.out;rw [hv_] at e16;refine value_ (w1 := w') (v := .pointer (some (adz_v379.add (t381).toNat))) (by rfl) rfl ?_ ?_
    ·go_simp;(try simp only [i64_w]);(try rfl);(all_goals try ((try simp only [ByteArray.size_append, ByteArray.size_extract] at c10); (try simp only [ByteArray.size_append, ByteArray.size_extract] at c14); (try have y_c5b0 := of_eq_true c5b0); (try have y_c6b0 := of_eq_true c6b0); (try have y_c10b0 := of_eq_true c10b0); (try have y_c12b0 := of_eq_true c12b0); (try have y_c13b0 := of_eq_true c13b0); (try have y_c14b0 := of_eq_true c14b0); omega))
    refine hK.out _ _ ⟨v379, adz_v379, (.pointer (some (adz_v379.add (t381).toNat))), (by rw [ha.out]; exact putSel_upk 3 hb_ rfl rfl rfl), fun h0_ => absurd ((hon 5 zk).symm.trans h0_) zd, Q_HK, Q_HB, Q_HO380, Q_HA_HO380, Q_HI0_e5, fun _ => rfl⟩
   refine steps_cons ?_ ?_
   ·rintro b a w' ⟨v379, adz_v379, m6_, ha, Q_HI0, Q_HK, Q_HB, Q_HO380, Q_HA_HO380, Q_HI0_e5, Q_X6_⟩ hb_ hon hoff;refine ⟨_, rfl, fun K hK => ?_⟩;(have e19 : a.tmps[19]? = some (m6_) := by rw [ha]; exact putSel_on (e := (6, 19, m6_)) 3 rfl rfl (hon 6 zk) rfl);rw [Q_X6_ (hon 6 zk)] at e19;replace ha:=zM ha;have HK:=zM Q_HK;have HB:=zM Q_HB;have HO380:=zM (Q_HO380 (hon 3 zk));have HA_HO380:=zM (Q_HA_HO380 (hon 3 zk));have HI0:=zM (Q_HI0_e5 (hon 5 zk));obtain ⟨c_, hv_⟩ := HA_HO380.out;have hF_ := HO380.out;rw [hv_] at hF_;obtain ⟨ad_, ea_, hx_⟩ := Kd.at_string (Kd.rr' hF_).2.2 t381 (of_eq_true pi383) (of_eq_true qi383);cases ea_;refine value_ (w1 := w') (v := .string (rdOf ByteArray.empty y378 t381)) (by rfl) rfl ?_ ?_
    ·go_simp;(try simp only [i64_w]);(try rfl);(all_goals try ((try simp only [ByteArray.size_append, ByteArray.size_extract] at c10); (try simp only [ByteArray.size_append, ByteArray.size_extract] at c14); (try have y_c5b0 := of_eq_true c5b0); (try have y_c6b0 := of_eq_true c6b0); (try have y_c10b0 := of_eq_true c10b0); (try have y_c12b0 := of_eq_true c12b0); (try have y_c13b0 := of_eq_true c13b0); (try have y_c14b0 := of_eq_true c14b0); omega))
    refine hK.out _ _ ⟨v379, adz_v379, m6_, (by rw [ha.out]; exact putSel_upk 4 hb_ rfl rfl rfl), fun h0_ => absurd ((hon 5 zk).symm.trans h0_) zd, Q_HK, Q_HB, Q_HO380, Q_HA_HO380, Q_HI0_e5, Q_X6_⟩
   refine steps_cons ?_ ?_
   ·rintro b a w' ⟨v379, adz_v379, m6_, ha, Q_HI0, Q_HK, Q_HB, Q_HO380, Q_HA_HO380, Q_HI0_e5, Q_X6_⟩ hb_ hon hoff;refine ⟨_, rfl, fun K hK => ?_⟩;(have e15 : a.tmps[15]? = some (.string (a1.extract 0 (t376 : Int).toNat)) := by rw [ha]; exact putSel_on (e := (2, 15, .string (a1.extract 0 (t376 : Int).toNat))) 0 rfl rfl (hon 2 zk) rfl);(have e20 : a.tmps[20]? = some (.string (rdOf ByteArray.empty y378 t381)) := by rw [ha]; exact putSel_on (e := (7, 20, .string (rdOf ByteArray.empty y378 t381))) 4 rfl rfl (hon 7 zk) rfl);replace ha:=zM ha;have HK:=zM Q_HK;have HB:=zM Q_HB;have HO380:=zM (Q_HO380 (hon 3 zk));have HA_HO380:=zM (Q_HA_HO380 (hon 3 zk));have HI0:=zM (Q_HI0_e5 (hon 5 zk));refine value_ (w1 := w') (v := .string ((a1.extract 0 (t376 : Int).toNat) ++ (rdOf ByteArray.empty y378 t381))) (by rfl) rfl ?_ ?_
    ·go_simp;(try simp only [i64_w]);(try rfl);(all_goals try ((try simp only [ByteArray.size_append, ByteArray.size_extract] at c10); (try simp only [ByteArray.size_append, ByteArray.size_extract] at c14); (try have y_c5b0 := of_eq_true c5b0); (try have y_c6b0 := of_eq_true c6b0); (try have y_c10b0 := of_eq_true c10b0); (try have y_c12b0 := of_eq_true c12b0); (try have y_c13b0 := of_eq_true c13b0); (try have y_c14b0 := of_eq_true c14b0); omega))
    refine hK.out _ _ ⟨v379, adz_v379, m6_, (by rw [ha.out]; exact putSel_upk 5 hb_ rfl rfl rfl), fun h0_ => absurd ((hon 5 zk).symm.trans h0_) zd, Q_HK, Q_HB, Q_HO380, Q_HA_HO380, Q_HI0_e5, Q_X6_⟩
   refine steps_cons ?_ ?_
   ·rintro b a w' ⟨v379, adz_v379, m6_, ha, Q_HI0, Q_HK, Q_HB, Q_HO380, Q_HA_HO380, Q_HI0_e5, Q_X6_⟩ hb_ hon hoff;refine ⟨_, rfl, fun K hK => ?_⟩;(have e23 : a.tmps[23]? = some (.int .i64 t376) := by rw [ha]; exact (putSel_off rfl).trans rfl);replace ha:=zM ha;have HK:=zM Q_HK;have HB:=zM Q_HB;refine value_ (w1 := w') (v := .int .i64 ji11) (by rfl) rfl ?_ ?_
    ·go_simp;(try simp only [i64_w]);(try rfl);(all_goals try ((try simp only [ByteArray.size_append, ByteArray.size_extract] at c10); (try simp only [ByteArray.size_append, ByteArray.size_extract] at c14); (try have y_c5b0 := of_eq_true c5b0); (try have y_c6b0 := of_eq_true c6b0); (try have y_c10b0 := of_eq_true c10b0); (try have y_c12b0 := of_eq_true c12b0); (try have y_c13b0 := of_eq_true c13b0); (try have y_c14b0 := of_eq_true c14b0); omega))
    refine hK.out _ _ ⟨v379, adz_v379, m6_, (by rw [ha.out]; exact putSel_upk 6 hb_ rfl rfl rfl), Q_HI0, Q_HK, Q_HB, Q_HO380, Q_HA_HO380, Q_HI0_e5, Q_X6_⟩
   refine steps_cons ?_ ?_
   ·rintro b a w' ⟨v379, adz_v379, m6_, ha, Q_HI0, Q_HK, Q_HB, Q_HO380, Q_HA_HO380, Q_HI0_e5, Q_X6_⟩ hb_ hon hoff;refine ⟨_, rfl, fun K hK => ?_⟩;(have e22 : a.tmps[22]? = some (.string a1) := by rw [ha]; exact (putSel_off rfl).trans rfl);(have e24 : a.tmps[24]? = some (.int .i64 ji11) := by rw [ha]; exact putSel_on (e := (11, 24, .int .i64 ji11)) 6 rfl rfl (hon 11 zk) rfl);replace ha:=zM ha;have HK:=zM Q_HK;have HB:=zM Q_HB;refine value_ (w1 := w') (v := .string (a1.extract ((ji11) : Int).toNat a1.size)) (by rfl) rfl ?_ ?_
    ·go_simp;(try simp only [i64_w]);(try rfl);(all_goals try ((try simp only [ByteArray.size_append, ByteArray.size_extract] at c10); (try simp only [ByteArray.size_append, ByteArray.size_extract] at c14); (try have y_c5b0 := of_eq_true c5b0); (try have y_c6b0 := of_eq_true c6b0); (try have y_c10b0 := of_eq_true c10b0); (try have y_c12b0 := of_eq_true c12b0); (try have y_c13b0 := of_eq_true c13b0); (try have y_c14b0 := of_eq_true c14b0); omega))
    refine hK.out _ _ ⟨v379, adz_v379, m6_, (by rw [ha.out]; exact putSel_upk 7 hb_ rfl rfl rfl), Q_HI0, Q_HK, Q_HB, Q_HO380, Q_HA_HO380, Q_HI0_e5, Q_X6_⟩
   refine steps_cons ?_ ?_
   ·rintro b a w' ⟨v379, adz_v379, m6_, ha, Q_HI0, Q_HK, Q_HB, Q_HO380, Q_HA_HO380, Q_HI0_e5, Q_X6_⟩ hb_ hon hoff;refine ⟨_, rfl, fun K hK => ?_⟩;(have e21 : a.tmps[21]? = some (.string ((a1.extract 0 (t376 : Int).toNat) ++ (rdOf ByteArray.empty y378 t381))) := by rw [ha]; exact putSel_on (e := (8, 21, .string ((a1.extract 0 (t376 : Int).toNat) ++ (rdOf ByteArray.empty y378 t381)))) 5 rfl rfl (hon 8 zk) rfl);(have e25 : a.tmps[25]? = some (.string (a1.extract ((ji11) : Int).toNat a1.size)) := by rw [ha]; exact putSel_on (e := (12, 25, .string (a1.extract ((ji11) : Int).toNat a1.size))) 7 rfl rfl (hon 12 zk) rfl);replace ha:=zM ha;have HK:=zM Q_HK;have HB:=zM Q_HB;have HO380:=zM (Q_HO380 (hon 3 zk));have HA_HO380:=zM (Q_HA_HO380 (hon 3 zk));have HI0:=zM (Q_HI0_e5 (hon 5 zk));refine value_ (w1 := w') (v := .string (((a1.extract 0 (t376 : Int).toNat) ++ (rdOf ByteArray.empty y378 t381)) ++ (a1.extract ((ji11) : Int).toNat a1.size))) (by rfl) rfl ?_ ?_
    ·go_simp;(try simp only [i64_w]);(try rfl);(all_goals try ((try simp only [ByteArray.size_append, ByteArray.size_extract] at c10); (try simp only [ByteArray.size_append, ByteArray.size_extract] at c14); (try have y_c5b0 := of_eq_true c5b0); (try have y_c6b0 := of_eq_true c6b0); (try have y_c10b0 := of_eq_true c10b0); (try have y_c12b0 := of_eq_true c12b0); (try have y_c13b0 := of_eq_true c13b0); (try have y_c14b0 := of_eq_true c14b0); omega))
    refine hK.out _ _ ⟨v379, adz_v379, m6_, (by rw [ha.out]; exact putSel_upk 8 hb_ rfl rfl rfl), fun h0_ => absurd ((hon 5 zk).symm.trans h0_) zd, Q_HK, Q_HB, Q_HO380, Q_HA_HO380, Q_HI0_e5, Q_X6_⟩
   refine steps_cons ?_ ?_
   ·rintro b a w' ⟨v379, adz_v379, m6_, ha, Q_HI0, Q_HK, Q_HB, Q_HO380, Q_HA_HO380, Q_HI0_e5, Q_X6_⟩ hb_ hon hoff;refine ⟨_, rfl, fun K hK => ?_⟩;(have e26 : a.tmps[26]? = some (.string (((a1.extract 0 (t376 : Int).toNat) ++ (rdOf ByteArray.empty y378 t381)) ++ (a1.extract ((ji11) : Int).toNat a1.size))) := by rw [ha]; exact putSel_on (e := (13, 26, .string (((a1.extract 0 (t376 : Int).toNat) ++ (rdOf ByteArray.empty y378 t381)) ++ (a1.extract ((ji11) : Int).toNat a1.size)))) 8 rfl rfl (hon 13 zk) rfl);replace ha:=zM ha;have HK:=zM Q_HK;have HB:=zM Q_HB;have HO380:=zM (Q_HO380 (hon 3 zk));have HA_HO380:=zM (Q_HA_HO380 (hon 3 zk));have HI0:=zM (Q_HI0_e5 (hon 5 zk));refine value_ (w1 := w') (v := .string (((a1.extract 0 (t376 : Int).toNat) ++ (rdOf ByteArray.empty y378 t381)) ++ (a1.extract ((ji11) : Int).toNat a1.size))) (by rfl) rfl ?_ ?_
    ·go_simp;(try simp only [i64_w]);(try rfl);(all_goals try ((try simp only [ByteArray.size_append, ByteArray.size_extract] at c10); (try simp only [ByteArray.size_append, ByteArray.size_extract] at c14); (try have y_c5b0 := of_eq_true c5b0); (try have y_c6b0 := of_eq_true c6b0); (try have y_c10b0 := of_eq_true c10b0); (try have y_c12b0 := of_eq_true c12b0); (try have y_c13b0 := of_eq_true c13b0); (try have y_c14b0 := of_eq_true c14b0); omega))
    refine hK.out _ _ ⟨v379, adz_v379, m6_, (by rw [ha.out]; exact putSel_upk 9 hb_ rfl rfl rfl), fun h0_ => absurd ((hon 5 zk).symm.trans h0_) zd, Q_HK, Q_HB, Q_HO380, Q_HA_HO380, Q_HI0_e5, Q_X6_⟩
   exact steps_nil
  rintro b a w21 hall ⟨v379, adz_v379, m6_, ha, Q_HI0, Q_HK, Q_HB, Q_HO380, Q_HA_HO380, Q_HI0_e5, Q_X6_⟩;clear HB HI0 HK;have hb2_ := hall 2 zk;have hb3_ := hall 3 zk;have hb5_ := hall 5 zk;have hb6_ := hall 6 zk;have hb7_ := hall 7 zk;have hb8_ := hall 8 zk;have hb11_ := hall 11 zk;have hb12_ := hall 12 zk;have hb13_ := hall 13 zk;have hb14_ := hall 14 zk;subst ha;obtain rfl := Q_X6_ hb6_;simp only [putSel, hb2_, hb3_, hb5_, hb6_, hb7_, hb8_, hb11_, hb12_, hb13_, hb14_, if_true, Act.put, zE, zF, zG];clear Q_HI0;have HK:=zM Q_HK;clear Q_HK;have HB:=zM Q_HB;clear Q_HB;have HO380:=zM (Q_HO380 hb3_);clear Q_HO380;have HA_HO380:=zM (Q_HA_HO380 hb3_);clear Q_HA_HO380;have HI0:=zM (Q_HI0_e5 hb5_);clear Q_HI0_e5;clear hall hb2_ hb3_ hb5_ hb6_ hb7_ hb8_ hb11_ hb12_ hb13_ hb14_;obtain ⟨co22, eo22⟩ := HA_HO380.out;clear HA_HO380;subst eo22;(try go_wp2);go_ret;(exact ⟨by first | rfl | (simp [eN, eS] <;> rfl) | (simp only [← hji11]; first | rfl | (simp [eN, eS] <;> rfl)) | (simp [*, eN, eS] <;> rfl), (zs9 HI0), (zs11 HB HI0), (zs10 HK)⟩)
def F4.f (k : Nat) (l0 : List Int) : Option (ByteArray) := (F16.f l0).bind fun bt384 => ((F18.f k bt384.1 bt384.2).bind fun bt387 => ((F17.f k bt387.1).bind fun t391 => ((F19.f k bt384.1 bt387.2 3).bind fun bt392 => (if bt392.1 = 0 then ((F20.f k bt384.1 bt392.2 t391).bind fun bt394 => (some bt394.1)) else (if bt392.1 = 1 then ((F19.f k bt384.1 bt392.2 (wrap64 ((t391.size : Int) + 1))).bind fun bt396 => (if 0 ≤ bt396.1 then (if bt396.1 ≤ (t391.size : Int) then (some (t391.extract 0 (bt396.1 : Int).toNat)) else (none)) else (none))) else (some t391))))))
theorem F4.mono : ∀ a0 k, LeO (F4.f k a0) (F4.f (k + 1) a0) := by
 intro a0 k;unfold F4.f;have := @F17.mono; have := @F19.mono; have := @F20.mono; have := @F18.mono; exact zm
theorem F4.calls (k : Nat) (A0 : Option Addr) (c0 : Nat) (l0 : List Int) (r : ByteArray) (w : World) (hr0 : Kd.C (Kd.int .u8) w A0 l0.length l0) (hc0 : l0.length ≤ c0) (h : F4.f k l0 = some r) :
  Calls Tryz.prog 4 #[.slice A0 l0.length c0] w fun e w' => e = .returned (.string r) ∧ Below w.heap.size w w' := by
 have HR0:=zM hr0;have HC0:=zM hc0;clear hr0 hc0;have HB:=zM (Below.refl w.heap.size w);have H : ((F16.f l0).bind fun bt384 => ((F18.f k bt384.1 bt384.2).bind fun bt387 => ((F17.f k bt387.1).bind fun t391 => ((F19.f k bt384.1 bt387.2 3).bind fun bt392 => (if bt392.1 = 0 then ((F20.f k bt384.1 bt392.2 t391).bind fun bt394 => (some bt394.1)) else (if bt392.1 = 1 then ((F19.f k bt384.1 bt392.2 (wrap64 ((t391.size : Int) + 1))).bind fun bt396 => (if 0 ≤ bt396.1 then (if bt396.1 ≤ (t391.size : Int) then (some (t391.extract 0 (bt396.1 : Int).toNat)) else (none)) else (none))) else (some t391))))))) = some r := h;clear h;replace H := zb H; obtain ⟨⟨t384, t385⟩, A2, H⟩ := H; (try dsimp only at H);replace H := zb H; obtain ⟨⟨t387, t390⟩, A3, H⟩ := H; (try dsimp only at H);replace H := zb H; obtain ⟨t391, A4, H⟩ := H; (try dsimp only at H);replace H := zb H; obtain ⟨⟨t392, t393⟩, A5, H⟩ := H; (try dsimp only at H);by_cases c6 : t392 = 0
 ·rw [if_pos c6] at H;have c6b0 := beq_iff_eq.mpr c6;have c6b1 := bne_eq_false_iff_eq.mpr c6;clear c6;replace H := zb H; obtain ⟨⟨t394, t395⟩, A7, H⟩ := H; (try dsimp only at H);obtain rfl := Option.some.inj H;go_enter Tryz.func4, Tryz.ntmps4;go_wp2_with (first | (refine zg 16 (some 6) Tryz.func16 #[.slice A0 l0.length c0] ?_; (with_reducible refine (F16.calls _ _ l0 t384 t385 w _ (zs3 HB) ?side2 ?side3 A2.out).mono ?_); (case side2 => exact HR0.out); (case side3 => exact HC0.out); rintro e w8 ⟨g386, rfl, hi, hb, hb2⟩; refine ⟨_, rfl, ?_⟩; replace HB:=zM (hb); have HI386:=zM (hi); clear hb hb2 hi) | (refine zg 18 (some 8) Tryz.func18 #[.pointer (some ⟨g386, 0, none⟩)] ?_; (with_reducible refine (F18.calls k g386 t384 t385 t387 t390 w _ (zs9 HI386) (zs11 HB HI386) A3.out).mono ?_); rintro e w9 ⟨v388, rfl, ho0, hi, hb, hk⟩; refine ⟨_, rfl, ?_⟩; have HO389:=zM (Kd.Rl ho0 (bZ (zs11 HB HI386))); replace HB:=zM (hb); replace HI386:=zM (hi); clear hb hk hi ho0; obtain ⟨Ao10, co10, eo10⟩ := Kd.Rs HO389.out; subst eo10) | (refine zg 17 (some 9) Tryz.func17 #[.slice Ao10 t387.length co10] ?_; (with_reducible refine (F17.calls k _ _ t387 t391 _ ?side1 ?side2 A4.out).mono ?_); (case side1 => exact (zs22 HO389)); (case side2 => exact (Kd.rr' HO389.out).2.1); rintro e w11 ⟨rfl, hb⟩; refine ⟨_, rfl, ?_⟩; replace HO389 := zrR HO389 hb; replace HB:=zM (bS (zs11 HB HI386) hb); replace HI386:=zM (Iq.below (zs9 HI386) hb); clear hb) | (refine zg 19 (some 11) Tryz.func19 #[.pointer (some ⟨g386, 0, none⟩), .int .i64 3] ?_; (with_reducible refine (F19.calls k g386 t384 t390 3 t392 t393 w _ (zs9 HI386) (zs11 HB HI386) A5.out).mono ?_); rintro e w12 ⟨rfl, hi, hb, hk⟩; refine ⟨_, rfl, ?_⟩; replace HO389:=zM (Kd.Rm (Kd.Rk (Iq.apart (show Iq w _ g386 t384 t390 from (zs9 HI386)) (zs5 HO389) zd) hk (fun _ h => h.2)) (fun _ h => h.1)); replace HB:=zM (hb); replace HI386:=zM (hi); clear hb hk hi) | (refine zg 20 (some 16) Tryz.func20 #[.pointer (some ⟨g386, 0, none⟩), .string t391] ?_; (with_reducible refine (F20.calls k g386 t384 t393 t391 t394 t395 w _ (zs9 HI386) (zs11 HB HI386) A7.out).mono ?_); rintro e w13 ⟨rfl, hi, hb, hk⟩; refine ⟨_, rfl, ?_⟩; replace HO389:=zM (Kd.Rm (Kd.Rk (Iq.apart (show Iq w _ g386 t384 t393 from (zs9 HI386)) (zs5 HO389) zd) hk (fun _ h => h.2)) (fun _ h => h.1)); replace HB:=zM (hb); replace HI386:=zM (hi); clear hb hk hi));go_ret;exact ⟨zs6, (zs11 HB HI386)⟩
 ·rw [if_neg c6] at H;have c6b0 := beq_eq_false_iff_ne.mpr c6;have c6b1 := bne_iff_ne.mpr c6;by_cases c14 : t392 = 1
  ·rw [if_pos c14] at H;have c14b0 := beq_iff_eq.mpr c14;have c14b1 := bne_eq_false_iff_eq.mpr c14;clear c14;replace H := zb H; obtain ⟨⟨t396, t397⟩, A15, H⟩ := H; (try dsimp only at H);replace H := zn H; obtain ⟨c16, H⟩ := H;have c16b0 := eq_true c16;have c16b1 := decide_eq_true c16;clear c16;replace H := zn H; obtain ⟨c17, H⟩ := H;have c17b0 := eq_true c17;have c17b1 := decide_eq_true c17;clear c17;obtain rfl := Option.some.inj H;go_enter Tryz.func4, Tryz.ntmps4;go_wp2_with (first | (refine zg 16 (some 6) Tryz.func16 #[.slice A0 l0.length c0] ?_; (with_reducible refine (F16.calls _ _ l0 t384 t385 w _ (zs3 HB) ?side2 ?side3 A2.out).mono ?_); (case side2 => exact HR0.out); (case side3 => exact HC0.out); rintro e w18 ⟨g386, rfl, hi, hb, hb2⟩; refine ⟨_, rfl, ?_⟩; replace HB:=zM (hb); have HI386:=zM (hi); clear hb hb2 hi) | (refine zg 18 (some 8) Tryz.func18 #[.pointer (some ⟨g386, 0, none⟩)] ?_; (with_reducible refine (F18.calls k g386 t384 t385 t387 t390 w _ (zs9 HI386) (zs11 HB HI386) A3.out).mono ?_); rintro e w19 ⟨v388, rfl, ho0, hi, hb, hk⟩; refine ⟨_, rfl, ?_⟩; have HO389:=zM (Kd.Rl ho0 (bZ (zs11 HB HI386))); replace HB:=zM (hb); replace HI386:=zM (hi); clear hb hk hi ho0; obtain ⟨Ao20, co20, eo20⟩ := Kd.Rs HO389.out; subst eo20) | (refine zg 17 (some 9) Tryz.func17 #[.slice Ao20 t387.length co20] ?_; (with_reducible refine (F17.calls k _ _ t387 t391 _ ?side1 ?side2 A4.out).mono ?_); (case side1 => exact (zs22 HO389)); (case side2 => exact (Kd.rr' HO389.out).2.1); rintro e w21 ⟨rfl, hb⟩; refine ⟨_, rfl, ?_⟩; replace HO389 := zrR HO389 hb; replace HB:=zM (bS (zs11 HB HI386) hb); replace HI386:=zM (Iq.below (zs9 HI386) hb); clear hb) | (refine zg 19 (some 11) Tryz.func19 #[.pointer (some ⟨g386, 0, none⟩), .int .i64 3] ?_; (with_reducible refine (F19.calls k g386 t384 t390 3 t392 t393 w _ (zs9 HI386) (zs11 HB HI386) A5.out).mono ?_); rintro e w22 ⟨rfl, hi, hb, hk⟩; refine ⟨_, rfl, ?_⟩; replace HO389:=zM (Kd.Rm (Kd.Rk (Iq.apart (show Iq w _ g386 t384 t390 from (zs9 HI386)) (zs5 HO389) zd) hk (fun _ h => h.2)) (fun _ h => h.1)); replace HB:=zM (hb); replace HI386:=zM (hi); clear hb hk hi) | (refine zg 19 (some 24) Tryz.func19 #[.pointer (some ⟨g386, 0, none⟩), .int .i64 (wrap64 ((t391.size : Int) + 1))] ?_; (with_reducible refine (F19.calls k g386 t384 t393 (wrap64 ((t391.size : Int) + 1)) t396 t397 w _ (zs9 HI386) (zs11 HB HI386) A15.out).mono ?_); rintro e w23 ⟨rfl, hi, hb, hk⟩; refine ⟨_, rfl, ?_⟩; replace HO389:=zM (Kd.Rm (Kd.Rk (Iq.apart (show Iq w _ g386 t384 t393 from (zs9 HI386)) (zs5 HO389) zd) hk (fun _ h => h.2)) (fun _ h => h.1)); replace HB:=zM (hb); replace HI386:=zM (hi); clear hb hk hi));go_ret;exact ⟨zs6, (zs11 HB HI386)⟩
  ·rw [if_neg c14] at H;have c14b0 := beq_eq_false_iff_ne.mpr c14;have c14b1 := bne_iff_ne.mpr c14;obtain rfl := Option.some.inj H;go_enter Tryz.func4, Tryz.ntmps4;go_wp2_with (first | (refine zg 16 (some 6) Tryz.func16 #[.slice A0 l0.length c0] ?_; (with_reducible refine (F16.calls _ _ l0 t384 t385 w _ (zs3 HB) ?side2 ?side3 A2.out).mono ?_); (case side2 => exact HR0.out); (case side3 => exact HC0.out); rintro e w24 ⟨g386, rfl, hi, hb, hb2⟩; refine ⟨_, rfl, ?_⟩; replace HB:=zM (hb); have HI386:=zM (hi); clear hb hb2 hi) | (refine zg 18 (some 8) Tryz.func18 #[.pointer (some ⟨g386, 0, none⟩)] ?_; (with_reducible refine (F18.calls k g386 t384 t385 t387 t390 w _ (zs9 HI386) (zs11 HB HI386) A3.out).mono ?_); rintro e w25 ⟨v388, rfl, ho0, hi, hb, hk⟩; refine ⟨_, rfl, ?_⟩; have HO389:=zM (Kd.Rl ho0 (bZ (zs11 HB HI386))); replace HB:=zM (hb); replace HI386:=zM (hi); clear hb hk hi ho0; obtain ⟨Ao26, co26, eo26⟩ := Kd.Rs HO389.out; subst eo26) | (refine zg 17 (some 9) Tryz.func17 #[.slice Ao26 t387.length co26] ?_; (with_reducible refine (F17.calls k _ _ t387 t391 _ ?side1 ?side2 A4.out).mono ?_); (case side1 => exact (zs22 HO389)); (case side2 => exact (Kd.rr' HO389.out).2.1); rintro e w27 ⟨rfl, hb⟩; refine ⟨_, rfl, ?_⟩; replace HO389 := zrR HO389 hb; replace HB:=zM (bS (zs11 HB HI386) hb); replace HI386:=zM (Iq.below (zs9 HI386) hb); clear hb) | (refine zg 19 (some 11) Tryz.func19 #[.pointer (some ⟨g386, 0, none⟩), .int .i64 3] ?_; (with_reducible refine (F19.calls k g386 t384 t390 3 t392 t393 w _ (zs9 HI386) (zs11 HB HI386) A5.out).mono ?_); rintro e w28 ⟨rfl, hi, hb, hk⟩; refine ⟨_, rfl, ?_⟩; replace HO389:=zM (Kd.Rm (Kd.Rk (Iq.apart (show Iq w _ g386 t384 t390 from (zs9 HI386)) (zs5 HO389) zd) hk (fun _ h => h.2)) (fun _ h => h.1)); replace HB:=zM (hb); replace HI386:=zM (hi); clear hb hk hi));go_ret;exact ⟨zs6, (zs11 HB HI386)⟩
def F21.ren : Go.Shelf.Ren := { f := fun x => if x = 145 then 21 else if x = 217 then 116 else if x = 219 then 82 else if x = 220 then 40 else if x = 224 then 118 else if x = 225 then 117 else if x = 266 then 147 else if x = 267 then 119 else if x = 314 then 148 else 0, t := fun x => if x = 3 then 3 else if x = 4 then 4 else if x = 5 then 5 else if x = 9 then 9 else if x = 46 then 115 else if x = 51 then 139 else if x = 59 then 51 else if x = 146 then 140 else 0, g := fun x => if x = 1 then 1 else 0 }
theorem F21.lays : Lays.n145 Tryz.prog F21.ren := {
 mixed := by kernel_rfl
 f145 := by kernel_rfl
 f217 := by kernel_rfl
 f219 := by kernel_rfl
 f220 := by kernel_rfl
 f224 := by kernel_rfl
 f225 := by kernel_rfl
 f266 := by kernel_rfl
 f267 := by kernel_rfl
 f314 := by kernel_rfl
 t3 := by kernel_rfl
 a3 := fun _ => by kernel_rfl
 z3 := fun _ => by kernel_rfl
 v3 := fun _ => by kernel_rfl
 t4 := by kernel_rfl
 a4 := fun _ => by kernel_rfl
 z4 := fun _ => by kernel_rfl
 v4 := fun _ => by kernel_rfl
 t5 := by kernel_rfl
 a5 := fun _ => by kernel_rfl
 z5 := fun _ => by kernel_rfl
 v5 := fun _ => by kernel_rfl
 t9 := by kernel_rfl
 a9 := fun _ => by kernel_rfl
 z9 := fun _ => by kernel_rfl
 v9 := fun _ => by kernel_rfl
 t46 := by kernel_rfl
 a46 := fun _ => by kernel_rfl
 z46 := fun _ => by kernel_rfl
 v46 := fun _ => by kernel_rfl
 t51 := by kernel_rfl
 a51 := fun _ => by kernel_rfl
 z51 := fun _ => by kernel_rfl
 v51 := fun _ => by kernel_rfl
 t59 := by kernel_rfl
 a59 := fun _ => by kernel_rfl
 z59 := fun _ => by kernel_rfl
 v59 := fun _ => by kernel_rfl
 t146 := by kernel_rfl
 a146 := fun _ => by kernel_rfl
 z146 := fun _ => by kernel_rfl
 v146 := fun _ => by kernel_rfl
 g1 := by kernel_rfl }
def F21.f (a0 : ByteArray) (a1 : ByteArray) : Option (ByteArray × ByteArray × Bool) := if a0.size < 4294967281 then some (⟨(Lib.cut a0.data.toList a1.data.toList).1.toArray⟩, ⟨(Lib.cut a0.data.toList a1.data.toList).2.1.toArray⟩, (Lib.cut a0.data.toList a1.data.toList).2.2) else none
theorem F21.calls (a0 : ByteArray) (a1 : ByteArray) (r1 r2 : ByteArray) (r3 : Bool) (w : World) (hT : TabR w) (h : F21.f a0 a1 = some (r1, r2, r3)) :
  Calls Tryz.prog 21 #[.string a0, .string a1] w fun e w' => e = .returned (.tuple #[.string r1, .string r2, .bool r3]) ∧ Below w.heap.size w w' := by
 unfold F21.f at h;by_cases hc : a0.size < 4294967281
 ·rw [if_pos hc] at h;have h := Option.some.inj h;simp only [Prod.mk.injEq] at h;obtain ⟨rfl, rfl, rfl⟩ := h;obtain ⟨m, hm⟩ := hT.2.1;refine (Any.strings_Cut (ρ := F21.ren) F21.lays a0 a1 m w hc hm).mono ?_;rintro e w' ⟨rfl, n, rfl⟩;exact ⟨rfl, zA (Below.refl _ _) n⟩
 ·rw [if_neg hc] at h; cases h
def F33.f (a0_0 : Int) (a0_1 : Int) (a0_2 : Int) : Option (Bool) := if a0_0 = 0 then (some true) else (if a0_0 = 1 then (some (a0_2 == 0)) else (if a0_0 = 2 then (if a0_1 = 0 then (some (a0_2 == 0)) else (some false)) else (if a0_0 = 3 then (if a0_1 = 0 then (some (a0_2 == 0)) else (some false)) else (if a0_0 = 4 then (if a0_1 = 0 then (some (a0_2 == 0)) else (some false)) else (if a0_0 = 5 then (if a0_1 = 0 then (some (a0_2 == 0)) else (some false)) else (some false))))))
theorem F33.calls (a0_0 : Int) (a0_1 : Int) (a0_2 : Int) (r : Bool) (w : World) (h : F33.f a0_0 a0_1 a0_2 = some r) :
  Calls Tryz.prog 33 #[.agg #[.int .i64 a0_0, .int .i64 a0_1, .int .i64 a0_2]] w fun e w' => e = .returned (.bool r) ∧ Below w.heap.size w w' := by
 have hu39 := Tryz.underlying39;have HB:=zM (Below.refl w.heap.size w);have H : (if a0_0 = 0 then (some true) else (if a0_0 = 1 then (some (a0_2 == 0)) else (if a0_0 = 2 then (if a0_1 = 0 then (some (a0_2 == 0)) else (some false)) else (if a0_0 = 3 then (if a0_1 = 0 then (some (a0_2 == 0)) else (some false)) else (if a0_0 = 4 then (if a0_1 = 0 then (some (a0_2 == 0)) else (some false)) else (if a0_0 = 5 then (if a0_1 = 0 then (some (a0_2 == 0)) else (some false)) else (some false))))))) = some r := h;clear h;by_cases c2 : a0_0 = 0
 ·rw [if_pos c2] at H;have c2b0 := beq_iff_eq.mpr c2;have c2b1 := bne_eq_false_iff_eq.mpr c2;clear c2;obtain rfl := Option.some.inj H;go_enter Tryz.func33, Tryz.ntmps33;go_wp2_with (first | ((with_reducible refine gD (N := 1) rfl ?_); refine bX zs1 (N := 1) zs1 (cs := #[.int .i64 a0_0, .int .i64 a0_1, .int .i64 a0_2]) (t := 39) zs2 ?_; intro gb398 hg w3 hbox hb; have BK398:=zM (hbox); have GW398 := zg1 (zs3 HB) hg; have GE398 := zg1 (zs3 HB) hg; replace HB:=zM (bS (zs3 HB) hb); clear hb hbox hg; have ⟨hcz4_0, hfz4_0⟩ := cy0 BK398.out; have ⟨hcz4_1, hfz4_1⟩ := cy1 BK398.out; have ⟨hcz4_2, hfz4_2⟩ := cy2 BK398.out));go_ret;exact ⟨zs6, (zs4 HB GE398)⟩
 ·rw [if_neg c2] at H;have c2b0 := beq_eq_false_iff_ne.mpr c2;have c2b1 := bne_iff_ne.mpr c2;by_cases c5 : a0_0 = 1
  ·rw [if_pos c5] at H;have c5b0 := beq_iff_eq.mpr c5;have c5b1 := bne_eq_false_iff_eq.mpr c5;clear c5;obtain rfl := Option.some.inj H;go_enter Tryz.func33, Tryz.ntmps33;go_wp2_with (first | ((with_reducible refine gD (N := 1) rfl ?_); refine bX zs1 (N := 1) zs1 (cs := #[.int .i64 a0_0, .int .i64 a0_1, .int .i64 a0_2]) (t := 39) zs2 ?_; intro gb398 hg w6 hbox hb; have BK398:=zM (hbox); have GW398 := zg1 (zs3 HB) hg; have GE398 := zg1 (zs3 HB) hg; replace HB:=zM (bS (zs3 HB) hb); clear hb hbox hg; have ⟨hcz7_0, hfz7_0⟩ := cy0 BK398.out; have ⟨hcz7_1, hfz7_1⟩ := cy1 BK398.out; have ⟨hcz7_2, hfz7_2⟩ := cy2 BK398.out));go_ret;exact ⟨zs6, (zs4 HB GE398)⟩
  ·rw [if_neg c5] at H;have c5b0 := beq_eq_false_iff_ne.mpr c5;have c5b1 := bne_iff_ne.mpr c5;by_cases c8 : a0_0 = 2
   ·rw [if_pos c8] at H;have c8b0 := beq_iff_eq.mpr c8;have c8b1 := bne_eq_false_iff_eq.mpr c8;clear c8;by_cases c9 : a0_1 = 0
    ·rw [if_pos c9] at H;have c9b0 := beq_iff_eq.mpr c9;have c9b1 := bne_eq_false_iff_eq.mpr c9;clear c9;obtain rfl := Option.some.inj H;go_enter Tryz.func33, Tryz.ntmps33;go_wp2_with (first | ((with_reducible refine gD (N := 1) rfl ?_); refine bX zs1 (N := 1) zs1 (cs := #[.int .i64 a0_0, .int .i64 a0_1, .int .i64 a0_2]) (t := 39) zs2 ?_; intro gb398 hg w10 hbox hb; have BK398:=zM (hbox); have GW398 := zg1 (zs3 HB) hg; have GE398 := zg1 (zs3 HB) hg; replace HB:=zM (bS (zs3 HB) hb); clear hb hbox hg; have ⟨hcz11_0, hfz11_0⟩ := cy0 BK398.out; have ⟨hcz11_1, hfz11_1⟩ := cy1 BK398.out; have ⟨hcz11_2, hfz11_2⟩ := cy2 BK398.out));go_ret;exact ⟨zs6, (zs4 HB GE398)⟩
    ·rw [if_neg c9] at H;have c9b0 := beq_eq_false_iff_ne.mpr c9;have c9b1 := bne_iff_ne.mpr c9;obtain rfl := Option.some.inj H;go_enter Tryz.func33, Tryz.ntmps33;go_wp2_with (first | ((with_reducible refine gD (N := 1) rfl ?_); refine bX zs1 (N := 1) zs1 (cs := #[.int .i64 a0_0, .int .i64 a0_1, .int .i64 a0_2]) (t := 39) zs2 ?_; intro gb398 hg w12 hbox hb; have BK398:=zM (hbox); have GW398 := zg1 (zs3 HB) hg; have GE398 := zg1 (zs3 HB) hg; replace HB:=zM (bS (zs3 HB) hb); clear hb hbox hg; have ⟨hcz13_0, hfz13_0⟩ := cy0 BK398.out; have ⟨hcz13_1, hfz13_1⟩ := cy1 BK398.out; have ⟨hcz13_2, hfz13_2⟩ := cy2 BK398.out));go_ret;exact ⟨zs6, (zs4 HB GE398)⟩
   ·rw [if_neg c8] at H;have c8b0 := beq_eq_false_iff_ne.mpr c8;have c8b1 := bne_iff_ne.mpr c8;by_cases c14 : a0_0 = 3
    ·rw [if_pos c14] at H;have c14b0 := beq_iff_eq.mpr c14;have c14b1 := bne_eq_false_iff_eq.mpr c14;clear c14;by_cases c15 : a0_1 = 0
     ·rw [if_pos c15] at H;have c15b0 := beq_iff_eq.mpr c15;have c15b1 := bne_eq_false_iff_eq.mpr c15;clear c15;obtain rfl := Option.some.inj H;go_enter Tryz.func33, Tryz.ntmps33;go_wp2_with (first | ((with_reducible refine gD (N := 1) rfl ?_); refine bX zs1 (N := 1) zs1 (cs := #[.int .i64 a0_0, .int .i64 a0_1, .int .i64 a0_2]) (t := 39) zs2 ?_; intro gb398 hg w16 hbox hb; have BK398:=zM (hbox); have GW398 := zg1 (zs3 HB) hg; have GE398 := zg1 (zs3 HB) hg; replace HB:=zM (bS (zs3 HB) hb); clear hb hbox hg; have ⟨hcz17_0, hfz17_0⟩ := cy0 BK398.out; have ⟨hcz17_1, hfz17_1⟩ := cy1 BK398.out; have ⟨hcz17_2, hfz17_2⟩ := cy2 BK398.out));go_ret;exact ⟨zs6, (zs4 HB GE398)⟩
     ·rw [if_neg c15] at H;have c15b0 := beq_eq_false_iff_ne.mpr c15;have c15b1 := bne_iff_ne.mpr c15;obtain rfl := Option.some.inj H;go_enter Tryz.func33, Tryz.ntmps33;go_wp2_with (first | ((with_reducible refine gD (N := 1) rfl ?_); refine bX zs1 (N := 1) zs1 (cs := #[.int .i64 a0_0, .int .i64 a0_1, .int .i64 a0_2]) (t := 39) zs2 ?_; intro gb398 hg w18 hbox hb; have BK398:=zM (hbox); have GW398 := zg1 (zs3 HB) hg; have GE398 := zg1 (zs3 HB) hg; replace HB:=zM (bS (zs3 HB) hb); clear hb hbox hg; have ⟨hcz19_0, hfz19_0⟩ := cy0 BK398.out; have ⟨hcz19_1, hfz19_1⟩ := cy1 BK398.out; have ⟨hcz19_2, hfz19_2⟩ := cy2 BK398.out));go_ret;exact ⟨zs6, (zs4 HB GE398)⟩
    ·rw [if_neg c14] at H;have c14b0 := beq_eq_false_iff_ne.mpr c14;have c14b1 := bne_iff_ne.mpr c14;by_cases c20 : a0_0 = 4
     ·rw [if_pos c20] at H;have c20b0 := beq_iff_eq.mpr c20;have c20b1 := bne_eq_false_iff_eq.mpr c20;clear c20;by_cases c21 : a0_1 = 0
      ·rw [if_pos c21] at H;have c21b0 := beq_iff_eq.mpr c21;have c21b1 := bne_eq_false_iff_eq.mpr c21;clear c21;obtain rfl := Option.some.inj H;go_enter Tryz.func33, Tryz.ntmps33;go_wp2_with (first | ((with_reducible refine gD (N := 1) rfl ?_); refine bX zs1 (N := 1) zs1 (cs := #[.int .i64 a0_0, .int .i64 a0_1, .int .i64 a0_2]) (t := 39) zs2 ?_; intro gb398 hg w22 hbox hb; have BK398:=zM (hbox); have GW398 := zg1 (zs3 HB) hg; have GE398 := zg1 (zs3 HB) hg; replace HB:=zM (bS (zs3 HB) hb); clear hb hbox hg; have ⟨hcz23_0, hfz23_0⟩ := cy0 BK398.out; have ⟨hcz23_1, hfz23_1⟩ := cy1 BK398.out; have ⟨hcz23_2, hfz23_2⟩ := cy2 BK398.out));go_ret;exact ⟨zs6, (zs4 HB GE398)⟩
      ·rw [if_neg c21] at H;have c21b0 := beq_eq_false_iff_ne.mpr c21;have c21b1 := bne_iff_ne.mpr c21;obtain rfl := Option.some.inj H;go_enter Tryz.func33, Tryz.ntmps33;go_wp2_with (first | ((with_reducible refine gD (N := 1) rfl ?_); refine bX zs1 (N := 1) zs1 (cs := #[.int .i64 a0_0, .int .i64 a0_1, .int .i64 a0_2]) (t := 39) zs2 ?_; intro gb398 hg w24 hbox hb; have BK398:=zM (hbox); have GW398 := zg1 (zs3 HB) hg; have GE398 := zg1 (zs3 HB) hg; replace HB:=zM (bS (zs3 HB) hb); clear hb hbox hg; have ⟨hcz25_0, hfz25_0⟩ := cy0 BK398.out; have ⟨hcz25_1, hfz25_1⟩ := cy1 BK398.out; have ⟨hcz25_2, hfz25_2⟩ := cy2 BK398.out));go_ret;exact ⟨zs6, (zs4 HB GE398)⟩
     ·rw [if_neg c20] at H;have c20b0 := beq_eq_false_iff_ne.mpr c20;have c20b1 := bne_iff_ne.mpr c20;by_cases c26 : a0_0 = 5
      ·rw [if_pos c26] at H;have c26b0 := beq_iff_eq.mpr c26;have c26b1 := bne_eq_false_iff_eq.mpr c26;clear c26;by_cases c27 : a0_1 = 0
       ·rw [if_pos c27] at H;have c27b0 := beq_iff_eq.mpr c27;have c27b1 := bne_eq_false_iff_eq.mpr c27;clear c27;obtain rfl := Option.some.inj H;go_enter Tryz.func33, Tryz.ntmps33;go_wp2_with (first | ((with_reducible refine gD (N := 1) rfl ?_); refine bX zs1 (N := 1) zs1 (cs := #[.int .i64 a0_0, .int .i64 a0_1, .int .i64 a0_2]) (t := 39) zs2 ?_; intro gb398 hg w28 hbox hb; have BK398:=zM (hbox); have GW398 := zg1 (zs3 HB) hg; have GE398 := zg1 (zs3 HB) hg; replace HB:=zM (bS (zs3 HB) hb); clear hb hbox hg; have ⟨hcz29_0, hfz29_0⟩ := cy0 BK398.out; have ⟨hcz29_1, hfz29_1⟩ := cy1 BK398.out; have ⟨hcz29_2, hfz29_2⟩ := cy2 BK398.out));go_ret;exact ⟨zs6, (zs4 HB GE398)⟩
       ·rw [if_neg c27] at H;have c27b0 := beq_eq_false_iff_ne.mpr c27;have c27b1 := bne_iff_ne.mpr c27;obtain rfl := Option.some.inj H;go_enter Tryz.func33, Tryz.ntmps33;go_wp2_with (first | ((with_reducible refine gD (N := 1) rfl ?_); refine bX zs1 (N := 1) zs1 (cs := #[.int .i64 a0_0, .int .i64 a0_1, .int .i64 a0_2]) (t := 39) zs2 ?_; intro gb398 hg w30 hbox hb; have BK398:=zM (hbox); have GW398 := zg1 (zs3 HB) hg; have GE398 := zg1 (zs3 HB) hg; replace HB:=zM (bS (zs3 HB) hb); clear hb hbox hg; have ⟨hcz31_0, hfz31_0⟩ := cy0 BK398.out; have ⟨hcz31_1, hfz31_1⟩ := cy1 BK398.out; have ⟨hcz31_2, hfz31_2⟩ := cy2 BK398.out));go_ret;exact ⟨zs6, (zs4 HB GE398)⟩
      ·rw [if_neg c26] at H;have c26b0 := beq_eq_false_iff_ne.mpr c26;have c26b1 := bne_iff_ne.mpr c26;obtain rfl := Option.some.inj H;go_enter Tryz.func33, Tryz.ntmps33;go_wp2_with (first | ((with_reducible refine gD (N := 1) rfl ?_); refine bX zs1 (N := 1) zs1 (cs := #[.int .i64 a0_0, .int .i64 a0_1, .int .i64 a0_2]) (t := 39) zs2 ?_; intro gb398 hg w32 hbox hb; have BK398:=zM (hbox); have GW398 := zg1 (zs3 HB) hg; have GE398 := zg1 (zs3 HB) hg; replace HB:=zM (bS (zs3 HB) hb); clear hb hbox hg; have ⟨hcz33_0, hfz33_0⟩ := cy0 BK398.out; have ⟨hcz33_1, hfz33_1⟩ := cy1 BK398.out; have ⟨hcz33_2, hfz33_2⟩ := cy2 BK398.out));go_ret;exact ⟨zs6, (zs4 HB GE398)⟩
def F34.ren : Go.Shelf.Ren := { f := fun x => if x = 129 then 163 else if x = 171 then 34 else if x = 243 then 75 else if x = 246 then 113 else if x = 283 then 143 else if x = 284 then 144 else if x = 285 then 145 else if x = 286 then 146 else if x = 317 then 162 else if x = 318 then 164 else if x = 319 then 165 else if x = 320 then 166 else if x = 337 then 177 else if x = 338 then 178 else 0, t := fun x => if x = 0 then 0 else if x = 2 then 2 else if x = 3 then 3 else if x = 4 then 4 else if x = 5 then 5 else if x = 9 then 9 else if x = 20 then 20 else if x = 37 then 22 else if x = 46 then 115 else if x = 51 then 139 else if x = 53 then 134 else if x = 171 then 133 else if x = 173 then 137 else if x = 212 then 156 else if x = 213 then 157 else if x = 232 then 175 else if x = 233 then 176 else 0, g := fun x => if x = 17 then 4 else if x = 18 then 7 else if x = 19 then 8 else 0 }
theorem F34.lays : Lays.n171 Tryz.prog F34.ren := {
 mixed := by kernel_rfl
 f129 := by kernel_rfl
 f171 := by kernel_rfl
 f243 := by kernel_rfl
 f246 := by kernel_rfl
 f283 := by kernel_rfl
 f284 := by kernel_rfl
 f285 := by kernel_rfl
 f286 := by kernel_rfl
 f317 := by kernel_rfl
 f318 := by kernel_rfl
 f319 := by kernel_rfl
 f320 := by kernel_rfl
 f337 := by kernel_rfl
 f338 := by kernel_rfl
 t0 := by kernel_rfl
 a0 := fun _ => by kernel_rfl
 z0 := fun _ => by kernel_rfl
 v0 := fun _ => by kernel_rfl
 t2 := by kernel_rfl
 a2 := fun _ => by kernel_rfl
 z2 := fun _ => by kernel_rfl
 v2 := fun _ => by kernel_rfl
 t3 := by kernel_rfl
 a3 := fun _ => by kernel_rfl
 z3 := fun _ => by kernel_rfl
 v3 := fun _ => by kernel_rfl
 t4 := by kernel_rfl
 a4 := fun _ => by kernel_rfl
 z4 := fun _ => by kernel_rfl
 v4 := fun _ => by kernel_rfl
 t5 := by kernel_rfl
 a5 := fun _ => by kernel_rfl
 z5 := fun _ => by kernel_rfl
 v5 := fun _ => by kernel_rfl
 t9 := by kernel_rfl
 a9 := fun _ => by kernel_rfl
 z9 := fun _ => by kernel_rfl
 v9 := fun _ => by kernel_rfl
 t20 := by kernel_rfl
 a20 := fun _ => by kernel_rfl
 z20 := fun _ => by kernel_rfl
 v20 := fun _ => by kernel_rfl
 t37 := by kernel_rfl
 a37 := fun _ => by kernel_rfl
 z37 := fun _ => by kernel_rfl
 v37 := fun _ => by kernel_rfl
 t46 := by kernel_rfl
 a46 := fun _ => by kernel_rfl
 z46 := fun _ => by kernel_rfl
 v46 := fun _ => by kernel_rfl
 t51 := by kernel_rfl
 a51 := fun _ => by kernel_rfl
 z51 := fun _ => by kernel_rfl
 v51 := fun _ => by kernel_rfl
 t53 := by kernel_rfl
 a53 := fun _ => by kernel_rfl
 z53 := fun _ => by kernel_rfl
 v53 := fun _ => by kernel_rfl
 t171 := by kernel_rfl
 a171 := fun _ => by kernel_rfl
 z171 := fun _ => by kernel_rfl
 v171 := fun _ => by kernel_rfl
 t173 := by kernel_rfl
 a173 := fun _ => by kernel_rfl
 z173 := fun _ => by kernel_rfl
 v173 := fun _ => by kernel_rfl
 t212 := by kernel_rfl
 a212 := fun _ => by kernel_rfl
 z212 := fun _ => by kernel_rfl
 v212 := fun _ => by kernel_rfl
 t213 := by kernel_rfl
 a213 := fun _ => by kernel_rfl
 z213 := fun _ => by kernel_rfl
 t232 := by kernel_rfl
 a232 := fun _ => by kernel_rfl
 z232 := fun _ => by kernel_rfl
 v232 := fun _ => by kernel_rfl
 t233 := by kernel_rfl
 a233 := fun _ => by kernel_rfl
 z233 := fun _ => by kernel_rfl
 v233 := fun _ => by kernel_rfl
 g17 := by kernel_rfl
 g18 := by kernel_rfl
 g19 := by kernel_rfl }
def F34.f (a0 : Int) : Option ByteArray := if 0 ≤ a0 ∧ a0 < 100 then some ⟨(Lib.decDigits a0.toNat).toArray⟩ else none
theorem F34.calls (a0 : Int) (r : ByteArray) (w : World) (h : F34.f a0 = some r) :
  Calls Tryz.prog 34 #[.int .i64 a0] w fun e w' => e = .returned (.string r) ∧ D0w w w' := by
 unfold F34.f at h;by_cases hc : 0 ≤ a0 ∧ a0 < 100
 ·rw [if_pos hc] at h;obtain rfl := Option.some.inj h;obtain ⟨i, rfl⟩ : ∃ i : Nat, a0 = (i : Int) := ⟨a0.toNat, by omega⟩;refine (Any.strconv_Itoa_small (ρ := F34.ren) F34.lays i zo_ w).mono ?_;rintro e w' ⟨rfl, rfl⟩;exact ⟨rfl, D0w.refl _⟩
 ·rw [if_neg hc] at h; cases h
def F11.j0 : Nat → Bool → Int → Int → Int → Option (ByteArray)
 | 0, _, _, _, _ => none
 | k + 1, x25, x400000, x400001, x400002 => if x25 = true then (some (⟨#[]⟩ : ByteArray)) else (if x400000 = 0 then ((F34.f x400001).bind fun t401 => (if 5 + t401.size ≤ 9223372036854775807 then (if ((⟨#[104, 101, 97, 100, 32]⟩ : ByteArray) ++ t401).size + 1 ≤ 9223372036854775807 then ((F34.f x400002).bind fun t402 => (if (((⟨#[104, 101, 97, 100, 32]⟩ : ByteArray) ++ t401) ++ (⟨#[32]⟩ : ByteArray)).size + t402.size ≤ 9223372036854775807 then (some ((((⟨#[104, 101, 97, 100, 32]⟩ : ByteArray) ++ t401) ++ (⟨#[32]⟩ : ByteArray)) ++ t402)) else (none))) else (none)) else (none))) else (if x400000 = 1 then ((F34.f x400001).bind fun t403 => (if 4 + t403.size ≤ 9223372036854775807 then (some ((⟨#[97, 100, 100, 32]⟩ : ByteArray) ++ t403)) else (none))) else (wordOf x400000)))
def F11.f (k : Nat) (a0_0 : Int) (a0_1 : Int) (a0_2 : Int) : Option (ByteArray) := (F33.f a0_0 a0_1 a0_2).bind fun t400 => (if t400 = true then (if a0_1 < 0 then (F11.j0 k true a0_0 a0_1 a0_2) else (if a0_1 > 99 then (F11.j0 k true a0_0 a0_1 a0_2) else (if a0_2 < 0 then (F11.j0 k true a0_0 a0_1 a0_2) else (F11.j0 k (decide (a0_2 > 99)) a0_0 a0_1 a0_2)))) else (F11.j0 k true a0_0 a0_1 a0_2))
theorem F11.ml : ∀ k, (∀ y0 y1 y2 y3, LeO (F11.j0 k y0 y1 y2 y3) (F11.j0 (k + 1) y0 y1 y2 y3))
 | 0 => fun _ _ _ _ r h => by simp [F11.j0] at h
 | k + 1 => by
  have ih0 := F11.ml k
  ·intro y0 y1 y2 y3
   unfold F11.j0
   exact zm
theorem F11.mono : ∀ a0 a1 a2 k, LeO (F11.f k a0 a1 a2) (F11.f (k + 1) a0 a1 a2) := by
 intro a0 a1 a2 k;have ih0 := F11.ml k;unfold F11.f;exact zm
theorem F11.calls (k : Nat) (a0_0 : Int) (a0_1 : Int) (a0_2 : Int) (r : ByteArray) (w : World) (hT : TabR w) (h : F11.f k a0_0 a0_1 a0_2 = some r) :
  Calls Tryz.prog 11 #[.agg #[.int .i64 a0_0, .int .i64 a0_1, .int .i64 a0_2]] w fun e w' => e = .returned (.string r) ∧ Below w.heap.size w w' := by
 have hu39 := Tryz.underlying39;have HB:=zM (Below.refl w.heap.size w);have HT:=zM hT;clear hT;have H : ((F33.f a0_0 a0_1 a0_2).bind fun t400 => (if t400 = true then (if a0_1 < 0 then (F11.j0 k true a0_0 a0_1 a0_2) else (if a0_1 > 99 then (F11.j0 k true a0_0 a0_1 a0_2) else (if a0_2 < 0 then (F11.j0 k true a0_0 a0_1 a0_2) else (F11.j0 k (decide (a0_2 > 99)) a0_0 a0_1 a0_2)))) else (F11.j0 k true a0_0 a0_1 a0_2))) = some r := h;clear h;have HC2:=zM H;clear H;go_enter Tryz.func11, Tryz.ntmps11;go_upto_region 1 with (first | ((with_reducible refine gD (N := 1) rfl ?_); refine bX zs1 (N := 1) zs1 (cs := #[.int .i64 a0_0, .int .i64 a0_1, .int .i64 a0_2]) (t := 39) zs2 ?_; intro gb399 hg w3 hbox hb; have BK399:=zM (hbox); have GW399 := zg1 (zs3 HB) hg; have GE399 := zg1 (zs3 HB) hg; replace HB:=zM (bS (zs3 HB) hb); clear hb hbox hg));(repeat (go_quiet (first | ((with_reducible refine gD (N := 1) rfl ?_); refine bX zs1 (N := 1) zs1 (cs := #[.int .i64 a0_0, .int .i64 a0_1, .int .i64 a0_2]) (t := 39) zs2 ?_; intro gb399 hg w3 hbox hb; have BK399:=zM (hbox); have GW399 := zg1 (zs3 HB) hg; have GE399 := zg1 (zs3 HB) hg; replace HB:=zM (bS (zs3 HB) hb); clear hb hbox hg)); go_upto_region 1 with (first | ((with_reducible refine gD (N := 1) rfl ?_); refine bX zs1 (N := 1) zs1 (cs := #[.int .i64 a0_0, .int .i64 a0_1, .int .i64 a0_2]) (t := 39) zs2 ?_; intro gb399 hg w3 hbox hb; have BK399:=zM (hbox); have GW399 := zg1 (zs3 HB) hg; have GE399 := zg1 (zs3 HB) hg; replace HB:=zM (bS (zs3 HB) hb); clear hb hbox hg))));(try simp only [Act.put, zE, zF, zG]);go_cut [25] (fun v25 wc => ∃ (kq : Nat) (x25_1 : Bool), v25 = .bool x25_1 ∧ Qo (F11.j0 kq x25_1 a0_0 a0_1 a0_2 = some r) ∧ Qo (kq ≤ k) ∧ Qo (wc.heap[gb399]? = some (.cells #[.int .i64 a0_0, .int .i64 a0_1, .int .i64 a0_2] 39 (0, 0))) ∧ Qo (Below w.heap.size w wc))
 case first =>
  have H := HC2.out;clear HC2;replace H := zb H; obtain ⟨t400, A4, H⟩ := H; (try dsimp only at H);by_cases c5 : t400 = true
  ·subst c5;(have H1 : (if a0_1 < 0 then (F11.j0 k true a0_0 a0_1 a0_2) else (if a0_1 > 99 then (F11.j0 k true a0_0 a0_1 a0_2) else (if a0_2 < 0 then (F11.j0 k true a0_0 a0_1 a0_2) else (F11.j0 k (decide (a0_2 > 99)) a0_0 a0_1 a0_2)))) = some r := by rw [if_pos rfl] at H; exact H);clear H;have H := H1;clear H1;by_cases c6 : a0_1 < 0
   ·rw [if_pos c6] at H;have c6b0 := decide_eq_true c6;clear c6;(first | rw [c6b0] | (simp only [i64_w, i32_w]; rw [c6b0]) | skip);have H':=zM H;clear H;have hcz7_0 := cz0 BK399.out;have hcz7_1 := cz1 BK399.out;have hcz7_2 := cz2 BK399.out;have hfz7_0 := bF BK399.out 0;have hfz7_1 := bF BK399.out 1;have hfz7_2 := bF BK399.out 2;go_wp2_with (first | (go_at_call 33; (with_reducible refine (F33.calls a0_0 a0_1 a0_2 true _ A4.out).mono ?_); rintro e w8 ⟨rfl, hb⟩; replace BK399 := zb1 BK399 hb; replace HB:=zM (bS (zs4 HB GE399) hb); clear hb; have ⟨hcz9_0, hfz9_0⟩ := cy0 BK399.out; have ⟨hcz9_1, hfz9_1⟩ := cy1 BK399.out; have ⟨hcz9_2, hfz9_2⟩ := cy2 BK399.out));(repeat (go_quiet (first | (go_at_call 33; (with_reducible refine (F33.calls a0_0 a0_1 a0_2 true _ A4.out).mono ?_); rintro e w8 ⟨rfl, hb⟩; replace BK399 := zb1 BK399 hb; replace HB:=zM (bS (zs4 HB GE399) hb); clear hb; have ⟨hcz9_0, hfz9_0⟩ := cy0 BK399.out; have ⟨hcz9_1, hfz9_1⟩ := cy1 BK399.out; have ⟨hcz9_2, hfz9_2⟩ := cy2 BK399.out)); try go_wp2_with (first | (go_at_call 33; (with_reducible refine (F33.calls a0_0 a0_1 a0_2 true _ A4.out).mono ?_); rintro e w8 ⟨rfl, hb⟩; replace BK399 := zb1 BK399 hb; replace HB:=zM (bS (zs4 HB GE399) hb); clear hb; have ⟨hcz9_0, hfz9_0⟩ := cy0 BK399.out; have hcz9_1 := cz1 BK399.out; have hcz9_2 := cz2 BK399.out; have hfz9_1 := bF BK399.out 1; have hfz9_2 := bF BK399.out 2))));go_meet
    case rel => exact ⟨_, (true), zs7, H', ⟨zs8⟩, ⟨by (with_reducible repeat (first | refine bV ?_ _ | refine bW ?_ | refine bA ?_ _)); exact BK399.out⟩, ⟨(zs4 HB GE399)⟩⟩
   ·rw [if_neg c6] at H;have c6b0 := decide_eq_false c6;clear c6;(first | rw [c6b0] | (simp only [i64_w, i32_w]; rw [c6b0]) | skip);by_cases c10 : a0_1 > 99
    ·rw [if_pos c10] at H;have c10b0 : decide (99 < a0_1) = true := decide_eq_true c10;clear c10;have H':=zM H;clear H;have hcz11_0 := cz0 BK399.out;have hcz11_1 := cz1 BK399.out;have hcz11_2 := cz2 BK399.out;have hfz11_0 := bF BK399.out 0;have hfz11_1 := bF BK399.out 1;have hfz11_2 := bF BK399.out 2;go_wp2_with (first | (go_at_call 33; (with_reducible refine (F33.calls a0_0 a0_1 a0_2 true _ A4.out).mono ?_); rintro e w12 ⟨rfl, hb⟩; replace BK399 := zb1 BK399 hb; replace HB:=zM (bS (zs4 HB GE399) hb); clear hb; have ⟨hcz13_0, hfz13_0⟩ := cy0 BK399.out; have ⟨hcz13_1, hfz13_1⟩ := cy1 BK399.out; have ⟨hcz13_2, hfz13_2⟩ := cy2 BK399.out));(repeat (go_quiet (first | (go_at_call 33; (with_reducible refine (F33.calls a0_0 a0_1 a0_2 true _ A4.out).mono ?_); rintro e w12 ⟨rfl, hb⟩; replace BK399 := zb1 BK399 hb; replace HB:=zM (bS (zs4 HB GE399) hb); clear hb; have ⟨hcz13_0, hfz13_0⟩ := cy0 BK399.out; have ⟨hcz13_1, hfz13_1⟩ := cy1 BK399.out; have ⟨hcz13_2, hfz13_2⟩ := cy2 BK399.out)); try go_wp2_with (first | (go_at_call 33; (with_reducible refine (F33.calls a0_0 a0_1 a0_2 true _ A4.out).mono ?_); rintro e w12 ⟨rfl, hb⟩; replace BK399 := zb1 BK399 hb; replace HB:=zM (bS (zs4 HB GE399) hb); clear hb; have ⟨hcz13_0, hfz13_0⟩ := cy0 BK399.out; have hcz13_1 := cz1 BK399.out; have hcz13_2 := cz2 BK399.out; have hfz13_1 := bF BK399.out 1; have hfz13_2 := bF BK399.out 2))));go_meet
     case rel => exact ⟨_, (true), zs7, H', ⟨zs8⟩, ⟨by (with_reducible repeat (first | refine bV ?_ _ | refine bW ?_ | refine bA ?_ _)); exact BK399.out⟩, ⟨(zs4 HB GE399)⟩⟩
    ·rw [if_neg c10] at H;have c10b0 : decide (99 < a0_1) = false := decide_eq_false c10;clear c10;by_cases c14 : a0_2 < 0
     ·rw [if_pos c14] at H;have c14b0 := decide_eq_true c14;clear c14;have H':=zM H;clear H;have hcz15_0 := cz0 BK399.out;have hcz15_1 := cz1 BK399.out;have hcz15_2 := cz2 BK399.out;have hfz15_0 := bF BK399.out 0;have hfz15_1 := bF BK399.out 1;have hfz15_2 := bF BK399.out 2;go_wp2_with (first | (go_at_call 33; (with_reducible refine (F33.calls a0_0 a0_1 a0_2 true _ A4.out).mono ?_); rintro e w16 ⟨rfl, hb⟩; replace BK399 := zb1 BK399 hb; replace HB:=zM (bS (zs4 HB GE399) hb); clear hb; have ⟨hcz17_0, hfz17_0⟩ := cy0 BK399.out; have ⟨hcz17_1, hfz17_1⟩ := cy1 BK399.out; have ⟨hcz17_2, hfz17_2⟩ := cy2 BK399.out));(repeat (go_quiet (first | (go_at_call 33; (with_reducible refine (F33.calls a0_0 a0_1 a0_2 true _ A4.out).mono ?_); rintro e w16 ⟨rfl, hb⟩; replace BK399 := zb1 BK399 hb; replace HB:=zM (bS (zs4 HB GE399) hb); clear hb; have ⟨hcz17_0, hfz17_0⟩ := cy0 BK399.out; have ⟨hcz17_1, hfz17_1⟩ := cy1 BK399.out; have ⟨hcz17_2, hfz17_2⟩ := cy2 BK399.out)); try go_wp2_with (first | (go_at_call 33; (with_reducible refine (F33.calls a0_0 a0_1 a0_2 true _ A4.out).mono ?_); rintro e w16 ⟨rfl, hb⟩; replace BK399 := zb1 BK399 hb; replace HB:=zM (bS (zs4 HB GE399) hb); clear hb; have ⟨hcz17_0, hfz17_0⟩ := cy0 BK399.out; have hcz17_1 := cz1 BK399.out; have hcz17_2 := cz2 BK399.out; have hfz17_1 := bF BK399.out 1; have hfz17_2 := bF BK399.out 2))));go_meet
      case rel => exact ⟨_, (true), zs7, H', ⟨zs8⟩, ⟨by (with_reducible repeat (first | refine bV ?_ _ | refine bW ?_ | refine bA ?_ _)); exact BK399.out⟩, ⟨(zs4 HB GE399)⟩⟩
     ·rw [if_neg c14] at H;have c14b0 := decide_eq_false c14;clear c14;have H':=zM H;clear H;have hcz18_0 := cz0 BK399.out;have hcz18_1 := cz1 BK399.out;have hcz18_2 := cz2 BK399.out;have hfz18_0 := bF BK399.out 0;have hfz18_1 := bF BK399.out 1;have hfz18_2 := bF BK399.out 2;go_wp2_with (first | (go_at_call 33; (with_reducible refine (F33.calls a0_0 a0_1 a0_2 true _ A4.out).mono ?_); rintro e w19 ⟨rfl, hb⟩; replace BK399 := zb1 BK399 hb; replace HB:=zM (bS (zs4 HB GE399) hb); clear hb; have ⟨hcz20_0, hfz20_0⟩ := cy0 BK399.out; have ⟨hcz20_1, hfz20_1⟩ := cy1 BK399.out; have ⟨hcz20_2, hfz20_2⟩ := cy2 BK399.out));(repeat (go_quiet (first | (go_at_call 33; (with_reducible refine (F33.calls a0_0 a0_1 a0_2 true _ A4.out).mono ?_); rintro e w19 ⟨rfl, hb⟩; replace BK399 := zb1 BK399 hb; replace HB:=zM (bS (zs4 HB GE399) hb); clear hb; have ⟨hcz20_0, hfz20_0⟩ := cy0 BK399.out; have ⟨hcz20_1, hfz20_1⟩ := cy1 BK399.out; have ⟨hcz20_2, hfz20_2⟩ := cy2 BK399.out)); try go_wp2_with (first | (go_at_call 33; (with_reducible refine (F33.calls a0_0 a0_1 a0_2 true _ A4.out).mono ?_); rintro e w19 ⟨rfl, hb⟩; replace BK399 := zb1 BK399 hb; replace HB:=zM (bS (zs4 HB GE399) hb); clear hb; have ⟨hcz20_0, hfz20_0⟩ := cy0 BK399.out; have hcz20_1 := cz1 BK399.out; have hcz20_2 := cz2 BK399.out; have hfz20_1 := bF BK399.out 1; have hfz20_2 := bF BK399.out 2))));go_meet
      case rel => exact ⟨_, (decide (a0_2 > 99)), zs7, H', ⟨zs8⟩, ⟨by (with_reducible repeat (first | refine bV ?_ _ | refine bW ?_ | refine bA ?_ _)); exact BK399.out⟩, ⟨(zs4 HB GE399)⟩⟩
  ·replace c5 := Bool.eq_false_iff.mpr c5;subst c5;(have H1 : (F11.j0 k true a0_0 a0_1 a0_2) = some r := by rw [if_neg (show ¬ (false = true) by decide)] at H; exact H);clear H;have H := H1;clear H1;have H':=zM H;clear H;have hcz21_0 := cz0 BK399.out;have hcz21_1 := cz1 BK399.out;have hcz21_2 := cz2 BK399.out;have hfz21_0 := bF BK399.out 0;have hfz21_1 := bF BK399.out 1;have hfz21_2 := bF BK399.out 2;go_wp2_with (first | (go_at_call 33; (with_reducible refine (F33.calls a0_0 a0_1 a0_2 false _ A4.out).mono ?_); rintro e w22 ⟨rfl, hb⟩; replace BK399 := zb1 BK399 hb; replace HB:=zM (bS (zs4 HB GE399) hb); clear hb));(repeat (go_quiet (first | (go_at_call 33; (with_reducible refine (F33.calls a0_0 a0_1 a0_2 false _ A4.out).mono ?_); rintro e w22 ⟨rfl, hb⟩; replace BK399 := zb1 BK399 hb; replace HB:=zM (bS (zs4 HB GE399) hb); clear hb)); try go_wp2_with (first | (go_at_call 33; (with_reducible refine (F33.calls a0_0 a0_1 a0_2 false _ A4.out).mono ?_); rintro e w22 ⟨rfl, hb⟩; replace BK399 := zb1 BK399 hb; replace HB:=zM (bS (zs4 HB GE399) hb); clear hb))));go_meet
   case rel => exact ⟨_, (true), zs7, H', ⟨zs8⟩, ⟨by (with_reducible repeat (first | refine bV ?_ _ | refine bW ?_ | refine bA ?_ _)); exact BK399.out⟩, ⟨(zs4 HB GE399)⟩⟩
 case rest =>
  clear HC2;obtain ⟨kq, x25_1, rfl, HA, HJ1, BK399, HB⟩ := hcut;cases kq with
  | zero => exact absurd HA.out (by simp [F11.j0])
  | succ kj1 =>
   have H := HA.out;clear HA;simp only [F11.j0] at H;by_cases c23 : x25_1 = true
   ·subst c23;(have H1 : (some (⟨#[]⟩ : ByteArray)) = some r := by rw [if_pos rfl] at H; exact H);clear H;have H := H1;clear H1;obtain rfl := Option.some.inj H;go_wp2;(repeat (go_quiet (fail); try go_wp2));go_ret;exact ⟨zs6, (zs4 HB GE399)⟩
   ·replace c23 := Bool.eq_false_iff.mpr c23;subst c23;(have H1 : (if a0_0 = 0 then ((F34.f a0_1).bind fun t401 => (if 5 + t401.size ≤ 9223372036854775807 then (if ((⟨#[104, 101, 97, 100, 32]⟩ : ByteArray) ++ t401).size + 1 ≤ 9223372036854775807 then ((F34.f a0_2).bind fun t402 => (if (((⟨#[104, 101, 97, 100, 32]⟩ : ByteArray) ++ t401) ++ (⟨#[32]⟩ : ByteArray)).size + t402.size ≤ 9223372036854775807 then (some ((((⟨#[104, 101, 97, 100, 32]⟩ : ByteArray) ++ t401) ++ (⟨#[32]⟩ : ByteArray)) ++ t402)) else (none))) else (none)) else (none))) else (if a0_0 = 1 then ((F34.f a0_1).bind fun t403 => (if 4 + t403.size ≤ 9223372036854775807 then (some ((⟨#[97, 100, 100, 32]⟩ : ByteArray) ++ t403)) else (none))) else (wordOf a0_0))) = some r := by rw [if_neg (show ¬ (false = true) by decide)] at H; exact H);clear H;have H := H1;clear H1;by_cases c24 : a0_0 = 0
    ·rw [if_pos c24] at H;have c24b0 := beq_iff_eq.mpr c24;have c24b1 := bne_eq_false_iff_eq.mpr c24;clear c24;replace H := zb H; obtain ⟨t401, A25, H⟩ := H; (try dsimp only at H);replace H := zn H; obtain ⟨c26, H⟩ := H;have c26b0 := eq_true c26;have c26b1 := decide_eq_true c26;(try have c26b2 : (9223372036854775807 < 5 + t401.size) = False := eq_false (Nat.not_lt.2 c26));replace H := zn H; obtain ⟨c27, H⟩ := H;have c27b0 := eq_true c27;have c27b1 := decide_eq_true c27;(try have c27b2 : (9223372036854775807 < ((⟨#[104, 101, 97, 100, 32]⟩ : ByteArray) ++ t401).size + 1) = False := eq_false (Nat.not_lt.2 c27));have c27z := c27;(try simp only [ByteArray.size_append, show ((⟨#[104, 101, 97, 100, 32]⟩ : ByteArray)).size = 5 from rfl] at c27z);have c27y := eq_false (Nat.not_lt.2 c27z);replace H := zb H; obtain ⟨t402, A28, H⟩ := H; (try dsimp only at H);replace H := zn H; obtain ⟨c29, H⟩ := H;have c29b0 := eq_true c29;have c29b1 := decide_eq_true c29;(try have c29b2 : (9223372036854775807 < (((⟨#[104, 101, 97, 100, 32]⟩ : ByteArray) ++ t401) ++ (⟨#[32]⟩ : ByteArray)).size + t402.size) = False := eq_false (Nat.not_lt.2 c29));have c29z := c29;(try simp only [ByteArray.size_append, show ((⟨#[104, 101, 97, 100, 32]⟩ : ByteArray)).size = 5 from rfl, show ((⟨#[32]⟩ : ByteArray)).size = 1 from rfl] at c29z);have c29y := eq_false (Nat.not_lt.2 c29z);obtain rfl := Option.some.inj H;have hcz30_0 := cz0 BK399.out;have hcz30_1 := cz1 BK399.out;have hcz30_2 := cz2 BK399.out;have hfz30_0 := bF BK399.out 0;have hfz30_1 := bF BK399.out 1;have hfz30_2 := bF BK399.out 2;go_wp2_with (first | (go_at_call 34; (with_reducible refine (F34.calls a0_1 t401 _ A25.out).mono ?_); rintro e w' ⟨rfl, ⟨nd, rfl⟩⟩; (try first | exact ⟨rfl, _, World.drewN_drewN _ _ _⟩ | exact ⟨rfl, _, Eq.trans (World.drewN_drewN _ _ _) (congrArg (World.drewN _) (Nat.add_assoc _ _ _))⟩)) | (go_at_call 34; (with_reducible refine (F34.calls a0_2 t402 _ A28.out).mono ?_); rintro e w' ⟨rfl, ⟨nd, rfl⟩⟩; (try first | exact ⟨rfl, _, World.drewN_drewN _ _ _⟩ | exact ⟨rfl, _, Eq.trans (World.drewN_drewN _ _ _) (congrArg (World.drewN _) (Nat.add_assoc _ _ _))⟩)));(repeat (go_quiet (first | (go_at_call 34; (with_reducible refine (F34.calls a0_1 t401 _ A25.out).mono ?_); rintro e w' ⟨rfl, ⟨nd, rfl⟩⟩; (try first | exact ⟨rfl, _, World.drewN_drewN _ _ _⟩ | exact ⟨rfl, _, Eq.trans (World.drewN_drewN _ _ _) (congrArg (World.drewN _) (Nat.add_assoc _ _ _))⟩)) | (go_at_call 34; (with_reducible refine (F34.calls a0_2 t402 _ A28.out).mono ?_); rintro e w' ⟨rfl, ⟨nd, rfl⟩⟩; (try first | exact ⟨rfl, _, World.drewN_drewN _ _ _⟩ | exact ⟨rfl, _, Eq.trans (World.drewN_drewN _ _ _) (congrArg (World.drewN _) (Nat.add_assoc _ _ _))⟩))); try go_wp2_with (first | (go_at_call 34; (with_reducible refine (F34.calls a0_1 t401 _ A25.out).mono ?_); rintro e w' ⟨rfl, ⟨nd, rfl⟩⟩; (try first | exact ⟨rfl, _, World.drewN_drewN _ _ _⟩ | exact ⟨rfl, _, Eq.trans (World.drewN_drewN _ _ _) (congrArg (World.drewN _) (Nat.add_assoc _ _ _))⟩)) | (go_at_call 34; (with_reducible refine (F34.calls a0_2 t402 _ A28.out).mono ?_); rintro e w' ⟨rfl, ⟨nd, rfl⟩⟩; (try first | exact ⟨rfl, _, World.drewN_drewN _ _ _⟩ | exact ⟨rfl, _, Eq.trans (World.drewN_drewN _ _ _) (congrArg (World.drewN _) (Nat.add_assoc _ _ _))⟩)))));go_ret;exact ⟨zs6, (zs4 HB GE399)⟩
    ·rw [if_neg c24] at H;have c24b0 := beq_eq_false_iff_ne.mpr c24;have c24b1 := bne_iff_ne.mpr c24;by_cases c31 : a0_0 = 1
     ·rw [if_pos c31] at H;have c31b0 := beq_iff_eq.mpr c31;have c31b1 := bne_eq_false_iff_eq.mpr c31;clear c31;replace H := zb H; obtain ⟨t403, A32, H⟩ := H; (try dsimp only at H);replace H := zn H; obtain ⟨c33, H⟩ := H;have c33b0 := eq_true c33;have c33b1 := decide_eq_true c33;(try have c33b2 : (9223372036854775807 < 4 + t403.size) = False := eq_false (Nat.not_lt.2 c33));obtain rfl := Option.some.inj H;have hcz34_0 := cz0 BK399.out;have hcz34_1 := cz1 BK399.out;have hcz34_2 := cz2 BK399.out;have hfz34_0 := bF BK399.out 0;have hfz34_1 := bF BK399.out 1;have hfz34_2 := bF BK399.out 2;go_wp2_with (first | (go_at_call 34; (with_reducible refine (F34.calls a0_1 t403 _ A32.out).mono ?_); rintro e w' ⟨rfl, ⟨nd, rfl⟩⟩; (try first | exact ⟨rfl, _, World.drewN_drewN _ _ _⟩ | exact ⟨rfl, _, Eq.trans (World.drewN_drewN _ _ _) (congrArg (World.drewN _) (Nat.add_assoc _ _ _))⟩)));(repeat (go_quiet (first | (go_at_call 34; (with_reducible refine (F34.calls a0_1 t403 _ A32.out).mono ?_); rintro e w' ⟨rfl, ⟨nd, rfl⟩⟩; (try first | exact ⟨rfl, _, World.drewN_drewN _ _ _⟩ | exact ⟨rfl, _, Eq.trans (World.drewN_drewN _ _ _) (congrArg (World.drewN _) (Nat.add_assoc _ _ _))⟩))); try go_wp2_with (first | (go_at_call 34; (with_reducible refine (F34.calls a0_1 t403 _ A32.out).mono ?_); rintro e w' ⟨rfl, ⟨nd, rfl⟩⟩; (try first | exact ⟨rfl, _, World.drewN_drewN _ _ _⟩ | exact ⟨rfl, _, Eq.trans (World.drewN_drewN _ _ _) (congrArg (World.drewN _) (Nat.add_assoc _ _ _))⟩)))));go_ret;exact ⟨zs6, (zs4 HB GE399)⟩
     ·rw [if_neg c31] at H;have c31b0 := beq_eq_false_iff_ne.mpr c31;have c31b1 := bne_iff_ne.mpr c31;have HW := wordOf_cases H;clear H;have hcz35_0 := cz0 BK399.out;have hcz35_1 := cz1 BK399.out;have hcz35_2 := cz2 BK399.out;have hfz35_0 := bF BK399.out 0;have hfz35_1 := bF BK399.out 1;have hfz35_2 := bF BK399.out 2;obtain ⟨tb_, to_, tc_, hcap_, hg_, h0_, h1_, h2_, h3_, h4_, h5_⟩ := (TabR.below HT.out HB.out).1
      rcases HW with ⟨rfl, rfl⟩ | ⟨rfl, rfl⟩ | ⟨rfl, rfl⟩ | ⟨rfl, rfl⟩ <;> (
       go_wp2
       repeat (go_quiet (fail); try go_wp2)
       go_ret
       exact ⟨zs6, (zs4 HB GE399)⟩)
def F41.ren : Go.Shelf.Ren := { f := fun x => if x = 138 then 121 else if x = 143 then 122 else if x = 146 then 41 else if x = 195 then 149 else if x = 197 then 150 else if x = 217 then 116 else if x = 218 then 151 else if x = 219 then 82 else if x = 221 then 83 else if x = 224 then 118 else if x = 225 then 117 else if x = 260 then 167 else if x = 266 then 147 else if x = 267 then 119 else if x = 268 then 120 else if x = 314 then 148 else 0, t := fun x => if x = 0 then 0 else if x = 3 then 3 else if x = 4 then 4 else if x = 5 then 5 else if x = 9 then 9 else if x = 21 then 21 else if x = 31 then 65 else if x = 46 then 115 else if x = 51 then 139 else if x = 105 then 142 else if x = 119 then 169 else if x = 138 then 171 else if x = 139 then 172 else if x = 146 then 140 else 0, g := fun x => if x = 1 then 1 else if x = 3 then 5 else if x = 4 then 6 else 0 }
theorem F41.lays : Lays.n146 Tryz.prog F41.ren := {
 mixed := by kernel_rfl
 f138 := by kernel_rfl
 f143 := by kernel_rfl
 f146 := by kernel_rfl
 f195 := by kernel_rfl
 f197 := by kernel_rfl
 f217 := by kernel_rfl
 f218 := by kernel_rfl
 f219 := by kernel_rfl
 f221 := by kernel_rfl
 f224 := by kernel_rfl
 f225 := by kernel_rfl
 f260 := by kernel_rfl
 f266 := by kernel_rfl
 f267 := by kernel_rfl
 f268 := by kernel_rfl
 f314 := by kernel_rfl
 t0 := by kernel_rfl
 a0 := fun _ => by kernel_rfl
 z0 := fun _ => by kernel_rfl
 v0 := fun _ => by kernel_rfl
 t3 := by kernel_rfl
 a3 := fun _ => by kernel_rfl
 z3 := fun _ => by kernel_rfl
 v3 := fun _ => by kernel_rfl
 t4 := by kernel_rfl
 a4 := fun _ => by kernel_rfl
 z4 := fun _ => by kernel_rfl
 v4 := fun _ => by kernel_rfl
 t5 := by kernel_rfl
 a5 := fun _ => by kernel_rfl
 z5 := fun _ => by kernel_rfl
 v5 := fun _ => by kernel_rfl
 t9 := by kernel_rfl
 a9 := fun _ => by kernel_rfl
 z9 := fun _ => by kernel_rfl
 v9 := fun _ => by kernel_rfl
 t21 := by kernel_rfl
 a21 := fun _ => by kernel_rfl
 z21 := fun _ => by kernel_rfl
 v21 := fun _ => by kernel_rfl
 t31 := by kernel_rfl
 a31 := fun _ => by kernel_rfl
 z31 := fun _ => by kernel_rfl
 v31 := fun _ => by kernel_rfl
 t46 := by kernel_rfl
 a46 := fun _ => by kernel_rfl
 z46 := fun _ => by kernel_rfl
 v46 := fun _ => by kernel_rfl
 t51 := by kernel_rfl
 a51 := fun _ => by kernel_rfl
 z51 := fun _ => by kernel_rfl
 v51 := fun _ => by kernel_rfl
 t105 := by kernel_rfl
 a105 := fun _ => by kernel_rfl
 z105 := fun _ => by kernel_rfl
 v105 := fun _ => by kernel_rfl
 t119 := by kernel_rfl
 a119 := fun _ => by kernel_rfl
 z119 := fun _ => by kernel_rfl
 t138 := by kernel_rfl
 a138 := fun _ => by kernel_rfl
 z138 := fun _ => by kernel_rfl
 v138 := fun _ => by kernel_rfl
 t139 := by kernel_rfl
 a139 := fun _ => by kernel_rfl
 z139 := fun _ => by kernel_rfl
 v139 := fun _ => by kernel_rfl
 t146 := by kernel_rfl
 a146 := fun _ => by kernel_rfl
 z146 := fun _ => by kernel_rfl
 v146 := fun _ => by kernel_rfl
 g1 := by kernel_rfl
 g3 := by kernel_rfl
 g4 := by kernel_rfl }
def F41.f (a0 : ByteArray) (a1 : ByteArray) : Option (List ByteArray) := if a0.size < 4294967281 ∧ 1 ≤ a1.size then some (Lib.splitB a1 0 (Lib.countB a0 a1) a0) else none
theorem F41.calls (a0 : ByteArray) (a1 : ByteArray) (r : List ByteArray) (w : World) (hT : TabR w) (h : F41.f a0 a1 = some r) :
  Calls Tryz.prog 41 #[.string a0, .string a1] w fun e w' => ∃ v0_ : Value, e = .returned (v0_) ∧ Kd.R Kd.string 9 w' w.heap.size (fun _ => True) v0_ r ∧ Below w.heap.size w w' := by
 unfold F41.f at h;by_cases hc : a0.size < 4294967281 ∧ 1 ≤ a1.size
 ·rw [if_pos hc] at h;obtain rfl := Option.some.inj h;obtain ⟨m, hm⟩ := hT.2.1;have hlen := Lib.splitB_all a1 hc.2 0 _ a0 rfl;have hle := Lib.countB_le a1 hc.2 a0.size a0 (Nat.le_refl _);refine (Any.strings_Split (ρ := F41.ren) F41.lays zk a0 a1 m w hc.1 hm hc.2).mono ?_;rintro e w' ⟨rfl, rfl⟩;refine ⟨_, rfl, Kd.R_of_own ?_ (fun _ _ => trivial), zB (Below.refl _ _) _⟩;have h2 := World.rowOf_lit (base := w.heap.size) (e := 9) (size := 1) w ((Lib.splitB a1 0 (Lib.countB a0 a1) a0).map Value.string).toArray (Lib.countB a0 a1 + 1) (Nat.le_refl _) (by unfold maxLen; omega) (by simp [hlen]);rw [hlen];simp only [List.toList_toArray] at h2;exact h2
 ·rw [if_neg hc] at h; cases h
def F42.l0 : Nat → List ByteArray → ByteArray → Int → Int → Option (Int)
 | 0, _, _, _, _ => none
 | k + 1, x0, x1, x7, x8 => if x8 < x7 then (if 0 ≤ x8 then (if x8 < (x0.length : Int) then (if x1.toList = (rdOf ByteArray.empty x0 x8).toList then (some x8) else (F42.l0 k x0 x1 x7 (wrap64 (x8 + 1)))) else (none)) else (none)) else (some (-1))
def F42.f (k : Nat) (l0 : List ByteArray) (a1 : ByteArray) : Option (Int) := F42.l0 k l0 a1 (l0.length : Int) 0
theorem F42.ml : ∀ k, (∀ y0 y1 y2 y3, LeO (F42.l0 k y0 y1 y2 y3) (F42.l0 (k + 1) y0 y1 y2 y3))
 | 0 => fun _ _ _ _ r h => by simp [F42.l0] at h
 | k + 1 => by
  have ih0 := F42.ml k
  ·intro y0 y1 y2 y3
   unfold F42.l0
   exact zm
theorem F42.mono : ∀ a0 a1 k, LeO (F42.f k a0 a1) (F42.f (k + 1) a0 a1) := by
 intro a0 a1 k;have ih0 := F42.ml k;unfold F42.f;exact zm
theorem F42.calls (k : Nat) (A0 : Option Addr) (c0 : Nat) (l0 : List ByteArray) (a1 : ByteArray) (r : Int) (w : World) (hr0 : Kd.C Kd.string w A0 l0.length l0) (hc0 : l0.length ≤ c0) (h : F42.f k l0 a1 = some r) :
  Calls Tryz.prog 42 #[.slice A0 l0.length c0, .string a1] w fun e w' => e = .returned (.int .i64 r) ∧ D0w w w' := by
 have HR0:=zM hr0;have HC0:=zM hc0;clear hr0 hc0;have H : (F42.l0 k l0 a1 (l0.length : Int) 0) = some r := h;clear h;have H':=zM H;clear H;go_enter Tryz.func42, Tryz.ntmps42;go_wp2;go_loopg [8] k (fun kq v8 w' => ∃ (x8_1 : Int), v8 = .int .i64 x8_1 ∧ Qo (F42.l0 kq l0 a1 (l0.length : Int) x8_1 = some r) ∧ Qo (kq ≤ k) ∧ D0w w w')
 case atStart => exact ⟨(0), zs7, H', ⟨Nat.le_refl _⟩, by repeat (first | exact D0w.refl _ | apply D0w.step)⟩
 case round =>
  clear H';obtain ⟨x8_1, rfl, HA, HK1, ⟨m1, rfl⟩⟩ := hrel;cases gk with
  | zero => exact absurd HA.out (by simp [F42.l0])
  | succ k1 =>
   have H := HA.out;clear HA;simp only [F42.l0] at H;by_cases c3 : x8_1 < (l0.length : Int)
   ·rw [if_pos c3] at H;have c3b0 := decide_eq_true c3;clear c3;replace H := zn H; obtain ⟨c4, H⟩ := H;have c4b0 := decide_eq_true c4;clear c4;replace H := zn H; obtain ⟨c5, H⟩ := H;have c5b0 := decide_eq_true c5;clear c5;by_cases c6 : a1.toList = (rdOf ByteArray.empty l0 x8_1).toList
    ·rw [if_pos c6] at H;have c6b0 := beq_iff_eq.mpr c6;have c6b1 := bne_eq_false_iff_eq.mpr c6;clear c6;obtain rfl := Option.some.inj H;have p404 : 0 ≤ (x8_1 : Int) := of_decide_eq_true zs0;have q404 : x8_1 < (l0.length : Int) := of_decide_eq_true zs0;obtain ⟨ad404, e404, hx404_0⟩ := Kd.at_string HR0.out x8_1 p404 q404;cases e404;replace p404 := eq_true p404;replace q404 := eq_true q404;go_wp2;go_ret;exact ⟨by first | rfl | (simp; done) | (simp [*]; done), by repeat (first | exact D0w.refl _ | apply D0w.step)⟩
    ·rw [if_neg c6] at H;have c6b0 := beq_eq_false_iff_ne.mpr c6;have c6b1 := bne_iff_ne.mpr c6;have H':=zM H;clear H;have p404 : 0 ≤ (x8_1 : Int) := of_decide_eq_true zs0;have q404 : x8_1 < (l0.length : Int) := of_decide_eq_true zs0;obtain ⟨ad404, e404, hx404_0⟩ := Kd.at_string HR0.out x8_1 p404 q404;cases e404;replace p404 := eq_true p404;replace q404 := eq_true q404;go_wp2;go_roundg k1
     case measure => have := HK1.out; omega
     case rel => exact ⟨(wrap64 (x8_1 + 1)), zs7, H', ⟨by have := HK1.out; omega⟩, by repeat (first | exact D0w.refl _ | apply D0w.step)⟩
   ·rw [if_neg c3] at H;have c3b0 := decide_eq_false c3;clear c3;obtain rfl := Option.some.inj H;go_wp2;go_ret;exact ⟨by first | rfl | (simp; done) | (simp [*]; done), by repeat (first | exact D0w.refl _ | apply D0w.step)⟩
def F43.ren : Go.Shelf.Ren := { f := fun x => if x = 129 then 163 else if x = 171 then 34 else if x = 172 then 43 else if x = 205 then 154 else if x = 243 then 75 else if x = 244 then 84 else if x = 245 then 85 else if x = 246 then 113 else if x = 247 then 123 else if x = 279 then 124 else if x = 280 then 125 else if x = 281 then 126 else if x = 282 then 127 else if x = 283 then 143 else if x = 284 then 144 else if x = 285 then 145 else if x = 286 then 146 else if x = 287 then 152 else if x = 316 then 153 else if x = 317 then 162 else if x = 318 then 164 else if x = 319 then 165 else if x = 320 then 166 else if x = 321 then 168 else if x = 322 then 169 else if x = 337 then 177 else if x = 338 then 178 else 0, t := fun x => if x = 0 then 0 else if x = 2 then 2 else if x = 3 then 3 else if x = 4 then 4 else if x = 5 then 5 else if x = 9 then 9 else if x = 20 then 20 else if x = 21 then 21 else if x = 37 then 22 else if x = 46 then 115 else if x = 51 then 139 else if x = 53 then 134 else if x = 75 then 74 else if x = 76 then 75 else if x = 80 then 127 else if x = 85 then 118 else if x = 127 then 150 else if x = 143 then 161 else if x = 145 then 163 else if x = 167 then 117 else if x = 168 then 120 else if x = 171 then 133 else if x = 173 then 137 else if x = 175 then 144 else if x = 210 then 148 else if x = 212 then 156 else if x = 213 then 157 else if x = 232 then 175 else if x = 233 then 176 else 0, g := fun x => if x = 15 then 2 else if x = 16 then 3 else if x = 17 then 4 else if x = 18 then 7 else if x = 19 then 8 else 0 }
theorem F43.lays : LaysC.n172 Tryz.prog F43.ren := {
 mixed := by kernel_rfl
 f129 := by kernel_rfl
 f171 := by kernel_rfl
 f172 := by kernel_rfl
 f205 := by kernel_rfl
 f243 := by kernel_rfl
 f244 := by kernel_rfl
 f245 := by kernel_rfl
 f246 := by kernel_rfl
 f247 := by kernel_rfl
 f279 := by kernel_rfl
 f280 := by kernel_rfl
 f281 := by kernel_rfl
 f282 := by kernel_rfl
 f283 := by kernel_rfl
 f284 := by kernel_rfl
 f285 := by kernel_rfl
 f286 := by kernel_rfl
 f287 := by kernel_rfl
 f316 := by kernel_rfl
 f317 := by kernel_rfl
 f318 := by kernel_rfl
 f319 := by kernel_rfl
 f320 := by kernel_rfl
 f321 := by kernel_rfl
 f322 := by kernel_rfl
 f337 := by kernel_rfl
 f338 := by kernel_rfl
 t0 := by kernel_rfl
 a0 := fun _ => by kernel_rfl
 z0 := fun _ => by kernel_rfl
 v0 := fun _ => by kernel_rfl
 t2 := by kernel_rfl
 a2 := fun _ => by kernel_rfl
 z2 := fun _ => by kernel_rfl
 v2 := fun _ => by kernel_rfl
 t3 := by kernel_rfl
 a3 := fun _ => by kernel_rfl
 z3 := fun _ => by kernel_rfl
 v3 := fun _ => by kernel_rfl
 t4 := by kernel_rfl
 a4 := fun _ => by kernel_rfl
 z4 := fun _ => by kernel_rfl
 v4 := fun _ => by kernel_rfl
 t5 := by kernel_rfl
 a5 := fun _ => by kernel_rfl
 z5 := fun _ => by kernel_rfl
 v5 := fun _ => by kernel_rfl
 t9 := by kernel_rfl
 a9 := fun _ => by kernel_rfl
 z9 := fun _ => by kernel_rfl
 v9 := fun _ => by kernel_rfl
 t20 := by kernel_rfl
 a20 := fun _ => by kernel_rfl
 z20 := fun _ => by kernel_rfl
 v20 := fun _ => by kernel_rfl
 t21 := by kernel_rfl
 a21 := fun _ => by kernel_rfl
 z21 := fun _ => by kernel_rfl
 v21 := fun _ => by kernel_rfl
 t37 := by kernel_rfl
 a37 := fun _ => by kernel_rfl
 z37 := fun _ => by kernel_rfl
 v37 := fun _ => by kernel_rfl
 t46 := by kernel_rfl
 a46 := fun _ => by kernel_rfl
 z46 := fun _ => by kernel_rfl
 v46 := fun _ => by kernel_rfl
 t51 := by kernel_rfl
 a51 := fun _ => by kernel_rfl
 z51 := fun _ => by kernel_rfl
 v51 := fun _ => by kernel_rfl
 t53 := by kernel_rfl
 a53 := fun _ => by kernel_rfl
 z53 := fun _ => by kernel_rfl
 v53 := fun _ => by kernel_rfl
 t75 := by kernel_rfl
 a75 := fun _ => by kernel_rfl
 z75 := fun _ => by kernel_rfl
 v75 := fun _ => by kernel_rfl
 t76 := by kernel_rfl
 a76 := fun _ => by kernel_rfl
 z76 := fun _ => by kernel_rfl
 v76 := fun _ => by kernel_rfl
 t85 := by kernel_rfl
 a85 := fun _ => by kernel_rfl
 z85 := fun _ => by kernel_rfl
 v85 := fun _ => by kernel_rfl
 t127 := by kernel_rfl
 a127 := fun _ => by kernel_rfl
 z127 := fun _ => by kernel_rfl
 v127 := fun _ => by kernel_rfl
 t143 := by kernel_rfl
 a143 := fun _ => by kernel_rfl
 z143 := fun _ => by kernel_rfl
 v143 := fun _ => by kernel_rfl
 t145 := by kernel_rfl
 a145 := fun _ => by kernel_rfl
 z145 := fun _ => by kernel_rfl
 v145 := fun _ => by kernel_rfl
 t167 := by kernel_rfl
 a167 := fun _ => by kernel_rfl
 z167 := fun _ => by kernel_rfl
 v167 := fun _ => by kernel_rfl
 t168 := by kernel_rfl
 a168 := fun _ => by kernel_rfl
 z168 := fun _ => by kernel_rfl
 v168 := fun _ => by kernel_rfl
 t171 := by kernel_rfl
 a171 := fun _ => by kernel_rfl
 z171 := fun _ => by kernel_rfl
 v171 := fun _ => by kernel_rfl
 t173 := by kernel_rfl
 a173 := fun _ => by kernel_rfl
 z173 := fun _ => by kernel_rfl
 v173 := fun _ => by kernel_rfl
 t175 := by kernel_rfl
 a175 := fun _ => by kernel_rfl
 z175 := fun _ => by kernel_rfl
 v175 := fun _ => by kernel_rfl
 t210 := by kernel_rfl
 a210 := fun _ => by kernel_rfl
 z210 := fun _ => by kernel_rfl
 v210 := fun _ => by kernel_rfl
 t212 := by kernel_rfl
 a212 := fun _ => by kernel_rfl
 z212 := fun _ => by kernel_rfl
 v212 := fun _ => by kernel_rfl
 t213 := by kernel_rfl
 a213 := fun _ => by kernel_rfl
 z213 := fun _ => by kernel_rfl
 t232 := by kernel_rfl
 a232 := fun _ => by kernel_rfl
 z232 := fun _ => by kernel_rfl
 v232 := fun _ => by kernel_rfl
 t233 := by kernel_rfl
 a233 := fun _ => by kernel_rfl
 z233 := fun _ => by kernel_rfl
 v233 := fun _ => by kernel_rfl
 g15 := by kernel_rfl
 g16 := by kernel_rfl
 g17 := by kernel_rfl
 g18 := by kernel_rfl
 g19 := by kernel_rfl
 t80 := by kernel_rfl
 a80 := fun _ => by kernel_rfl
 z80 := fun _ => by kernel_rfl
 v80 := fun _ => by kernel_rfl
 i0 := by kernel_rfl
 i2 := by kernel_rfl
 i3 := by kernel_rfl
 i4 := by kernel_rfl
 i5 := by kernel_rfl
 i9 := by kernel_rfl
 i20 := by kernel_rfl
 i21 := by kernel_rfl
 i37 := by kernel_rfl
 i46 := by kernel_rfl
 i51 := by kernel_rfl
 i53 := by kernel_rfl
 i75 := by kernel_rfl
 i76 := by kernel_rfl
 i80 := by kernel_rfl
 i85 := by kernel_rfl
 i127 := by kernel_rfl
 i143 := by kernel_rfl
 i145 := by kernel_rfl
 i167 := by kernel_rfl
 i168 := by kernel_rfl
 i171 := by kernel_rfl
 i173 := by kernel_rfl
 i175 := by kernel_rfl
 i210 := by kernel_rfl
 i212 := by kernel_rfl
 i232 := by kernel_rfl
 i233 := by kernel_rfl
 m15 := by kernel_rfl
 m16 := by kernel_rfl
 m17 := by kernel_rfl
 m18 := by kernel_rfl
 m19 := by kernel_rfl
 c0 := by kernel_rfl
 c2 := by kernel_rfl
 c3 := by kernel_rfl
 c4 := by kernel_rfl
 c5 := by kernel_rfl
 c9 := by kernel_rfl
 c20 := by kernel_rfl
 c21 := by kernel_rfl
 c37 := by kernel_rfl
 c46 := by kernel_rfl
 c51 := by kernel_rfl
 c53 := by kernel_rfl
 c75 := by kernel_rfl
 c76 := by kernel_rfl
 c80 := by kernel_rfl
 c85 := by kernel_rfl
 c127 := by kernel_rfl
 c143 := by kernel_rfl
 c145 := by kernel_rfl
 c167 := by kernel_rfl
 c168 := by kernel_rfl
 c171 := by kernel_rfl
 c173 := by kernel_rfl
 c175 := by kernel_rfl
 c210 := by kernel_rfl
 c212 := by kernel_rfl
 c213 := by kernel_rfl
 c232 := by kernel_rfl
 c233 := by kernel_rfl }
def atoiVal (s : ByteArray) : Int := match Lib.atoiAll s.data.toList with | .ok v => v | .range => Lib.atoiSat s.data.toList | _ => 0
def F43.f (a0 : ByteArray) : Option (Int × Int) := if a0.size ≤ 281474976710656 then some (atoiVal a0, 0) else none
theorem F43.calls (a0 : ByteArray) (r1 r2 : Int) (w : World) (hT : TabR w) (h : F43.f a0 = some (r1, r2)) :
  Calls Tryz.prog 43 #[.string a0] w fun e w' => ∃ er : Value, e = .returned (.tuple #[.int .i64 r1, er]) ∧ Below w.heap.size w w' := by
 unfold F43.f at h;by_cases hc : a0.size ≤ 281474976710656
 ·rw [if_pos hc] at h;obtain ⟨rfl, rfl⟩ := Prod.mk.inj (Option.some.inj h);unfold atoiVal;cases he : Lib.atoiAll a0.data.toList with
  | ok v =>
   refine (Any.strconv_Atoi_ok (ρ := F43.ren) F43.lays a0 zo_ v he w).mono ?_;rintro e w' ⟨rfl, rfl | ⟨t, rfl⟩⟩
   ·exact ⟨_, rfl, Below.refl _ _⟩
   ·exact ⟨_, rfl, bytes_below (Below.refl _ _) (Nat.le_refl _) _ _⟩
  | range =>
   obtain ⟨t, p, hv⟩ := hT.2.2.2;refine (Any.strconv_Atoi_range (ρ := F43.ren) F43.lays a0 hc he _ w hv (Or.inr ⟨t, p, rfl⟩)).mono ?_;rintro e w' ⟨N, rfl, _, _, hb⟩;exact ⟨_, rfl, hb⟩
  | _ =>
   obtain ⟨t, p, hv⟩ := hT.2.2.1;refine (Any.strconv_Atoi_syntax (ρ := F43.ren) F43.lays a0 hc he _ w hv (Or.inr ⟨t, p, rfl⟩)).mono ?_;rintro e w' ⟨N, rfl, _, _, hb⟩;exact ⟨_, rfl, hb⟩
 ·rw [if_neg hc] at h; cases h
end Go.Proofs.YtnpoeeliaolbaaaGreatDoor.LA
