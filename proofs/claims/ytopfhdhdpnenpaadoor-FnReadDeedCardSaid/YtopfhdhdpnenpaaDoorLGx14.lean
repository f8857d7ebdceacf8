/- Printed by a program of this session (wip/lp/lp.py) out of the translation: functions with the same answers as the Go code, and their contracts; no conditions beyond those that each theorem names. -/
import Derived.Test.YtopfhdhdpnenpaaDoorLGx0
import Derived.Test.YtopfhdhdpnenpaaDoorLGx8
import Derived.Test.YtopfhdhdpnenpaaDoorLGx9
import Derived.Test.YtopfhdhdpnenpaaDoorLGx12
import Derived.Test.YtopfhdhdpnenpaaDoorLGx13
namespace Go.Proofs.YtopfhdhdpnenpaaDoor.LG
open Go.RowKit Go.Proofs.YtopfhdhdpnenpaaDoorV.PrintWords Go.Proofs.YtopfhdhdpnenpaaDoorV.PrintLast Go.Proofs.YtopfhdhdpnenpaaDoorV.PrintMore
attribute [local go_sem] max2_int min2_int max_two min_two max_three min_three max_four min_four   -- for this text's walks alone
set_option linter.unusedVariables false
set_option linter.unusedSimpArgs false

/-! ### spec_PutInOrder: function 52 -/
mutual
def spec_PutInOrder.j0 : Nat → List Int → List Int → Bool → Option (List Int × Bool)
 | 0, _, _, _ => none
 | k + 1, x0, x1, x19 => if x19 = true then (some ((([] : List Int)), false)) else (if 0 ≤ (wrap64 ((x0.length : Int) + 1)) then (if (wrap64 ((x0.length : Int) + 1) : Int).toNat ≤ 35184372088832 then (spec_PutInOrder.l0 k x0 x1 (List.replicate (wrap64 ((x0.length : Int) + 1) : Int).toNat 0) 0) else (none)) else (none))
def spec_PutInOrder.l0 : Nat → List Int → List Int → List Int → Int → Option (List Int × Bool)
 | 0, _, _, _, _ => none
 | k + 1, x0, x1, x6, x7 => if x7 < (x1.length : Int) then (if 0 ≤ x7 then (if 0 ≤ (rd x1 x7) then (if (rd x1 x7) < (x6.length : Int) then (spec_PutInOrder.l0 k x0 x1 (x6.set ((rd x1 x7) : Int).toNat (wrap64 (x7 + 1))) (wrap64 (x7 + 1))) else (none)) else (none)) else (none)) else (spec_PutInOrder.l1 k x0 x1 x6 (([] : List Int)) 0)
def spec_PutInOrder.l1 : Nat → List Int → List Int → List Int → List Int → Int → Option (List Int × Bool)
 | 0, _, _, _, _, _ => none
 | k + 1, x0, x1, x6, x8, x9 => if x9 < (x1.length : Int) then (if 0 ≤ x9 then (if 0 ≤ (wrap64 ((rd x1 x9) - 1)) then (if (wrap64 ((rd x1 x9) - 1)) < (x0.length : Int) then (if 0 ≤ (rd x0 (wrap64 ((rd x1 x9) - 1))) then (if (rd x0 (wrap64 ((rd x1 x9) - 1))) < (x6.length : Int) then (if x8.length < 17592186044416 then (spec_PutInOrder.l1 k x0 x1 x6 (x8 ++ [rd x6 (rd x0 (wrap64 ((rd x1 x9) - 1)))]) (wrap64 (x9 + 1))) else (none)) else (none)) else (none)) else (none)) else (none)) else (none)) else (some (x8, true))
end
def spec_PutInOrder.f (k : Nat) (l0 : List Int) (l1 : List Int) : Option (List Int × Bool) := (spec_TreeOk.f k l0).bind fun t344 => (if t344 = true then ((spec_OrderOk.f k l1 (l0.length : Int)).bind fun t345 => (spec_PutInOrder.j0 k l0 l1 (!t345))) else (spec_PutInOrder.j0 k l0 l1 true))
theorem spec_PutInOrder.mono_l : ∀ k, (∀ y0 y1 y2, LeO (spec_PutInOrder.j0 k y0 y1 y2) (spec_PutInOrder.j0 (k + 1) y0 y1 y2)) ∧ (∀ y0 y1 y2 y3, LeO (spec_PutInOrder.l0 k y0 y1 y2 y3) (spec_PutInOrder.l0 (k + 1) y0 y1 y2 y3)) ∧ (∀ y0 y1 y2 y3 y4, LeO (spec_PutInOrder.l1 k y0 y1 y2 y3 y4) (spec_PutInOrder.l1 (k + 1) y0 y1 y2 y3 y4))
 | 0 => ⟨fun _ _ _ r h => by simp [spec_PutInOrder.j0] at h, fun _ _ _ _ r h => by simp [spec_PutInOrder.l0] at h, fun _ _ _ _ _ r h => by simp [spec_PutInOrder.l1] at h⟩
 | k + 1 => by
  obtain ⟨ih0, ih1, ih2⟩ := spec_PutInOrder.mono_l k
  refine ⟨?_, ?_, ?_⟩
  ·intro y0 y1 y2
   unfold spec_PutInOrder.j0
   have := @spec_OrderOk.mono; have := @spec_TreeOk.mono; exact zmono
  ·intro y0 y1 y2 y3
   unfold spec_PutInOrder.l0
   have := @spec_OrderOk.mono; have := @spec_TreeOk.mono; exact zmono
  ·intro y0 y1 y2 y3 y4
   unfold spec_PutInOrder.l1
   have := @spec_OrderOk.mono; have := @spec_TreeOk.mono; exact zmono
theorem spec_PutInOrder.mono : ∀ a0 a1 k, LeO (spec_PutInOrder.f k a0 a1) (spec_PutInOrder.f (k + 1) a0 a1) := by
 intro a0 a1 k
 obtain ⟨ih0, ih1, ih2⟩ := spec_PutInOrder.mono_l k
 unfold spec_PutInOrder.f
 have := @spec_OrderOk.mono; have := @spec_TreeOk.mono; exact zmono
set_option maxHeartbeats 8000000 in
set_option maxRecDepth 100000 in
theorem spec_PutInOrder.calls (k : Nat) (A0 : Option Addr) (c0 : Nat) (l0 : List Int) (A1 : Option Addr) (c1 : Nat) (l1 : List Int) (r1 : List Int) (r2 : Bool) (w : World) (hr0 : Kd.C (Kd.int .i64) w A0 l0.length l0) (hc0 : l0.length ≤ c0) (hr1 : Kd.C (Kd.int .i64) w A1 l1.length l1) (hc1 : l1.length ≤ c1) (h : spec_PutInOrder.f k l0 l1 = some (r1, r2)) :
  Calls Tryd.prog 52 #[.slice A0 l0.length c0, .slice A1 l1.length c1] w fun e w' => ∃ v0_ : Value, e = .returned (.tuple #[v0_, .bool r2]) ∧ Kd.R (Kd.int .i64) 3 w' w.heap.size (fun _ => True) v0_ r1 ∧ Below w.heap.size w w' := by
 have HR0:=zM hr0
 have HC0:=zM hc0
 clear hr0 hc0
 have HR1:=zM hr1
 have HC1:=zM hc1
 clear hr1 hc1
 have HB:=zM (Below.refl w.heap.size w)
 have H : ((spec_TreeOk.f k l0).bind fun t344 => (if t344 = true then ((spec_OrderOk.f k l1 (l0.length : Int)).bind fun t345 => (spec_PutInOrder.j0 k l0 l1 (!t345))) else (spec_PutInOrder.j0 k l0 l1 true))) = some (r1, r2) := h
 clear h
 have HC3:=zM H
 clear H
 go_enter Tryd.func52, Tryd.ntmps52
 go_upto_region 1 with (fail)
 go_cut [19] (fun v19 wc => ∃ (kq : Nat) (x19_2 : Bool), v19 = .bool x19_2 ∧ Aside0 (spec_PutInOrder.j0 kq l0 l1 x19_2 = some (r1, r2)) ∧ Aside0 (kq ≤ k) ∧ Aside0 (Below w.heap.size w wc))
 case first =>
  have H := HC3.out
  clear HC3
  replace H := zb H; obtain ⟨t344, A4, H⟩ := H; try dsimp only at H
  by_cases c5 : t344 = true
  ·subst c5
   have H1 : ((spec_OrderOk.f k l1 (l0.length : Int)).bind fun t345 => (spec_PutInOrder.j0 k l0 l1 (!t345))) = some (r1, r2) := by rw [if_pos rfl] at H; exact H
   clear H
   have H := H1
   clear H1
   replace H := zb H; obtain ⟨t345, A6, H⟩ := H; try dsimp only at H
   have H':=zM H
   clear H
   go_wp2_with (first | (refine zg 51 (some 11) Tryd.func51 #[.slice A0 l0.length c0] ?_; (with_reducible refine (spec_TreeOk.calls k _ _ l0 true _ (zs25 HR0.out HB.out) HC0.out A4.out).mono ?_); rintro e w' ⟨rfl, ⟨nd, rfl⟩⟩; refine ⟨_, rfl, ?_⟩) | (go_at_call 62; (with_reducible refine (spec_OrderOk.calls k _ _ l1 (l0.length : Int) t345 _ (by repeat (first | exact (Kd.C_below HR1.out (zs2 HB.out)) | (with_reducible refine Kd.C_alloc ?_ _) | (with_reducible refine Kd.C_drewN ?_ _) | (with_reducible refine Kd.C_drew ?_))) HC1.out A6.out).mono ?_); rintro e w' ⟨rfl, ⟨nd, rfl⟩⟩))
   go_meet
   case rel => exact ⟨_, (!t345), zs6, H', ⟨zs7⟩, ⟨(zs2 HB.out)⟩⟩
  ·replace c5 := Bool.eq_false_iff.mpr c5
   subst c5
   have H1 : (spec_PutInOrder.j0 k l0 l1 true) = some (r1, r2) := by rw [if_neg (show ¬ (false = true) by decide)] at H; exact H
   clear H
   have H := H1
   clear H1
   have H':=zM H
   clear H
   go_wp2_with (first | (refine zg 51 (some 11) Tryd.func51 #[.slice A0 l0.length c0] ?_; (with_reducible refine (spec_TreeOk.calls k _ _ l0 false _ (zs25 HR0.out HB.out) HC0.out A4.out).mono ?_); rintro e w' ⟨rfl, ⟨nd, rfl⟩⟩; refine ⟨_, rfl, ?_⟩))
   go_meet
   case rel => exact ⟨_, (true), zs6, H', ⟨zs7⟩, ⟨(zs2 HB.out)⟩⟩
 case rest =>
  clear HC3
  try clear c1
  try clear p2
  try clear c5
  obtain ⟨kq, x19_2, rfl, HA, HJ2, HB⟩ := hcut
  cases kq with
  | zero => exact absurd HA.out (by simp [spec_PutInOrder.j0])
  | succ kj2 =>
   have H := HA.out
   clear HA
   simp only [spec_PutInOrder.j0] at H
   by_cases c7 : x19_2 = true
   ·subst c7
    have H1 : (some ((([] : List Int)), false)) = some (r1, r2) := by rw [if_pos rfl] at H; exact H
    clear H
    have H := H1
    clear H1
    obtain ⟨y346, hy346⟩ : ∃ y_ : List Int, y_ = (([] : List Int)) := ⟨_, rfl⟩
    replace H : (some (y346, false)) = some (r1, r2) := by first | (rw [hy346]; with_reducible exact H) | (have H2_ := (Option.bind_some _ _).symm.trans H; rw [hy346]; with_reducible exact H2_) | (have H2_ := (Option.bind_some _ _).symm.trans H; with_reducible exact H2_) | with_reducible exact H | (rw [hy346]; exact H) | exact H
    have Ny346:=zM hy346
    clear hy346
    simp only [Option.some.injEq, Prod.mk.injEq] at H
    obtain ⟨rfl, rfl⟩ := H
    go_wp2_with (first | ((with_reducible refine gate_dst (N := 20) rfl ?_); (try (refine gate_guard (by rfl) ?_; dsimp only)); refine Kd.R_lit (Kd.int .i64) _ 3 zs0 (N := 20) zs0 (xs := ([] : List Int)) (inner := []) (ok := fun _ => True) (okp := fun _ => True) zs1 ?hp (fun _ hk => hk) trivial (Below.refl _ _) (Nat.le_refl _) (by simp) ?_; (case hp => exact (Reps.none _ _)); intro v347 w8 ho9 hb hg_ hnew_; clear hg_ hnew_; (first | rw [← Ny346.out] at ho9 | (simp only [Int.reduceToNat] at ho9; rw [← Ny346.out] at ho9)); have HO348:=zM (Kd.R_lower ho9 (below_size (zs2 HB.out))); replace HB:=zM (below_step (zs2 HB.out) hb); clear hb ho9))
    go_ret2
    exact ⟨_, zs3, by (with_reducible repeat (first | apply Kd.R_alloc | apply Kd.R_drewN | apply Kd.R_drew)); exact HO348.out, (zs2 HB.out)⟩
   ·replace c7 := Bool.eq_false_iff.mpr c7
    subst c7
    have H1 : (if 0 ≤ (wrap64 ((l0.length : Int) + 1)) then (if (wrap64 ((l0.length : Int) + 1) : Int).toNat ≤ 35184372088832 then (spec_PutInOrder.l0 kj2 l0 l1 (List.replicate (wrap64 ((l0.length : Int) + 1) : Int).toNat 0) 0) else (none)) else (none)) = some (r1, r2) := by rw [if_neg (show ¬ (false = true) by decide)] at H; exact H
    clear H
    have H := H1
    clear H1
    obtain ⟨ji10, hji10⟩ : ∃ j_ : Int, (wrap64 ((l0.length : Int) + 1)) = j_ := ⟨_, rfl⟩
    replace H : (if 0 ≤ (ji10) then (if (ji10 : Int).toNat ≤ 35184372088832 then (spec_PutInOrder.l0 kj2 l0 l1 (List.replicate (ji10 : Int).toNat 0) 0) else (none)) else (none)) = some (r1, r2) := by first | (rw [hji10] at H; exact H) | (simp only [hji10] at H ⊢; exact H)
    have hji10w : (IntKind.i64.wrap ((l0.length : Int) + 1)) = ji10 := (i64_w _).trans hji10
    by_cases c11 : 0 ≤ (ji10)
    ·rw [if_pos c11] at H
     have c11b0 := eq_true c11
     have c11b1 := decide_eq_true c11
     clear c11
     by_cases c12 : (ji10 : Int).toNat ≤ 35184372088832
     ·rw [if_pos c12] at H
      have c12b0 := eq_true c12
      have c12b1 := decide_eq_true c12
      clear c12
      obtain ⟨y349, hy349⟩ : ∃ y_ : List Int, y_ = (List.replicate (ji10 : Int).toNat 0) := ⟨_, rfl⟩
      replace H : (spec_PutInOrder.l0 kj2 l0 l1 y349 0) = some (r1, r2) := by first | (rw [hy349]; with_reducible exact H) | (have H2_ := (Option.bind_some _ _).symm.trans H; rw [hy349]; with_reducible exact H2_) | (have H2_ := (Option.bind_some _ _).symm.trans H; with_reducible exact H2_) | with_reducible exact H | (rw [hy349]; exact H) | exact H
      have Ny349:=zM hy349
      clear hy349
      have H':=zM H
      clear H
      go_wp2_with (first | ((with_reducible refine gate_dst (N := 24) rfl ?_); (try (refine gate_guard (by rfl) ?_; dsimp only)); refine Kd.R_make (Kd.int .i64) _ 3 rfl (N := 24) rfl 54 _ _ rfl ji10 rfl rfl Tryd.underlying54 (.int .i64 0) 8 info3 rfl (by decide) (by omega) 0 (ok := fun _ => True) (okp := fun _ => True) rfl (fun _ hk => hk) trivial (of_decide_eq_true zs8) (Nat.le_trans (Nat.mul_le_mul_right _ (of_decide_eq_true zs8 : ji10.toNat ≤ 35184372088832)) (by omega)) (Below.refl _ _) (Nat.le_refl _) ?_; intro v350 w13 ho14 hb hg_ hnew_; clear hg_ hnew_; (first | rw [← Ny349.out] at ho14 | (simp only [Int.reduceToNat] at ho14; rw [← Ny349.out] at ho14)); have HO351:=zM (Kd.R_lower ho14 (below_size (zs2 HB.out))); replace HB:=zM (below_step (zs2 HB.out) hb); clear hb ho14))
      go_loopg [7] kj2 (fun kq v7 w' => ∃ (x6_2 : List Int) (x7_2 : Int), v7 = .int .i64 x7_2 ∧ Aside0 (spec_PutInOrder.l0 kq l0 l1 x6_2 x7_2 = some (r1, r2)) ∧ Aside0 (kq ≤ kj2) ∧ Aside0 (Kd.R (Kd.int .i64) 3 w' w.heap.size (fun _ => True) v350 x6_2) ∧ Aside0 (Below w.heap.size w w'))
      case atStart => exact ⟨(y349), (0), zs6, H', ⟨Nat.le_refl _⟩, ⟨by (with_reducible repeat (first | apply Kd.R_alloc | apply Kd.R_drewN | apply Kd.R_drew)); exact HO351.out⟩, ⟨(zs2 HB.out)⟩⟩
      case round =>
       clear H'
       try clear c1
       try clear p2
       try clear c5
       try clear p6
       try clear c7
       try clear c11
       try clear c11b0
       try clear c11b1
       try clear c12
       try clear c12b0
       try clear c12b1
       try clear p2
       obtain ⟨x6_2, x7_2, rfl, HA, HK2, HO_6, HB⟩ := hrel
       cases gk with
       | zero => exact absurd HA.out (by simp [spec_PutInOrder.l0])
       | succ k2 =>
        have H := HA.out
        clear HA
        simp only [spec_PutInOrder.l0] at H
        by_cases c15 : x7_2 < (l1.length : Int)
        ·rw [if_pos c15] at H
         have c15b0 := decide_eq_true c15
         clear c15
         by_cases c16 : 0 ≤ x7_2
         ·rw [if_pos c16] at H
          have c16b0 := decide_eq_true c16
          clear c16
          by_cases c17 : 0 ≤ (rd l1 x7_2)
          ·rw [if_pos c17] at H
           have c17b0 := decide_eq_true c17
           clear c17
           by_cases c18 : (rd l1 x7_2) < (x6_2.length : Int)
           ·rw [if_pos c18] at H
            have c18b0 := decide_eq_true c18
            clear c18
            obtain ⟨y353, hy353⟩ : ∃ y_ : List Int, y_ = (x6_2.set ((rd l1 x7_2) : Int).toNat (wrap64 (x7_2 + 1))) := ⟨_, rfl⟩
            replace H : (spec_PutInOrder.l0 k2 l0 l1 y353 (wrap64 (x7_2 + 1))) = some (r1, r2) := by first | (rw [hy353]; with_reducible exact H) | (have H2_ := (Option.bind_some _ _).symm.trans H; rw [hy353]; with_reducible exact H2_) | (have H2_ := (Option.bind_some _ _).symm.trans H; with_reducible exact H2_) | with_reducible exact H | (rw [hy353]; exact H) | exact H
            have Ny353:=zM hy353
            clear hy353
            have H':=zM H
            clear H
            have p352 : 0 ≤ (x7_2 : Int) := of_decide_eq_true zs8
            have q352 : x7_2 < (l1.length : Int) := of_decide_eq_true zs8
            obtain ⟨ad352, e352, hx352_0⟩ := Kd.at_int HR1.out x7_2 p352 q352
            cases e352
            replace hx352_0 := (HB.out.cell (World.block_lt_of_cell? w _ hx352_0)).trans hx352_0
            replace p352 := eq_true p352
            replace q352 := eq_true q352
            have p19 : 0 ≤ ((rd l1 x7_2) : Int) := of_decide_eq_true zs8
            have q19 : ((rd l1 x7_2) : Int) < ((x6_2.length : Int) : Int) := of_decide_eq_true zs8
            obtain ⟨go19, co19, eo19, gb19, gl19, cl19, HG19⟩ := Kd.R_form HO_6.out (by omega)
            (first | cases eo19 | (injection eo19 with ea_ en_ ec_; (first | subst ea_ | (injection ea_ with ea_; subst ea_)); subst ec_; clear en_))
            have GB19:=zM gb19
            have GG19:=zM HG19
            clear gb19 gl19 HG19
            obtain ⟨hx19_0, hf19_0⟩ := Kd.R_celln 0 HO_6.out ((rd l1 x7_2) : Int) p19 q19
            replace p19 := eq_true p19
            replace q19 := eq_true q19
            have HP20 := Kd.R_putg HO_6.out ((rd l1 x7_2) : Int) (wrap64 (x7_2 + 1))
            go_wp2_with (first | ((with_reducible refine gate_store (t := 3) (p := 38) rfl ?_); refine store_event (t := 3) (p := 38) (v := ?vo_w21) (w1 := (wr.setCell ⟨go19, ((rd l1 x7_2) : Int).toNat, none⟩ (.int .i64 (wrap64 (x7_2 + 1))))) ?hg ?ho ?hn ?hr ?_; (case ho => rfl); (case hg => rfl); (case hn => rfl); (case hr => first | (go_simp; done) | (go_simp; rfl)); intro w21 hw; have hg : wr.grownBy w21 (some go19) := (by rw [hw]; exact HP20.2); have hp_ : Kd.R (Kd.int .i64) 3 w21 w.heap.size (fun _ => True) (.slice (some ⟨go19, 0, none⟩) x6_2.length co19) y353 := (by rw [hw, Ny353.out]; exact HP20.1); clear HP20; replace HO_6:=zM (hp_); replace HB:=zM ((by rw [hw]; exact zD (HB.out) GB19.out : Below w.heap.size w w21)); clear hg hw hp_))
            go_roundg k2
            case measure => have := HJ2.out; have := HK2.out; omega
            case rel => exact ⟨(y353), (wrap64 (x7_2 + 1)), zs6, H', ⟨by have := HJ2.out; have := HK2.out; omega⟩, ⟨by (with_reducible repeat (first | apply Kd.R_alloc | apply Kd.R_drewN | apply Kd.R_drew)); exact HO_6.out⟩, ⟨(zs2 HB.out)⟩⟩
           ·rw [if_neg c18] at H
            exact absurd H (by simp)
          ·rw [if_neg c17] at H
           exact absurd H (by simp)
         ·rw [if_neg c16] at H
          exact absurd H (by simp)
        ·rw [if_neg c15] at H
         have c15b0 := decide_eq_false c15
         clear c15
         obtain ⟨y354, hy354⟩ : ∃ y_ : List Int, y_ = (([] : List Int)) := ⟨_, rfl⟩
         replace H : (spec_PutInOrder.l1 k2 l0 l1 x6_2 y354 0) = some (r1, r2) := by first | (rw [hy354]; with_reducible exact H) | (have H2_ := (Option.bind_some _ _).symm.trans H; rw [hy354]; with_reducible exact H2_) | (have H2_ := (Option.bind_some _ _).symm.trans H; with_reducible exact H2_) | with_reducible exact H | (rw [hy354]; exact H) | exact H
         have Ny354:=zM hy354
         clear hy354
         have H':=zM H
         clear H
         go_wp2_with (first | ((with_reducible refine gate_dst (N := 39) rfl ?_); (try (refine gate_guard (by rfl) ?_; dsimp only)); refine Kd.R_lit (Kd.int .i64) _ 3 zs0 (N := 39) zs0 (xs := ([] : List Int)) (inner := []) (ok := fun _ => True) (okp := fun _ => True) zs1 ?hp (fun _ hk => hk) trivial (Below.refl _ _) (Nat.le_refl _) (by simp) ?_; (case hp => exact (Reps.none _ _)); intro v355 w22 ho23 hb hg_ hnew_; clear hg_ hnew_; (first | rw [← Ny354.out] at ho23 | (simp only [Int.reduceToNat] at ho23; rw [← Ny354.out] at ho23)); have HO356:=zM (Kd.R_lower (Kd.R_new' ho23 (Kd.R_lt (zs11 HO_6.out))) (below_size (zs2 HB.out))); replace HO_6:=zM (Kd.R_elder' (zs11 HO_6.out) (Kd.R_base ho23) hb); replace HB:=zM (below_step (zs2 HB.out) hb); clear hb ho23))
         go_loopg [8, 9] k2 (fun kq v8 v9 w' => ∃ (x8_3 : List Int) (x9_3 : Int), v9 = .int .i64 x9_3 ∧ Aside0 (spec_PutInOrder.l1 kq l0 l1 x6_2 x8_3 x9_3 = some (r1, r2)) ∧ Aside0 (kq ≤ k2) ∧ Aside0 (Kd.R (Kd.int .i64) 3 w' w.heap.size (fun k_ => some k_ ≠ (v8 : Value).ownBlock) v350 x6_2) ∧ Aside0 (Kd.R (Kd.int .i64) 3 w' w.heap.size (fun k_ => some k_ ≠ (v350 : Value).ownBlock) v8 x8_3) ∧ Aside0 (Below w.heap.size w w'))
         case atStart => exact ⟨(y354), (0), zs6, H', ⟨Nat.le_refl _⟩, ⟨by (with_reducible repeat (first | apply Kd.R_alloc | apply Kd.R_drewN | apply Kd.R_drew)); exact Kd.R_mono HO_6.out (fun _ hk => hk.2)⟩, ⟨by (with_reducible repeat (first | apply Kd.R_alloc | apply Kd.R_drewN | apply Kd.R_drew)); exact Kd.R_mono HO356.out (fun _ hk => hk.2)⟩, ⟨(zs2 HB.out)⟩⟩
         case round =>
          clear H'
          try clear c1
          try clear p1
          try clear q1
          try clear hx1
          try clear p2
          try clear p3
          try clear q3
          try clear hx3
          try clear c5
          try clear p6
          try clear c7
          try clear c11
          try clear c11b0
          try clear c11b1
          try clear c12
          try clear c12b0
          try clear c12b1
          try clear c15
          try clear c15b0
          try clear c16
          try clear c16b0
          try clear c17
          try clear c17b0
          try clear c18
          try clear c18b0
          try clear p19
          try clear q19
          try clear hx19
          try clear hf19
          try clear hx19_0
          try clear hx352_0
          try clear p19
          try clear p2
          try clear p352
          try clear p6
          try clear q19
          try clear q352
          obtain ⟨x8_3, x9_3, rfl, HA, HK3, HO_6, HO_8, HB⟩ := hrel
          cases gk with
          | zero => exact absurd HA.out (by simp [spec_PutInOrder.l1])
          | succ k3 =>
           have H := HA.out
           clear HA
           simp only [spec_PutInOrder.l1] at H
           by_cases c24 : x9_3 < (l1.length : Int)
           ·rw [if_pos c24] at H
            have c24b0 := decide_eq_true c24
            clear c24
            by_cases c25 : 0 ≤ x9_3
            ·rw [if_pos c25] at H
             have c25b0 := decide_eq_true c25
             clear c25
             obtain ⟨ji26, hji26⟩ : ∃ j_ : Int, (wrap64 ((rd l1 x9_3) - 1)) = j_ := ⟨_, rfl⟩
             replace H : (if 0 ≤ (ji26) then (if (ji26) < (l0.length : Int) then (if 0 ≤ (rd l0 (ji26)) then (if (rd l0 (ji26)) < (x6_2.length : Int) then (if x8_3.length < 17592186044416 then (spec_PutInOrder.l1 k3 l0 l1 x6_2 (x8_3 ++ [rd x6_2 (rd l0 (ji26))]) (wrap64 (x9_3 + 1))) else (none)) else (none)) else (none)) else (none)) else (none)) = some (r1, r2) := by first | (rw [hji26] at H; exact H) | (simp only [hji26] at H ⊢; exact H)
             have hji26w : (IntKind.i64.wrap ((rd l1 x9_3) - 1)) = ji26 := (i64_w _).trans hji26
             by_cases c27 : 0 ≤ (ji26)
             ·rw [if_pos c27] at H
              have c27b0 := decide_eq_true c27
              clear c27
              by_cases c28 : (ji26) < (l0.length : Int)
              ·rw [if_pos c28] at H
               have c28b0 := decide_eq_true c28
               clear c28
               by_cases c29 : 0 ≤ (rd l0 (ji26))
               ·rw [if_pos c29] at H
                have c29b0 := decide_eq_true c29
                clear c29
                by_cases c30 : (rd l0 (ji26)) < (x6_2.length : Int)
                ·rw [if_pos c30] at H
                 have c30b0 := decide_eq_true c30
                 clear c30
                 by_cases c31 : x8_3.length < 17592186044416
                 ·rw [if_pos c31] at H
                  have LMc31:=zM c31
                  clear c31
                  obtain ⟨y360, hy360⟩ : ∃ y_ : List Int, y_ = (x8_3 ++ [rd x6_2 (rd l0 (ji26))]) := ⟨_, rfl⟩
                  replace H : (spec_PutInOrder.l1 k3 l0 l1 x6_2 y360 (wrap64 (x9_3 + 1))) = some (r1, r2) := by first | (rw [hy360]; with_reducible exact H) | (have H2_ := (Option.bind_some _ _).symm.trans H; rw [hy360]; with_reducible exact H2_) | (have H2_ := (Option.bind_some _ _).symm.trans H; with_reducible exact H2_) | with_reducible exact H | (rw [hy360]; exact H) | exact H
                  have Ny360:=zM hy360
                  clear hy360
                  have H':=zM H
                  clear H
                  have p357 : 0 ≤ (x9_3 : Int) := of_decide_eq_true zs8
                  have q357 : x9_3 < (l1.length : Int) := of_decide_eq_true zs8
                  obtain ⟨ad357, e357, hx357_0⟩ := Kd.at_int HR1.out x9_3 p357 q357
                  cases e357
                  replace hx357_0 := (HB.out.cell (World.block_lt_of_cell? w _ hx357_0)).trans hx357_0
                  replace p357 := eq_true p357
                  replace q357 := eq_true q357
                  have p358 : 0 ≤ ((ji26) : Int) := of_decide_eq_true zs8
                  have q358 : (ji26) < (l0.length : Int) := of_decide_eq_true zs8
                  obtain ⟨ad358, e358, hx358_0⟩ := Kd.at_int HR0.out (ji26) p358 q358
                  cases e358
                  replace hx358_0 := (HB.out.cell (World.block_lt_of_cell? w _ hx358_0)).trans hx358_0
                  replace p358 := eq_true p358
                  replace q358 := eq_true q358
                  obtain ⟨Ao32, co32, eo32⟩ := Kd.R_slice HO_6.out
                  subst eo32
                  have p359 : 0 ≤ ((rd l0 (ji26)) : Int) := of_decide_eq_true zs8
                  have q359 : (rd l0 (ji26)) < (x6_2.length : Int) := of_decide_eq_true zs8
                  obtain ⟨ad359, e359, hx359_0⟩ := Kd.at_int (Kd.R_reads' HO_6.out).2.2 (rd l0 (ji26)) p359 q359
                  cases e359
                  replace p359 := eq_true p359
                  replace q359 := eq_true q359
                  go_wp2_with (first | ((with_reducible refine gate_builtin (b := .append) (xs := #[.tmp 46, .tmp 58]) rfl ?_); (try (refine gate_guard (by rfl) ?_; dsimp only)); at_builtin; refine Kd.R_append (Kd.int .i64) (w0 := w) w.heap.size rfl (.tmp 46) (.tmp 58) 54 3 (.int .i64 0) 8 rfl Tryd.underlying54 info3 rfl (by decide) (by omega) u8 x8_3 (rd x6_2 (rd l0 (ji26))) [.int .i64 (rd x6_2 (rd l0 (ji26)))] (fun k_ => some k_ ≠ (.slice (some ad359) x6_2.length co32 : Value).ownBlock) (fun _ => False) rfl rfl ?aP (fun _ hk => hk.elim) ?aF ?aO ?aB ?aS ?aL ?_; (case aP => exact rfl); (case aB => exact (zs2 HB.out)); (case aF => exact (fun k_ hk => Kd.fresh' (Kd.R_lt (zs11 HO_6.out)) k_ hk)); (case aO => exact (zs11 HO_8.out)); (case aS => exact (below_size (zs2 HB.out))); (case aL => have := LMc31.out; omega); intro v361 w33 ho hb hg hat; rw [← Ny360.out] at ho; replace HO_6:=zM (Kd.R_after (ok := (fun _ => True)) (by (with_reducible repeat (first | apply Kd.R_alloc | apply Kd.R_drewN | apply Kd.R_drew)); exact Kd.R_mono HO_6.out (fun _ hk => ⟨trivial, hk⟩)) hg hat); replace HB:=zM (hb); have HO362:=zM (ho); clear HO_8; clear ho hb hg hat))
                  go_roundg k3
                  case measure => have := HJ2.out; have := HK2.out; have := HK3.out; omega
                  case rel => exact ⟨(y360), (wrap64 (x9_3 + 1)), zs6, H', ⟨by have := HJ2.out; have := HK2.out; have := HK3.out; omega⟩, ⟨by (with_reducible repeat (first | apply Kd.R_alloc | apply Kd.R_drewN | apply Kd.R_drew)); exact Kd.R_mono HO_6.out (fun _ hk => hk.2)⟩, ⟨by (with_reducible repeat (first | apply Kd.R_alloc | apply Kd.R_drewN | apply Kd.R_drew)); exact HO362.out⟩, ⟨(zs2 HB.out)⟩⟩
                 ·rw [if_neg c31] at H
                  exact absurd H (by simp)
                ·rw [if_neg c30] at H
                 exact absurd H (by simp)
               ·rw [if_neg c29] at H
                exact absurd H (by simp)
              ·rw [if_neg c28] at H
               exact absurd H (by simp)
             ·rw [if_neg c27] at H
              exact absurd H (by simp)
            ·rw [if_neg c25] at H
             exact absurd H (by simp)
           ·rw [if_neg c24] at H
            have c24b0 := decide_eq_false c24
            clear c24
            simp only [Option.some.injEq, Prod.mk.injEq] at H
            obtain ⟨rfl, rfl⟩ := H
            go_wp2
            go_ret2
            exact ⟨_, by first | rfl | (simp [errW_none, errW_some] <;> rfl) | (simp only [← hji10]; first | rfl | (simp [errW_none, errW_some] <;> rfl)) | (simp [*, errW_none, errW_some] <;> rfl), by (with_reducible repeat (first | apply Kd.R_alloc | apply Kd.R_drewN | apply Kd.R_drew)); exact Kd.R_mono HO_8.out (fun _ hk => trivial), (zs2 HB.out)⟩
     ·rw [if_neg c12] at H
      exact absurd H (by simp)
    ·rw [if_neg c11] at H
     exact absurd H (by simp)

/-! ### spec_l20Fill: function 63 -/
mutual
def spec_l20Fill.l0 : Nat → List Int → Int → Int → Int → List Int → Int → Option (Int × List Int)
 | 0, _, _, _, _, _, _ => none
 | k + 1, x1, x3, x10, x11, x1000, x1001 => if x11 < x10 then ((spec_l20Rd_pick.f k x1000 x1001 (wrap64 (x10 - x11))).bind fun bt366 => ((spec_l20Fill.f k x1000 bt366.2 x1 x11 (wrap64 (x11 + bt366.1)) x10).bind fun bt368 => (spec_l20Fill.l0 k bt368.2 x3 x10 (wrap64 ((wrap64 (x11 + bt366.1)) + 1)) x1000 bt368.1))) else (spec_l20Fill.l1 k x1 x3 x10 (wrap64 (x10 + 1)) x1000 x1001)
def spec_l20Fill.l1 : Nat → List Int → Int → Int → Int → List Int → Int → Option (Int × List Int)
 | 0, _, _, _, _, _, _ => none
 | k + 1, x1, x3, x10, x11, x1000, x1001 => if x11 ≤ x3 then ((spec_l20Rd_pick.f k x1000 x1001 (wrap64 ((wrap64 (x3 - x11)) + 1))).bind fun bt370 => ((spec_l20Fill.f k x1000 bt370.2 x1 x11 (wrap64 (x11 + bt370.1)) x10).bind fun bt372 => (spec_l20Fill.l1 k bt372.2 x3 x10 (wrap64 ((wrap64 (x11 + bt370.1)) + 1)) x1000 bt372.1))) else (some (x1001, x1))
def spec_l20Fill.f : Nat → List Int → Int → List Int → Int → Int → Int → Option (Int × List Int)
 | 0, _, _, _, _, _, _ => none
 | k + 1, s0_0, s0_1, l1, a2, a3, a4 => if a2 > a3 then (some (s0_1, l1)) else ((spec_l20Rd_pick.f k s0_0 s0_1 (wrap64 ((wrap64 (a3 - a2)) + 1))).bind fun bt363 => (if 0 ≤ (wrap64 ((wrap64 (a2 + bt363.1)) - 1)) then (if (wrap64 ((wrap64 (a2 + bt363.1)) - 1)) < (l1.length : Int) then (spec_l20Fill.l0 k (l1.set ((wrap64 ((wrap64 (a2 + bt363.1)) - 1)) : Int).toNat a4) a3 (wrap64 (a2 + bt363.1)) a2 s0_0 bt363.2) else (none)) else (none)))
end
theorem spec_l20Fill.mono_l : ∀ k, (∀ y0 y1 y2 y3 y4 y5, LeO (spec_l20Fill.f k y0 y1 y2 y3 y4 y5) (spec_l20Fill.f (k + 1) y0 y1 y2 y3 y4 y5)) ∧ (∀ y0 y1 y2 y3 y4 y5, LeO (spec_l20Fill.l0 k y0 y1 y2 y3 y4 y5) (spec_l20Fill.l0 (k + 1) y0 y1 y2 y3 y4 y5)) ∧ (∀ y0 y1 y2 y3 y4 y5, LeO (spec_l20Fill.l1 k y0 y1 y2 y3 y4 y5) (spec_l20Fill.l1 (k + 1) y0 y1 y2 y3 y4 y5))
 | 0 => ⟨fun _ _ _ _ _ _ r h => by simp [spec_l20Fill.f] at h, fun _ _ _ _ _ _ r h => by simp [spec_l20Fill.l0] at h, fun _ _ _ _ _ _ r h => by simp [spec_l20Fill.l1] at h⟩
 | k + 1 => by
  obtain ⟨ih0, ih1, ih2⟩ := spec_l20Fill.mono_l k
  refine ⟨?_, ?_, ?_⟩
  ·intro y0 y1 y2 y3 y4 y5
   unfold spec_l20Fill.f
   have := @spec_l20Rd_pick.mono; exact zmono
  ·intro y0 y1 y2 y3 y4 y5
   unfold spec_l20Fill.l0
   have := @spec_l20Rd_pick.mono; exact zmono
  ·intro y0 y1 y2 y3 y4 y5
   unfold spec_l20Fill.l1
   have := @spec_l20Rd_pick.mono; exact zmono
theorem spec_l20Fill.mono : ∀ a0 a1 a2 a3 a4 a5 k, LeO (spec_l20Fill.f k a0 a1 a2 a3 a4 a5) (spec_l20Fill.f (k + 1) a0 a1 a2 a3 a4 a5) := by
 intro a0 a1 a2 a3 a4 a5 k
 obtain ⟨ih0, ih1, ih2⟩ := spec_l20Fill.mono_l k
 exact ih0 a0 a1 a2 a3 a4 a5
set_option maxHeartbeats 8000000 in
set_option maxRecDepth 100000 in
theorem spec_l20Fill.calls (k : Nat) : ∀ (g : Nat) (s0_0 : List Int) (s0_1 : Int) (P1_ : Nat → Prop) (u9000_ : Value) (l1 : List Int) (a2 : Int) (a3 : Int) (a4 : Int) (r1 : Int) (r2 : List Int) (w0 w : World) (hI : IsS73 w0 w g s0_0 s0_1) (hB : Below w0.heap.size w0 w) (ho1 : Kd.R (Kd.int .i64) 3 w w0.heap.size P1_ u9000_ l1) (h : spec_l20Fill.f k s0_0 s0_1 l1 a2 a3 a4 = some (r1, r2)),
  Calls Tryd.prog 63 #[.pointer (some ⟨g, 0, none⟩), u9000_, .int .i64 a2, .int .i64 a3, .int .i64 a4] w fun e w' => e = .returned (.tuple #[]) ∧ IsS73 w0 w' g s0_0 r1 ∧ Kd.R (Kd.int .i64) 3 w' w0.heap.size (fun k_ => (P1_ k_ ∨ w.heap.size ≤ k_)) u9000_ r2 ∧ Below w0.heap.size w0 w' ∧ Kept w w' (fun k_ => (P1_ k_) ∨ k_ = g) := by
 induction k using Nat.strongRecOn with
 | _ k ih =>
 intro g s0_0 s0_1 P1_ u9000_ l1 a2 a3 a4 r1 r2 w0 w hI hB ho1 h
 cases k with
 | zero => exact absurd h (by simp [spec_l20Fill.f])
 | succ k =>
 simp only [spec_l20Fill.f] at h
 have HO1:=zM (show Kd.R (Kd.int .i64) 3 w w0.heap.size (fun k_ => (P1_ k_ ∨ w.heap.size ≤ k_)) u9000_ l1 from Kd.R_mono ho1 (fun k_ hk => (.inl hk)))
 have HI0:=zM hI
 have HL:=zM hB.size
 clear hI
 have HK:=zM (Kept.refl w (fun k_ => (P1_ k_) ∨ k_ = g))
 have HW0:=zM hB.size
 have HB:=zM hB
 clear hB
 have H : (if a2 > a3 then (some (s0_1, l1)) else ((spec_l20Rd_pick.f k s0_0 s0_1 (wrap64 ((wrap64 (a3 - a2)) + 1))).bind fun bt363 => (if 0 ≤ (wrap64 ((wrap64 (a2 + bt363.1)) - 1)) then (if (wrap64 ((wrap64 (a2 + bt363.1)) - 1)) < (l1.length : Int) then (spec_l20Fill.l0 k (l1.set ((wrap64 ((wrap64 (a2 + bt363.1)) - 1)) : Int).toNat a4) a3 (wrap64 (a2 + bt363.1)) a2 s0_0 bt363.2) else (none)) else (none)))) = some (r1, r2) := h
 clear h
 by_cases c6 : a2 > a3
 ·rw [if_pos c6] at H
  have c6b0 : decide (a3 < a2) = true := decide_eq_true c6
  clear c6
  simp only [Option.some.injEq, Prod.mk.injEq] at H
  obtain ⟨rfl, rfl⟩ := H
  go_enter Tryd.func63, Tryd.ntmps63
  go_wp2
  first | go_end0 | ((try simp only [Exit.inBlock, Exit.then]); refine bodyPost_ret (results_none rfl _ _ _) rfl ?_)
  exact ⟨zs3, (zs14 HI0.out), by (with_reducible repeat (first | apply Kd.R_alloc | apply Kd.R_drewN | apply Kd.R_drew)); exact HO1.out, (zs16 HB.out HI0.out), (zs26 HK.out)⟩
 ·rw [if_neg c6] at H
  have c6b0 : decide (a3 < a2) = false := decide_eq_false c6
  clear c6
  replace H := zb H; obtain ⟨⟨t363, t364⟩, A7, H⟩ := H; try dsimp only at H
  obtain ⟨ji8, hji8⟩ : ∃ j_ : Int, (wrap64 ((wrap64 (a2 + t363)) - 1)) = j_ := ⟨_, rfl⟩
  replace H : (if 0 ≤ (ji8) then (if (ji8) < (l1.length : Int) then (spec_l20Fill.l0 k (l1.set ((ji8) : Int).toNat a4) a3 (wrap64 (a2 + t363)) a2 s0_0 t364) else (none)) else (none)) = some (r1, r2) := by first | (rw [hji8] at H; exact H) | (simp only [hji8] at H ⊢; exact H)
  (try rw [hji8] at A7)
  have hji8w : (IntKind.i64.wrap ((wrap64 (a2 + t363)) - 1)) = ji8 := (i64_w _).trans hji8
  by_cases c9 : 0 ≤ (ji8)
  ·rw [if_pos c9] at H
   have c9b0 := decide_eq_true c9
   clear c9
   by_cases c10 : (ji8) < (l1.length : Int)
   ·rw [if_pos c10] at H
    have c10b0 := decide_eq_true c10
    clear c10
    obtain ⟨y365, hy365⟩ : ∃ y_ : List Int, y_ = (l1.set ((ji8) : Int).toNat a4) := ⟨_, rfl⟩
    replace H : (spec_l20Fill.l0 k y365 a3 (wrap64 (a2 + t363)) a2 s0_0 t364) = some (r1, r2) := by first | (rw [hy365]; with_reducible exact H) | (have H2_ := (Option.bind_some _ _).symm.trans H; rw [hy365]; with_reducible exact H2_) | (have H2_ := (Option.bind_some _ _).symm.trans H; with_reducible exact H2_) | with_reducible exact H | (rw [hy365]; exact H) | exact H
    have Ny365:=zM hy365
    clear hy365
    have H':=zM H
    clear H
    go_enter Tryd.func63, Tryd.ntmps63
    go_wp2_with (first | (refine zg 43 (some 23) Tryd.func43 #[.pointer (some ⟨g, 0, none⟩), .int .i64 (wrap64 ((wrap64 (a3 - a2)) + 1))] ?_; (with_reducible refine (spec_l20Rd_pick.calls k g s0_0 s0_1 (wrap64 ((wrap64 (a3 - a2)) + 1)) t363 t364 w0 _ (zs14 HI0.out) (zs16 HB.out HI0.out) A7.out).mono ?_); rintro e w12 ⟨rfl, hi, hb, hk⟩; refine ⟨_, rfl, ?_⟩; replace HO1:=zM (Kd.R_mono (Kd.R_keep (IsS73.apart (show IsS73 w0 _ g s0_0 s0_1 from (zs14 HI0.out)) (zs11 HO1.out) (by decide)) hk (fun _ h => h.2)) (fun _ h => h.1)); replace HK:=zM (Kept.of_keep (S := (fun k_ => (P1_ k_) ∨ k_ = g)) (zs26 HK.out) hk (.inl (.inr rfl))); replace HB:=zM (hb); replace HI0:=zM (hi); clear hb hk hi; have p11 : 0 ≤ ((ji8) : Int) := of_decide_eq_true zs8; have q11 : ((ji8) : Int) < ((l1.length : Int) : Int) := of_decide_eq_true zs8; obtain ⟨go11, co11, eo11, gb11, gl11, cl11, HG11⟩ := Kd.R_form HO1.out (by omega); (first | cases eo11 | (injection eo11 with ea_ en_ ec_; (first | subst ea_ | (injection ea_ with ea_; subst ea_)); subst ec_; clear en_)); have GB11:=zM gb11; have GG11:=zM HG11; clear gb11 gl11 HG11; have HMgo11:=zM (show (P1_ go11 ∨ w.heap.size ≤ go11) from (HO1.out.1 _ rfl)); obtain ⟨hx11_0, hf11_0⟩ := Kd.R_celln 0 HO1.out ((ji8) : Int) p11 q11; replace p11 := eq_true p11; replace q11 := eq_true q11; obtain ⟨hy13_, hz13_⟩ := Kd.R_celln 0 HO1.out ((ji8) : Int) (of_decide_eq_true zs8) (of_decide_eq_true zs8); have HP13 := Kd.R_putg HO1.out ((ji8) : Int) a4) | ((with_reducible refine gate_store (t := 3) (p := 29) rfl ?_); refine store_event (t := 3) (p := 29) (v := ?vo_w14) (w1 := (w12.setCell ⟨go11, ((ji8) : Int).toNat, none⟩ (.int .i64 a4))) ?hg ?ho ?hn ?hr ?_; (case ho => rfl); (case hg => rfl); (case hn => rfl); (case hr => first | (go_simp; done) | (go_simp; rfl)); intro w14 hw; have hg : w12.grownBy w14 (some go11) := (by rw [hw]; exact HP13.2); have hp_ : Kd.R (Kd.int .i64) 3 w14 w0.heap.size (fun k_ => (P1_ k_ ∨ w.heap.size ≤ k_)) (.slice (some ⟨go11, 0, none⟩) l1.length co11) y365 := (by rw [hw, Ny365.out]; exact HP13.1); clear HP13; replace HI0:=zM (IsS73.grown (zs14 HI0.out) hg (IsS73.own_ne HI0.out HO1.out (by decide))); replace HB:=zM ((by rw [hw]; exact zD (HB.out) GB11.out : Below w0.heap.size w0 w14)); replace HK:=zM (Kept.of_grown (S := (fun k_ => (P1_ k_) ∨ k_ = g)) hg (zs26 HK.out) (fun k_ e_ => Or.imp_left Or.inl ((HO1.out.1 k_ e_)))); replace HO1:=zM (hp_); clear hg hw hp_))
    go_loopg [11] k (fun kq v11 w' => ∃ (x1_1 : List Int) (x11_1 : Int) (x1001_1 : Int), v11 = .int .i64 x11_1 ∧ Aside0 (spec_l20Fill.l0 kq x1_1 a3 (wrap64 (a2 + t363)) x11_1 s0_0 x1001_1 = some (r1, r2)) ∧ Aside0 (kq ≤ k) ∧ Aside0 (Kd.R (Kd.int .i64) 3 w' w0.heap.size (fun k_ => (P1_ k_ ∨ w.heap.size ≤ k_)) (.slice (some ⟨go11, 0, none⟩) l1.length co11) x1_1) ∧ Aside0 (IsS73 w0 w' g s0_0 x1001_1) ∧ Aside0 (Kept w w' (fun k_ => (P1_ k_) ∨ k_ = g)) ∧ Aside0 (Below w0.heap.size w0 w'))
    case atStart => exact ⟨(y365), (a2), (t364), zs6, H', ⟨Nat.le_refl _⟩, ⟨by (with_reducible repeat (first | apply Kd.R_alloc | apply Kd.R_drewN | apply Kd.R_drew)); exact HO1.out⟩, ⟨(zs14 HI0.out)⟩, ⟨(zs26 HK.out)⟩, ⟨(zs16 HB.out HI0.out)⟩⟩
    case round =>
     clear H'
     try clear c1
     try clear p1
     try clear q1
     try clear hx1
     try clear p2
     try clear c4
     try clear c6
     try clear c6b0
     try clear p6
     try clear c9
     try clear c9b0
     try clear c10
     try clear c10b0
     try clear p11
     try clear q11
     try clear hx11
     try clear hf11
     try clear hx11_0
     try clear p11
     try clear q11
     obtain ⟨x1_1, x11_1, x1001_1, rfl, HA, HK1, HO_1, HI0, HK, HB⟩ := hrel
     have hl1_1 := (Kd.R_reads' HO_1.out).1
     rw [hl1_1] at HO_1
     (try simp only [hl1_1])
     cases gk with
     | zero => exact absurd HA.out (by simp [spec_l20Fill.l0])
     | succ k1 =>
      have H := HA.out
      clear HA
      simp only [spec_l20Fill.l0] at H
      by_cases c15 : x11_1 < (wrap64 (a2 + t363))
      ·rw [if_pos c15] at H
       have c15b0 := decide_eq_true c15
       clear c15
       replace H := zb H; obtain ⟨⟨t366, t367⟩, A16, H⟩ := H; try dsimp only at H
       replace H := zb H; obtain ⟨⟨t368, t369⟩, A17, H⟩ := H; try dsimp only at H
       have H':=zM H
       clear H
       go_wp2_with (first | (refine zg 43 (some 39) Tryd.func43 #[.pointer (some ⟨g, 0, none⟩), .int .i64 (wrap64 ((wrap64 (a2 + t363)) - x11_1))] ?_; (with_reducible refine (spec_l20Rd_pick.calls k1 g s0_0 x1001_1 (wrap64 ((wrap64 (a2 + t363)) - x11_1)) t366 t367 w0 _ (zs14 HI0.out) (zs16 HB.out HI0.out) A16.out).mono ?_); rintro e w18 ⟨rfl, hi, hb, hk⟩; refine ⟨_, rfl, ?_⟩; replace HO_1:=zM (Kd.R_mono (Kd.R_keep (IsS73.apart (show IsS73 w0 _ g s0_0 x1001_1 from (zs14 HI0.out)) (zs11 HO_1.out) (by decide)) hk (fun _ h => h.2)) (fun _ h => h.1)); replace HK:=zM (Kept.of_keep (S := (fun k_ => (P1_ k_) ∨ k_ = g)) (zs26 HK.out) hk (.inl (.inr rfl))); replace HB:=zM (hb); replace HI0:=zM (hi); clear hb hk hi) | (refine zg 63 (some 46) Tryd.func63 #[.pointer (some ⟨g, 0, none⟩), .slice (some ⟨go11, 0, none⟩) x1_1.length co11, .int .i64 x11_1, .int .i64 (wrap64 (x11_1 + t366)), .int .i64 (wrap64 (a2 + t363))] ?_; (with_reducible refine (ih k1 (by have := HK1.out; omega) g s0_0 t367 (fun k_ => some k_ = (.slice (some ⟨go11, 0, none⟩) x1_1.length co11 : Value).ownBlock) (.slice (some ⟨go11, 0, none⟩) x1_1.length co11) x1_1 x11_1 (wrap64 (x11_1 + t366)) (wrap64 (a2 + t363)) t368 t369 w0 _ (zs14 HI0.out) (zs16 HB.out HI0.out) (Kd.R_tight rfl HO_1.out) A17.out).mono ?_); rintro e w19 ⟨rfl, hi, hy0, hb, hkp⟩; refine ⟨_, rfl, ?_⟩; replace HI0:=zM (hi); replace HK:=zM (Kept.then_ (S := (fun k_ => (P1_ k_) ∨ k_ = g)) (zs26 HK.out) hkp (fun k_ hs_ => Or.elim hs_ (fun hs_ => (fun e_ => Or.imp_left Or.inl ((HO_1.out.1 k_ e_.symm))) hs_) (fun e_ => .inl (.inr e_)))); replace HO_1:=zM (Kd.R_reok rfl hy0 (fun k_ e_ => HO_1.out.1 k_ e_)); replace HB:=zM (hb); clear hb hkp hy0))
       (try simp only [← hl1_1])
       go_roundg k1
       case measure => have := HK1.out; omega
       case rel => exact ⟨(t369), (wrap64 ((wrap64 (x11_1 + t366)) + 1)), (t368), zs6, H', ⟨by have := HK1.out; omega⟩, ⟨by (try simp only [hl1_1]); (with_reducible repeat (first | apply Kd.R_alloc | apply Kd.R_drewN | apply Kd.R_drew)); exact HO_1.out⟩, ⟨(zs14 HI0.out)⟩, ⟨(zs26 HK.out)⟩, ⟨(zs16 HB.out HI0.out)⟩⟩
      ·rw [if_neg c15] at H
       have c15b0 := decide_eq_false c15
       clear c15
       have H':=zM H
       clear H
       go_wp2
       go_loopg [11] k1 (fun kq v11 w' => ∃ (x1_2 : List Int) (x11_2 : Int) (x1001_2 : Int), v11 = .int .i64 x11_2 ∧ Aside0 (spec_l20Fill.l1 kq x1_2 a3 (wrap64 (a2 + t363)) x11_2 s0_0 x1001_2 = some (r1, r2)) ∧ Aside0 (kq ≤ k1) ∧ Aside0 (Kd.R (Kd.int .i64) 3 w' w0.heap.size (fun k_ => (P1_ k_ ∨ w.heap.size ≤ k_)) (.slice (some ⟨go11, 0, none⟩) x1_1.length co11) x1_2) ∧ Aside0 (IsS73 w0 w' g s0_0 x1001_2) ∧ Aside0 (Kept w w' (fun k_ => (P1_ k_) ∨ k_ = g)) ∧ Aside0 (Below w0.heap.size w0 w'))
       case atStart => exact ⟨(x1_1), (wrap64 ((wrap64 (a2 + t363)) + 1)), (x1001_1), zs6, H', ⟨Nat.le_refl _⟩, ⟨by (try simp only [hl1_1]); (with_reducible repeat (first | apply Kd.R_alloc | apply Kd.R_drewN | apply Kd.R_drew)); exact HO_1.out⟩, ⟨(zs14 HI0.out)⟩, ⟨(zs26 HK.out)⟩, ⟨(zs16 HB.out HI0.out)⟩⟩
       case round =>
        clear H'
        try clear c1
        try clear p1
        try clear q1
        try clear hx1
        try clear p2
        try clear c4
        try clear c6
        try clear c6b0
        try clear p6
        try clear c9
        try clear c9b0
        try clear c10
        try clear c10b0
        try clear p11
        try clear q11
        try clear hx11
        try clear hf11
        try clear c15
        try clear c15b0
        try clear hx11_0
        try clear p1
        try clear p11
        try clear p2
        try clear p6
        try clear q1
        try clear q11
        obtain ⟨x1_2, x11_2, x1001_2, rfl, HA, HK2, HO_1, HI0, HK, HB⟩ := hrel
        have hl1_2 := (Kd.R_reads' HO_1.out).1
        rw [hl1_2] at HO_1
        (try simp only [hl1_2])
        cases gk with
        | zero => exact absurd HA.out (by simp [spec_l20Fill.l1])
        | succ k2 =>
         have H := HA.out
         clear HA
         simp only [spec_l20Fill.l1] at H
         by_cases c20 : x11_2 ≤ a3
         ·rw [if_pos c20] at H
          have c20b0 := decide_eq_true c20
          clear c20
          replace H := zb H; obtain ⟨⟨t370, t371⟩, A21, H⟩ := H; try dsimp only at H
          replace H := zb H; obtain ⟨⟨t372, t373⟩, A22, H⟩ := H; try dsimp only at H
          have H':=zM H
          clear H
          go_wp2_with (first | (refine zg 43 (some 60) Tryd.func43 #[.pointer (some ⟨g, 0, none⟩), .int .i64 (wrap64 ((wrap64 (a3 - x11_2)) + 1))] ?_; (with_reducible refine (spec_l20Rd_pick.calls k2 g s0_0 x1001_2 (wrap64 ((wrap64 (a3 - x11_2)) + 1)) t370 t371 w0 _ (zs14 HI0.out) (zs16 HB.out HI0.out) A21.out).mono ?_); rintro e w23 ⟨rfl, hi, hb, hk⟩; refine ⟨_, rfl, ?_⟩; replace HO_1:=zM (Kd.R_mono (Kd.R_keep (IsS73.apart (show IsS73 w0 _ g s0_0 x1001_2 from (zs14 HI0.out)) (zs11 HO_1.out) (by decide)) hk (fun _ h => h.2)) (fun _ h => h.1)); replace HK:=zM (Kept.of_keep (S := (fun k_ => (P1_ k_) ∨ k_ = g)) (zs26 HK.out) hk (.inl (.inr rfl))); replace HB:=zM (hb); replace HI0:=zM (hi); clear hb hk hi) | (refine zg 63 (some 67) Tryd.func63 #[.pointer (some ⟨g, 0, none⟩), .slice (some ⟨go11, 0, none⟩) x1_2.length co11, .int .i64 x11_2, .int .i64 (wrap64 (x11_2 + t370)), .int .i64 (wrap64 (a2 + t363))] ?_; (with_reducible refine (ih k2 (by have := HK1.out; have := HK2.out; omega) g s0_0 t371 (fun k_ => some k_ = (.slice (some ⟨go11, 0, none⟩) x1_2.length co11 : Value).ownBlock) (.slice (some ⟨go11, 0, none⟩) x1_2.length co11) x1_2 x11_2 (wrap64 (x11_2 + t370)) (wrap64 (a2 + t363)) t372 t373 w0 _ (zs14 HI0.out) (zs16 HB.out HI0.out) (Kd.R_tight rfl HO_1.out) A22.out).mono ?_); rintro e w24 ⟨rfl, hi, hy0, hb, hkp⟩; refine ⟨_, rfl, ?_⟩; replace HI0:=zM (hi); replace HK:=zM (Kept.then_ (S := (fun k_ => (P1_ k_) ∨ k_ = g)) (zs26 HK.out) hkp (fun k_ hs_ => Or.elim hs_ (fun hs_ => (fun e_ => Or.imp_left Or.inl ((HO_1.out.1 k_ e_.symm))) hs_) (fun e_ => .inl (.inr e_)))); replace HO_1:=zM (Kd.R_reok rfl hy0 (fun k_ e_ => HO_1.out.1 k_ e_)); replace HB:=zM (hb); clear hb hkp hy0))
          (try simp only [← hl1_2])
          go_roundg k2
          case measure => have := HK1.out; have := HK2.out; omega
          case rel => exact ⟨(t373), (wrap64 ((wrap64 (x11_2 + t370)) + 1)), (t372), zs6, H', ⟨by have := HK1.out; have := HK2.out; omega⟩, ⟨by (try simp only [hl1_1]); (try simp only [hl1_2]); (with_reducible repeat (first | apply Kd.R_alloc | apply Kd.R_drewN | apply Kd.R_drew)); exact HO_1.out⟩, ⟨(zs14 HI0.out)⟩, ⟨(zs26 HK.out)⟩, ⟨(zs16 HB.out HI0.out)⟩⟩
         ·rw [if_neg c20] at H
          have c20b0 := decide_eq_false c20
          clear c20
          simp only [Option.some.injEq, Prod.mk.injEq] at H
          obtain ⟨rfl, rfl⟩ := H
          go_wp2
          first | go_end0 | ((try simp only [Exit.inBlock, Exit.then]); refine bodyPost_ret (results_none rfl _ _ _) rfl ?_)
          exact ⟨by first | rfl | (simp [errW_none, errW_some] <;> rfl) | (simp only [← hji8]; first | rfl | (simp [errW_none, errW_some] <;> rfl)) | (simp [*, errW_none, errW_some] <;> rfl), (zs14 HI0.out), (by first | exact (zs11 HO_1.out) | (simp only [hl1_1, hl1_2]; exact (zs11 HO_1.out))), (zs16 HB.out HI0.out), (zs26 HK.out)⟩
   ·rw [if_neg c10] at H
    exact absurd H (by simp)
  ·rw [if_neg c9] at H
   exact absurd H (by simp)

/-! ### spec_l20Flat: function 54 -/
def spec_l20Flat.f (k : Nat) (s0_0 : List Int) (s0_1 : Int) (a1 : Int) : Option (List Int × Int) := (spec_l20Rd_pick.f k s0_0 s0_1 3).bind fun bt374 => (if bt374.1 = 0 then ((spec_l20Tree.f k s0_0 bt374.2 a1).bind fun bt376 => (some (bt376.1, bt376.2))) else ((spec_l20Rd_pick.f k s0_0 bt374.2 7).bind fun bt380 => (if 0 ≤ (wrap64 (1 + bt380.1)) then (if (wrap64 (1 + bt380.1) : Int).toNat ≤ 35184372088832 then ((spec_l20Fill.f k s0_0 bt380.2 (List.replicate (wrap64 (1 + bt380.1) : Int).toNat 0) 1 (wrap64 (1 + bt380.1)) 0).bind fun bt385 => (some (bt385.2, bt385.1))) else (none)) else (none))))
theorem spec_l20Flat.mono : ∀ a0 a1 a2 k, LeO (spec_l20Flat.f k a0 a1 a2) (spec_l20Flat.f (k + 1) a0 a1 a2) := by
 intro a0 a1 a2 k
 unfold spec_l20Flat.f
 have := @spec_l20Fill.mono; have := @spec_l20Rd_pick.mono; have := @spec_l20Tree.mono; exact zmono
set_option maxHeartbeats 8000000 in
set_option maxRecDepth 100000 in
theorem spec_l20Flat.calls (k : Nat) (g : Nat) (s0_0 : List Int) (s0_1 : Int) (a1 : Int) (r1 : List Int) (r2 : Int) (w0 w : World) (hI : IsS73 w0 w g s0_0 s0_1) (hB : Below w0.heap.size w0 w) (h : spec_l20Flat.f k s0_0 s0_1 a1 = some (r1, r2)) :
  Calls Tryd.prog 54 #[.pointer (some ⟨g, 0, none⟩), .int .i64 a1] w fun e w' => ∃ v0_ : Value, e = .returned (v0_) ∧ Kd.R (Kd.int .i64) 3 w' w.heap.size (fun _ => True) v0_ r1 ∧ IsS73 w0 w' g s0_0 r2 ∧ Below w0.heap.size w0 w' ∧ KeepBut w w' g none := by
 have HI0:=zM hI
 have HK:=zM (KeepBut.refl w g none)
 have HL:=zM hB.size
 clear hI
 have HW0:=zM hB.size
 have HB:=zM hB
 clear hB
 have H : ((spec_l20Rd_pick.f k s0_0 s0_1 3).bind fun bt374 => (if bt374.1 = 0 then ((spec_l20Tree.f k s0_0 bt374.2 a1).bind fun bt376 => (some (bt376.1, bt376.2))) else ((spec_l20Rd_pick.f k s0_0 bt374.2 7).bind fun bt380 => (if 0 ≤ (wrap64 (1 + bt380.1)) then (if (wrap64 (1 + bt380.1) : Int).toNat ≤ 35184372088832 then ((spec_l20Fill.f k s0_0 bt380.2 (List.replicate (wrap64 (1 + bt380.1) : Int).toNat 0) 1 (wrap64 (1 + bt380.1)) 0).bind fun bt385 => (some (bt385.2, bt385.1))) else (none)) else (none))))) = some (r1, r2) := h
 clear h
 replace H := zb H; obtain ⟨⟨t374, t375⟩, A3, H⟩ := H; try dsimp only at H
 by_cases c4 : t374 = 0
 ·rw [if_pos c4] at H
  have c4b0 := beq_iff_eq.mpr c4
  have c4b1 := bne_eq_false_iff_eq.mpr c4
  clear c4
  replace H := zb H; obtain ⟨⟨t376, t379⟩, A5, H⟩ := H; try dsimp only at H
  simp only [Option.some.injEq, Prod.mk.injEq] at H
  obtain ⟨rfl, rfl⟩ := H
  go_enter Tryd.func54, Tryd.ntmps54
  go_wp2_with (first | (refine zg 43 (some 8) Tryd.func43 #[.pointer (some ⟨g, 0, none⟩), .int .i64 3] ?_; (with_reducible refine (spec_l20Rd_pick.calls k g s0_0 s0_1 3 t374 t375 w0 _ (zs14 HI0.out) (zs16 HB.out HI0.out) A3.out).mono ?_); rintro e w6 ⟨rfl, hi, hb, hk⟩; refine ⟨_, rfl, ?_⟩; replace HK:=zM (KeepBut.trans (zs15 HK.out) hk (.inl rfl)); replace HB:=zM (hb); replace HI0:=zM (hi); clear hb hk hi) | (refine zg 50 (some 12) Tryd.func50 #[.pointer (some ⟨g, 0, none⟩), .int .i64 a1] ?_; (with_reducible refine (spec_l20Tree.calls k g s0_0 t375 a1 t376 t379 w0 _ (zs14 HI0.out) (zs16 HB.out HI0.out) A5.out).mono ?_); rintro e w7 ⟨v377, rfl, ho0, hi, hb, hk⟩; refine ⟨_, rfl, ?_⟩; have HO378:=zM (Kd.R_lower ho0 (keep_size (w := w) (g := g) (row := none) (zs15 HK.out))); replace HK:=zM (KeepBut.trans (zs15 HK.out) hk (.inl rfl)); replace HB:=zM (hb); replace HI0:=zM (hi); clear hb hk hi ho0))
  go_ret
  exact ⟨_, zs3, by (with_reducible repeat (first | apply Kd.R_alloc | apply Kd.R_drewN | apply Kd.R_drew)); exact HO378.out, (zs14 HI0.out), (zs16 HB.out HI0.out), (zs15 HK.out)⟩
 ·rw [if_neg c4] at H
  have c4b0 := beq_eq_false_iff_ne.mpr c4
  have c4b1 := bne_iff_ne.mpr c4
  replace H := zb H; obtain ⟨⟨t380, t381⟩, A8, H⟩ := H; try dsimp only at H
  obtain ⟨ji9, hji9⟩ : ∃ j_ : Int, (wrap64 (1 + t380)) = j_ := ⟨_, rfl⟩
  replace H : (if 0 ≤ (ji9) then (if (ji9 : Int).toNat ≤ 35184372088832 then ((spec_l20Fill.f k s0_0 t381 (List.replicate (ji9 : Int).toNat 0) 1 (ji9) 0).bind fun bt385 => (some (bt385.2, bt385.1))) else (none)) else (none)) = some (r1, r2) := by first | (rw [hji9] at H; exact H) | (simp only [hji9] at H ⊢; exact H)
  (try rw [hji9] at A3)
  (try rw [hji9] at A8)
  have hji9w : (IntKind.i64.wrap (1 + t380)) = ji9 := (i64_w _).trans hji9
  by_cases c10 : 0 ≤ (ji9)
  ·rw [if_pos c10] at H
   have c10b0 := eq_true c10
   have c10b1 := decide_eq_true c10
   clear c10
   by_cases c11 : (ji9 : Int).toNat ≤ 35184372088832
   ·rw [if_pos c11] at H
    have c11b0 := eq_true c11
    have c11b1 := decide_eq_true c11
    clear c11
    obtain ⟨y382, hy382⟩ : ∃ y_ : List Int, y_ = (List.replicate (ji9 : Int).toNat 0) := ⟨_, rfl⟩
    replace H : ((spec_l20Fill.f k s0_0 t381 y382 1 (ji9) 0).bind fun bt385 => (some (bt385.2, bt385.1))) = some (r1, r2) := by first | (rw [hy382]; with_reducible exact H) | (have H2_ := (Option.bind_some _ _).symm.trans H; rw [hy382]; with_reducible exact H2_) | (have H2_ := (Option.bind_some _ _).symm.trans H; with_reducible exact H2_) | with_reducible exact H | (rw [hy382]; exact H) | exact H
    have Ny382:=zM hy382
    clear hy382
    replace H := zb H; obtain ⟨⟨t385, t386⟩, A12, H⟩ := H; try dsimp only at H
    simp only [Option.some.injEq, Prod.mk.injEq] at H
    obtain ⟨rfl, rfl⟩ := H
    go_enter Tryd.func54, Tryd.ntmps54
    go_wp2_with (first | (refine zg 43 (some 8) Tryd.func43 #[.pointer (some ⟨g, 0, none⟩), .int .i64 3] ?_; (with_reducible refine (spec_l20Rd_pick.calls k g s0_0 s0_1 3 t374 t375 w0 _ (zs14 HI0.out) (zs16 HB.out HI0.out) A3.out).mono ?_); rintro e w13 ⟨rfl, hi, hb, hk⟩; refine ⟨_, rfl, ?_⟩; replace HK:=zM (KeepBut.trans (zs15 HK.out) hk (.inl rfl)); replace HB:=zM (hb); replace HI0:=zM (hi); clear hb hk hi) | (refine zg 43 (some 14) Tryd.func43 #[.pointer (some ⟨g, 0, none⟩), .int .i64 7] ?_; (with_reducible refine (spec_l20Rd_pick.calls k g s0_0 t375 7 t380 t381 w0 _ (zs14 HI0.out) (zs16 HB.out HI0.out) A8.out).mono ?_); rintro e w14 ⟨rfl, hi, hb, hk⟩; refine ⟨_, rfl, ?_⟩; replace HK:=zM (KeepBut.trans (zs15 HK.out) hk (.inl rfl)); replace HB:=zM (hb); replace HI0:=zM (hi); clear hb hk hi) | ((with_reducible refine gate_dst (N := 17) rfl ?_); refine Kd.R_make (Kd.int .i64) _ 3 rfl (N := 17) rfl 54 _ _ rfl ji9 rfl rfl Tryd.underlying54 (.int .i64 0) 8 info3 rfl (by decide) (by omega) 0 (ok := fun _ => True) (okp := fun _ => True) rfl (fun _ hk => hk) trivial (of_decide_eq_true zs8) (Nat.le_trans (Nat.mul_le_mul_right _ (of_decide_eq_true zs8 : ji9.toNat ≤ 35184372088832)) (by omega)) (Below.refl _ _) (Nat.le_refl _) ?_; intro v383 w15 ho16 hb hg_ hnew_; clear hg_ hnew_; (first | rw [← Ny382.out] at ho16 | (simp only [Int.reduceToNat] at ho16; rw [← Ny382.out] at ho16)); have HO384:=zM (Kd.R_lower ho16 (keep_size (w := w) (g := g) (row := none) (zs15 HK.out))); replace HK:=zM (KeepBut.trans (zs15 HK.out) (KeepBut.of_below hb g none) (.inl rfl)); replace HB:=zM (below_step (zs16 HB.out HI0.out) hb); replace HI0:=zM (IsS73.below (zs14 HI0.out) hb); clear hb ho16; obtain ⟨Ao17, co17, eo17⟩ := Kd.R_slice HO384.out; subst eo17) | (refine zg 63 (some 21) Tryd.func63 #[.pointer (some ⟨g, 0, none⟩), .slice Ao17 y382.length co17, .int .i64 1, .int .i64 ji9, .int .i64 0] ?_ (hargs := by (try simp only [List.map_toArray, List.map_cons, List.map_nil]); first | done | (simp only [hji9]; rfl) | rfl); (with_reducible refine (spec_l20Fill.calls k g s0_0 t381 (fun k_ => some k_ = (.slice Ao17 y382.length co17 : Value).ownBlock) (.slice Ao17 y382.length co17) y382 1 ji9 0 t385 t386 w0 _ (zs14 HI0.out) (zs16 HB.out HI0.out) (Kd.R_lower (Kd.R_tight rfl HO384.out) HL.out) A12.out).mono ?_); rintro e w18 ⟨rfl, hi, hy0, hb, hkp⟩; refine ⟨_, rfl, ?_⟩; have n0_:=zM (hi); have n1_:=zM (Kd.R_reok rfl (Kd.R_raise (d := (Kd.int .i64)) (b := w0.heap.size) (b' := w.heap.size) (fun _ _ _ _ h_ => h_) hy0 (fun k_ e_ => Or.elim (hy0.1 k_ e_) (fun hs_ => (fun e_ => Kd.R_base HO384.out k_ e_.symm) hs_) (fun hn_ => Nat.le_trans (keep_size (w := w) (g := g) (row := none) (zs15 HK.out)) hn_))) (fun k_ e_ => HO384.out.1 k_ e_)); have n2_:=zM (Kept.keepG (zs15 HK.out) hkp (fun k_ hs_ => Or.elim hs_ (fun hs_ => (fun e_ => .inr (Kd.R_base HO384.out k_ e_.symm)) hs_) (fun e_ => .inl e_))); have n3_:=zM (hb); clear HI0; clear HO384; clear HK; clear HB; have HI0 := n0_; have HO384 := n1_; have HK := n2_; have HB := n3_; clear n0_ n1_ n2_ n3_; clear hb hkp hy0))
    go_ret
    exact ⟨_, by first | rfl | (simp [errW_none, errW_some] <;> rfl) | (simp only [← hji9]; first | rfl | (simp [errW_none, errW_some] <;> rfl)) | (simp [*, errW_none, errW_some] <;> rfl), by (with_reducible repeat (first | apply Kd.R_alloc | apply Kd.R_drewN | apply Kd.R_drew)); exact HO384.out, (zs14 HI0.out), (zs16 HB.out HI0.out), (zs15 HK.out)⟩
   ·rw [if_neg c11] at H
    exact absurd H (by simp)
  ·rw [if_neg c10] at H
   exact absurd H (by simp)

end Go.Proofs.YtopfhdhdpnenpaaDoor.LG
