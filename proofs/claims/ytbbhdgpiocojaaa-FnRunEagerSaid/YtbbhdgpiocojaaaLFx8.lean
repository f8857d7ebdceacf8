/- Printed by a program of this session (wip/lp/lp.py) out of the translation: functions with the same answers as the Go code, and their contracts; no conditions beyond those that each theorem names. -/
import Derived.Test.YtbbhdgpiocojaaaLFx0
import Derived.Test.YtbbhdgpiocojaaaLFx6
import Derived.Test.YtbbhdgpiocojaaaLFx7
namespace Go.Proofs.Ytbbhdgpiocojaaa.LF
open Go.RowKit Go.Proofs.YtbbhdgpiocojaaaV.PrintWords Go.Proofs.YtbbhdgpiocojaaaV.PrintLast Go.Proofs.YtbbhdgpiocojaaaV.PrintMore
attribute [local go_sem] max2_int min2_int max_two min_two max_three min_three max_four min_four   -- for this text's walks alone
set_option linter.unusedVariables false
set_option linter.unusedSimpArgs false

/-! ### spec_FlatOk: function 120 -/
mutual
def spec_FlatOk.l0 : Nat → List Int → Int → Option (Bool)
  | 0, _, _ => none
  | k + 1, x0, x3 => if x3 ≤ (x0.length : Int) then ((spec_TreeOk.f k x0).bind fun t277 => (spec_FlatOk.j1 k x0 x3 t277)) else (spec_FlatOk.j1 k x0 x3 false)
def spec_FlatOk.j1 : Nat → List Int → Int → Bool → Option (Bool)
  | 0, _, _, _ => none
  | k + 1, x0, x3, x11 => if x11 = true then ((spec_l2Yield.f k x0 x3).bind fun t279 => ((spec_l3Row.f k t279).bind fun t280 => (if t280 = true then (spec_FlatOk.l0 k x0 (wrap64 (x3 + 1))) else (some false)))) else ((spec_TreeOk.f k x0).bind fun t278 => (some t278))
end
def spec_FlatOk.f (k : Nat) (l0 : List Int) : Option (Bool) := spec_FlatOk.l0 k l0 1
theorem spec_FlatOk.mono_l : ∀ k, (∀ y0 y1, LeO (spec_FlatOk.l0 k y0 y1) (spec_FlatOk.l0 (k + 1) y0 y1)) ∧ (∀ y0 y1 y2, LeO (spec_FlatOk.j1 k y0 y1 y2) (spec_FlatOk.j1 (k + 1) y0 y1 y2))
  | 0 => ⟨fun _ _ r h => by simp [spec_FlatOk.l0] at h, fun _ _ _ r h => by simp [spec_FlatOk.j1] at h⟩
  | k + 1 => by
    obtain ⟨ih0, ih1⟩ := spec_FlatOk.mono_l k
    refine ⟨?_, ?_⟩
    · intro y0 y1
      unfold spec_FlatOk.l0
      repeat' first
      | (with_reducible exact ih0 _ _)
      | (with_reducible exact ih1 _ _ _)
      | (with_reducible exact spec_TreeOk.mono _ _)
      | (with_reducible exact spec_l2Yield.mono _ _ _)
      | (with_reducible exact spec_l3Row.mono _ _)
      | (with_reducible exact LeO.refl _)
      | (with_reducible exact LeO.none _)
      | (with_reducible refine LeO.ite ?_ ?_)
      | (with_reducible refine LeO.bind ?_ (fun _ => ?_))
      | exact ih0 _ _
      | exact ih1 _ _ _
      | exact spec_TreeOk.mono _ _
      | exact spec_l2Yield.mono _ _ _
      | exact spec_l3Row.mono _ _
      | exact LeO.none _
      | refine LeO.ite ?_ ?_
      | refine LeO.bind ?_ (fun _ => ?_)
    · intro y0 y1 y2
      unfold spec_FlatOk.j1
      repeat' first
      | (with_reducible exact ih0 _ _)
      | (with_reducible exact ih1 _ _ _)
      | (with_reducible exact spec_TreeOk.mono _ _)
      | (with_reducible exact spec_l2Yield.mono _ _ _)
      | (with_reducible exact spec_l3Row.mono _ _)
      | (with_reducible exact LeO.refl _)
      | (with_reducible exact LeO.none _)
      | (with_reducible refine LeO.ite ?_ ?_)
      | (with_reducible refine LeO.bind ?_ (fun _ => ?_))
      | exact ih0 _ _
      | exact ih1 _ _ _
      | exact spec_TreeOk.mono _ _
      | exact spec_l2Yield.mono _ _ _
      | exact spec_l3Row.mono _ _
      | exact LeO.none _
      | refine LeO.ite ?_ ?_
      | refine LeO.bind ?_ (fun _ => ?_)
theorem spec_FlatOk.mono : ∀ a0 k, LeO (spec_FlatOk.f k a0) (spec_FlatOk.f (k + 1) a0) := by
  intro a0 k
  obtain ⟨ih0, ih1⟩ := spec_FlatOk.mono_l k
  unfold spec_FlatOk.f
  repeat' first
      | (with_reducible exact ih0 _ _)
      | (with_reducible exact ih1 _ _ _)
      | (with_reducible exact spec_TreeOk.mono _ _)
      | (with_reducible exact spec_l2Yield.mono _ _ _)
      | (with_reducible exact spec_l3Row.mono _ _)
      | (with_reducible exact LeO.refl _)
      | (with_reducible exact LeO.none _)
      | (with_reducible refine LeO.ite ?_ ?_)
      | (with_reducible refine LeO.bind ?_ (fun _ => ?_))
      | exact ih0 _ _
      | exact ih1 _ _ _
      | exact spec_TreeOk.mono _ _
      | exact spec_l2Yield.mono _ _ _
      | exact spec_l3Row.mono _ _
      | exact LeO.none _
      | refine LeO.ite ?_ ?_
      | refine LeO.bind ?_ (fun _ => ?_)
set_option maxHeartbeats 8000000 in
set_option maxRecDepth 100000 in
theorem spec_FlatOk.calls (k : Nat) (A0 : Option Addr) (c0 : Nat) (l0 : List Int) (r : Bool) (w : World) (hr0 : Kd.C (Kd.int .i64) w A0 l0.length l0) (hc0 : l0.length ≤ c0) (h : spec_FlatOk.f k l0 = some r) :
    Calls Try.prog 120 #[.slice A0 l0.length c0] w fun e w' => e = .returned (.bool r) ∧ Drawn0 w w' := by
  have HR0 := Aside0.mk hr0
  have HC0 := Aside0.mk hc0
  clear hr0 hc0
  have H : (spec_FlatOk.l0 k l0 1) = some r := h
  clear h
  have H' := Aside0.mk H
  clear H
  go_enter Try.func120, Try.ntmps120
  go_wp2
  go_loopg [3] k (fun kq v3 w' => ∃ (x3_1 : Int), v3 = .int .i64 x3_1 ∧ Aside0 (spec_FlatOk.l0 kq l0 x3_1 = some r) ∧ Aside0 (kq ≤ k) ∧ Drawn0 w w')
  case atStart => exact ⟨(1), (by first | rfl | (simp; done) | (simp [*]; done)), H', ⟨Nat.le_refl _⟩, by repeat (first | exact Drawn0.refl _ | apply Drawn0.step)⟩
  case round =>
    clear H'
    try clear c1
    obtain ⟨x3_1, rfl, HA, HK1, ⟨m1, rfl⟩⟩ := hrel
    cases gk with
    | zero => exact absurd HA.out (by simp [spec_FlatOk.l0])
    | succ k1 =>
      have H := HA.out
      clear HA
      simp only [spec_FlatOk.l0] at H
      have HC2 := Aside0.mk H
      clear H
      go_upto_region 2 with (fail)
      go_cut [11] (fun v11 wc => ∃ (kq : Nat) (x11_1 : Bool), v11 = .bool x11_1 ∧ Aside0 (spec_FlatOk.j1 kq l0 x3_1 x11_1 = some r) ∧ Aside0 (kq ≤ k1) ∧ Drawn0 w wc)
      case first =>
        have H := HC2.out
        clear HC2
        by_cases c3 : x3_1 ≤ (l0.length : Int)
        · rw [if_pos c3] at H
          have c3b0 : decide (x3_1 ≤ (l0.length : Int)) = true := decide_eq_true c3
          clear c3
          (first | rw [c3b0] | (simp only [i64_w, i32_w]; rw [c3b0]) | skip)
          replace H := Option.bind_eq_some_iff.mp H
          obtain ⟨t277, A40, H⟩ := H
          replace H : (spec_FlatOk.j1 k1 l0 x3_1 t277) = some r := H
          have A4 := Aside0.mk A40
          clear A40
          have H' := Aside0.mk H
          clear H
          go_wp2_with (first | (go_at_call 56; (with_reducible refine (spec_TreeOk.calls k1 _ _ l0 t277 _ ?side1 ?side2 A4.out).mono ?_); (case side1 => repeat (first | exact HR0.out | (with_reducible refine Kd.C_alloc ?_ _) | (with_reducible refine Kd.C_drewN ?_ _) | (with_reducible refine Kd.C_drew ?_))); (case side2 => exact HC0.out); rintro e w' ⟨rfl, ⟨nd, rfl⟩⟩))
          go_meet
          case rel => exact ⟨_, (t277), (by first | rfl | (simp; done) | (simp [*]; done)), H', ⟨by have := HK1.out; first | omega | exact Nat.le_refl _⟩, by repeat (first | exact Drawn0.refl _ | apply Drawn0.step)⟩
        · rw [if_neg c3] at H
          have c3b0 : decide (x3_1 ≤ (l0.length : Int)) = false := decide_eq_false c3
          clear c3
          (first | rw [c3b0] | (simp only [i64_w, i32_w]; rw [c3b0]) | skip)
          have H' := Aside0.mk H
          clear H
          go_wp2
          go_meet
          case rel => exact ⟨_, (false), (by first | rfl | (simp; done) | (simp [*]; done)), H', ⟨by have := HK1.out; first | omega | exact Nat.le_refl _⟩, by repeat (first | exact Drawn0.refl _ | apply Drawn0.step)⟩
      case rest =>
        clear HC2
        try clear c1
        try clear p2
        try clear c3
        try clear c3b0
        obtain ⟨kq, x11_1, rfl, HA, HJ1, ⟨mc1, rfl⟩⟩ := hcut
        cases kq with
        | zero => exact absurd HA.out (by simp [spec_FlatOk.j1])
        | succ kj1 =>
          have H := HA.out
          clear HA
          simp only [spec_FlatOk.j1] at H
          by_cases c5 : x11_1 = true
          · subst c5
            have H1 : ((spec_l2Yield.f kj1 l0 x3_1).bind fun t279 => ((spec_l3Row.f kj1 t279).bind fun t280 => (if t280 = true then (spec_FlatOk.l0 kj1 l0 (wrap64 (x3_1 + 1))) else (some false)))) = some r := by rw [if_pos rfl] at H; exact H
            clear H
            have H := H1
            clear H1
            replace H := Option.bind_eq_some_iff.mp H
            obtain ⟨t279, A60, H⟩ := H
            replace H : ((spec_l3Row.f kj1 t279).bind fun t280 => (if t280 = true then (spec_FlatOk.l0 kj1 l0 (wrap64 (x3_1 + 1))) else (some false))) = some r := H
            have A6 := Aside0.mk A60
            clear A60
            replace H := Option.bind_eq_some_iff.mp H
            obtain ⟨t280, A70, H⟩ := H
            replace H : (if t280 = true then (spec_FlatOk.l0 kj1 l0 (wrap64 (x3_1 + 1))) else (some false)) = some r := H
            have A7 := Aside0.mk A70
            clear A70
            by_cases c8 : t280 = true
            · subst c8
              have H1 : (spec_FlatOk.l0 kj1 l0 (wrap64 (x3_1 + 1))) = some r := by rw [if_pos rfl] at H; exact H
              clear H
              have H := H1
              clear H1
              have H' := Aside0.mk H
              clear H
              go_wp2_with (first | ((with_reducible refine gate_callee (f := 124) rfl ?_); refine goesL_ (some 16) rfl rfl Try.func124 (by kernel_rfl) rfl #[.slice A0 l0.length c0, .int .i64 x3_1] rfl (by (try simp only [List.map_toArray, List.map_cons, List.map_nil]); first | done | rfl | (simp only [List.length_drop, List.length_take]; rfl)) ?_; (with_reducible refine (spec_l2Yield.calls kj1 _ _ l0 x3_1 t279 _ ?side1 ?side2 A6.out).mono ?_); (case side1 => repeat (first | exact HR0.out | (with_reducible refine Kd.C_alloc ?_ _) | (with_reducible refine Kd.C_drewN ?_ _) | (with_reducible refine Kd.C_drew ?_))); (case side2 => exact HC0.out); rintro e w' ⟨rfl, ⟨nd, rfl⟩⟩; refine ⟨_, rfl, ?_⟩) | ((with_reducible refine gate_callee (f := 132) rfl ?_); refine goesL_ (some 17) rfl rfl Try.func132 (by kernel_rfl) rfl #[.int .i64 t279] rfl (by (try simp only [List.map_toArray, List.map_cons, List.map_nil]); first | done | rfl | (simp only [List.length_drop, List.length_take]; rfl)) ?_; (with_reducible refine (spec_l3Row.calls kj1 t279 true _ A7.out).mono ?_); rintro e w' ⟨rfl, ⟨nd, rfl⟩⟩; refine ⟨_, rfl, ?_⟩))
              go_roundg kj1
              case measure => have := HK1.out; have := HJ1.out; omega
              case rel => exact ⟨(wrap64 (x3_1 + 1)), (by first | rfl | (simp; done) | (simp [*]; done)), H', ⟨by have := HK1.out; have := HJ1.out; omega⟩, by repeat (first | exact Drawn0.refl _ | apply Drawn0.step)⟩
            · replace c8 := Bool.eq_false_iff.mpr c8
              subst c8
              have H1 : (some false) = some r := by rw [if_neg (show ¬ (false = true) by decide)] at H; exact H
              clear H
              have H := H1
              clear H1
              obtain rfl := Option.some.inj H
              go_wp2_with (first | ((with_reducible refine gate_callee (f := 124) rfl ?_); refine goesL_ (some 16) rfl rfl Try.func124 (by kernel_rfl) rfl #[.slice A0 l0.length c0, .int .i64 x3_1] rfl (by (try simp only [List.map_toArray, List.map_cons, List.map_nil]); first | done | rfl | (simp only [List.length_drop, List.length_take]; rfl)) ?_; (with_reducible refine (spec_l2Yield.calls kj1 _ _ l0 x3_1 t279 _ ?side1 ?side2 A6.out).mono ?_); (case side1 => repeat (first | exact HR0.out | (with_reducible refine Kd.C_alloc ?_ _) | (with_reducible refine Kd.C_drewN ?_ _) | (with_reducible refine Kd.C_drew ?_))); (case side2 => exact HC0.out); rintro e w' ⟨rfl, ⟨nd, rfl⟩⟩; refine ⟨_, rfl, ?_⟩) | ((with_reducible refine gate_callee (f := 132) rfl ?_); refine goesL_ (some 17) rfl rfl Try.func132 (by kernel_rfl) rfl #[.int .i64 t279] rfl (by (try simp only [List.map_toArray, List.map_cons, List.map_nil]); first | done | rfl | (simp only [List.length_drop, List.length_take]; rfl)) ?_; (with_reducible refine (spec_l3Row.calls kj1 t279 false _ A7.out).mono ?_); rintro e w' ⟨rfl, ⟨nd, rfl⟩⟩; refine ⟨_, rfl, ?_⟩))
              go_ret
              exact ⟨by first | rfl | (simp; done) | (simp [*]; done), by repeat (first | exact Drawn0.refl _ | apply Drawn0.step)⟩
          · replace c5 := Bool.eq_false_iff.mpr c5
            subst c5
            have H1 : ((spec_TreeOk.f kj1 l0).bind fun t278 => (some t278)) = some r := by rw [if_neg (show ¬ (false = true) by decide)] at H; exact H
            clear H
            have H := H1
            clear H1
            replace H := Option.bind_eq_some_iff.mp H
            obtain ⟨t278, A90, H⟩ := H
            replace H : (some t278) = some r := H
            have A9 := Aside0.mk A90
            clear A90
            obtain rfl := Option.some.inj H
            go_wp2_with (first | ((with_reducible refine gate_callee (f := 56) rfl ?_); refine goesL_ (some 20) rfl rfl Try.func56 (by kernel_rfl) rfl #[.slice A0 l0.length c0] rfl (by (try simp only [List.map_toArray, List.map_cons, List.map_nil]); first | done | rfl | (simp only [List.length_drop, List.length_take]; rfl)) ?_; (with_reducible refine (spec_TreeOk.calls kj1 _ _ l0 t278 _ ?side1 ?side2 A9.out).mono ?_); (case side1 => repeat (first | exact HR0.out | (with_reducible refine Kd.C_alloc ?_ _) | (with_reducible refine Kd.C_drewN ?_ _) | (with_reducible refine Kd.C_drew ?_))); (case side2 => exact HC0.out); rintro e w' ⟨rfl, ⟨nd, rfl⟩⟩; refine ⟨_, rfl, ?_⟩))
            go_ret
            exact ⟨by first | rfl | (simp; done) | (simp [*]; done), by repeat (first | exact Drawn0.refl _ | apply Drawn0.step)⟩

/-! ### spec_l7Rule: function 121, told by hand -/
section
set_option maxHeartbeats 8000000
set_option maxRecDepth 100000
def ss_snext (l : List Int) (nxt x : Int) : Bool := rd l (nxt - 1) == x || rd l (x - 1) == nxt
/-- the move that the reference's rule tells -/
def ss_srule (l ws : List Int) (nt : Int) : Int :=
  if ws = [] then 83
  else if rd l (ws.getLastD 0 - 1) = nt then 76
  else if rd l (nt - 1) = ws.getLastD 0 then 82
  else if ws.dropLast.any (ss_snext l nt) = true then 68 else 83
theorem ss_srule_one (l xs : List Int) (u nt : Int) : ss_srule l (xs ++ [u]) nt = if rd l (u - 1) = nt then 76 else if rd l (nt - 1) = u then 82 else if xs.any (ss_snext l nt) = true then 68 else 83 := by
  unfold ss_srule
  rw [if_neg (by simp)]
  simp
theorem ss_rule_none (w : World) (A : Option Addr) (c : Nat) (l : List Int) (gs cs : Nat) (nt : Int) : Calls Try.prog 121 #[.slice A l.length c, .slice (some ⟨gs, 0, none⟩) 0 cs, .int .i64 nt] w fun e w' => e = .returned (.string (ss_byteS 83)) ∧ w' = w := by
  go_enter Try.func121, Try.ntmps121
  go_wp2
  go_ret
  exact ⟨rfl, rfl⟩
theorem ss_rule_any (w : World) (B : Nat) (A : Option Addr) (c : Nat) (l : List Int) (gs cs : Nat) (xs : List Int) (u nt : Int) (hr : Kd.C (Kd.int .i64) w A l.length l) (hw : ss_Rw w B gs cs (xs ++ [u])) (hm : ∀ x ∈ xs ++ [u], 1 ≤ x ∧ x ≤ l.length) (h1 : 1 ≤ nt ∧ nt ≤ l.length) (h3 : l.length ≤ 100) (h4 : xs.length ≤ 100) :
    Calls Try.prog 121 #[.slice A l.length c, .slice (some ⟨gs, 0, none⟩) (xs ++ [u]).length cs, .int .i64 nt] w fun e w' => e = .returned (.string (ss_byteS (ss_srule l (xs ++ [u]) nt))) ∧ Drawn0 w w' := by
  obtain ⟨n1, n2⟩ := h1
  obtain ⟨u1, u2⟩ := hm u (by simp)
  have HMX : Aside0 (∀ x ∈ xs, 1 ≤ x ∧ x ≤ (l.length : Int)) := ⟨fun x hx => hm x (by simp [hx])⟩
  have HRT := Aside0.mk (ss_srule_one l xs u nt)
  generalize ss_srule l (xs ++ [u]) nt = R at *
  have hl : (xs ++ [u]).length = xs.length + 1 := by simp
  have k1 : w.cell? ⟨gs, xs.length, none⟩ = some (.int .i64 u) := by
    have := hw.cell xs.length (by simp)
    simpa [rd, List.getD_eq_getElem?_getD] using this
  rw [hl]
  obtain ⟨ad, e2, hx0⟩ := Kd.at_int hr (u - 1) (by omega) (by omega)
  cases e2
  obtain ⟨ad', e2, hx1⟩ := Kd.at_int hr (nt - 1) (by omega) (by omega)
  cases e2
  have hy0 : w.cell? (ad.add (u.toNat - 1)) = some (.int .i64 (rd l (u - 1))) := by simpa using hx0
  have hy1 : w.cell? (ad.add (nt.toNat - 1)) = some (.int .i64 (rd l (nt - 1))) := by simpa using hx1
  have HW := Aside0.mk hw
  have HR := Aside0.mk hr
  have p1 : (0 : Int) ≤ (xs.length : Int) := Int.natCast_nonneg _
  clear hr hw hm hx0 hx1 hl
  by_cases c2 : rd l (u - 1) = nt
  · have c2b := beq_iff_eq.mpr c2
    have HF := Aside0.mk (HRT.out.trans (if_pos c2))
    clear c2
    go_enter Try.func121, Try.ntmps121
    go_wp2
    go_ret
    exact ⟨by rw [HF.out]; rfl, Drawn0.refl _⟩
  · have c2b := beq_eq_false_iff_ne.mpr c2
    by_cases c3 : rd l (nt - 1) = u
    · have c3b := beq_iff_eq.mpr c3
      have HF := Aside0.mk (HRT.out.trans ((if_neg c2).trans (if_pos c3)))
      clear c2 c3
      go_enter Try.func121, Try.ntmps121
      go_wp2
      go_ret
      exact ⟨by rw [HF.out]; rfl, Drawn0.refl _⟩
    · have c3b := beq_eq_false_iff_ne.mpr c3
      have HF := Aside0.mk (HRT.out.trans ((if_neg c2).trans (if_neg c3)))
      clear c2 c3
      have HF0 : Aside0 (R = if (xs.drop 0).any (ss_snext l nt) = true then 68 else 83) := HF
      go_enter Try.func121, Try.ntmps121
      go_wp2
      go_loopg [9] xs.length (fun kq v9 w' => ∃ i : Nat, v9 = .int .i64 (i : Int) ∧ Aside0 (i + kq = xs.length) ∧ Aside0 (R = if (xs.drop i).any (ss_snext l nt) = true then 68 else 83) ∧ Drawn0 w w')
      case atStart => exact ⟨0, rfl, ⟨by omega⟩, HF0, Drawn0.refl _⟩
      case round =>
        obtain ⟨i, rfl, HI, HA, ⟨nd, rfl⟩⟩ := hrel
        have ik := HI.out
        cases gk with
        | zero =>
          have q1 : ¬ ((i : Int) < (xs.length : Int)) := by omega
          have HG : Aside0 (R = 83) := ⟨by rw [HA.out, List.drop_eq_nil_of_le (by omega)]; rfl⟩
          clear ik
          go_wp2
          go_ret
          exact ⟨by rw [HG.out]; rfl, by repeat (first | exact Drawn0.refl _ | apply Drawn0.step)⟩
        | succ k1 =>
          have q0 : i < xs.length := by omega
          have q1 : (i : Int) < (xs.length : Int) := by omega
          have q2 : (0 : Int) ≤ (i : Int) := Int.natCast_nonneg _
          have q3 : (i : Int) < (xs.length : Int) + 1 := by omega
          have hrd : rd xs i = xs[i] := by simp [rd, List.getD_eq_getElem?_getD, q0]
          have hx : w.cell? ⟨gs, i, none⟩ = some (.int .i64 (rd xs i)) := by
            have := HW.out.cell i (by simp; omega)
            have e : rd (xs ++ [u]) (i : Int) = rd xs i := by simp [rd, List.getD_eq_getElem?_getD, List.getElem?_append_left q0]
            rw [e] at this
            exact this
          have hxr := HMX.out (rd xs i) (by rw [hrd]; exact List.getElem_mem _)
          have HD : Aside0 ((xs.drop i).any (ss_snext l nt) = (ss_snext l nt (rd xs i) || (xs.drop (i + 1)).any (ss_snext l nt))) := ⟨by rw [List.drop_eq_getElem_cons q0, List.any_cons, hrd]⟩
          generalize rd xs i = x at *
          obtain ⟨x1, x2⟩ := hxr
          obtain ⟨ad2, e2, hz0⟩ := Kd.at_int HR.out (x - 1) (by omega) (by omega)
          cases e2
          have hy2 : w.cell? (ad.add (x.toNat - 1)) = some (.int .i64 (rd l (x - 1))) := by simpa using hz0
          clear hz0 ik hrd
          by_cases c4 : rd l (nt - 1) = x
          · have c4b := beq_iff_eq.mpr c4
            have HG : Aside0 (R = 68) := ⟨by rw [HA.out, HD.out, if_pos (by unfold ss_snext; rw [c4b]; simp)]⟩
            clear c4
            go_wp2
            go_quiet (fail)
            go_wp2
            go_ret
            exact ⟨by rw [HG.out]; rfl, by repeat (first | exact Drawn0.refl _ | apply Drawn0.step)⟩
          · have c4b := beq_eq_false_iff_ne.mpr c4
            by_cases c5 : rd l (x - 1) = nt
            · have c5b := beq_iff_eq.mpr c5
              have HG : Aside0 (R = 68) := ⟨by rw [HA.out, HD.out, if_pos (by unfold ss_snext; rw [c5b]; simp)]⟩
              clear c4 c5
              go_wp2
              go_quiet (fail)
              go_wp2
              go_ret
              exact ⟨by rw [HG.out]; rfl, by repeat (first | exact Drawn0.refl _ | apply Drawn0.step)⟩
            · have c5b := beq_eq_false_iff_ne.mpr c5
              have HG : Aside0 (R = if (xs.drop (i + 1)).any (ss_snext l nt) = true then 68 else 83) := ⟨by
                have : ss_snext l nt x = false := by unfold ss_snext; rw [c4b, c5b]; rfl
                rw [HA.out, HD.out, this, Bool.false_or]⟩
              clear c4 c5
              go_wp2
              go_quiet (fail)
              go_wp2
              go_roundg k1
              case measure => omega
              case rel => exact ⟨i + 1, by go_num, ⟨by have := HI.out; omega⟩, HG, by repeat (first | exact Drawn0.refl _ | apply Drawn0.step)⟩
end

/-! ### spec_EagerFor: function 90, told by hand -/
section
set_option maxHeartbeats 8000000
set_option maxRecDepth 100000
theorem ss_rule_all (w : World) (B : Nat) (A : Option Addr) (c : Nat) (l : List Int) (gs cs : Nat) (ws : List Int) (nt : Int) (hr : Kd.C (Kd.int .i64) w A l.length l) (hw : ss_Rw w B gs cs ws) (hm : ∀ x ∈ ws, 1 ≤ x ∧ x ≤ l.length) (h1 : 1 ≤ nt ∧ nt ≤ l.length) (h3 : l.length ≤ 100) (h4 : ws.length ≤ 100) :
    Calls Try.prog 121 #[.slice A l.length c, .slice (some ⟨gs, 0, none⟩) ws.length cs, .int .i64 nt] w fun e w' => e = .returned (.string (ss_byteS (ss_srule l ws nt))) ∧ Drawn0 w w' := by
  by_cases q : ws = []
  · subst q
    refine (ss_rule_none w A c l gs cs nt).mono ?_
    rintro e w' ⟨rfl, rfl⟩
    exact ⟨rfl, Drawn0.refl _⟩
  · obtain ⟨xs, u, rfl⟩ : ∃ xs u, ws = xs ++ [u] := ⟨_, _, (List.dropLast_concat_getLast q).symm⟩
    exact ss_rule_any w B A c l gs cs xs u nt hr hw hm h1 h3 (by simp at h4; omega)
theorem ss_srule_in (l ws : List Int) (nt : Int) : ss_srule l ws nt = 83 ∨ ss_srule l ws nt = 76 ∨ ss_srule l ws nt = 82 ∨ ss_srule l ws nt = 68 := by
  unfold ss_srule
  split
  · exact .inl rfl
  · split
    · exact .inr (.inl rfl)
    · split
      · exact .inr (.inr (.inl rfl))
      · split
        · exact .inr (.inr (.inr rfl))
        · exact .inl rfl
/-- the moves of the reference's rule, and whether all could be done -/
def ss_sloop (l : List Int) : Nat → List Int → Int → List Int → Option (List Int × Bool)
  | 0, _, _, _ => none
  | k + 1, ws, nt, hs => if nt ≤ (l.length : Int) then (if (ss_sp (ss_srule l ws nt) ws nt hs).1 = true then (ss_sloop l k (ss_sp (ss_srule l ws nt) ws nt hs).2.1 (ss_sp (ss_srule l ws nt) ws nt hs).2.2.1 (ss_sp (ss_srule l ws nt) ws nt hs).2.2.2).map (fun r => (ss_srule l ws nt :: r.1, r.2)) else some ([], false)) else some ([], true)
def ss_adds (s : ByteArray) (ms : List Int) : ByteArray := ms.foldl (fun s m => s ++ ss_byteS m) s
def ss_stext (r : List Int × Bool) : ByteArray := if r.2 = true then ss_adds ⟨#[]⟩ r.1 else ⟨#[]⟩
def ss_SLeft (l : List Int) (k : Nat) (ws : List Int) (nt : Int) (hs : List Int) (out R1 : ByteArray) (R2 : Bool) : Prop :=
  ∃ q, ss_sloop l k ws nt hs = some q ∧ q.2 = R2 ∧ (q.2 = true → ss_adds out q.1 = R1) ∧ (q.2 = false → R1 = ⟨#[]⟩)
theorem ss_SLeft.done {l : List Int} {k : Nat} {ws : List Int} {nt : Int} {hs : List Int} {out R1 : ByteArray} {R2 : Bool} (h : ss_SLeft l (k + 1) ws nt hs out R1 R2) (hn : ¬ nt ≤ (l.length : Int)) : R1 = out ∧ R2 = true := by
  obtain ⟨q, h1, h2, h3, h4⟩ := h
  unfold ss_sloop at h1
  rw [if_neg hn] at h1
  cases h1
  exact ⟨(h3 rfl).symm, h2.symm⟩
theorem ss_SLeft.fall {l : List Int} {k : Nat} {ws : List Int} {nt : Int} {hs : List Int} {out R1 : ByteArray} {R2 : Bool} (h : ss_SLeft l (k + 1) ws nt hs out R1 R2) (hn : nt ≤ (l.length : Int)) (he : ¬ (ss_sp (ss_srule l ws nt) ws nt hs).1 = true) : R1 = ⟨#[]⟩ ∧ R2 = false := by
  obtain ⟨q, h1, h2, h3, h4⟩ := h
  unfold ss_sloop at h1
  rw [if_pos hn, if_neg he] at h1
  cases h1
  exact ⟨h4 rfl, h2.symm⟩
theorem ss_SLeft.step {l : List Int} {k : Nat} {ws : List Int} {nt : Int} {hs : List Int} {out R1 : ByteArray} {R2 : Bool} (h : ss_SLeft l (k + 1) ws nt hs out R1 R2) (hn : nt ≤ (l.length : Int)) (he : (ss_sp (ss_srule l ws nt) ws nt hs).1 = true) :
    ss_SLeft l k (ss_sp (ss_srule l ws nt) ws nt hs).2.1 (ss_sp (ss_srule l ws nt) ws nt hs).2.2.1 (ss_sp (ss_srule l ws nt) ws nt hs).2.2.2 (out ++ ss_byteS (ss_srule l ws nt)) R1 R2 := by
  obtain ⟨q, h1, h2, h3, h4⟩ := h
  unfold ss_sloop at h1
  rw [if_pos hn, if_pos he] at h1
  obtain ⟨r, h5, rfl⟩ := Option.map_eq_some_iff.1 h1
  exact ⟨r, h5, h2, h3, h4⟩
theorem ss_sEager_yes (k : Nat) (A0 : Option Addr) (c0 : Nat) (l0 : List Int) (w : World) (hr0 : Kd.C (Kd.int .i64) w A0 l0.length l0) (hc0 : l0.length ≤ c0) (h : spec_FlatOk.f k l0 = some true) (hl1 : 1 ≤ l0.length) (hl2 : l0.length ≤ 8) (r : List Int × Bool) (hR : ss_sloop l0 40 [] 1 (List.replicate l0.length (-1)) = some r) (R1 : ByteArray) (R2 : Bool) (hR1 : ss_stext r = R1) (hR2 : r.2 = R2) :
    Calls Try.prog 90 #[.slice A0 l0.length c0] w fun e w' => e = .returned (.tuple #[.string R1, .bool R2]) ∧ Below w.heap.size w w' := by
  have HL : Aside0 (ss_SLeft l0 40 [] 1 (List.replicate l0.length (-1)) ⟨#[]⟩ R1 R2) := ⟨r, hR, hR2, fun q => by rw [← hR1]; unfold ss_stext; rw [if_pos q], fun q => by rw [← hR1]; unfold ss_stext; rw [if_neg (by rw [q]; simp)]⟩
  have HR0 := Aside0.mk hr0
  have HC0 := Aside0.mk hc0
  have H := Aside0.mk h
  clear hr0 hc0 h hR hR1 hR2
  obtain ⟨i0, hi0, hz0, hz1, hz2⟩ := info_parts info3
  have HI := Aside0.mk hi0
  have HZ0 := Aside0.mk hz0
  have HZ1 := Aside0.mk hz1
  have HZ2 := Aside0.mk hz2
  clear hi0 hz0 hz1 hz2
  go_enter Try.func90, Try.ntmps90
  go_wp2_with (go_at_call 120; (with_reducible refine (spec_FlatOk.calls k _ _ l0 true _ HR0.out HC0.out H.out).mono ?_); rintro e w' ⟨rfl, ⟨nd, rfl⟩⟩)
  have hw0 := ss_lit_row (w.drewN nd) (B := w.heap.size) (Nat.le_refl _)
  have hb0 : Below w.heap.size w ((w.drewN nd).alloc (.cells #[] 3)) := (pw_below_drewN (Below.refl _ _) _).alloc (Nat.le_refl _) _
  generalize (w.drewN nd).alloc (.cells #[] 3) = W0 at *
  have HR1 := Aside0.mk hw0
  have HB0 := Aside0.mk hb0
  clear hw0 hb0
  go_loopg [4, 5] l0.length (fun kq v4 v5 w' => ∃ (k g c : Nat), v4 = .slice (some ⟨g, 0, none⟩) k c ∧ v5 = .int .i64 (k : Int) ∧ Aside0 (k + kq = l0.length) ∧ Aside0 (ss_Rw w' w.heap.size g c (List.replicate k (-1))) ∧ Aside0 (Below w.heap.size w w'))
  case atStart => exact ⟨0, _, _, rfl, rfl, ⟨by omega⟩, HR1, HB0⟩
  case round =>
    obtain ⟨k, g, c, rfl, rfl, HK, HR, HB⟩ := hrel
    have hk := HK.out
    cases gk with
    | succ k1 =>
      have q1 : (k : Int) < (l0.length : Int) := by omega
      have q2 : (0 : Int) ≤ (k : Int) := Int.natCast_nonneg _
      go_wp2_with (at_builtin; refine wpList_append_lies _ (by rfl) _ _ _ (by rfl) w.heap.size 3 i0 _ 1 8 Try.underlying22 HI.out HZ0.out HZ1.out HZ2.out rfl (by omega) (.slice (some ⟨g, 0, none⟩) k c) k (nums .i64 (List.replicate k (-1))) (by rfl) (World.ownsRow.alloc (by simpa [ss_Rw] using HR.out) _) ⟨wr.heap.size, 0, none⟩ 1 1 [.int .i64 (-1)] (by rfl) (by rfl) (World.news_of_block (cs := #[.int .i64 (-1)]) (t := 3) (fr := (0, 0)) (heap_alloc_new wr _)) (by simp [Value.oneCell']) (by omega) (by unfold maxLen; omega) (by omega) (by have := HB.out.size; simp; omega) (wr.heap.size + 1) (by simp) ?_; intro g2 c2 w2 hown hgrow hat hlt; obtain ⟨s1, s2, s3⟩ := ss_grown_one HR.out (by simpa using hown) hgrow hat; clear hown hgrow hat)
      go_roundg k1
      case measure => omega
      case rel =>
        refine ⟨k + 1, g2, c2, rfl, by go_num, ⟨by omega⟩, ⟨?_⟩, ⟨HB.out.trans (ss_below_of_grown s2 (by intro j hj; injection hj with hj; have := HR.out.lt; omega) HB.out.size)⟩⟩
        rw [List.replicate_succ']
        exact s1
    | zero =>
      have q1 : ¬ (k : Int) < (l0.length : Int) := by omega
      have ek : k = l0.length := by omega
      have HRL : Aside0 ((List.replicate k (-1 : Int)).length = l0.length) := ⟨by rw [List.length_replicate, ek]⟩
      have HL2 : Aside0 (ss_SLeft l0 40 [] 1 (List.replicate k (-1)) ⟨#[]⟩ R1 R2) := ⟨by rw [ek]; exact HL.out⟩
      rw [ek] at q1
      clear hk
      rw [ek]
      go_wp2
      have hh1 := HR.out.keep (World.grownBy_alloc wr (.cells #[] 3) none) (by simp)
      have hs1 := ss_lit_row wr HB.out.size
      have hb1 := HB.out.alloc HB.out.size (.cells #[] 3)
      have hne : wr.heap.size ≠ g := by have := HR.out.lt; omega
      generalize wr.alloc (.cells #[] 3) = W1 at *
      generalize wr.heap.size = gs at *
      have HH1 := Aside0.mk hh1
      have HS1 := Aside0.mk hs1
      have HB1 := Aside0.mk hb1
      have HNE := Aside0.mk hne
      clear hh1 hs1 hb1 hne HR HB HR1 HB0
      generalize List.replicate k (-1 : Int) = hs0 at *
      clear ek q1
      go_loopg [6, 7, 8] 40 (fun kq v6 v7 v8 w' => ∃ (gs cs : Nat) (ws : List Int) (out : ByteArray) (nt : Int) (hs : List Int), v6 = .slice (some ⟨gs, 0, none⟩) ws.length cs ∧ v7 = .string out ∧ v8 = .int .i64 nt ∧ Aside0 (out.size + kq = 40) ∧ Aside0 (ss_SLeft l0 kq ws nt hs out R1 R2) ∧ Aside0 (ss_Rw w' w.heap.size g c hs) ∧ Aside0 (ss_Rw w' w.heap.size gs cs ws) ∧ Aside0 (gs ≠ g) ∧ Aside0 (ss_Oks ws nt hs ∧ hs.length = l0.length) ∧ Aside0 (Below w.heap.size w w'))
      case atStart => exact ⟨_, _, [], _, 1, hs0, rfl, rfl, rfl, ⟨rfl⟩, HL2, HH1, HS1, HNE, ⟨⟨by omega, by omega, by simp, by simp⟩, HRL.out⟩, HB1⟩
      case round =>
        obtain ⟨gs, cs, ws, out, nt, hs, rfl, rfl, rfl, HI, HA, HH, HS, HN, HK2, HB⟩ := hrel
        cases gk with
        | zero => exact absurd HA.out (fun ⟨q, h1, _⟩ => by cases h1)
        | succ k1 =>
          by_cases cn : nt ≤ (l0.length : Int)
          · have cnb : decide (nt ≤ (l0.length : Int)) = true := decide_eq_true cn
            have HCN := Aside0.mk cn
            have hws : ws.length ≤ 100 := by have := HK2.out.1.len; have := HK2.out.1.n1; have := HK2.out.2; omega
            have HRU := Aside0.mk (ss_rule_all wr w.heap.size A0 c0 l0 gs cs ws nt (Kd.C_below HR0.out HB.out) HS.out (by have := HK2.out.1.mem; rw [HK2.out.2] at this; exact this) ⟨HK2.out.1.n0, cn⟩ (by omega) hws)
            have hin := ss_srule_in l0 ws nt
            have HM := Aside0.mk (ss_oks_sp (ss_srule l0 ws nt) HK2.out.1)
            have HST : Aside0 ((ss_sp (ss_srule l0 ws nt) ws nt hs).1 = true → ss_SLeft l0 k1 (ss_sp (ss_srule l0 ws nt) ws nt hs).2.1 (ss_sp (ss_srule l0 ws nt) ws nt hs).2.2.1 (ss_sp (ss_srule l0 ws nt) ws nt hs).2.2.2 (out ++ ss_byteS (ss_srule l0 ws nt)) R1 R2) := ⟨HA.out.step cn⟩
            have HFL : Aside0 (¬ (ss_sp (ss_srule l0 ws nt) ws nt hs).1 = true → R1 = ⟨#[]⟩ ∧ R2 = false) := ⟨HA.out.fall cn⟩
            generalize ss_srule l0 ws nt = m at *
            obtain ⟨S, hS⟩ : ∃ S, S = ss_byteS m := ⟨_, rfl⟩
            have b1 : S.size = 1 := by rw [hS]; rfl
            have b2 : ∀ h : 0 < S.size, ((S[0]'h).toNat : Int) = m := by
              intro h
              subst hS
              rcases hin with rfl | rfl | rfl | rfl <;> rfl
            rw [← hS] at HRU HST
            have hsz : ¬ 9223372036854775807 < out.size + S.size := by rw [b1]; have := HI.out; omega
            have HIN := Aside0.mk hin
            have B1 := Aside0.mk b1
            have hp : (0 : Int) < (S.size : Int) := by omega
            have hp2 : 0 < S.size := by omega
            clear hin hS cn b1
            have hc := fun d => ss_step_any (wr.drewN d) w.heap.size g c gs cs hs ws nt m (HH.out.keep (⟨rfl, rfl, rfl, Nat.le_refl _, fun _ _ _ => rfl⟩ : wr.grownBy (wr.drewN d) none) (by simp)) (HS.out.keep (⟨rfl, rfl, rfl, Nat.le_refl _, fun _ _ _ => rfl⟩ : wr.grownBy (wr.drewN d) none) (by simp)) HN.out HK2.out.1.n0 HK2.out.1.mem (by rw [HK2.out.2]; omega) hws
            simp only [HK2.out.2] at hc
            have HC := Aside0.mk hc
            clear hc
            by_cases ce : (ss_sp m ws nt hs).1 = true
            · go_wp2_with (first | (go_at_call 121; (with_reducible refine HRU.out.mono ?_); rintro e w' ⟨rfl, ⟨nd, rfl⟩⟩) | (go_at_call 94; (with_reducible refine (HC.out _).mono ?_); rintro e w2 ⟨g2, c2, rfl, s1, s2, s3, s4⟩))
              go_roundg k1
              case measure => omega
              case rel => exact ⟨g2, c2, _, _, _, _, rfl, rfl, rfl, ⟨by rw [ByteArray.size_append, B1.out]; have := HI.out; omega⟩, ⟨HST.out ce⟩, ⟨s2⟩, ⟨s1⟩, ⟨s3⟩, ⟨HM.out.1, HM.out.2.trans HK2.out.2⟩, ⟨(pw_below_drewN HB.out _).trans s4⟩⟩
            · obtain ⟨e1, e2⟩ := HFL.out ce
              have HE1 := Aside0.mk e1
              have HE2 := Aside0.mk e2
              have ce2 : (ss_sp m ws nt hs).1 = false := by simpa using ce
              clear e1 e2 ce
              go_wp2_with (first | (go_at_call 121; (with_reducible refine HRU.out.mono ?_); rintro e w' ⟨rfl, ⟨nd, rfl⟩⟩) | (go_at_call 94; (with_reducible refine (HC.out _).mono ?_); rintro e w2 ⟨g2, c2, rfl, s1, s2, s3, s4⟩))
              go_ret2
              exact ⟨by rw [HE1.out, HE2.out]; rfl, (pw_below_drewN HB.out _).trans s4⟩
          · have cnb : decide (nt ≤ (l0.length : Int)) = false := decide_eq_false cn
            obtain ⟨e1, e2⟩ := HA.out.done cn
            have HE1 := Aside0.mk e1
            have HE2 := Aside0.mk e2
            clear e1 e2 cn
            go_wp2
            go_ret2
            exact ⟨by rw [HE1.out, HE2.out]; rfl, HB.out⟩

def spec_EagerFor.f (k : Nat) (l : List Int) : Option (ByteArray × Bool) := (spec_FlatOk.f k l).bind fun t => if t = true then (if 1 ≤ l.length ∧ l.length ≤ 8 then (ss_sloop l 40 [] 1 (List.replicate l.length (-1))).map fun r => (ss_stext r, r.2) else none) else some (⟨#[]⟩, false)
theorem spec_EagerFor.mono : ∀ a k, LeO (spec_EagerFor.f k a) (spec_EagerFor.f (k + 1) a) := by
  intro a k
  unfold spec_EagerFor.f
  exact LeO.bind (spec_FlatOk.mono _ _) (fun _ => LeO.refl _)
theorem spec_EagerFor.calls (k : Nat) (A0 : Option Addr) (c0 : Nat) (l0 : List Int) (r1 : ByteArray) (r2 : Bool) (w : World) (hr0 : Kd.C (Kd.int .i64) w A0 l0.length l0) (hc0 : l0.length ≤ c0) (h : spec_EagerFor.f k l0 = some (r1, r2)) :
    Calls Try.prog 90 #[.slice A0 l0.length c0] w fun e w' => e = .returned (.tuple #[.string r1, .bool r2]) ∧ Below w.heap.size w w' := by
  unfold spec_EagerFor.f at h
  obtain ⟨t, h1, h⟩ := Option.bind_eq_some_iff.1 h
  by_cases c : t = true
  · subst c
    rw [if_pos rfl] at h
    by_cases c2 : 1 ≤ l0.length ∧ l0.length ≤ 8
    · rw [if_pos c2] at h
      obtain ⟨r, h2, h3⟩ := Option.map_eq_some_iff.1 h
      simp only [Prod.mk.injEq] at h3
      exact ss_sEager_yes k A0 c0 l0 w hr0 hc0 h1 c2.1 c2.2 r h2 r1 r2 h3.1 h3.2
    · rw [if_neg c2] at h
      cases h
  · rw [if_neg c] at h
    simp only [Option.some.injEq, Prod.mk.injEq] at h
    obtain ⟨rfl, rfl⟩ := h
    obtain rfl : t = false := by simpa using c
    have HR0 := Aside0.mk hr0
    have HC0 := Aside0.mk hc0
    have H := Aside0.mk h1
    clear hr0 hc0 h1 c
    go_enter Try.func90, Try.ntmps90
    go_wp2_with (go_at_call 120; (with_reducible refine (spec_FlatOk.calls k _ _ l0 false _ HR0.out HC0.out H.out).mono ?_); rintro e w1 ⟨rfl, ⟨nd, rfl⟩⟩)
    go_ret2
    exact ⟨rfl, pw_below_drewN (Below.refl _ _) _⟩
end

end Go.Proofs.Ytbbhdgpiocojaaa.LF
