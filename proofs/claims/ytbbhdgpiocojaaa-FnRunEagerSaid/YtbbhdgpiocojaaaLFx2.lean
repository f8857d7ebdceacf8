/- Printed by a program of this session (wip/lp/lp.py) out of the translation: functions with the same answers as the Go code, and their contracts; no conditions beyond those that each theorem names. -/
import Derived.Test.YtbbhdgpiocojaaaLFx0
import Derived.Test.YtbbhdgpiocojaaaLFx1
namespace Go.Proofs.Ytbbhdgpiocojaaa.LF
open Go.RowKit Go.Proofs.YtbbhdgpiocojaaaV.PrintWords Go.Proofs.YtbbhdgpiocojaaaV.PrintLast Go.Proofs.YtbbhdgpiocojaaaV.PrintMore
attribute [local go_sem] max2_int min2_int max_two min_two max_three min_three max_four min_four   -- for this text's walks alone
set_option linter.unusedVariables false
set_option linter.unusedSimpArgs false

/-! ### impl_FlatOk: function 33 -/
def impl_FlatOk.f (k : Nat) (l0 : List Int) : Option (Bool) := (impl_TreeOk.f k l0).bind fun t114 => (if t114 = true then ((impl_flat.f k l0).bind fun t115 => (some t115)) else (some false))
theorem impl_FlatOk.mono : ∀ a0 k, LeO (impl_FlatOk.f k a0) (impl_FlatOk.f (k + 1) a0) := by
  intro a0 k
  unfold impl_FlatOk.f
  repeat' first
      | (with_reducible exact impl_TreeOk.mono _ _)
      | (with_reducible exact impl_flat.mono _ _)
      | (with_reducible exact LeO.refl _)
      | (with_reducible exact LeO.none _)
      | (with_reducible refine LeO.ite ?_ ?_)
      | (with_reducible refine LeO.bind ?_ (fun _ => ?_))
      | exact impl_TreeOk.mono _ _
      | exact impl_flat.mono _ _
      | exact LeO.none _
      | refine LeO.ite ?_ ?_
      | refine LeO.bind ?_ (fun _ => ?_)
set_option maxHeartbeats 8000000 in
set_option maxRecDepth 100000 in
theorem impl_FlatOk.calls (k : Nat) (A0 : Option Addr) (c0 : Nat) (l0 : List Int) (r : Bool) (w : World) (hr0 : Kd.C (Kd.int .i64) w A0 l0.length l0) (hc0 : l0.length ≤ c0) (h : impl_FlatOk.f k l0 = some r) :
    Calls Try.prog 33 #[.slice A0 l0.length c0] w fun e w' => e = .returned (.bool r) ∧ Below w.heap.size w w' := by
  have HR0 := Aside0.mk hr0
  have HC0 := Aside0.mk hc0
  clear hr0 hc0
  have HB := Aside0.mk (Below.refl w.heap.size w)
  have H : ((impl_TreeOk.f k l0).bind fun t114 => (if t114 = true then ((impl_flat.f k l0).bind fun t115 => (some t115)) else (some false))) = some r := h
  clear h
  replace H := Option.bind_eq_some_iff.mp H
  obtain ⟨t114, A20, H⟩ := H
  replace H : (if t114 = true then ((impl_flat.f k l0).bind fun t115 => (some t115)) else (some false)) = some r := H
  have A2 := Aside0.mk A20
  clear A20
  by_cases c3 : t114 = true
  · subst c3
    have H1 : ((impl_flat.f k l0).bind fun t115 => (some t115)) = some r := by rw [if_pos rfl] at H; exact H
    clear H
    have H := H1
    clear H1
    replace H := Option.bind_eq_some_iff.mp H
    obtain ⟨t115, A40, H⟩ := H
    replace H : (some t115) = some r := H
    have A4 := Aside0.mk A40
    clear A40
    obtain rfl := Option.some.inj H
    go_enter Try.func33, Try.ntmps33
    go_wp2_with (first | ((with_reducible refine gate_callee (f := 38) rfl ?_); refine goesL_ (some 4) rfl rfl Try.func38 (by kernel_rfl) rfl #[.slice A0 l0.length c0] rfl (by (try simp only [List.map_toArray, List.map_cons, List.map_nil]); first | done | rfl | (simp only [List.length_drop, List.length_take]; rfl)) ?_; (with_reducible refine (impl_TreeOk.calls k _ _ l0 true _ ?side1 ?side2 A2.out).mono ?_); (case side1 => repeat (first | exact HR0.out | (with_reducible refine Kd.C_alloc ?_ _) | (with_reducible refine Kd.C_drewN ?_ _) | (with_reducible refine Kd.C_drew ?_))); (case side2 => exact HC0.out); rintro e w' ⟨rfl, ⟨nd, rfl⟩⟩; refine ⟨_, rfl, ?_⟩) | (go_at_call 79; (with_reducible refine (impl_flat.calls k _ _ l0 t115 _ ?side1 ?side2 A4.out).mono ?_); (case side1 => repeat (first | exact HR0.out | (with_reducible refine Kd.C_alloc ?_ _) | (with_reducible refine Kd.C_drewN ?_ _) | (with_reducible refine Kd.C_drew ?_))); (case side2 => exact HC0.out); rintro e w5 ⟨rfl, hb⟩; have n0_ := Aside0.mk (below_step (by repeat (first | (with_reducible first | exact HB.out | apply below_alloc | apply pw_below_drewN | apply below_drew1) | exact HB.out)) hb); clear HB; have HB := n0_; clear n0_; (try clear hb); (try clear hb2); (try clear hk); (try clear hi)))
    go_ret
    exact ⟨by first | rfl | (simp [errW_none, errW_some] <;> rfl) | (simp [*, errW_none, errW_some] <;> rfl), by repeat (first | (with_reducible first | exact HB.out | apply below_alloc | apply pw_below_drewN | apply below_drew1) | exact HB.out)⟩
  · replace c3 := Bool.eq_false_iff.mpr c3
    subst c3
    have H1 : (some false) = some r := by rw [if_neg (show ¬ (false = true) by decide)] at H; exact H
    clear H
    have H := H1
    clear H1
    obtain rfl := Option.some.inj H
    go_enter Try.func33, Try.ntmps33
    go_wp2_with (first | ((with_reducible refine gate_callee (f := 38) rfl ?_); refine goesL_ (some 4) rfl rfl Try.func38 (by kernel_rfl) rfl #[.slice A0 l0.length c0] rfl (by (try simp only [List.map_toArray, List.map_cons, List.map_nil]); first | done | rfl | (simp only [List.length_drop, List.length_take]; rfl)) ?_; (with_reducible refine (impl_TreeOk.calls k _ _ l0 false _ ?side1 ?side2 A2.out).mono ?_); (case side1 => repeat (first | exact HR0.out | (with_reducible refine Kd.C_alloc ?_ _) | (with_reducible refine Kd.C_drewN ?_ _) | (with_reducible refine Kd.C_drew ?_))); (case side2 => exact HC0.out); rintro e w' ⟨rfl, ⟨nd, rfl⟩⟩; refine ⟨_, rfl, ?_⟩))
    go_ret
    exact ⟨by first | rfl | (simp [errW_none, errW_some] <;> rfl) | (simp [*, errW_none, errW_some] <;> rfl), by repeat (first | (with_reducible first | exact HB.out | apply below_alloc | apply pw_below_drewN | apply below_drew1) | exact HB.out)⟩

/-! ### laws_sameInts: function 36 -/
def laws_sameInts.l0 : Nat → List Int → List Int → Int → Option (Bool)
  | 0, _, _, _ => none
  | k + 1, x0, x1, x5 => if x5 < (x0.length : Int) then (if 0 ≤ x5 then (if x5 < (x1.length : Int) then (if (rd x0 x5) = (rd x1 x5) then (laws_sameInts.l0 k x0 x1 (wrap64 (x5 + 1))) else (some false)) else (none)) else (none)) else (some true)
def laws_sameInts.f (k : Nat) (l0 : List Int) (l1 : List Int) : Option (Bool) := if (l0.length : Int) = (l1.length : Int) then (laws_sameInts.l0 k l0 l1 0) else (some false)
theorem laws_sameInts.mono_l : ∀ k, (∀ y0 y1 y2, LeO (laws_sameInts.l0 k y0 y1 y2) (laws_sameInts.l0 (k + 1) y0 y1 y2))
  | 0 => fun _ _ _ r h => by simp [laws_sameInts.l0] at h
  | k + 1 => by
    have ih0 := laws_sameInts.mono_l k
    · intro y0 y1 y2
      unfold laws_sameInts.l0
      repeat' first
      | (with_reducible exact ih0 _ _ _)
      | (with_reducible exact LeO.refl _)
      | (with_reducible exact LeO.none _)
      | (with_reducible refine LeO.ite ?_ ?_)
      | (with_reducible refine LeO.bind ?_ (fun _ => ?_))
      | exact ih0 _ _ _
      | exact LeO.none _
      | refine LeO.ite ?_ ?_
      | refine LeO.bind ?_ (fun _ => ?_)
theorem laws_sameInts.mono : ∀ a0 a1 k, LeO (laws_sameInts.f k a0 a1) (laws_sameInts.f (k + 1) a0 a1) := by
  intro a0 a1 k
  have ih0 := laws_sameInts.mono_l k
  unfold laws_sameInts.f
  repeat' first
      | (with_reducible exact ih0 _ _ _)
      | (with_reducible exact LeO.refl _)
      | (with_reducible exact LeO.none _)
      | (with_reducible refine LeO.ite ?_ ?_)
      | (with_reducible refine LeO.bind ?_ (fun _ => ?_))
      | exact ih0 _ _ _
      | exact LeO.none _
      | refine LeO.ite ?_ ?_
      | refine LeO.bind ?_ (fun _ => ?_)
set_option maxHeartbeats 8000000 in
set_option maxRecDepth 100000 in
theorem laws_sameInts.calls (k : Nat) (A0 : Option Addr) (c0 : Nat) (l0 : List Int) (A1 : Option Addr) (c1 : Nat) (l1 : List Int) (r : Bool) (w : World) (hr0 : Kd.C (Kd.int .i64) w A0 l0.length l0) (hc0 : l0.length ≤ c0) (hr1 : Kd.C (Kd.int .i64) w A1 l1.length l1) (hc1 : l1.length ≤ c1) (h : laws_sameInts.f k l0 l1 = some r) :
    Calls Try.prog 36 #[.slice A0 l0.length c0, .slice A1 l1.length c1] w fun e w' => e = .returned (.bool r) ∧ Drawn0 w w' := by
  have HR0 := Aside0.mk hr0
  have HC0 := Aside0.mk hc0
  clear hr0 hc0
  have HR1 := Aside0.mk hr1
  have HC1 := Aside0.mk hc1
  clear hr1 hc1
  have H : (if (l0.length : Int) = (l1.length : Int) then (laws_sameInts.l0 k l0 l1 0) else (some false)) = some r := h
  clear h
  by_cases c3 : (l0.length : Int) = (l1.length : Int)
  · rw [if_pos c3] at H
    have c3b0 : ((l0.length : Int) == (l1.length : Int)) = true := beq_iff_eq.mpr c3
    have c3b1 : ((l0.length : Int) != (l1.length : Int)) = false := bne_eq_false_iff_eq.mpr c3
    have c3b2 : (l0.length == l1.length) = true := by first | simpa using c3 | (simp at c3 ⊢; omega)
    clear c3
    have H' := Aside0.mk H
    clear H
    go_enter Try.func36, Try.ntmps36
    go_wp2
    repeat (go_quiet (fail); try go_wp2)
    go_loopg [5] k (fun kq v5 w' => ∃ (x5_1 : Int), v5 = .int .i64 x5_1 ∧ Aside0 (laws_sameInts.l0 kq l0 l1 x5_1 = some r) ∧ Aside0 (kq ≤ k) ∧ Drawn0 w w')
    case atStart => exact ⟨(0), (by first | rfl | (simp; done) | (simp [*]; done)), H', ⟨Nat.le_refl _⟩, by repeat (first | exact Drawn0.refl _ | apply Drawn0.step)⟩
    case round =>
      clear H'
      try clear c1
      try clear p2
      try clear c3
      try clear c3b0
      try clear c3b1
      try clear c3b2
      obtain ⟨x5_1, rfl, HA, HK1, ⟨m1, rfl⟩⟩ := hrel
      cases gk with
      | zero => exact absurd HA.out (by simp [laws_sameInts.l0])
      | succ k1 =>
        have H := HA.out
        clear HA
        simp only [laws_sameInts.l0] at H
        by_cases c4 : x5_1 < (l0.length : Int)
        · rw [if_pos c4] at H
          have c4b0 : decide (x5_1 < (l0.length : Int)) = true := decide_eq_true c4
          clear c4
          by_cases c5 : 0 ≤ x5_1
          · rw [if_pos c5] at H
            have c5b0 : decide (0 ≤ x5_1) = true := decide_eq_true c5
            clear c5
            by_cases c6 : x5_1 < (l1.length : Int)
            · rw [if_pos c6] at H
              have c6b0 : decide (x5_1 < (l1.length : Int)) = true := decide_eq_true c6
              clear c6
              by_cases c7 : (rd l0 x5_1) = (rd l1 x5_1)
              · rw [if_pos c7] at H
                have c7b0 : ((rd l0 x5_1) == (rd l1 x5_1)) = true := beq_iff_eq.mpr c7
                have c7b1 : ((rd l0 x5_1) != (rd l1 x5_1)) = false := bne_eq_false_iff_eq.mpr c7
                clear c7
                have H' := Aside0.mk H
                clear H
                have p116 : 0 ≤ (x5_1 : Int) := of_decide_eq_true (by first | (with_reducible assumption) | assumption)
                have q116 : x5_1 < (l0.length : Int) := of_decide_eq_true (by first | (with_reducible assumption) | assumption)
                obtain ⟨ad116, e116, hx116_0⟩ := Kd.at_int HR0.out x5_1 p116 q116
                cases e116
                replace p116 := eq_true p116
                replace q116 := eq_true q116
                have p117 : 0 ≤ (x5_1 : Int) := of_decide_eq_true (by first | (with_reducible assumption) | assumption)
                have q117 : x5_1 < (l1.length : Int) := of_decide_eq_true (by first | (with_reducible assumption) | assumption)
                obtain ⟨ad117, e117, hx117_0⟩ := Kd.at_int HR1.out x5_1 p117 q117
                cases e117
                replace p117 := eq_true p117
                replace q117 := eq_true q117
                go_wp2
                repeat (go_quiet (fail); try go_wp2)
                go_roundg k1
                case measure => have := HK1.out; omega
                case rel => exact ⟨(wrap64 (x5_1 + 1)), (by first | rfl | (simp; done) | (simp [*]; done)), H', ⟨by have := HK1.out; omega⟩, by repeat (first | exact Drawn0.refl _ | apply Drawn0.step)⟩
              · rw [if_neg c7] at H
                have c7b0 : ((rd l0 x5_1) == (rd l1 x5_1)) = false := beq_eq_false_iff_ne.mpr c7
                have c7b1 : ((rd l0 x5_1) != (rd l1 x5_1)) = true := bne_iff_ne.mpr c7
                obtain rfl := Option.some.inj H
                have p116 : 0 ≤ (x5_1 : Int) := of_decide_eq_true (by first | (with_reducible assumption) | assumption)
                have q116 : x5_1 < (l0.length : Int) := of_decide_eq_true (by first | (with_reducible assumption) | assumption)
                obtain ⟨ad116, e116, hx116_0⟩ := Kd.at_int HR0.out x5_1 p116 q116
                cases e116
                replace p116 := eq_true p116
                replace q116 := eq_true q116
                have p117 : 0 ≤ (x5_1 : Int) := of_decide_eq_true (by first | (with_reducible assumption) | assumption)
                have q117 : x5_1 < (l1.length : Int) := of_decide_eq_true (by first | (with_reducible assumption) | assumption)
                obtain ⟨ad117, e117, hx117_0⟩ := Kd.at_int HR1.out x5_1 p117 q117
                cases e117
                replace p117 := eq_true p117
                replace q117 := eq_true q117
                go_wp2
                repeat (go_quiet (fail); try go_wp2)
                go_ret
                exact ⟨by first | rfl | (simp; done) | (simp [*]; done), by repeat (first | exact Drawn0.refl _ | apply Drawn0.step)⟩
            · rw [if_neg c6] at H
              exact absurd H (by simp)
          · rw [if_neg c5] at H
            exact absurd H (by simp)
        · rw [if_neg c4] at H
          have c4b0 : decide (x5_1 < (l0.length : Int)) = false := decide_eq_false c4
          clear c4
          obtain rfl := Option.some.inj H
          go_wp2
          repeat (go_quiet (fail); try go_wp2)
          go_ret
          exact ⟨by first | rfl | (simp; done) | (simp [*]; done), by repeat (first | exact Drawn0.refl _ | apply Drawn0.step)⟩
  · rw [if_neg c3] at H
    have c3b0 : ((l0.length : Int) == (l1.length : Int)) = false := beq_eq_false_iff_ne.mpr c3
    have c3b1 : ((l0.length : Int) != (l1.length : Int)) = true := bne_iff_ne.mpr c3
    have c3b2 : (l0.length == l1.length) = false := by first | simpa using c3 | (simp at c3 ⊢; omega)
    obtain rfl := Option.some.inj H
    go_enter Try.func36, Try.ntmps36
    go_wp2
    repeat (go_quiet (fail); try go_wp2)
    go_ret
    exact ⟨by first | rfl | (simp; done) | (simp [*]; done), by repeat (first | exact Drawn0.refl _ | apply Drawn0.step)⟩

/-! ### impl_stack_push: function 118, told by hand -/
section
set_option maxHeartbeats 8000000
set_option maxRecDepth 100000
attribute [local go_sem ↓] Go.wp_at_zero Go.wp_at_succ
/-- the machine with a stack, as it lies in memory -/
structure sm_St (w : World) (B g : Nat) (vw : Value) (ws : List Int) (nx : Int) (gh : Nat) (hs : List Int) (dp : Int) : Prop where
  blk : w.heap[g]? = some (.cells #[vw, .int .i64 nx, .slice (some ⟨gh, 0, none⟩) hs.length hs.length, .int .i64 dp] 87 (0, 0))
  low : B ≤ g
  own : w.ownsRow B 3 1 vw ws.length (nums .i64 ws)
  far : vw.ownBlock ≠ some gh
  far' : vw.ownBlock ≠ some g
  hds : w.heap[gh]? = some (.cells (nums .i64 hs).toArray 3 (0, 0))
  low' : B ≤ gh
  ne : gh ≠ g
/-- the state behind a call that returns r -/
def sm_StP (w : World) (B g : Nat) (ws : List Int) (nx : Int) (gh : Nat) (hs : List Int) (r : Value) (e : Ending) (w' : World) : Prop :=
  ∃ vw dp, e = .returned r ∧ sm_St w' B g vw ws nx gh hs dp ∧ 0 ≤ dp ∧ dp ≤ 100000 ∧ Below B w w'
/-- how many of the first k words have the head x and have not got it yet -/
def sm_leftN (l hs : List Int) (x : Int) : Nat → Int
  | 0 => 0
  | k + 1 => sm_leftN l hs x k + if rd l k = x ∧ rd hs k = 0 then 1 else 0
theorem sm_leftN_succ (l hs : List Int) (x : Int) (k : Nat) : sm_leftN l hs x (k + 1) = sm_leftN l hs x k + if rd l k = x ∧ rd hs k = 0 then 1 else 0 := rfl
theorem sm_leftN_le (l hs : List Int) (x : Int) : ∀ k, 0 ≤ sm_leftN l hs x k ∧ sm_leftN l hs x k ≤ k
  | 0 => ⟨Int.le_refl _, Int.le_refl _⟩
  | k + 1 => by
    have := sm_leftN_le l hs x k
    rw [sm_leftN_succ]
    split <;> omega
theorem sm_owns_form {w : World} {B : Nat} {e : TypeId} {s : Nat} {v : Value} {n : Nat} {xs : List Value} (h : w.ownsRow B e s v n xs) : ∃ A c, v = .slice A n c := by
  obtain ⟨_, ⟨rfl, rfl⟩ | ⟨g, cap, cur, rfl, _⟩⟩ := h
  · exact ⟨_, _, rfl⟩
  · exact ⟨_, _, rfl⟩
theorem sm_grown_set {w W : World} {g : Nat} (h : w.grownBy W (some g)) (j : Nat) (u : Value) : w.grownBy (W.setCell ⟨g, j, none⟩ u) (some g) :=
  h.trans ⟨rfl, rfl, rfl, by simp, fun k _ hk => heap_setCell_other W ⟨g, j, none⟩ k u (fun e => hk (congrArg some e))⟩
theorem sm_grown_drew {w W : World} {r : Option Nat} (h : w.grownBy W r) : w.grownBy W.drew r := h.trans ⟨rfl, rfl, rfl, Nat.le_refl _, fun _ _ _ => rfl⟩
theorem sm_grown_drewN (w : World) (n : Nat) (r : Option Nat) : w.grownBy (w.drewN n) r := ⟨rfl, rfl, rfl, Nat.le_refl _, fun _ _ _ => rfl⟩
theorem sm_owns_low {w : World} {B : Nat} {e : TypeId} {s : Nat} {v : Value} {n : Nat} {xs : List Value} (h : w.ownsRow B e s v n xs) : ∀ k, v.ownBlock = some k → B ≤ k := by
  intro k hk
  obtain ⟨_, ⟨rfl, rfl⟩ | ⟨g, cap, cur, rfl, hb, _⟩⟩ := h
  · cases hk
  · cases hk; exact hb
theorem sm_St.upd {w W : World} {B g : Nat} {vw : Value} {ws : List Int} {nx : Int} {gh : Nat} {hs : List Int} {dp : Int} (h : sm_St w B g vw ws nx gh hs dp) (hg : w.grownBy W (some g)) {nx' dp' : Int}
    (hb : W.heap[g]? = some (.cells #[vw, .int .i64 nx', .slice (some ⟨gh, 0, none⟩) hs.length hs.length, .int .i64 dp'] 87 (0, 0))) : sm_St W B g vw ws nx' gh hs dp' := by
  refine ⟨hb, h.low, h.own.kept hg (.inr h.far'), h.far, h.far', ?_, h.low', h.ne⟩
  rw [hg.block gh (Array.getElem?_eq_some_iff.1 h.hds).1 (fun e => h.ne (by injection e))]
  exact h.hds
theorem sm_St.app {W1 W w1 : World} {B g gg cap : Nat} {vw : Value} {xs : List Int} {u nx : Int} {gh : Nat} {hs : List Int} {dp : Int} (h : sm_St W1 B g vw xs nx gh hs dp) (ho : ∀ k, k < W1.heap.size → W.heap[k]? = W1.heap[k]?) (hz : W.heap.size = W1.heap.size + 1)
    (hown : w1.ownsRow B 3 1 (.slice (some ⟨gg, 0, none⟩) (xs.length + 1) cap) (xs.length + 1) (nums .i64 xs ++ [.int .i64 u])) (hgrow : W.grownBy w1 vw.ownBlock) (hat : vw.ownBlock = some gg ∨ gg = W1.heap.size + 1) :
    sm_St (w1.setCell ⟨g, 0, none⟩ (.slice (some ⟨gg, 0, none⟩) (xs.length + 1) cap)) B g (.slice (some ⟨gg, 0, none⟩) (xs.length + 1) cap) (xs ++ [u]) nx gh hs dp := by
  have lg := (Array.getElem?_eq_some_iff.1 h.blk).1
  have lh := (Array.getElem?_eq_some_iff.1 h.hds).1
  have eg_ : gg ≠ g ∧ gg ≠ gh := by
    rcases hat with q | q
    · exact ⟨fun e => h.far' (by rw [q, e]), fun e => h.far (by rw [q, e])⟩
    · omega
  have b1 := ((hgrow.block g (by omega) (Ne.symm h.far')).trans (ho g lg)).trans h.blk
  have b2 := ((hgrow.block gh (by omega) (Ne.symm h.far)).trans (ho gh lh)).trans h.hds
  refine ⟨blk_put b1 0 _ rfl, h.low, ?_, by simp [Value.ownBlock]; exact eg_.2, by simp [Value.ownBlock]; exact eg_.1, (heap_setCell_other w1 ⟨g, 0, none⟩ gh _ h.ne).trans b2, h.low', h.ne⟩
  have := hown.kept (sm_grown_set (World.grownBy.refl w1 (some g)) 0 (.slice (some ⟨gg, 0, none⟩) (xs.length + 1) cap)) (.inr (by simp [Value.ownBlock]; exact eg_.1))
  simpa [nums] using this
theorem sm_below_app {w W1 W w1 : World} {B g : Nat} {vw : Value} {xs : List Int} {nx : Int} {gh : Nat} {hs : List Int} {dp : Int} (h : sm_St W1 B g vw xs nx gh hs dp) (hb : Below B w W) (hgrow : W.grownBy w1 vw.ownBlock) (hz : B ≤ W.heap.size) (u : Value) : Below B w (w1.setCell ⟨g, 0, none⟩ u) :=
  (Below.grown hb hgrow hz (fun k hk => sm_owns_low h.own k hk)).setCell h.low _
theorem sm_push_yes (w : World) (B g : Nat) (vw : Value) (ws : List Int) (nx : Int) (gh : Nat) (hs : List Int) (dp : Int) (hS : sm_St w B g vw ws nx gh hs dp) (h0 : 0 ≤ nx) (h1 : nx < hs.length) (h2 : hs.length ≤ 100) (h3 : ws.length < 100000) (h4 : 0 ≤ dp) (h5 : dp ≤ 100000) :
    Calls Try.prog 118 #[.pointer (some ⟨g, 0, none⟩)] w (sm_StP w B g (ws ++ [nx + 1]) (nx + 1) gh hs (.bool true)) := by
  have HS := Aside0.mk hS
  obtain ⟨A, c, rfl⟩ := sm_owns_form hS.own
  have bk := hS.blk
  have k0 : w.cell? ⟨g, 0, none⟩ = some (.slice A ws.length c) := (blk_cell bk 0).trans rfl
  have k1 : w.cell? ⟨g, 1, none⟩ = some (.int .i64 nx) := (blk_cell bk 1).trans rfl
  have k2 : w.cell? ⟨g, 2, none⟩ = some (.slice (some ⟨gh, 0, none⟩) hs.length hs.length) := (blk_cell bk 2).trans rfl
  have f1 := blk_frozen bk 1
  have e1 : (nx == (hs.length : Int)) = false := by simp; omega
  clear bk hS
  go_enter Try.func118, Try.ntmps118
  go_wp2
  go_quiet (fail)
  go_wp2
  clear k0 k1 k2 f1
  have hS1 : sm_St ((w.drewN nq).setCell ⟨g, 1, none⟩ (.int .i64 (nx + 1))) B g (.slice A ws.length c) ws (nx + 1) gh hs dp := HS.out.upd (sm_grown_set (sm_grown_drewN _ _ _) _ _) (blk_put (cs := #[.slice A ws.length c, .int .i64 nx, .slice (some ⟨gh, 0, none⟩) hs.length hs.length, .int .i64 dp]) (blk_drewN HS.out.blk _) 1 _ rfl)
  have hb1 : Below B w ((w.drewN nq).setCell ⟨g, 1, none⟩ (.int .i64 (nx + 1))) := (pw_below_drewN (Below.refl _ _) _).setCell HS.out.low _
  generalize (w.drewN nq).setCell ⟨g, 1, none⟩ (.int .i64 (nx + 1)) = W1 at *
  have HS1 := Aside0.mk hS1
  have HB1 := Aside0.mk hb1
  have k0 : W1.cell? ⟨g, 0, none⟩ = some (.slice A ws.length c) := (blk_cell hS1.blk 0).trans rfl
  have k1 : W1.cell? ⟨g, 1, none⟩ = some (.int .i64 (nx + 1)) := (blk_cell hS1.blk 1).trans rfl
  have f0 := blk_frozen hS1.blk 0
  have lg : g < W1.heap.size := (Array.getElem?_eq_some_iff.1 hS1.blk).1
  have fg := hS1.far'
  have hB := Nat.le_trans hS1.low (Nat.le_of_lt lg)
  have hfa : ∀ o, (W1.alloc o).drew.frozen? ⟨g, 0, none⟩ = false := fun o => (World.frozen?_of_block (w := W1) (w' := (W1.alloc o).drew) (a := ⟨g, 0, none⟩) (Below.heap_alloc W1 o g lg)).trans f0
  have hca : ∀ o, (W1.alloc o).drew.cell? ⟨g, 0, none⟩ = some (.slice A ws.length c) := fun o => (World.cell?_of_block (w := W1) (w' := (W1.alloc o).drew) (a := ⟨g, 0, none⟩) (Below.heap_alloc W1 o g lg)).trans k0
  clear hS1 hb1 HS
  obtain ⟨i0, hi0, hz0, hz1, hz2⟩ := info_parts info3
  have HI := Aside0.mk hi0
  have HZ0 := Aside0.mk hz0
  have HZ1 := Aside0.mk hz1
  have HZ2 := Aside0.mk hz2
  clear hi0 hz0 hz1 hz2
  go_region_law
    ((refine step_append_lies _ (by rfl) _ _ _ (by rfl) B 3 i0 _ 1 8 Try.underlying22 HI.out HZ0.out HZ1.out HZ2.out rfl (by omega) (.slice A ws.length c) ws.length (nums .i64 ws) (by rfl) ((HS1.out.own.alloc _).drew)
        ⟨W1.heap.size, 0, none⟩ 1 1 [.int .i64 (nx + 1)] (by rfl) (by rfl) (World.news_of_block (cs := #[.int .i64 (nx + 1)]) (t := 3) (fr := (0, 0)) (heap_alloc_new W1 _)) (by simp [Value.oneCell'])
        (by omega) (by unfold maxLen; omega) (by omega) (by simp; omega) (W1.heap.size + 1) (by simp) ?_; intro gg cap w1 hown1 hgrow hat hlt; have kw : w1.cell? ⟨g, 0, none⟩ = some (.slice A ws.length c) := (hgrow.cell_far ⟨g, 0, none⟩ (by simp; omega) (Ne.symm fg)).trans (hca _); have fw : w1.frozen? ⟨g, 0, none⟩ = false := (hgrow.frozen_far ⟨g, 0, none⟩ (by simp; omega) (Ne.symm fg)).trans (hfa _)))
  all_goals
    have hS2 := HS1.out.app (W := (W1.alloc (.cells #[.int .i64 (nx + 1)] 3)).drew) (fun k hk => Below.heap_alloc W1 _ k hk) (by simp) hown1 hgrow hat
    have hb2 := sm_below_app HS1.out ((HB1.out.alloc hB (.cells #[.int .i64 (nx + 1)] 3)).drew) hgrow (by simp; omega) (.slice (some ⟨gg, 0, none⟩) (ws.length + 1) cap)
    generalize w1.setCell ⟨g, 0, none⟩ (.slice (some ⟨gg, 0, none⟩) (ws.length + 1) cap) = W2 at *
    have m0 : W2.cell? ⟨g, 0, none⟩ = some (.slice (some ⟨gg, 0, none⟩) (ws.length + 1) cap) := (blk_cell hS2.blk 0).trans rfl
    have m3 : W2.cell? ⟨g, 3, none⟩ = some (.int .i64 dp) := (blk_cell hS2.blk 3).trans rfl
    have f3 := blk_frozen hS2.blk 3
    have HS2 := Aside0.mk hS2
    have HB2 := Aside0.mk hb2
    clear hS2 hb2 hgrow hown1 hat kw fw HS1 HB1 hca hfa f0 k0 k1
    go_wp2
    go_region
    all_goals
      go_wp2
      all_goals
        go_ret
        exact ⟨_, _, rfl, HS2.out.upd (sm_grown_drew (sm_grown_set (World.grownBy.refl _ _) _ _)) (blk_drew (blk_put HS2.out.blk 3 _ rfl)), by first | omega | (split <;> omega), by first | omega | (split <;> omega), (HB2.out.setCell HS2.out.low _).drew⟩
theorem sm_push_no (w : World) (B g : Nat) (vw : Value) (ws : List Int) (nx : Int) (gh : Nat) (hs : List Int) (dp : Int) (hS : sm_St w B g vw ws nx gh hs dp) (h1 : nx = hs.length) (h2 : hs.length ≤ 100) (h4 : 0 ≤ dp) (h5 : dp ≤ 100000) :
    Calls Try.prog 118 #[.pointer (some ⟨g, 0, none⟩)] w (sm_StP w B g ws nx gh hs (.bool false)) := by
  have HS := Aside0.mk hS
  have bk := hS.blk
  have k1 : w.cell? ⟨g, 1, none⟩ = some (.int .i64 nx) := (blk_cell bk 1).trans rfl
  have k2 : w.cell? ⟨g, 2, none⟩ = some (.slice (some ⟨gh, 0, none⟩) hs.length hs.length) := (blk_cell bk 2).trans rfl
  have e1 : (nx == (hs.length : Int)) = true := by simp; omega
  clear bk hS h1
  go_enter Try.func118, Try.ntmps118
  go_wp2
  go_quiet (fail)
  go_wp2
  go_ret
  exact ⟨_, _, rfl, HS.out.upd (sm_grown_drewN _ _ _) (blk_drewN HS.out.blk _), h4, h5, pw_below_drewN (Below.refl _ _) _⟩
theorem sm_left_any (w : World) (B g : Nat) (vw : Value) (ws : List Int) (nx : Int) (gh : Nat) (hs : List Int) (dp : Int) (hS : sm_St w B g vw ws nx gh hs dp) (A : Option Addr) (c : Nat) (l : List Int) (hr : Kd.C (Kd.int .i64) w A l.length l) (hc : l.length ≤ c) (hl : l.length = hs.length) (hl2 : l.length ≤ 100) (x : Int) :
    Calls Try.prog 85 #[.pointer (some ⟨g, 0, none⟩), .slice A l.length c, .int .i64 x] w fun e w' => e = .returned (.int .i64 (sm_leftN l hs x l.length)) ∧ w' = w := by
  have HS := Aside0.mk hS
  have HR0 := Aside0.mk hr
  have bk := hS.blk
  have k2 : w.cell? ⟨g, 2, none⟩ = some (.slice (some ⟨gh, 0, none⟩) hs.length hs.length) := (blk_cell bk 2).trans rfl
  clear bk hS hr
  have HL := Aside0.mk hl
  clear hl
  go_enter Try.func85, Try.ntmps85
  go_wp2
  go_loop [7, 12] (fun v7 v12 => ∃ k : Nat, k ≤ l.length ∧ v12 = .int .i64 k ∧ v7 = .int .i64 (sm_leftN l hs x k)) (fun _ v => l.length - (match v with | .int _ n => n.toNat | _ => 0))
  case atStart => exact ⟨0, Nat.zero_le _, rfl, rfl⟩
  case round =>
    obtain ⟨k, hk, rfl, rfl⟩ := hrel
    have hd := sm_leftN_le l hs x k
    by_cases hlt : k < l.length
    · have p0 : (0 : Int) ≤ (k : Int) := Int.natCast_nonneg _
      have q0 : (k : Int) < (l.length : Int) := by omega
      obtain ⟨ad, e1, hx0⟩ := Kd.at_int HR0.out k p0 q0
      cases e1
      have hx : w.cell? (ad.add k) = some (.int .i64 (rd l k)) := by simpa using hx0
      clear hx0
      have q1 : (k : Int) < (hs.length : Int) := by rw [← HL.out]; exact q0
      have hy : w.cell? ⟨gh, k, none⟩ = some (.int .i64 (rd hs k)) := by
        rw [blk_cell HS.out.hds]
        simp [nums, rd, List.getD_eq_getElem?_getD, List.getElem?_eq_getElem (show k < hs.length by omega)]
      have H1 := Aside0.mk (sm_leftN_succ l hs x k)
      by_cases c1 : rd l k = x
      · have c1b : (rd l k == x) = true := beq_iff_eq.mpr c1
        by_cases c2 : rd hs k = 0
        · have c2b : (rd hs k == 0) = true := beq_iff_eq.mpr c2
          have H2 := Aside0.mk (H1.out.trans (by rw [if_pos ⟨c1, c2⟩]))
          clear c1 c2
          go_wp2
          go_round
          case rel => exact ⟨k + 1, by omega, by go_num, by rw [H2.out]⟩
          case measure => simp; omega
        · have c2b : (rd hs k == 0) = false := beq_eq_false_iff_ne.mpr c2
          have H2 := Aside0.mk (H1.out.trans (by rw [if_neg (fun h => c2 h.2)]))
          clear c1 c2
          go_wp2
          go_round
          case rel => exact ⟨k + 1, by omega, by go_num, by rw [H2.out]; go_num⟩
          case measure => simp; omega
      · have c1b : (rd l k == x) = false := beq_eq_false_iff_ne.mpr c1
        have H2 := Aside0.mk (H1.out.trans (by rw [if_neg (fun h => c1 h.1)]))
        clear c1
        go_wp2
        go_round
        case rel => exact ⟨k + 1, by omega, by go_num, by rw [H2.out]; go_num⟩
        case measure => simp; omega
    · go_wp2
      go_ret
      obtain rfl : k = l.length := by omega
      exact ⟨rfl, rfl⟩

theorem sm_St.upd' {w W : World} {B g : Nat} {vw : Value} {ws : List Int} {nx : Int} {gh : Nat} {hs : List Int} {dp : Int} (h : sm_St w B g vw ws nx gh hs dp) (hg : w.grownBy W (some g)) {vw' : Value} {ws' : List Int} (hv : vw'.ownBlock = vw.ownBlock) {nx' dp' : Int}
    (hb : W.heap[g]? = some (.cells #[vw', .int .i64 nx', .slice (some ⟨gh, 0, none⟩) hs.length hs.length, .int .i64 dp'] 87 (0, 0))) (ho : w.ownsRow B 3 1 vw' ws'.length (nums .i64 ws')) : sm_St W B g vw' ws' nx' gh hs dp' := by
  refine ⟨hb, h.low, ho.kept hg (.inr (by rw [hv]; exact h.far')), by rw [hv]; exact h.far, by rw [hv]; exact h.far', ?_, h.low', h.ne⟩
  rw [hg.block gh (Array.getElem?_eq_some_iff.1 h.hds).1 (fun e => h.ne (by injection e))]
  exact h.hds
/-- the two upper words taken away -/
theorem sm_owns_cut {w : World} {B gw c : Nat} {xs : List Int} {b u : Int} (h : w.ownsRow B 3 1 (.slice (some ⟨gw, 0, none⟩) (xs.length + 2) c) (xs.length + 2) (nums .i64 (xs ++ [b, u]))) : w.ownsRow B 3 1 (.slice (some ⟨gw, 0, none⟩) xs.length c) xs.length (nums .i64 xs) := by
  obtain ⟨_, ⟨h1, h2⟩ | ⟨g, cap, cur, h1, h2, h3, h4, h5, h6, h7⟩⟩ := h
  · cases h1
  · cases h1
    refine ⟨by simp [nums], .inr ⟨_, _, cur, rfl, h2, h3, by omega, h5, h6, ?_⟩⟩
    have := congrArg (List.take xs.length) h7
    rw [List.take_take] at this
    simpa [nums, Nat.min_eq_left] using this
theorem sm_move_refuse (w : World) (B g : Nat) (vw : Value) (ws : List Int) (nx : Int) (gh : Nat) (hs : List Int) (dp : Int) (hS : sm_St w B g vw ws nx gh hs dp) (m : Int) (h1 : ¬ m = 83) (h2 : ws.length < 2 ∨ (m ≠ 76 ∧ m ≠ 82)) (h3 : ws.length ≤ 100) (h4 : 0 ≤ dp) (h5 : dp ≤ 100000) :
    Calls Try.prog 86 #[.pointer (some ⟨g, 0, none⟩), .int .u8 m] w (sm_StP w B g ws nx gh hs (.bool false)) := by
  have HS := Aside0.mk hS
  obtain ⟨A, c, rfl⟩ := sm_owns_form hS.own
  have bk := hS.blk
  have k0 : w.cell? ⟨g, 0, none⟩ = some (.slice A ws.length c) := (blk_cell bk 0).trans rfl
  have e1 : (m == 83) = false := beq_eq_false_iff_ne.mpr h1
  clear bk hS h1
  by_cases h6 : ws.length < 2
  · have e2 : decide ((ws.length : Int) < 2) = true := decide_eq_true (by omega)
    go_enter Try.func86, Try.ntmps86
    go_wp2
    go_ret
    exact ⟨_, _, rfl, HS.out, h4, h5, Below.refl _ _⟩
  · obtain ⟨p1, p2⟩ := h2.resolve_left h6
    have e2 : decide ((ws.length : Int) < 2) = false := decide_eq_false (by omega)
    have e3 : (m != 76) = true := bne_iff_ne.mpr p1
    have e4 : (m != 82) = true := bne_iff_ne.mpr p2
    clear p1 p2 h2
    go_enter Try.func86, Try.ntmps86
    go_wp2
    go_ret
    exact ⟨_, _, rfl, HS.out, h4, h5, Below.refl _ _⟩
theorem sm_move_push (w : World) (B g : Nat) (vw : Value) (ws : List Int) (nx : Int) (gh : Nat) (hs : List Int) (dp : Int) (hS : sm_St w B g vw ws nx gh hs dp) (h0 : 0 ≤ nx) (h1 : nx < hs.length) (h2 : hs.length ≤ 100) (h3 : ws.length < 100) (h4 : 0 ≤ dp) (h5 : dp ≤ 100000) :
    Calls Try.prog 86 #[.pointer (some ⟨g, 0, none⟩), .int .u8 83] w (sm_StP w B g (ws ++ [nx + 1]) (nx + 1) gh hs (.bool true)) := by
  have HS := Aside0.mk hS
  obtain ⟨A, c, rfl⟩ := sm_owns_form hS.own
  have bk := hS.blk
  have k0 : w.cell? ⟨g, 0, none⟩ = some (.slice A ws.length c) := (blk_cell bk 0).trans rfl
  clear bk hS
  go_enter Try.func86, Try.ntmps86
  go_wp2_with (go_at_call 118; (with_reducible refine (sm_push_yes _ B g _ ws nx gh hs dp HS.out h0 h1 h2 (by omega) h4 h5).mono ?_); rintro e w1 ⟨v1, d1, rfl, s1, s2, s3, s4⟩)
  go_ret
  exact ⟨_, _, rfl, s1, s2, s3, s4⟩
theorem sm_move_full (w : World) (B g : Nat) (vw : Value) (ws : List Int) (nx : Int) (gh : Nat) (hs : List Int) (dp : Int) (hS : sm_St w B g vw ws nx gh hs dp) (h1 : nx = hs.length) (h2 : hs.length ≤ 100) (h3 : ws.length < 100) (h4 : 0 ≤ dp) (h5 : dp ≤ 100000) :
    Calls Try.prog 86 #[.pointer (some ⟨g, 0, none⟩), .int .u8 83] w (sm_StP w B g ws nx gh hs (.bool false)) := by
  have HS := Aside0.mk hS
  obtain ⟨A, c, rfl⟩ := sm_owns_form hS.own
  have bk := hS.blk
  have k0 : w.cell? ⟨g, 0, none⟩ = some (.slice A ws.length c) := (blk_cell bk 0).trans rfl
  have H1 := Aside0.mk h1
  clear bk hS h1
  go_enter Try.func86, Try.ntmps86
  go_wp2_with (go_at_call 118; (with_reducible refine (sm_push_no _ B g _ ws nx gh hs dp HS.out H1.out h2 h4 h5).mono ?_); rintro e w1 ⟨v1, d1, rfl, s1, s2, s3, s4⟩)
  go_ret
  exact ⟨_, _, rfl, s1, s2, s3, s4⟩
theorem sm_St.put_head {w : World} {B g : Nat} {vw : Value} {ws : List Int} {nx : Int} {gh : Nat} {hs : List Int} {dp : Int} (h : sm_St w B g vw ws nx gh hs dp) (j : Nat) (u : Int) : sm_St (w.setCell ⟨gh, j, none⟩ (.int .i64 u)) B g vw ws nx gh (hs.set j u) dp := by
  refine ⟨?_, h.low, h.own.kept (sm_grown_set (World.grownBy.refl _ _) _ _) (.inr h.far), h.far, h.far', ?_, h.low', h.ne⟩
  · rw [heap_setCell_other w ⟨gh, j, none⟩ g _ (Ne.symm h.ne), List.length_set]
    exact h.blk
  · refine blk_put h.hds j _ ?_
    simp [nums, List.map_set]
theorem sm_move_L (w : World) (B g : Nat) (vw : Value) (xs : List Int) (b u nx : Int) (gh : Nat) (hs : List Int) (dp : Int) (hS : sm_St w B g vw (xs ++ [b, u]) nx gh hs dp) (h2 : hs.length ≤ 100) (h3 : xs.length < 100) (h4 : 0 ≤ dp) (h5 : dp ≤ 100000) (b1 : 1 ≤ b) (b2 : b ≤ hs.length) :
    Calls Try.prog 86 #[.pointer (some ⟨g, 0, none⟩), .int .u8 76] w (sm_StP w B g (xs ++ [u]) nx gh (hs.set (b.toNat - 1) u) (.bool true)) := by
  have HS := Aside0.mk hS
  obtain ⟨gw, c, rfl, -, -⟩ := hS.own.form (by simp)
  have hl : (xs ++ [b, u]).length = xs.length + 2 := by simp
  have ho := hS.own
  have bk := hS.blk
  rw [hl] at ho bk
  have k0 : w.cell? ⟨g, 0, none⟩ = some (.slice (some ⟨gw, 0, none⟩) (xs.length + 2) c) := (blk_cell bk 0).trans rfl
  have k2 : w.cell? ⟨g, 2, none⟩ = some (.slice (some ⟨gh, 0, none⟩) hs.length hs.length) := (blk_cell bk 2).trans rfl
  have f0 := blk_frozen bk 0
  have c0 : w.cell? ⟨gw, xs.length, none⟩ = some (.int .i64 b) := by
    have := ho.cells (g := gw) rfl xs.length (.int .i64 b) (by simp [nums])
    simpa [add_plain] using this
  have c1 : w.cell? ⟨gw, xs.length + 1, none⟩ = some (.int .i64 u) := by
    have := ho.cells (g := gw) rfl (xs.length + 1) (.int .i64 u) (by simp [nums])
    simpa [add_plain] using this
  have hc0 : xs.length ≤ c := by
    obtain ⟨_, ⟨h1, _⟩ | ⟨_, _, _, h1, _, _, h4, _⟩⟩ := ho
    · cases h1
    · cases h1; omega
  have BK := Aside0.mk bk
  have HO := Aside0.mk ho
  clear bk ho hS hl
  have p1 : (0 : Int) ≤ (xs.length : Int) := Int.natCast_nonneg _
  have hc : w.cell? ⟨gh, b.toNat - 1, none⟩ = some (.int .i64 (rd hs (b - 1))) := by
    rw [blk_cell HS.out.hds]
    simp [nums, rd, List.getD_eq_getElem?_getD, List.getElem?_eq_getElem (show b.toNat - 1 < hs.length by omega)]
  have hf := blk_frozen HS.out.hds (b.toNat - 1)
  have hne := HS.out.ne
  go_enter Try.func86, Try.ntmps86
  go_wp2
  go_quiet (fail)
  go_upto_region 10 with (fail)
  have hS1 := (HS.out.upd' (W := (w.drewN nq).setCell ⟨g, 0, none⟩ (.slice (some ⟨gw, 0, none⟩) xs.length c)) (sm_grown_set (sm_grown_drewN _ _ _) _ _) (vw' := .slice (some ⟨gw, 0, none⟩) xs.length c) (ws' := xs) rfl (blk_put (blk_drewN BK.out _) 0 _ rfl) (sm_owns_cut HO.out)).put_head (b.toNat - 1) u
  have hb1 := ((pw_below_drewN (Below.refl B w) nq).setCell (p := ⟨g, 0, none⟩) HS.out.low (.slice (some ⟨gw, 0, none⟩) xs.length c)).setCell (p := ⟨gh, b.toNat - 1, none⟩) HS.out.low' (.int .i64 u)
  generalize ((w.drewN nq).setCell ⟨g, 0, none⟩ (.slice (some ⟨gw, 0, none⟩) xs.length c)).setCell ⟨gh, b.toNat - 1, none⟩ (.int .i64 u) = W1 at *
  have HS1 := Aside0.mk hS1
  have HB1 := Aside0.mk hb1
  have k0 : W1.cell? ⟨g, 0, none⟩ = some (.slice (some ⟨gw, 0, none⟩) xs.length c) := (blk_cell hS1.blk 0).trans rfl
  have lg : g < W1.heap.size := (Array.getElem?_eq_some_iff.1 hS1.blk).1
  have f0 : ∀ o, (W1.alloc o).frozen? ⟨g, 0, none⟩ = false := fun o => (World.frozen?_of_block (w := W1) (w' := W1.alloc o) (a := ⟨g, 0, none⟩) (Below.heap_alloc W1 o g lg)).trans (blk_frozen hS1.blk 0)
  have c0 : ∀ o, (W1.alloc o).cell? ⟨g, 0, none⟩ = some (.slice (some ⟨gw, 0, none⟩) xs.length c) := fun o => (World.cell?_of_block (w := W1) (w' := W1.alloc o) (a := ⟨g, 0, none⟩) (Below.heap_alloc W1 o g lg)).trans k0
  have fg := hS1.far'
  have hB := Nat.le_trans hS1.low (Nat.le_of_lt lg)
  clear hS1 hb1
  obtain ⟨i0, hi0, hz0, hz1, hz2⟩ := info_parts info3
  have HI := Aside0.mk hi0
  have HZ0 := Aside0.mk hz0
  have HZ1 := Aside0.mk hz1
  have HZ2 := Aside0.mk hz2
  clear hi0 hz0 hz1 hz2
  go_wp2_with (at_builtin; refine wpList_append_lies _ (by rfl) _ _ _ (by rfl) B 3 i0 _ 1 8 Try.underlying22 HI.out HZ0.out HZ1.out HZ2.out rfl (by omega) (.slice (some ⟨gw, 0, none⟩) xs.length c) xs.length (nums .i64 xs) (by rfl) (HS1.out.own.alloc _) ⟨W1.heap.size, 0, none⟩ 1 1 [.int .i64 u] (by rfl) (by rfl) (World.news_of_block (cs := #[.int .i64 u]) (t := 3) (fr := (0, 0)) (heap_alloc_new W1 _)) (by simp [Value.oneCell']) (by omega) (by unfold maxLen; omega) (by omega) (by simp; omega) (W1.heap.size + 1) (by simp) ?_; intro gg cap w1 hown1 hgrow hat hlt; have kw : w1.cell? ⟨g, 0, none⟩ = some (.slice (some ⟨gw, 0, none⟩) xs.length c) := (hgrow.cell_far ⟨g, 0, none⟩ (by simp; omega) (Ne.symm fg)).trans (c0 _); have fw : w1.frozen? ⟨g, 0, none⟩ = false := (hgrow.frozen_far ⟨g, 0, none⟩ (by simp; omega) (Ne.symm fg)).trans (f0 _))
  go_ret
  exact ⟨_, _, rfl, HS1.out.app (W := W1.alloc (.cells #[.int .i64 u] 3)) (fun k hk => Below.heap_alloc W1 _ k hk) (by simp) hown1 hgrow hat, h4, h5, sm_below_app HS1.out (HB1.out.alloc hB (.cells #[.int .i64 u] 3)) hgrow (by simp; omega) _⟩
theorem sm_move_R (w : World) (B g : Nat) (vw : Value) (xs : List Int) (b u nx : Int) (gh : Nat) (hs : List Int) (dp : Int) (hS : sm_St w B g vw (xs ++ [b, u]) nx gh hs dp) (h2 : hs.length ≤ 100) (h3 : xs.length < 100) (h4 : 0 ≤ dp) (h5 : dp ≤ 100000) (b1 : 1 ≤ u) (b2 : u ≤ hs.length) :
    Calls Try.prog 86 #[.pointer (some ⟨g, 0, none⟩), .int .u8 82] w (sm_StP w B g (xs ++ [b]) nx gh (hs.set (u.toNat - 1) b) (.bool true)) := by
  have HS := Aside0.mk hS
  obtain ⟨gw, c, rfl, -, -⟩ := hS.own.form (by simp)
  have hl : (xs ++ [b, u]).length = xs.length + 2 := by simp
  have ho := hS.own
  have bk := hS.blk
  rw [hl] at ho bk
  have k0 : w.cell? ⟨g, 0, none⟩ = some (.slice (some ⟨gw, 0, none⟩) (xs.length + 2) c) := (blk_cell bk 0).trans rfl
  have k2 : w.cell? ⟨g, 2, none⟩ = some (.slice (some ⟨gh, 0, none⟩) hs.length hs.length) := (blk_cell bk 2).trans rfl
  have f0 := blk_frozen bk 0
  have c0 : w.cell? ⟨gw, xs.length, none⟩ = some (.int .i64 b) := by
    have := ho.cells (g := gw) rfl xs.length (.int .i64 b) (by simp [nums])
    simpa [add_plain] using this
  have c1 : w.cell? ⟨gw, xs.length + 1, none⟩ = some (.int .i64 u) := by
    have := ho.cells (g := gw) rfl (xs.length + 1) (.int .i64 u) (by simp [nums])
    simpa [add_plain] using this
  have hc0 : xs.length ≤ c := by
    obtain ⟨_, ⟨h1, _⟩ | ⟨_, _, _, h1, _, _, h4, _⟩⟩ := ho
    · cases h1
    · cases h1; omega
  have BK := Aside0.mk bk
  have HO := Aside0.mk ho
  clear bk ho hS hl
  have p1 : (0 : Int) ≤ (xs.length : Int) := Int.natCast_nonneg _
  have hc : w.cell? ⟨gh, u.toNat - 1, none⟩ = some (.int .i64 (rd hs (u - 1))) := by
    rw [blk_cell HS.out.hds]
    simp [nums, rd, List.getD_eq_getElem?_getD, List.getElem?_eq_getElem (show u.toNat - 1 < hs.length by omega)]
  have hf := blk_frozen HS.out.hds (u.toNat - 1)
  have hne := HS.out.ne
  go_enter Try.func86, Try.ntmps86
  go_wp2
  go_quiet (fail)
  go_upto_region 12 with (fail)
  have hS1 := (HS.out.upd' (W := (w.drewN nq).setCell ⟨g, 0, none⟩ (.slice (some ⟨gw, 0, none⟩) xs.length c)) (sm_grown_set (sm_grown_drewN _ _ _) _ _) (vw' := .slice (some ⟨gw, 0, none⟩) xs.length c) (ws' := xs) rfl (blk_put (blk_drewN BK.out _) 0 _ rfl) (sm_owns_cut HO.out)).put_head (u.toNat - 1) b
  have hb1 := ((pw_below_drewN (Below.refl B w) nq).setCell (p := ⟨g, 0, none⟩) HS.out.low (.slice (some ⟨gw, 0, none⟩) xs.length c)).setCell (p := ⟨gh, u.toNat - 1, none⟩) HS.out.low' (.int .i64 b)
  generalize ((w.drewN nq).setCell ⟨g, 0, none⟩ (.slice (some ⟨gw, 0, none⟩) xs.length c)).setCell ⟨gh, u.toNat - 1, none⟩ (.int .i64 b) = W1 at *
  have HS1 := Aside0.mk hS1
  have HB1 := Aside0.mk hb1
  have k0 : W1.cell? ⟨g, 0, none⟩ = some (.slice (some ⟨gw, 0, none⟩) xs.length c) := (blk_cell hS1.blk 0).trans rfl
  have lg : g < W1.heap.size := (Array.getElem?_eq_some_iff.1 hS1.blk).1
  have f0 : ∀ o, (W1.alloc o).frozen? ⟨g, 0, none⟩ = false := fun o => (World.frozen?_of_block (w := W1) (w' := W1.alloc o) (a := ⟨g, 0, none⟩) (Below.heap_alloc W1 o g lg)).trans (blk_frozen hS1.blk 0)
  have c0 : ∀ o, (W1.alloc o).cell? ⟨g, 0, none⟩ = some (.slice (some ⟨gw, 0, none⟩) xs.length c) := fun o => (World.cell?_of_block (w := W1) (w' := W1.alloc o) (a := ⟨g, 0, none⟩) (Below.heap_alloc W1 o g lg)).trans k0
  have fg := hS1.far'
  have hB := Nat.le_trans hS1.low (Nat.le_of_lt lg)
  clear hS1 hb1
  obtain ⟨i0, hi0, hz0, hz1, hz2⟩ := info_parts info3
  have HI := Aside0.mk hi0
  have HZ0 := Aside0.mk hz0
  have HZ1 := Aside0.mk hz1
  have HZ2 := Aside0.mk hz2
  clear hi0 hz0 hz1 hz2
  go_wp2_with (at_builtin; refine wpList_append_lies _ (by rfl) _ _ _ (by rfl) B 3 i0 _ 1 8 Try.underlying22 HI.out HZ0.out HZ1.out HZ2.out rfl (by omega) (.slice (some ⟨gw, 0, none⟩) xs.length c) xs.length (nums .i64 xs) (by rfl) (HS1.out.own.alloc _) ⟨W1.heap.size, 0, none⟩ 1 1 [.int .i64 b] (by rfl) (by rfl) (World.news_of_block (cs := #[.int .i64 b]) (t := 3) (fr := (0, 0)) (heap_alloc_new W1 _)) (by simp [Value.oneCell']) (by omega) (by unfold maxLen; omega) (by omega) (by simp; omega) (W1.heap.size + 1) (by simp) ?_; intro gg cap w1 hown1 hgrow hat hlt; have kw : w1.cell? ⟨g, 0, none⟩ = some (.slice (some ⟨gw, 0, none⟩) xs.length c) := (hgrow.cell_far ⟨g, 0, none⟩ (by simp; omega) (Ne.symm fg)).trans (c0 _); have fw : w1.frozen? ⟨g, 0, none⟩ = false := (hgrow.frozen_far ⟨g, 0, none⟩ (by simp; omega) (Ne.symm fg)).trans (f0 _))
  go_ret
  exact ⟨_, _, rfl, HS1.out.app (W := W1.alloc (.cells #[.int .i64 b] 3)) (fun k hk => Below.heap_alloc W1 _ k hk) (by simp) hown1 hgrow hat, h4, h5, sm_below_app HS1.out (HB1.out.alloc hB (.cells #[.int .i64 b] 3)) hgrow (by simp; omega) _⟩

/-- one move: whether it can be done, and the state behind it -/
def sm_mv (m : Int) (ws : List Int) (nx : Int) (hs : List Int) : Bool × List Int × Int × List Int :=
  if m = 83 then (if nx = hs.length then (false, ws, nx, hs) else (true, ws ++ [nx + 1], nx + 1, hs))
  else if ws.length < 2 ∨ (m ≠ 76 ∧ m ≠ 82) then (false, ws, nx, hs)
  else if m = 76 then (true, ws.take (ws.length - 2) ++ [ws.getD (ws.length - 1) 0], nx, hs.set ((ws.getD (ws.length - 2) 0).toNat - 1) (ws.getD (ws.length - 1) 0))
  else (true, ws.take (ws.length - 2) ++ [ws.getD (ws.length - 2) 0], nx, hs.set ((ws.getD (ws.length - 1) 0).toNat - 1) (ws.getD (ws.length - 2) 0))
/-- the words on the stack have been put on it, and are words -/
structure sm_Okm (ws : List Int) (nx : Int) (hs : List Int) : Prop where
  n0 : 0 ≤ nx
  n1 : nx ≤ hs.length
  len : ws.length ≤ nx
  mem : ∀ x ∈ ws, 1 ≤ x ∧ x ≤ hs.length
theorem sm_two_of {ws : List Int} (h : ¬ ws.length < 2) : ∃ xs b u, ws = xs ++ [b, u] := by
  obtain ⟨n, hn⟩ : ∃ n, ws.length = n + 2 := ⟨ws.length - 2, by omega⟩
  refine ⟨ws.take n, ws[n], ws[n + 1], ?_⟩
  conv => lhs; rw [← List.take_append_drop n ws]
  congr 1
  rw [List.drop_eq_getElem_cons (by omega), List.drop_eq_getElem_cons (by omega), List.drop_eq_nil_of_le (by omega)]
theorem sm_mv_two (m : Int) (xs : List Int) (b u nx : Int) (hs : List Int) (h : ¬ m = 83) (h2 : m = 76 ∨ m = 82) : sm_mv m (xs ++ [b, u]) nx hs = if m = 76 then (true, xs ++ [u], nx, hs.set (b.toNat - 1) u) else (true, xs ++ [b], nx, hs.set (u.toNat - 1) b) := by
  have e1 : (xs ++ [b, u]).getD (xs.length + 1) 0 = u := by simp [List.getD_eq_getElem?_getD]
  have e2 : (xs ++ [b, u]).getD xs.length 0 = b := by simp [List.getD_eq_getElem?_getD]
  unfold sm_mv
  rw [if_neg h, if_neg (by simp; omega)]
  simp only [List.length_append, List.length_cons, List.length_nil, Nat.zero_add, show xs.length + 2 - 1 = xs.length + 1 by omega, show xs.length + 2 - 2 = xs.length by omega, e1, e2]
  simp
theorem sm_okm_mv (m : Int) {ws : List Int} {nx : Int} {hs : List Int} (h : sm_Okm ws nx hs) : sm_Okm (sm_mv m ws nx hs).2.1 (sm_mv m ws nx hs).2.2.1 (sm_mv m ws nx hs).2.2.2 ∧ (sm_mv m ws nx hs).2.2.2.length = hs.length := by
  by_cases h1 : m = 83
  · unfold sm_mv
    rw [if_pos h1]
    split
    · exact ⟨h, rfl⟩
    · obtain ⟨a, b, c, d⟩ := h
      refine ⟨⟨by simp; omega, by simp; omega, by simp; omega, ?_⟩, rfl⟩
      intro x hx
      simp only [List.mem_append, List.mem_singleton] at hx
      rcases hx with hx | rfl
      · exact d x hx
      · simp; omega
  · by_cases h2 : ws.length < 2 ∨ (m ≠ 76 ∧ m ≠ 82)
    · unfold sm_mv
      rw [if_neg h1, if_pos h2]
      exact ⟨h, rfl⟩
    · obtain ⟨xs, b, u, rfl⟩ := sm_two_of (ws := ws) (fun q => h2 (.inl q))
      rw [sm_mv_two m xs b u nx hs h1 (by by_cases q : m = 76; exact .inl q; by_cases q' : m = 82; exact .inr q'; exact absurd (.inr ⟨q, q'⟩) h2)]
      obtain ⟨a, b', c, d⟩ := h
      simp only [List.length_append, List.length_cons, List.length_nil] at c
      split <;> refine ⟨⟨a, by simpa using b', by simp; omega, ?_⟩, by simp⟩ <;>
      · intro x hx
        have := d x (by simp at hx ⊢; rcases hx with hx | hx <;> simp [hx])
        simpa using this
theorem sm_move_any (w : World) (B g : Nat) (vw : Value) (ws : List Int) (nx : Int) (gh : Nat) (hs : List Int) (dp : Int) (hS : sm_St w B g vw ws nx gh hs dp) (hok : sm_Okm ws nx hs) (h2 : hs.length ≤ 90) (h4 : 0 ≤ dp) (h5 : dp ≤ 100000) (m : Int) :
    Calls Try.prog 86 #[.pointer (some ⟨g, 0, none⟩), .int .u8 m] w (sm_StP w B g (sm_mv m ws nx hs).2.1 (sm_mv m ws nx hs).2.2.1 gh (sm_mv m ws nx hs).2.2.2 (.bool (sm_mv m ws nx hs).1)) := by
  have hl : ws.length ≤ 90 := by have := hok.len; have := hok.n1; omega
  by_cases h1 : m = 83
  · subst h1
    by_cases h6 : nx = hs.length
    · have e : sm_mv 83 ws nx hs = (false, ws, nx, hs) := by unfold sm_mv; rw [if_pos rfl, if_pos h6]
      rw [e]
      exact sm_move_full w B g vw ws nx gh hs dp hS h6 (by omega) (by omega) h4 h5
    · have e : sm_mv 83 ws nx hs = (true, ws ++ [nx + 1], nx + 1, hs) := by unfold sm_mv; rw [if_pos rfl, if_neg h6]
      rw [e]
      exact sm_move_push w B g vw ws nx gh hs dp hS hok.n0 (by have := hok.n1; omega) (by omega) (by omega) h4 h5
  · by_cases h7 : ws.length < 2 ∨ (m ≠ 76 ∧ m ≠ 82)
    · have e : sm_mv m ws nx hs = (false, ws, nx, hs) := by unfold sm_mv; rw [if_neg h1, if_pos h7]
      rw [e]
      exact sm_move_refuse w B g vw ws nx gh hs dp hS m h1 h7 (by omega) h4 h5
    · obtain ⟨xs, b, u, rfl⟩ := sm_two_of (ws := ws) (fun q => h7 (.inl q))
      have hx : xs.length < 100 := by simp at hl; omega
      have hb := hok.mem b (by simp)
      have hu := hok.mem u (by simp)
      by_cases h8 : m = 76
      · subst h8
        rw [sm_mv_two 76 xs b u nx hs h1 (.inl rfl), if_pos rfl]
        exact sm_move_L w B g vw xs b u nx gh hs dp hS (by omega) hx h4 h5 hb.1 hb.2
      · obtain rfl : m = 82 := by by_cases q : m = 82; exact q; exact absurd (.inr ⟨h8, q⟩) h7
        rw [sm_mv_two 82 xs b u nx hs h1 (.inr rfl), if_neg (by omega)]
        exact sm_move_R w B g vw xs b u nx gh hs dp hS (by omega) hx h4 h5 hu.1 hu.2
theorem sm_made_blk (W : World) (n : Nat) : (W.alloc (.cells (madeCells #[Value.int .i64 0] n) 3)).heap[W.heap.size]? = some (.cells (nums .i64 (List.replicate n 0)).toArray 3 (0, 0)) := by
  rw [heap_alloc_new]
  congr 2
  rw [← Array.toList_inj]
  apply List.ext_getElem
  · simp [nums, madeCells]
  · intro i h1 h2
    simp [nums, madeCells, Nat.mod_one]
theorem sm_St.drewN {w : World} {B g : Nat} {vw : Value} {ws : List Int} {nx : Int} {gh : Nat} {hs : List Int} {dp : Int} (h : sm_St w B g vw ws nx gh hs dp) (n : Nat) : sm_St (w.drewN n) B g vw ws nx gh hs dp := h.upd (sm_grown_drewN _ _ _) (blk_drewN h.blk _)
def sm_addm (s : ByteArray) (ms : List Int) : ByteArray := ms.foldl (fun s m => s ++ Utf8.encode m) s
theorem sm_St.row {w : World} {B g : Nat} {vw : Value} {ws : List Int} {nx : Int} {gh : Nat} {hs : List Int} {dp : Int} (h : sm_St w B g vw ws nx gh hs dp) (hl : hs.length ≤ 100) : Kd.R (Kd.int .i64) 3 w B (fun _ => True) (.slice (some ⟨gh, 0, none⟩) hs.length hs.length) hs := by
  have hz : (Kd.int .i64).sz = 1 := rfl
  refine ⟨fun _ _ => trivial, nums .i64 hs, ⟨by simp [nums, hz], .inr ⟨gh, hs.length, _, rfl, h.low', h.hds, Nat.le_refl _, by unfold maxLen; omega, by simp [nums, hz], by rw [hz, Nat.mul_one]; simp only [nums]; exact List.take_of_length_le (by simp)⟩⟩, ?_⟩
  refine ⟨by simp [nums, hz], fun j p hj => ?_⟩
  show _ = [Value.int .i64 p]
  obtain ⟨h1, rfl⟩ := List.getElem?_eq_some_iff.1 hj
  rw [hz, Nat.mul_one, List.drop_eq_getElem_cons (by simpa [nums] using h1)]
  simp [nums]
def sm_RunP (w : World) (r1 : List Int) (r2 : Bool) (e : Ending) (w' : World) : Prop :=
  ∃ v0 : Value, e = .returned (.tuple #[v0, .bool r2]) ∧ Kd.R (Kd.int .i64) 3 w' w.heap.size (fun _ => True) v0 r1 ∧ Below w.heap.size w w'
end

end Go.Proofs.Ytbbhdgpiocojaaa.LF
