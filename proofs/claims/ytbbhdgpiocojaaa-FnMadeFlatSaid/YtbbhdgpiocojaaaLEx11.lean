/- Printed by a program of this session (wip/lp/lp.py) out of the translation: functions with the same answers as the Go code, and their contracts; no conditions beyond those that each theorem names. -/
import Derived.Test.YtbbhdgpiocojaaaLEx0
import Derived.Test.YtbbhdgpiocojaaaLEx2
namespace Go.Proofs.Ytbbhdgpiocojaaa.LE
open Go.RowKit Go.Proofs.YtbbhdgpiocojaaaV.PrintWords Go.Proofs.YtbbhdgpiocojaaaV.PrintLast Go.Proofs.YtbbhdgpiocojaaaV.PrintMore
attribute [local go_sem] max2_int min2_int max_two min_two max_three min_three max_four min_four   -- for this text's walks alone
set_option linter.unusedVariables false
set_option linter.unusedSimpArgs false

/-! ### impl_stack_push: function 118, told by hand -/
section
set_option maxHeartbeats 8000000
set_option maxRecDepth 100000
attribute [local go_sem ↓] Go.wp_at_zero Go.wp_at_succ
/-- the machine with a stack, as it lies in memory -/
structure sm_St (w : World) (B g : Nat) (vw : Value) (ws : List Int) (nx : Int) (gh : Nat) (hs : List Int) (dp : Int) : Prop where
  blk : w.heap[g]? = some (.cells #[vw, .int .i64 nx, .slice (some ⟨gh, 0, none⟩) hs.length hs.length, .int .i64 dp] 87 (0, 0))
  low : B ≤ g
  own : w.ownsRow B 3 1 vw ws.length (nums .i64 ws)
  far : vw.ownBlock ≠ some gh
  far' : vw.ownBlock ≠ some g
  hds : w.heap[gh]? = some (.cells (nums .i64 hs).toArray 3 (0, 0))
  low' : B ≤ gh
  ne : gh ≠ g
/-- the state behind a call that returns r -/
def sm_StP (w : World) (B g : Nat) (ws : List Int) (nx : Int) (gh : Nat) (hs : List Int) (r : Value) (e : Ending) (w' : World) : Prop :=
  ∃ vw dp, e = .returned r ∧ sm_St w' B g vw ws nx gh hs dp ∧ 0 ≤ dp ∧ dp ≤ 100000 ∧ Below B w w'
/-- how many of the first k words have the head x and have not got it yet -/
def sm_leftN (l hs : List Int) (x : Int) : Nat → Int
  | 0 => 0
  | k + 1 => sm_leftN l hs x k + if rd l k = x ∧ rd hs k = 0 then 1 else 0
theorem sm_leftN_succ (l hs : List Int) (x : Int) (k : Nat) : sm_leftN l hs x (k + 1) = sm_leftN l hs x k + if rd l k = x ∧ rd hs k = 0 then 1 else 0 := rfl
theorem sm_leftN_le (l hs : List Int) (x : Int) : ∀ k, 0 ≤ sm_leftN l hs x k ∧ sm_leftN l hs x k ≤ k
  | 0 => ⟨Int.le_refl _, Int.le_refl _⟩
  | k + 1 => by
    have := sm_leftN_le l hs x k
    rw [sm_leftN_succ]
    split <;> omega
theorem sm_owns_form {w : World} {B : Nat} {e : TypeId} {s : Nat} {v : Value} {n : Nat} {xs : List Value} (h : w.ownsRow B e s v n xs) : ∃ A c, v = .slice A n c := by
  obtain ⟨_, ⟨rfl, rfl⟩ | ⟨g, cap, cur, rfl, _⟩⟩ := h
  · exact ⟨_, _, rfl⟩
  · exact ⟨_, _, rfl⟩
theorem sm_grown_set {w W : World} {g : Nat} (h : w.grownBy W (some g)) (j : Nat) (u : Value) : w.grownBy (W.setCell ⟨g, j, none⟩ u) (some g) :=
  h.trans ⟨rfl, rfl, rfl, by simp, fun k _ hk => heap_setCell_other W ⟨g, j, none⟩ k u (fun e => hk (congrArg some e))⟩
theorem sm_grown_drew {w W : World} {r : Option Nat} (h : w.grownBy W r) : w.grownBy W.drew r := h.trans ⟨rfl, rfl, rfl, Nat.le_refl _, fun _ _ _ => rfl⟩
theorem sm_grown_drewN (w : World) (n : Nat) (r : Option Nat) : w.grownBy (w.drewN n) r := ⟨rfl, rfl, rfl, Nat.le_refl _, fun _ _ _ => rfl⟩
theorem sm_owns_low {w : World} {B : Nat} {e : TypeId} {s : Nat} {v : Value} {n : Nat} {xs : List Value} (h : w.ownsRow B e s v n xs) : ∀ k, v.ownBlock = some k → B ≤ k := by
  intro k hk
  obtain ⟨_, ⟨rfl, rfl⟩ | ⟨g, cap, cur, rfl, hb, _⟩⟩ := h
  · cases hk
  · cases hk; exact hb
theorem sm_St.upd {w W : World} {B g : Nat} {vw : Value} {ws : List Int} {nx : Int} {gh : Nat} {hs : List Int} {dp : Int} (h : sm_St w B g vw ws nx gh hs dp) (hg : w.grownBy W (some g)) {nx' dp' : Int}
    (hb : W.heap[g]? = some (.cells #[vw, .int .i64 nx', .slice (some ⟨gh, 0, none⟩) hs.length hs.length, .int .i64 dp'] 87 (0, 0))) : sm_St W B g vw ws nx' gh hs dp' := by
  refine ⟨hb, h.low, h.own.kept hg (.inr h.far'), h.far, h.far', ?_, h.low', h.ne⟩
  rw [hg.block gh (Array.getElem?_eq_some_iff.1 h.hds).1 (fun e => h.ne (by injection e))]
  exact h.hds
theorem sm_St.app {W1 W w1 : World} {B g gg cap : Nat} {vw : Value} {xs : List Int} {u nx : Int} {gh : Nat} {hs : List Int} {dp : Int} (h : sm_St W1 B g vw xs nx gh hs dp) (ho : ∀ k, k < W1.heap.size → W.heap[k]? = W1.heap[k]?) (hz : W.heap.size = W1.heap.size + 1)
    (hown : w1.ownsRow B 3 1 (.slice (some ⟨gg, 0, none⟩) (xs.length + 1) cap) (xs.length + 1) (nums .i64 xs ++ [.int .i64 u])) (hgrow : W.grownBy w1 vw.ownBlock) (hat : vw.ownBlock = some gg ∨ gg = W1.heap.size + 1) :
    sm_St (w1.setCell ⟨g, 0, none⟩ (.slice (some ⟨gg, 0, none⟩) (xs.length + 1) cap)) B g (.slice (some ⟨gg, 0, none⟩) (xs.length + 1) cap) (xs ++ [u]) nx gh hs dp := by
  have lg := (Array.getElem?_eq_some_iff.1 h.blk).1
  have lh := (Array.getElem?_eq_some_iff.1 h.hds).1
  have eg : gg ≠ g ∧ gg ≠ gh := by
    rcases hat with q | q
    · exact ⟨fun e => h.far' (by rw [q, e]), fun e => h.far (by rw [q, e])⟩
    · omega
  have b1 := ((hgrow.block g (by omega) (Ne.symm h.far')).trans (ho g lg)).trans h.blk
  have b2 := ((hgrow.block gh (by omega) (Ne.symm h.far)).trans (ho gh lh)).trans h.hds
  refine ⟨blk_put b1 0 _ rfl, h.low, ?_, by simp [Value.ownBlock]; exact eg.2, by simp [Value.ownBlock]; exact eg.1, (heap_setCell_other w1 ⟨g, 0, none⟩ gh _ h.ne).trans b2, h.low', h.ne⟩
  have := hown.kept (sm_grown_set (World.grownBy.refl w1 (some g)) 0 (.slice (some ⟨gg, 0, none⟩) (xs.length + 1) cap)) (.inr (by simp [Value.ownBlock]; exact eg.1))
  simpa [nums] using this
theorem sm_below_app {w W1 W w1 : World} {B g : Nat} {vw : Value} {xs : List Int} {nx : Int} {gh : Nat} {hs : List Int} {dp : Int} (h : sm_St W1 B g vw xs nx gh hs dp) (hb : Below B w W) (hgrow : W.grownBy w1 vw.ownBlock) (hz : B ≤ W.heap.size) (u : Value) : Below B w (w1.setCell ⟨g, 0, none⟩ u) :=
  (Below.grown hb hgrow hz (fun k hk => sm_owns_low h.own k hk)).setCell h.low _
theorem sm_push_yes (w : World) (B g : Nat) (vw : Value) (ws : List Int) (nx : Int) (gh : Nat) (hs : List Int) (dp : Int) (hS : sm_St w B g vw ws nx gh hs dp) (h0 : 0 ≤ nx) (h1 : nx < hs.length) (h2 : hs.length ≤ 100) (h3 : ws.length < 100000) (h4 : 0 ≤ dp) (h5 : dp ≤ 100000) :
    Calls Try.prog 118 #[.pointer (some ⟨g, 0, none⟩)] w (sm_StP w B g (ws ++ [nx + 1]) (nx + 1) gh hs (.bool true)) := by
  have HS := Aside0.mk hS
  obtain ⟨A, c, rfl⟩ := sm_owns_form hS.own
  have bk := hS.blk
  have k0 : w.cell? ⟨g, 0, none⟩ = some (.slice A ws.length c) := (blk_cell bk 0).trans rfl
  have k1 : w.cell? ⟨g, 1, none⟩ = some (.int .i64 nx) := (blk_cell bk 1).trans rfl
  have k2 : w.cell? ⟨g, 2, none⟩ = some (.slice (some ⟨gh, 0, none⟩) hs.length hs.length) := (blk_cell bk 2).trans rfl
  have f1 := blk_frozen bk 1
  have e1 : (nx == (hs.length : Int)) = false := by simp; omega
  clear bk hS
  go_enter Try.func118, Try.ntmps118
  go_wp2
  go_quiet (fail)
  go_wp2
  clear k0 k1 k2 f1
  have hS1 : sm_St ((w.drewN nq).setCell ⟨g, 1, none⟩ (.int .i64 (nx + 1))) B g (.slice A ws.length c) ws (nx + 1) gh hs dp := HS.out.upd (sm_grown_set (sm_grown_drewN _ _ _) _ _) (blk_put (cs := #[.slice A ws.length c, .int .i64 nx, .slice (some ⟨gh, 0, none⟩) hs.length hs.length, .int .i64 dp]) (blk_drewN HS.out.blk _) 1 _ rfl)
  have hb1 : Below B w ((w.drewN nq).setCell ⟨g, 1, none⟩ (.int .i64 (nx + 1))) := (pw_below_drewN (Below.refl _ _) _).setCell HS.out.low _
  generalize (w.drewN nq).setCell ⟨g, 1, none⟩ (.int .i64 (nx + 1)) = W1 at *
  have HS1 := Aside0.mk hS1
  have HB1 := Aside0.mk hb1
  have k0 : W1.cell? ⟨g, 0, none⟩ = some (.slice A ws.length c) := (blk_cell hS1.blk 0).trans rfl
  have k1 : W1.cell? ⟨g, 1, none⟩ = some (.int .i64 (nx + 1)) := (blk_cell hS1.blk 1).trans rfl
  have f0 := blk_frozen hS1.blk 0
  have lg : g < W1.heap.size := (Array.getElem?_eq_some_iff.1 hS1.blk).1
  have fg := hS1.far'
  have hB := Nat.le_trans hS1.low (Nat.le_of_lt lg)
  have hfa : ∀ o, (W1.alloc o).drew.frozen? ⟨g, 0, none⟩ = false := fun o => (World.frozen?_of_block (w := W1) (w' := (W1.alloc o).drew) (a := ⟨g, 0, none⟩) (Below.heap_alloc W1 o g lg)).trans f0
  have hca : ∀ o, (W1.alloc o).drew.cell? ⟨g, 0, none⟩ = some (.slice A ws.length c) := fun o => (World.cell?_of_block (w := W1) (w' := (W1.alloc o).drew) (a := ⟨g, 0, none⟩) (Below.heap_alloc W1 o g lg)).trans k0
  clear hS1 hb1 HS
  obtain ⟨i0, hi0, hz0, hz1, hz2⟩ := info_parts info3
  have HI := Aside0.mk hi0
  have HZ0 := Aside0.mk hz0
  have HZ1 := Aside0.mk hz1
  have HZ2 := Aside0.mk hz2
  clear hi0 hz0 hz1 hz2
  go_region_law
    ((refine step_append_lies _ (by rfl) _ _ _ (by rfl) B 3 i0 _ 1 8 Try.underlying22 HI.out HZ0.out HZ1.out HZ2.out rfl (by omega) (.slice A ws.length c) ws.length (nums .i64 ws) (by rfl) ((HS1.out.own.alloc _).drew)
        ⟨W1.heap.size, 0, none⟩ 1 1 [.int .i64 (nx + 1)] (by rfl) (by rfl) (World.news_of_block (cs := #[.int .i64 (nx + 1)]) (t := 3) (fr := (0, 0)) (heap_alloc_new W1 _)) (by simp [Value.oneCell'])
        (by omega) (by unfold maxLen; omega) (by omega) (by simp; omega) (W1.heap.size + 1) (by simp) ?_; intro gg cap w1 hown1 hgrow hat hlt; have kw : w1.cell? ⟨g, 0, none⟩ = some (.slice A ws.length c) := (hgrow.cell_far ⟨g, 0, none⟩ (by simp; omega) (Ne.symm fg)).trans (hca _); have fw : w1.frozen? ⟨g, 0, none⟩ = false := (hgrow.frozen_far ⟨g, 0, none⟩ (by simp; omega) (Ne.symm fg)).trans (hfa _)))
  all_goals
    have hS2 := HS1.out.app (W := (W1.alloc (.cells #[.int .i64 (nx + 1)] 3)).drew) (fun k hk => Below.heap_alloc W1 _ k hk) (by simp) hown1 hgrow hat
    have hb2 := sm_below_app HS1.out ((HB1.out.alloc hB (.cells #[.int .i64 (nx + 1)] 3)).drew) hgrow (by simp; omega) (.slice (some ⟨gg, 0, none⟩) (ws.length + 1) cap)
    generalize w1.setCell ⟨g, 0, none⟩ (.slice (some ⟨gg, 0, none⟩) (ws.length + 1) cap) = W2 at *
    have m0 : W2.cell? ⟨g, 0, none⟩ = some (.slice (some ⟨gg, 0, none⟩) (ws.length + 1) cap) := (blk_cell hS2.blk 0).trans rfl
    have m3 : W2.cell? ⟨g, 3, none⟩ = some (.int .i64 dp) := (blk_cell hS2.blk 3).trans rfl
    have f3 := blk_frozen hS2.blk 3
    have HS2 := Aside0.mk hS2
    have HB2 := Aside0.mk hb2
    clear hS2 hb2 hgrow hown1 hat kw fw HS1 HB1 hca hfa f0 k0 k1
    go_wp2
    go_region
    all_goals
      go_wp2
      all_goals
        go_ret
        exact ⟨_, _, rfl, HS2.out.upd (sm_grown_drew (sm_grown_set (World.grownBy.refl _ _) _ _)) (blk_drew (blk_put HS2.out.blk 3 _ rfl)), by first | omega | (split <;> omega), by first | omega | (split <;> omega), (HB2.out.setCell HS2.out.low _).drew⟩
theorem sm_push_no (w : World) (B g : Nat) (vw : Value) (ws : List Int) (nx : Int) (gh : Nat) (hs : List Int) (dp : Int) (hS : sm_St w B g vw ws nx gh hs dp) (h1 : nx = hs.length) (h2 : hs.length ≤ 100) (h4 : 0 ≤ dp) (h5 : dp ≤ 100000) :
    Calls Try.prog 118 #[.pointer (some ⟨g, 0, none⟩)] w (sm_StP w B g ws nx gh hs (.bool false)) := by
  have HS := Aside0.mk hS
  have bk := hS.blk
  have k1 : w.cell? ⟨g, 1, none⟩ = some (.int .i64 nx) := (blk_cell bk 1).trans rfl
  have k2 : w.cell? ⟨g, 2, none⟩ = some (.slice (some ⟨gh, 0, none⟩) hs.length hs.length) := (blk_cell bk 2).trans rfl
  have e1 : (nx == (hs.length : Int)) = true := by simp; omega
  clear bk hS h1
  go_enter Try.func118, Try.ntmps118
  go_wp2
  go_quiet (fail)
  go_wp2
  go_ret
  exact ⟨_, _, rfl, HS.out.upd (sm_grown_drewN _ _ _) (blk_drewN HS.out.blk _), h4, h5, pw_below_drewN (Below.refl _ _) _⟩
theorem sm_left_any (w : World) (B g : Nat) (vw : Value) (ws : List Int) (nx : Int) (gh : Nat) (hs : List Int) (dp : Int) (hS : sm_St w B g vw ws nx gh hs dp) (A : Option Addr) (c : Nat) (l : List Int) (hr : Kd.C (Kd.int .i64) w A l.length l) (hc : l.length ≤ c) (hl : l.length = hs.length) (hl2 : l.length ≤ 100) (x : Int) :
    Calls Try.prog 85 #[.pointer (some ⟨g, 0, none⟩), .slice A l.length c, .int .i64 x] w fun e w' => e = .returned (.int .i64 (sm_leftN l hs x l.length)) ∧ w' = w := by
  have HS := Aside0.mk hS
  have HR0 := Aside0.mk hr
  have bk := hS.blk
  have k2 : w.cell? ⟨g, 2, none⟩ = some (.slice (some ⟨gh, 0, none⟩) hs.length hs.length) := (blk_cell bk 2).trans rfl
  clear bk hS hr
  have HL := Aside0.mk hl
  clear hl
  go_enter Try.func85, Try.ntmps85
  go_wp2
  go_loop [7, 12] (fun v7 v12 => ∃ k : Nat, k ≤ l.length ∧ v12 = .int .i64 k ∧ v7 = .int .i64 (sm_leftN l hs x k)) (fun _ v => l.length - (match v with | .int _ n => n.toNat | _ => 0))
  case atStart => exact ⟨0, Nat.zero_le _, rfl, rfl⟩
  case round =>
    obtain ⟨k, hk, rfl, rfl⟩ := hrel
    have hd := sm_leftN_le l hs x k
    by_cases hlt : k < l.length
    · have p0 : (0 : Int) ≤ (k : Int) := Int.natCast_nonneg _
      have q0 : (k : Int) < (l.length : Int) := by omega
      obtain ⟨ad, e1, hx0⟩ := Kd.at_int HR0.out k p0 q0
      cases e1
      have hx : w.cell? (ad.add k) = some (.int .i64 (rd l k)) := by simpa using hx0
      clear hx0
      have q1 : (k : Int) < (hs.length : Int) := by rw [← HL.out]; exact q0
      have hy : w.cell? ⟨gh, k, none⟩ = some (.int .i64 (rd hs k)) := by
        rw [blk_cell HS.out.hds]
        simp [nums, rd, List.getD_eq_getElem?_getD, List.getElem?_eq_getElem (show k < hs.length by omega)]
      have H1 := Aside0.mk (sm_leftN_succ l hs x k)
      by_cases c1 : rd l k = x
      · have c1b : (rd l k == x) = true := beq_iff_eq.mpr c1
        by_cases c2 : rd hs k = 0
        · have c2b : (rd hs k == 0) = true := beq_iff_eq.mpr c2
          have H2 := Aside0.mk (H1.out.trans (by rw [if_pos ⟨c1, c2⟩]))
          clear c1 c2
          go_wp2
          go_round
          case rel => exact ⟨k + 1, by omega, by go_num, by rw [H2.out]⟩
          case measure => simp; omega
        · have c2b : (rd hs k == 0) = false := beq_eq_false_iff_ne.mpr c2
          have H2 := Aside0.mk (H1.out.trans (by rw [if_neg (fun h => c2 h.2)]))
          clear c1 c2
          go_wp2
          go_round
          case rel => exact ⟨k + 1, by omega, by go_num, by rw [H2.out]; go_num⟩
          case measure => simp; omega
      · have c1b : (rd l k == x) = false := beq_eq_false_iff_ne.mpr c1
        have H2 := Aside0.mk (H1.out.trans (by rw [if_neg (fun h => c1 h.1)]))
        clear c1
        go_wp2
        go_round
        case rel => exact ⟨k + 1, by omega, by go_num, by rw [H2.out]; go_num⟩
        case measure => simp; omega
    · go_wp2
      go_ret
      obtain rfl : k = l.length := by omega
      exact ⟨rfl, rfl⟩

theorem sm_St.upd' {w W : World} {B g : Nat} {vw : Value} {ws : List Int} {nx : Int} {gh : Nat} {hs : List Int} {dp : Int} (h : sm_St w B g vw ws nx gh hs dp) (hg : w.grownBy W (some g)) {vw' : Value} {ws' : List Int} (hv : vw'.ownBlock = vw.ownBlock) {nx' dp' : Int}
    (hb : W.heap[g]? = some (.cells #[vw', .int .i64 nx', .slice (some ⟨gh, 0, none⟩) hs.length hs.length, .int .i64 dp'] 87 (0, 0))) (ho : w.ownsRow B 3 1 vw' ws'.length (nums .i64 ws')) : sm_St W B g vw' ws' nx' gh hs dp' := by
  refine ⟨hb, h.low, ho.kept hg (.inr (by rw [hv]; exact h.far')), by rw [hv]; exact h.far, by rw [hv]; exact h.far', ?_, h.low', h.ne⟩
  rw [hg.block gh (Array.getElem?_eq_some_iff.1 h.hds).1 (fun e => h.ne (by injection e))]
  exact h.hds
/-- the two upper words taken away -/
theorem sm_owns_cut {w : World} {B gw c : Nat} {xs : List Int} {b u : Int} (h : w.ownsRow B 3 1 (.slice (some ⟨gw, 0, none⟩) (xs.length + 2) c) (xs.length + 2) (nums .i64 (xs ++ [b, u]))) : w.ownsRow B 3 1 (.slice (some ⟨gw, 0, none⟩) xs.length c) xs.length (nums .i64 xs) := by
  obtain ⟨_, ⟨h1, h2⟩ | ⟨g, cap, cur, h1, h2, h3, h4, h5, h6, h7⟩⟩ := h
  · cases h1
  · cases h1
    refine ⟨by simp [nums], .inr ⟨_, _, cur, rfl, h2, h3, by omega, h5, h6, ?_⟩⟩
    have := congrArg (List.take xs.length) h7
    rw [List.take_take] at this
    simpa [nums, Nat.min_eq_left] using this
theorem sm_move_refuse (w : World) (B g : Nat) (vw : Value) (ws : List Int) (nx : Int) (gh : Nat) (hs : List Int) (dp : Int) (hS : sm_St w B g vw ws nx gh hs dp) (m : Int) (h1 : ¬ m = 83) (h2 : ws.length < 2 ∨ (m ≠ 76 ∧ m ≠ 82)) (h3 : ws.length ≤ 100) (h4 : 0 ≤ dp) (h5 : dp ≤ 100000) :
    Calls Try.prog 86 #[.pointer (some ⟨g, 0, none⟩), .int .u8 m] w (sm_StP w B g ws nx gh hs (.bool false)) := by
  have HS := Aside0.mk hS
  obtain ⟨A, c, rfl⟩ := sm_owns_form hS.own
  have bk := hS.blk
  have k0 : w.cell? ⟨g, 0, none⟩ = some (.slice A ws.length c) := (blk_cell bk 0).trans rfl
  have e1 : (m == 83) = false := beq_eq_false_iff_ne.mpr h1
  clear bk hS h1
  by_cases h6 : ws.length < 2
  · have e2 : decide ((ws.length : Int) < 2) = true := decide_eq_true (by omega)
    go_enter Try.func86, Try.ntmps86
    go_wp2
    go_ret
    exact ⟨_, _, rfl, HS.out, h4, h5, Below.refl _ _⟩
  · obtain ⟨p1, p2⟩ := h2.resolve_left h6
    have e2 : decide ((ws.length : Int) < 2) = false := decide_eq_false (by omega)
    have e3 : (m != 76) = true := bne_iff_ne.mpr p1
    have e4 : (m != 82) = true := bne_iff_ne.mpr p2
    clear p1 p2 h2
    go_enter Try.func86, Try.ntmps86
    go_wp2
    go_ret
    exact ⟨_, _, rfl, HS.out, h4, h5, Below.refl _ _⟩
theorem sm_move_push (w : World) (B g : Nat) (vw : Value) (ws : List Int) (nx : Int) (gh : Nat) (hs : List Int) (dp : Int) (hS : sm_St w B g vw ws nx gh hs dp) (h0 : 0 ≤ nx) (h1 : nx < hs.length) (h2 : hs.length ≤ 100) (h3 : ws.length < 100) (h4 : 0 ≤ dp) (h5 : dp ≤ 100000) :
    Calls Try.prog 86 #[.pointer (some ⟨g, 0, none⟩), .int .u8 83] w (sm_StP w B g (ws ++ [nx + 1]) (nx + 1) gh hs (.bool true)) := by
  have HS := Aside0.mk hS
  obtain ⟨A, c, rfl⟩ := sm_owns_form hS.own
  have bk := hS.blk
  have k0 : w.cell? ⟨g, 0, none⟩ = some (.slice A ws.length c) := (blk_cell bk 0).trans rfl
  clear bk hS
  go_enter Try.func86, Try.ntmps86
  go_wp2_with (go_at_call 118; (with_reducible refine (sm_push_yes _ B g _ ws nx gh hs dp HS.out h0 h1 h2 (by omega) h4 h5).mono ?_); rintro e w1 ⟨v1, d1, rfl, s1, s2, s3, s4⟩)
  go_ret
  exact ⟨_, _, rfl, s1, s2, s3, s4⟩
theorem sm_move_full (w : World) (B g : Nat) (vw : Value) (ws : List Int) (nx : Int) (gh : Nat) (hs : List Int) (dp : Int) (hS : sm_St w B g vw ws nx gh hs dp) (h1 : nx = hs.length) (h2 : hs.length ≤ 100) (h3 : ws.length < 100) (h4 : 0 ≤ dp) (h5 : dp ≤ 100000) :
    Calls Try.prog 86 #[.pointer (some ⟨g, 0, none⟩), .int .u8 83] w (sm_StP w B g ws nx gh hs (.bool false)) := by
  have HS := Aside0.mk hS
  obtain ⟨A, c, rfl⟩ := sm_owns_form hS.own
  have bk := hS.blk
  have k0 : w.cell? ⟨g, 0, none⟩ = some (.slice A ws.length c) := (blk_cell bk 0).trans rfl
  have H1 := Aside0.mk h1
  clear bk hS h1
  go_enter Try.func86, Try.ntmps86
  go_wp2_with (go_at_call 118; (with_reducible refine (sm_push_no _ B g _ ws nx gh hs dp HS.out H1.out h2 h4 h5).mono ?_); rintro e w1 ⟨v1, d1, rfl, s1, s2, s3, s4⟩)
  go_ret
  exact ⟨_, _, rfl, s1, s2, s3, s4⟩
theorem sm_St.put_head {w : World} {B g : Nat} {vw : Value} {ws : List Int} {nx : Int} {gh : Nat} {hs : List Int} {dp : Int} (h : sm_St w B g vw ws nx gh hs dp) (j : Nat) (u : Int) : sm_St (w.setCell ⟨gh, j, none⟩ (.int .i64 u)) B g vw ws nx gh (hs.set j u) dp := by
  refine ⟨?_, h.low, h.own.kept (sm_grown_set (World.grownBy.refl _ _) _ _) (.inr h.far), h.far, h.far', ?_, h.low', h.ne⟩
  · rw [heap_setCell_other w ⟨gh, j, none⟩ g _ (Ne.symm h.ne), List.length_set]
    exact h.blk
  · refine blk_put h.hds j _ ?_
    simp [nums, List.map_set]
theorem sm_move_L (w : World) (B g : Nat) (vw : Value) (xs : List Int) (b u nx : Int) (gh : Nat) (hs : List Int) (dp : Int) (hS : sm_St w B g vw (xs ++ [b, u]) nx gh hs dp) (h2 : hs.length ≤ 100) (h3 : xs.length < 100) (h4 : 0 ≤ dp) (h5 : dp ≤ 100000) (b1 : 1 ≤ b) (b2 : b ≤ hs.length) :
    Calls Try.prog 86 #[.pointer (some ⟨g, 0, none⟩), .int .u8 76] w (sm_StP w B g (xs ++ [u]) nx gh (hs.set (b.toNat - 1) u) (.bool true)) := by
  have HS := Aside0.mk hS
  obtain ⟨gw, c, rfl, -, -⟩ := hS.own.form (by simp)
  have hl : (xs ++ [b, u]).length = xs.length + 2 := by simp
  have ho := hS.own
  have bk := hS.blk
  rw [hl] at ho bk
  have k0 : w.cell? ⟨g, 0, none⟩ = some (.slice (some ⟨gw, 0, none⟩) (xs.length + 2) c) := (blk_cell bk 0).trans rfl
  have k2 : w.cell? ⟨g, 2, none⟩ = some (.slice (some ⟨gh, 0, none⟩) hs.length hs.length) := (blk_cell bk 2).trans rfl
  have f0 := blk_frozen bk 0
  have c0 : w.cell? ⟨gw, xs.length, none⟩ = some (.int .i64 b) := by
    have := ho.cells (g := gw) rfl xs.length (.int .i64 b) (by simp [nums])
    simpa [add_plain] using this
  have c1 : w.cell? ⟨gw, xs.length + 1, none⟩ = some (.int .i64 u) := by
    have := ho.cells (g := gw) rfl (xs.length + 1) (.int .i64 u) (by simp [nums])
    simpa [add_plain] using this
  have hc0 : xs.length ≤ c := by
    obtain ⟨_, ⟨h1, _⟩ | ⟨_, _, _, h1, _, _, h4, _⟩⟩ := ho
    · cases h1
    · cases h1; omega
  have BK := Aside0.mk bk
  have HO := Aside0.mk ho
  clear bk ho hS hl
  have p1 : (0 : Int) ≤ (xs.length : Int) := Int.natCast_nonneg _
  have hc : w.cell? ⟨gh, b.toNat - 1, none⟩ = some (.int .i64 (rd hs (b - 1))) := by
    rw [blk_cell HS.out.hds]
    simp [nums, rd, List.getD_eq_getElem?_getD, List.getElem?_eq_getElem (show b.toNat - 1 < hs.length by omega)]
  have hf := blk_frozen HS.out.hds (b.toNat - 1)
  have hne := HS.out.ne
  go_enter Try.func86, Try.ntmps86
  go_wp2
  go_quiet (fail)
  go_upto_region 10 with (fail)
  have hS1 := (HS.out.upd' (W := (w.drewN nq).setCell ⟨g, 0, none⟩ (.slice (some ⟨gw, 0, none⟩) xs.length c)) (sm_grown_set (sm_grown_drewN _ _ _) _ _) (vw' := .slice (some ⟨gw, 0, none⟩) xs.length c) (ws' := xs) rfl (blk_put (blk_drewN BK.out _) 0 _ rfl) (sm_owns_cut HO.out)).put_head (b.toNat - 1) u
  have hb1 := ((pw_below_drewN (Below.refl B w) nq).setCell (p := ⟨g, 0, none⟩) HS.out.low (.slice (some ⟨gw, 0, none⟩) xs.length c)).setCell (p := ⟨gh, b.toNat - 1, none⟩) HS.out.low' (.int .i64 u)
  generalize ((w.drewN nq).setCell ⟨g, 0, none⟩ (.slice (some ⟨gw, 0, none⟩) xs.length c)).setCell ⟨gh, b.toNat - 1, none⟩ (.int .i64 u) = W1 at *
  have HS1 := Aside0.mk hS1
  have HB1 := Aside0.mk hb1
  have k0 : W1.cell? ⟨g, 0, none⟩ = some (.slice (some ⟨gw, 0, none⟩) xs.length c) := (blk_cell hS1.blk 0).trans rfl
  have lg : g < W1.heap.size := (Array.getElem?_eq_some_iff.1 hS1.blk).1
  have f0 : ∀ o, (W1.alloc o).frozen? ⟨g, 0, none⟩ = false := fun o => (World.frozen?_of_block (w := W1) (w' := W1.alloc o) (a := ⟨g, 0, none⟩) (Below.heap_alloc W1 o g lg)).trans (blk_frozen hS1.blk 0)
  have c0 : ∀ o, (W1.alloc o).cell? ⟨g, 0, none⟩ = some (.slice (some ⟨gw, 0, none⟩) xs.length c) := fun o => (World.cell?_of_block (w := W1) (w' := W1.alloc o) (a := ⟨g, 0, none⟩) (Below.heap_alloc W1 o g lg)).trans k0
  have fg := hS1.far'
  have hB := Nat.le_trans hS1.low (Nat.le_of_lt lg)
  clear hS1 hb1
  obtain ⟨i0, hi0, hz0, hz1, hz2⟩ := info_parts info3
  have HI := Aside0.mk hi0
  have HZ0 := Aside0.mk hz0
  have HZ1 := Aside0.mk hz1
  have HZ2 := Aside0.mk hz2
  clear hi0 hz0 hz1 hz2
  go_wp2_with (at_builtin; refine wpList_append_lies _ (by rfl) _ _ _ (by rfl) B 3 i0 _ 1 8 Try.underlying22 HI.out HZ0.out HZ1.out HZ2.out rfl (by omega) (.slice (some ⟨gw, 0, none⟩) xs.length c) xs.length (nums .i64 xs) (by rfl) (HS1.out.own.alloc _) ⟨W1.heap.size, 0, none⟩ 1 1 [.int .i64 u] (by rfl) (by rfl) (World.news_of_block (cs := #[.int .i64 u]) (t := 3) (fr := (0, 0)) (heap_alloc_new W1 _)) (by simp [Value.oneCell']) (by omega) (by unfold maxLen; omega) (by omega) (by simp; omega) (W1.heap.size + 1) (by simp) ?_; intro gg cap w1 hown1 hgrow hat hlt; have kw : w1.cell? ⟨g, 0, none⟩ = some (.slice (some ⟨gw, 0, none⟩) xs.length c) := (hgrow.cell_far ⟨g, 0, none⟩ (by simp; omega) (Ne.symm fg)).trans (c0 _); have fw : w1.frozen? ⟨g, 0, none⟩ = false := (hgrow.frozen_far ⟨g, 0, none⟩ (by simp; omega) (Ne.symm fg)).trans (f0 _))
  go_ret
  exact ⟨_, _, rfl, HS1.out.app (W := W1.alloc (.cells #[.int .i64 u] 3)) (fun k hk => Below.heap_alloc W1 _ k hk) (by simp) hown1 hgrow hat, h4, h5, sm_below_app HS1.out (HB1.out.alloc hB (.cells #[.int .i64 u] 3)) hgrow (by simp; omega) _⟩
theorem sm_move_R (w : World) (B g : Nat) (vw : Value) (xs : List Int) (b u nx : Int) (gh : Nat) (hs : List Int) (dp : Int) (hS : sm_St w B g vw (xs ++ [b, u]) nx gh hs dp) (h2 : hs.length ≤ 100) (h3 : xs.length < 100) (h4 : 0 ≤ dp) (h5 : dp ≤ 100000) (b1 : 1 ≤ u) (b2 : u ≤ hs.length) :
    Calls Try.prog 86 #[.pointer (some ⟨g, 0, none⟩), .int .u8 82] w (sm_StP w B g (xs ++ [b]) nx gh (hs.set (u.toNat - 1) b) (.bool true)) := by
  have HS := Aside0.mk hS
  obtain ⟨gw, c, rfl, -, -⟩ := hS.own.form (by simp)
  have hl : (xs ++ [b, u]).length = xs.length + 2 := by simp
  have ho := hS.own
  have bk := hS.blk
  rw [hl] at ho bk
  have k0 : w.cell? ⟨g, 0, none⟩ = some (.slice (some ⟨gw, 0, none⟩) (xs.length + 2) c) := (blk_cell bk 0).trans rfl
  have k2 : w.cell? ⟨g, 2, none⟩ = some (.slice (some ⟨gh, 0, none⟩) hs.length hs.length) := (blk_cell bk 2).trans rfl
  have f0 := blk_frozen bk 0
  have c0 : w.cell? ⟨gw, xs.length, none⟩ = some (.int .i64 b) := by
    have := ho.cells (g := gw) rfl xs.length (.int .i64 b) (by simp [nums])
    simpa [add_plain] using this
  have c1 : w.cell? ⟨gw, xs.length + 1, none⟩ = some (.int .i64 u) := by
    have := ho.cells (g := gw) rfl (xs.length + 1) (.int .i64 u) (by simp [nums])
    simpa [add_plain] using this
  have hc0 : xs.length ≤ c := by
    obtain ⟨_, ⟨h1, _⟩ | ⟨_, _, _, h1, _, _, h4, _⟩⟩ := ho
    · cases h1
    · cases h1; omega
  have BK := Aside0.mk bk
  have HO := Aside0.mk ho
  clear bk ho hS hl
  have p1 : (0 : Int) ≤ (xs.length : Int) := Int.natCast_nonneg _
  have hc : w.cell? ⟨gh, u.toNat - 1, none⟩ = some (.int .i64 (rd hs (u - 1))) := by
    rw [blk_cell HS.out.hds]
    simp [nums, rd, List.getD_eq_getElem?_getD, List.getElem?_eq_getElem (show u.toNat - 1 < hs.length by omega)]
  have hf := blk_frozen HS.out.hds (u.toNat - 1)
  have hne := HS.out.ne
  go_enter Try.func86, Try.ntmps86
  go_wp2
  go_quiet (fail)
  go_upto_region 12 with (fail)
  have hS1 := (HS.out.upd' (W := (w.drewN nq).setCell ⟨g, 0, none⟩ (.slice (some ⟨gw, 0, none⟩) xs.length c)) (sm_grown_set (sm_grown_drewN _ _ _) _ _) (vw' := .slice (some ⟨gw, 0, none⟩) xs.length c) (ws' := xs) rfl (blk_put (blk_drewN BK.out _) 0 _ rfl) (sm_owns_cut HO.out)).put_head (u.toNat - 1) b
  have hb1 := ((pw_below_drewN (Below.refl B w) nq).setCell (p := ⟨g, 0, none⟩) HS.out.low (.slice (some ⟨gw, 0, none⟩) xs.length c)).setCell (p := ⟨gh, u.toNat - 1, none⟩) HS.out.low' (.int .i64 b)
  generalize ((w.drewN nq).setCell ⟨g, 0, none⟩ (.slice (some ⟨gw, 0, none⟩) xs.length c)).setCell ⟨gh, u.toNat - 1, none⟩ (.int .i64 b) = W1 at *
  have HS1 := Aside0.mk hS1
  have HB1 := Aside0.mk hb1
  have k0 : W1.cell? ⟨g, 0, none⟩ = some (.slice (some ⟨gw, 0, none⟩) xs.length c) := (blk_cell hS1.blk 0).trans rfl
  have lg : g < W1.heap.size := (Array.getElem?_eq_some_iff.1 hS1.blk).1
  have f0 : ∀ o, (W1.alloc o).frozen? ⟨g, 0, none⟩ = false := fun o => (World.frozen?_of_block (w := W1) (w' := W1.alloc o) (a := ⟨g, 0, none⟩) (Below.heap_alloc W1 o g lg)).trans (blk_frozen hS1.blk 0)
  have c0 : ∀ o, (W1.alloc o).cell? ⟨g, 0, none⟩ = some (.slice (some ⟨gw, 0, none⟩) xs.length c) := fun o => (World.cell?_of_block (w := W1) (w' := W1.alloc o) (a := ⟨g, 0, none⟩) (Below.heap_alloc W1 o g lg)).trans k0
  have fg := hS1.far'
  have hB := Nat.le_trans hS1.low (Nat.le_of_lt lg)
  clear hS1 hb1
  obtain ⟨i0, hi0, hz0, hz1, hz2⟩ := info_parts info3
  have HI := Aside0.mk hi0
  have HZ0 := Aside0.mk hz0
  have HZ1 := Aside0.mk hz1
  have HZ2 := Aside0.mk hz2
  clear hi0 hz0 hz1 hz2
  go_wp2_with (at_builtin; refine wpList_append_lies _ (by rfl) _ _ _ (by rfl) B 3 i0 _ 1 8 Try.underlying22 HI.out HZ0.out HZ1.out HZ2.out rfl (by omega) (.slice (some ⟨gw, 0, none⟩) xs.length c) xs.length (nums .i64 xs) (by rfl) (HS1.out.own.alloc _) ⟨W1.heap.size, 0, none⟩ 1 1 [.int .i64 b] (by rfl) (by rfl) (World.news_of_block (cs := #[.int .i64 b]) (t := 3) (fr := (0, 0)) (heap_alloc_new W1 _)) (by simp [Value.oneCell']) (by omega) (by unfold maxLen; omega) (by omega) (by simp; omega) (W1.heap.size + 1) (by simp) ?_; intro gg cap w1 hown1 hgrow hat hlt; have kw : w1.cell? ⟨g, 0, none⟩ = some (.slice (some ⟨gw, 0, none⟩) xs.length c) := (hgrow.cell_far ⟨g, 0, none⟩ (by simp; omega) (Ne.symm fg)).trans (c0 _); have fw : w1.frozen? ⟨g, 0, none⟩ = false := (hgrow.frozen_far ⟨g, 0, none⟩ (by simp; omega) (Ne.symm fg)).trans (f0 _))
  go_ret
  exact ⟨_, _, rfl, HS1.out.app (W := W1.alloc (.cells #[.int .i64 b] 3)) (fun k hk => Below.heap_alloc W1 _ k hk) (by simp) hown1 hgrow hat, h4, h5, sm_below_app HS1.out (HB1.out.alloc hB (.cells #[.int .i64 b] 3)) hgrow (by simp; omega) _⟩

/-- one move: whether it can be done, and the state behind it -/
def sm_mv (m : Int) (ws : List Int) (nx : Int) (hs : List Int) : Bool × List Int × Int × List Int :=
  if m = 83 then (if nx = hs.length then (false, ws, nx, hs) else (true, ws ++ [nx + 1], nx + 1, hs))
  else if ws.length < 2 ∨ (m ≠ 76 ∧ m ≠ 82) then (false, ws, nx, hs)
  else if m = 76 then (true, ws.take (ws.length - 2) ++ [ws.getD (ws.length - 1) 0], nx, hs.set ((ws.getD (ws.length - 2) 0).toNat - 1) (ws.getD (ws.length - 1) 0))
  else (true, ws.take (ws.length - 2) ++ [ws.getD (ws.length - 2) 0], nx, hs.set ((ws.getD (ws.length - 1) 0).toNat - 1) (ws.getD (ws.length - 2) 0))
/-- the words on the stack have been put on it, and are words -/
structure sm_Okm (ws : List Int) (nx : Int) (hs : List Int) : Prop where
  n0 : 0 ≤ nx
  n1 : nx ≤ hs.length
  len : ws.length ≤ nx
  mem : ∀ x ∈ ws, 1 ≤ x ∧ x ≤ hs.length
theorem sm_two_of {ws : List Int} (h : ¬ ws.length < 2) : ∃ xs b u, ws = xs ++ [b, u] := by
  obtain ⟨n, hn⟩ : ∃ n, ws.length = n + 2 := ⟨ws.length - 2, by omega⟩
  refine ⟨ws.take n, ws[n], ws[n + 1], ?_⟩
  conv => lhs; rw [← List.take_append_drop n ws]
  congr 1
  rw [List.drop_eq_getElem_cons (by omega), List.drop_eq_getElem_cons (by omega), List.drop_eq_nil_of_le (by omega)]
theorem sm_mv_two (m : Int) (xs : List Int) (b u nx : Int) (hs : List Int) (h : ¬ m = 83) (h2 : m = 76 ∨ m = 82) : sm_mv m (xs ++ [b, u]) nx hs = if m = 76 then (true, xs ++ [u], nx, hs.set (b.toNat - 1) u) else (true, xs ++ [b], nx, hs.set (u.toNat - 1) b) := by
  have e1 : (xs ++ [b, u]).getD (xs.length + 1) 0 = u := by simp [List.getD_eq_getElem?_getD]
  have e2 : (xs ++ [b, u]).getD xs.length 0 = b := by simp [List.getD_eq_getElem?_getD]
  unfold sm_mv
  rw [if_neg h, if_neg (by simp; omega)]
  simp only [List.length_append, List.length_cons, List.length_nil, Nat.zero_add, show xs.length + 2 - 1 = xs.length + 1 by omega, show xs.length + 2 - 2 = xs.length by omega, e1, e2]
  simp
theorem sm_okm_mv (m : Int) {ws : List Int} {nx : Int} {hs : List Int} (h : sm_Okm ws nx hs) : sm_Okm (sm_mv m ws nx hs).2.1 (sm_mv m ws nx hs).2.2.1 (sm_mv m ws nx hs).2.2.2 ∧ (sm_mv m ws nx hs).2.2.2.length = hs.length := by
  by_cases h1 : m = 83
  · unfold sm_mv
    rw [if_pos h1]
    split
    · exact ⟨h, rfl⟩
    · obtain ⟨a, b, c, d⟩ := h
      refine ⟨⟨by simp; omega, by simp; omega, by simp; omega, ?_⟩, rfl⟩
      intro x hx
      simp only [List.mem_append, List.mem_singleton] at hx
      rcases hx with hx | rfl
      · exact d x hx
      · simp; omega
  · by_cases h2 : ws.length < 2 ∨ (m ≠ 76 ∧ m ≠ 82)
    · unfold sm_mv
      rw [if_neg h1, if_pos h2]
      exact ⟨h, rfl⟩
    · obtain ⟨xs, b, u, rfl⟩ := sm_two_of (ws := ws) (fun q => h2 (.inl q))
      rw [sm_mv_two m xs b u nx hs h1 (by by_cases q : m = 76; exact .inl q; by_cases q' : m = 82; exact .inr q'; exact absurd (.inr ⟨q, q'⟩) h2)]
      obtain ⟨a, b', c, d⟩ := h
      simp only [List.length_append, List.length_cons, List.length_nil] at c
      split <;> refine ⟨⟨a, by simpa using b', by simp; omega, ?_⟩, by simp⟩ <;>
      · intro x hx
        have := d x (by simp at hx ⊢; rcases hx with hx | hx <;> simp [hx])
        simpa using this
theorem sm_move_any (w : World) (B g : Nat) (vw : Value) (ws : List Int) (nx : Int) (gh : Nat) (hs : List Int) (dp : Int) (hS : sm_St w B g vw ws nx gh hs dp) (hok : sm_Okm ws nx hs) (h2 : hs.length ≤ 90) (h4 : 0 ≤ dp) (h5 : dp ≤ 100000) (m : Int) :
    Calls Try.prog 86 #[.pointer (some ⟨g, 0, none⟩), .int .u8 m] w (sm_StP w B g (sm_mv m ws nx hs).2.1 (sm_mv m ws nx hs).2.2.1 gh (sm_mv m ws nx hs).2.2.2 (.bool (sm_mv m ws nx hs).1)) := by
  have hl : ws.length ≤ 90 := by have := hok.len; have := hok.n1; omega
  by_cases h1 : m = 83
  · subst h1
    by_cases h6 : nx = hs.length
    · have e : sm_mv 83 ws nx hs = (false, ws, nx, hs) := by unfold sm_mv; rw [if_pos rfl, if_pos h6]
      rw [e]
      exact sm_move_full w B g vw ws nx gh hs dp hS h6 (by omega) (by omega) h4 h5
    · have e : sm_mv 83 ws nx hs = (true, ws ++ [nx + 1], nx + 1, hs) := by unfold sm_mv; rw [if_pos rfl, if_neg h6]
      rw [e]
      exact sm_move_push w B g vw ws nx gh hs dp hS hok.n0 (by have := hok.n1; omega) (by omega) (by omega) h4 h5
  · by_cases h7 : ws.length < 2 ∨ (m ≠ 76 ∧ m ≠ 82)
    · have e : sm_mv m ws nx hs = (false, ws, nx, hs) := by unfold sm_mv; rw [if_neg h1, if_pos h7]
      rw [e]
      exact sm_move_refuse w B g vw ws nx gh hs dp hS m h1 h7 (by omega) h4 h5
    · obtain ⟨xs, b, u, rfl⟩ := sm_two_of (ws := ws) (fun q => h7 (.inl q))
      have hx : xs.length < 100 := by simp at hl; omega
      have hb := hok.mem b (by simp)
      have hu := hok.mem u (by simp)
      by_cases h8 : m = 76
      · subst h8
        rw [sm_mv_two 76 xs b u nx hs h1 (.inl rfl), if_pos rfl]
        exact sm_move_L w B g vw xs b u nx gh hs dp hS (by omega) hx h4 h5 hb.1 hb.2
      · obtain rfl : m = 82 := by by_cases q : m = 82; exact q; exact absurd (.inr ⟨h8, q⟩) h7
        rw [sm_mv_two 82 xs b u nx hs h1 (.inr rfl), if_neg (by omega)]
        exact sm_move_R w B g vw xs b u nx gh hs dp hS (by omega) hx h4 h5 hu.1 hu.2
theorem sm_made_blk (W : World) (n : Nat) : (W.alloc (.cells (madeCells #[Value.int .i64 0] n) 3)).heap[W.heap.size]? = some (.cells (nums .i64 (List.replicate n 0)).toArray 3 (0, 0)) := by
  rw [heap_alloc_new]
  congr 2
  rw [← Array.toList_inj]
  apply List.ext_getElem
  · simp [nums, madeCells]
  · intro i h1 h2
    simp [nums, madeCells, Nat.mod_one]
end

/-! ### impl_MovesFor: function 39, told by hand -/
section
set_option maxHeartbeats 8000000
set_option maxRecDepth 100000
/-- the move that the sm_rule tells -/
def sm_rule (l ws hs : List Int) : Int :=
  if ws.length < 2 then 83
  else if rd l (ws.getD (ws.length - 2) 0 - 1) = ws.getD (ws.length - 1) 0 ∧ sm_leftN l hs (ws.getD (ws.length - 2) 0) l.length = 0 then 76
  else if rd l (ws.getD (ws.length - 1) 0 - 1) = ws.getD (ws.length - 2) 0 ∧ sm_leftN l hs (ws.getD (ws.length - 1) 0) l.length = 0 then 82
  else 83
theorem sm_rule_two (l xs : List Int) (b u : Int) (hs : List Int) : sm_rule l (xs ++ [b, u]) hs = if rd l (b - 1) = u ∧ sm_leftN l hs b l.length = 0 then 76 else if rd l (u - 1) = b ∧ sm_leftN l hs u l.length = 0 then 82 else 83 := by
  have e1 : (xs ++ [b, u]).getD (xs.length + 1) 0 = u := by simp [List.getD_eq_getElem?_getD]
  have e2 : (xs ++ [b, u]).getD xs.length 0 = b := by simp [List.getD_eq_getElem?_getD]
  unfold sm_rule
  rw [if_neg (by simp)]
  simp only [List.length_append, List.length_cons, List.length_nil, Nat.zero_add, show xs.length + 2 - 1 = xs.length + 1 by omega, show xs.length + 2 - 2 = xs.length by omega, e1, e2]
/-- the moves of so many rounds -/
def sm_told (l : List Int) : Nat → List Int → Int → List Int → List Int
  | 0, _, _, _ => []
  | k + 1, ws, nx, hs => sm_rule l ws hs :: sm_told l k (sm_mv (sm_rule l ws hs) ws nx hs).2.1 (sm_mv (sm_rule l ws hs) ws nx hs).2.2.1 (sm_mv (sm_rule l ws hs) ws nx hs).2.2.2
def sm_addm (s : ByteArray) (ms : List Int) : ByteArray := ms.foldl (fun s m => s ++ Utf8.encode m) s
theorem sm_rule_in (l ws hs : List Int) : sm_rule l ws hs = 83 ∨ sm_rule l ws hs = 76 ∨ sm_rule l ws hs = 82 := by
  unfold sm_rule
  split
  · exact .inl rfl
  · split
    · exact .inr (.inl rfl)
    · split
      · exact .inr (.inr rfl)
      · exact .inl rfl
theorem sm_code_one {m : Int} (h : m = 83 ∨ m = 76 ∨ m = 82) : Utf8.encode m = ⟨#[m.toNat.toUInt8]⟩ := by
  rcases h with rfl | rfl | rfl <;> rfl
theorem sm_code_size {m : Int} (h : m = 83 ∨ m = 76 ∨ m = 82) : (Utf8.encode m).size = 1 := by
  rw [sm_code_one h]
  rfl
theorem sm_St.drewN {w : World} {B g : Nat} {vw : Value} {ws : List Int} {nx : Int} {gh : Nat} {hs : List Int} {dp : Int} (h : sm_St w B g vw ws nx gh hs dp) (n : Nat) : sm_St (w.drewN n) B g vw ws nx gh hs dp := h.upd (sm_grown_drewN _ _ _) (blk_drewN h.blk _)
theorem sm_MovesFor_yes (k : Nat) (A0 : Option Addr) (c0 : Nat) (l0 : List Int) (w : World) (hr0 : Kd.C (Kd.int .i64) w A0 l0.length l0) (hc0 : l0.length ≤ c0) (h : impl_FlatOk.f k l0 = some true) (hl1 : 1 ≤ l0.length) (hl2 : l0.length ≤ 8) (R : ByteArray) (hR : sm_addm ⟨#[]⟩ (sm_told l0 (2 * l0.length - 1) [] 0 (List.replicate l0.length 0)) = R) :
    Calls Try.prog 39 #[.slice A0 l0.length c0] w fun e w' => e = .returned (.tuple #[.string R, .bool true]) ∧ Below w.heap.size w w' := by
  have HR0 := Aside0.mk hr0
  have HC0 := Aside0.mk hc0
  have H := Aside0.mk h
  have HRR := Aside0.mk hR
  clear hr0 hc0 h hR
  have hm := print_make (P := Try.prog) 22 3 .i64 8 Try.underlying22 info3 (by omega) l0.length (by omega)
  go_enter Try.func39, Try.ntmps39
  go_upto_region 3 with (go_at_call 33; (with_reducible refine (impl_FlatOk.calls k _ _ l0 true _ HR0.out HC0.out H.out).mono ?_); rintro e w1 ⟨rfl, hb1⟩)
  go_region
  go_wp2
  have hS0 : sm_St ((w1.alloc (.cells (madeCells #[.int .i64 0] l0.length) 3)).alloc (.cells #[.slice none 0 0, .int .i64 0, .slice (some ⟨w1.heap.size, 0, none⟩) l0.length l0.length, .int .i64 0] 87)).drew w.heap.size (w1.heap.size + 1) (.slice none 0 0) [] 0 w1.heap.size (List.replicate l0.length 0) 0 := by
    have e1 : (w1.alloc (.cells (madeCells #[.int .i64 0] l0.length) 3)).heap.size = w1.heap.size + 1 := by simp
    have e2 := heap_alloc_new (w1.alloc (.cells (madeCells #[.int .i64 0] l0.length) 3)) (.cells #[.slice none 0 0, .int .i64 0, .slice (some ⟨w1.heap.size, 0, none⟩) l0.length l0.length, .int .i64 0] 87)
    rw [e1] at e2
    refine ⟨by rw [List.length_replicate]; exact e2, by have := hb1.size; omega, ?_, by simp [Value.ownBlock], by simp [Value.ownBlock], ?_, hb1.size, by omega⟩
    · exact World.ownsRow_nil _ _ _ _
    · exact (Below.heap_alloc _ _ _ (by simp)).trans (sm_made_blk w1 _)
  have hB0 : Below w.heap.size w ((w1.alloc (.cells (madeCells #[.int .i64 0] l0.length) 3)).alloc (.cells #[.slice none 0 0, .int .i64 0, .slice (some ⟨w1.heap.size, 0, none⟩) l0.length l0.length, .int .i64 0] 87)).drew :=
    ((hb1.alloc hb1.size _).alloc (by have := hb1.size; simp; omega) _).drew
  generalize ((w1.alloc (.cells (madeCells #[.int .i64 0] l0.length) 3)).alloc (.cells #[.slice none 0 0, .int .i64 0, .slice (some ⟨w1.heap.size, 0, none⟩) l0.length l0.length, .int .i64 0] 87)).drew = W0 at *
  have HS0 := Aside0.mk hS0
  have HB0 := Aside0.mk hB0
  have HB1 := Aside0.mk hb1.size
  clear hS0 hB0 hb1 hm
  generalize w1.heap.size = gh at *
  have hrep : (List.replicate l0.length (0 : Int)).length = l0.length := List.length_replicate
  generalize hL : List.replicate l0.length (0 : Int) = hs0 at *
  have HRP := Aside0.mk hrep
  clear hL hrep
  go_loopg [4, 22] (2 * l0.length - 1) (fun kq v4 v22 w' => ∃ (i : Nat) (out : ByteArray) (ws : List Int) (nx : Int) (hs : List Int) (vw : Value) (dp : Int), v4 = .string out ∧ v22 = .int .i64 (i : Int) ∧ Aside0 (i + kq = 2 * l0.length - 1 ∧ out.size = i) ∧ Aside0 (sm_addm out (sm_told l0 kq ws nx hs) = R) ∧ Aside0 (sm_St w' w.heap.size (gh + 1) vw ws nx gh hs dp) ∧ Aside0 (sm_Okm ws nx hs ∧ hs.length = l0.length ∧ 0 ≤ dp ∧ dp ≤ 100000) ∧ Aside0 (Below w.heap.size w w'))
  case atStart => exact ⟨0, _, [], 0, hs0, _, 0, rfl, rfl, ⟨by omega, rfl⟩, HRR, HS0, ⟨⟨by omega, by omega, by simp, by simp⟩, HRP.out, by omega, by omega⟩, HB0⟩
  case round =>
    obtain ⟨i, out, ws, nx, hs, vw, dp, rfl, rfl, HI, HA, HS, HK, HB⟩ := hrel
    have ik := HI.out.1
    cases gk with
    | zero =>
      have q1 : ¬ ((i : Int) < 2 * (l0.length : Int) - 1) := by omega
      have HE : R = out := HA.out.symm
      have HF := Aside0.mk HE
      clear HE ik
      go_wp2
      go_ret2
      exact ⟨by rw [HF.out]; rfl, HB.out⟩
    | succ k1 =>
      have q1 : (i : Int) < 2 * (l0.length : Int) - 1 := by omega
      have q2 : (0 : Int) ≤ (i : Int) := Int.natCast_nonneg _
      clear ik
      obtain ⟨A, c, rfl⟩ := sm_owns_form HS.out.own
      have k0 := (blk_cell HS.out.blk 0).trans rfl
      have q3 : ws.length ≤ 8 := by have := HK.out.1.len; have := HK.out.1.n1; have := HK.out.2.1; omega
      obtain ⟨n, hn⟩ : ∃ n, n = ws.length := ⟨_, rfl⟩
      rw [← hn] at k0 q3
      have HSn : Aside0 (sm_St wr w.heap.size (gh + 1) (.slice A n c) ws nx gh hs dp) := ⟨by rw [hn]; exact HS.out⟩
      have HN := Aside0.mk hn
      clear hn HS
      have HS := HSn
      clear HSn
      go_upto_if 30 with (fail)
      go_cut [6] (fun v6 wc => v6 = .int .u8 (sm_rule l0 ws hs) ∧ Drawn0 wr wc)
      case first =>
        by_cases h2 : n < 2
        · have e1 : decide (1 < (n : Int)) = false := decide_eq_false (by omega)
          rw [e1]
          have HRU := Aside0.mk (show sm_rule l0 ws hs = 83 by unfold sm_rule; rw [if_pos (by rw [← HN.out]; exact h2)])
          clear h2
          go_wp2
          go_meet
          case rel => exact ⟨by rw [HRU.out], Drawn0.refl _⟩
        · obtain ⟨xs, b, u, rfl⟩ := sm_two_of (ws := ws) (by rw [← HN.out]; exact h2)
          have hl : n = xs.length + 2 := by rw [HN.out]; simp
          have hl' : n - 2 = xs.length ∧ n - 1 = xs.length + 1 := by omega
          obtain ⟨gw, c', e, -, -⟩ := HS.out.own.form (by simp)
          injection e with ea en ec
          subst ea ec
          clear en
          have ho := HS.out.own
          have e1 : decide (1 < (n : Int)) = true := decide_eq_true (by omega)
          rw [e1]
          have c1 : wr.cell? ⟨gw, n - 2, none⟩ = some (.int .i64 b) := by
            rw [hl'.1]
            have := ho.cells (g := gw) rfl xs.length (.int .i64 b) (by simp [nums])
            simpa [add_plain] using this
          have c2 : wr.cell? ⟨gw, n - 1, none⟩ = some (.int .i64 u) := by
            rw [hl'.2]
            have := ho.cells (g := gw) rfl (xs.length + 1) (.int .i64 u) (by simp [nums])
            simpa [add_plain] using this
          clear ho hl hl'
          obtain ⟨b1, b2⟩ := HK.out.1.mem b (by simp)
          obtain ⟨u1, u2⟩ := HK.out.1.mem u (by simp)
          rw [HK.out.2.1] at b2 u2
          have HRT := Aside0.mk (sm_rule_two l0 xs b u hs)
          have hR := Kd.C_below HR0.out HB.out
          obtain ⟨ad, e2, hx0⟩ := Kd.at_int hR (b - 1) (by omega) (by omega)
          cases e2
          obtain ⟨ad', e2, hx1⟩ := Kd.at_int hR (u - 1) (by omega) (by omega)
          cases e2
          have hy0 : wr.cell? (ad.add (b.toNat - 1)) = some (.int .i64 (rd l0 (b - 1))) := by simpa using hx0
          have hy1 : wr.cell? (ad.add (u.toNat - 1)) = some (.int .i64 (rd l0 (u - 1))) := by simpa using hx1
          clear hx0 hx1
          have HRC := Aside0.mk hR
          clear hR
          by_cases c1 : rd l0 (b - 1) = u
          · have c1b := beq_iff_eq.mpr c1
            by_cases c2 : sm_leftN l0 hs b l0.length = 0
            · have c2b := beq_iff_eq.mpr c2
              have HF := Aside0.mk (HRT.out.trans (if_pos ⟨c1, c2⟩))
              clear c1 c2
              go_wp2
              go_quiet (fail)
              go_wp2_with (go_at_call 85; (with_reducible refine (sm_left_any _ _ _ _ _ nx gh hs dp (HS.out.drewN _) _ _ l0 (Kd.C_drewN HRC.out _) HC0.out HK.out.2.1.symm (by omega) _).mono ?_); rintro e w' ⟨rfl, rfl⟩)
              go_meet
              case rel => exact ⟨by rw [HF.out], by repeat (first | exact Drawn0.refl _ | apply Drawn0.step)⟩
            · have c2b := beq_eq_false_iff_ne.mpr c2
              by_cases d1 : rd l0 (u - 1) = b
              · have d1b := beq_iff_eq.mpr d1
                by_cases d2 : sm_leftN l0 hs u l0.length = 0
                · have d2b := beq_iff_eq.mpr d2
                  have HF := Aside0.mk (HRT.out.trans ((if_neg (fun q => c2 q.2)).trans (if_pos ⟨d1, d2⟩)))
                  clear c1 c2 d1 d2
                  go_wp2
                  go_quiet (fail)
                  go_wp2_with (go_at_call 85; (with_reducible refine (sm_left_any _ _ _ _ _ nx gh hs dp (HS.out.drewN _) _ _ l0 (Kd.C_drewN HRC.out _) HC0.out HK.out.2.1.symm (by omega) _).mono ?_); rintro e w' ⟨rfl, rfl⟩)
                  go_meet
                  case rel => exact ⟨by rw [HF.out], by repeat (first | exact Drawn0.refl _ | apply Drawn0.step)⟩
                · have d2b := beq_eq_false_iff_ne.mpr d2
                  have HF := Aside0.mk (HRT.out.trans ((if_neg (fun q => c2 q.2)).trans (if_neg (fun q => d2 q.2))))
                  clear c1 c2 d1 d2
                  go_wp2
                  go_quiet (fail)
                  go_wp2_with (go_at_call 85; (with_reducible refine (sm_left_any _ _ _ _ _ nx gh hs dp (HS.out.drewN _) _ _ l0 (Kd.C_drewN HRC.out _) HC0.out HK.out.2.1.symm (by omega) _).mono ?_); rintro e w' ⟨rfl, rfl⟩)
                  go_meet
                  case rel => exact ⟨by rw [HF.out], by repeat (first | exact Drawn0.refl _ | apply Drawn0.step)⟩
              · have d1b := beq_eq_false_iff_ne.mpr d1
                have HF := Aside0.mk (HRT.out.trans ((if_neg (fun q => c2 q.2)).trans (if_neg (fun q => d1 q.1))))
                clear c1 c2 d1
                go_wp2
                go_quiet (fail)
                go_wp2_with (go_at_call 85; (with_reducible refine (sm_left_any _ _ _ _ _ nx gh hs dp (HS.out.drewN _) _ _ l0 (Kd.C_drewN HRC.out _) HC0.out HK.out.2.1.symm (by omega) _).mono ?_); rintro e w' ⟨rfl, rfl⟩)
                go_meet
                case rel => exact ⟨by rw [HF.out], by repeat (first | exact Drawn0.refl _ | apply Drawn0.step)⟩
          · have c1b := beq_eq_false_iff_ne.mpr c1
            by_cases d1 : rd l0 (u - 1) = b
            · have d1b := beq_iff_eq.mpr d1
              by_cases d2 : sm_leftN l0 hs u l0.length = 0
              · have d2b := beq_iff_eq.mpr d2
                have HF := Aside0.mk (HRT.out.trans ((if_neg (fun q => c1 q.1)).trans (if_pos ⟨d1, d2⟩)))
                clear c1 d1 d2
                go_wp2
                go_quiet (fail)
                go_wp2_with (go_at_call 85; (with_reducible refine (sm_left_any _ _ _ _ _ nx gh hs dp (HS.out.drewN _) _ _ l0 (Kd.C_drewN HRC.out _) HC0.out HK.out.2.1.symm (by omega) _).mono ?_); rintro e w' ⟨rfl, rfl⟩)
                go_meet
                case rel => exact ⟨by rw [HF.out], by repeat (first | exact Drawn0.refl _ | apply Drawn0.step)⟩
              · have d2b := beq_eq_false_iff_ne.mpr d2
                have HF := Aside0.mk (HRT.out.trans ((if_neg (fun q => c1 q.1)).trans (if_neg (fun q => d2 q.2))))
                clear c1 d1 d2
                go_wp2
                go_quiet (fail)
                go_wp2_with (go_at_call 85; (with_reducible refine (sm_left_any _ _ _ _ _ nx gh hs dp (HS.out.drewN _) _ _ l0 (Kd.C_drewN HRC.out _) HC0.out HK.out.2.1.symm (by omega) _).mono ?_); rintro e w' ⟨rfl, rfl⟩)
                go_meet
                case rel => exact ⟨by rw [HF.out], by repeat (first | exact Drawn0.refl _ | apply Drawn0.step)⟩
            · have d1b := beq_eq_false_iff_ne.mpr d1
              have HF := Aside0.mk (HRT.out.trans ((if_neg (fun q => c1 q.1)).trans (if_neg (fun q => d1 q.1))))
              clear c1 d1
              go_wp2
              go_quiet (fail)
              go_wp2_with (go_at_call 85; (with_reducible refine (sm_left_any _ _ _ _ _ nx gh hs dp (HS.out.drewN _) _ _ l0 (Kd.C_drewN HRC.out _) HC0.out HK.out.2.1.symm (by omega) _).mono ?_); rintro e w' ⟨rfl, rfl⟩)
              go_meet
              case rel => exact ⟨by rw [HF.out], by repeat (first | exact Drawn0.refl _ | apply Drawn0.step)⟩
      case rest =>
        obtain ⟨rfl, ⟨nd, rfl⟩⟩ := hcut
        clear k0
        have HM := Aside0.mk (sm_okm_mv (sm_rule l0 ws hs) HK.out.1)
        obtain ⟨m, hm⟩ : ∃ m, m = sm_rule l0 ws hs := ⟨_, rfl⟩
        rw [← hm] at HM ⊢
        have hsz : ¬ 9223372036854775807 < out.size + (Utf8.encode m).size := by rw [sm_code_size (hm ▸ sm_rule_in l0 ws hs)]; have := HI.out; omega
        have HE := Aside0.mk hm
        clear hm
        go_wp2_with (go_at_call 86; (with_reducible refine (sm_move_any _ _ _ _ ws nx gh hs dp (HS.out.drewN _) HK.out.1 (by rw [HK.out.2.1]; omega) HK.out.2.2.1 HK.out.2.2.2 m).mono ?_); rintro e w2 ⟨v2, d2, rfl, s1, s2, s3, s4⟩)
        go_roundg k1
        case measure => omega
        case rel =>
          refine ⟨i + 1, _, _, _, _, v2, d2, rfl, by go_num, ⟨by have := HI.out.1; omega, ?_⟩, ⟨?_⟩, ⟨s1⟩, ⟨HM.out.1, HM.out.2.trans HK.out.2.1, s2, s3⟩, ⟨(pw_below_drewN HB.out nd).trans s4⟩⟩
          · rw [ByteArray.size_append, sm_code_size (HE.out ▸ sm_rule_in l0 ws hs), HI.out.2]
          · have := HA.out
            rw [← this, HE.out]
            rfl

def impl_MovesFor.f (k : Nat) (l : List Int) : Option (ByteArray × Bool) := (impl_FlatOk.f k l).bind fun t => if t = true then (if 1 ≤ l.length ∧ l.length ≤ 8 then some (sm_addm ⟨#[]⟩ (sm_told l (2 * l.length - 1) [] 0 (List.replicate l.length 0)), true) else none) else some (⟨#[]⟩, false)
theorem impl_MovesFor.mono : ∀ a k, LeO (impl_MovesFor.f k a) (impl_MovesFor.f (k + 1) a) := by
  intro a k
  unfold impl_MovesFor.f
  exact LeO.bind (impl_FlatOk.mono _ _) (fun _ => LeO.refl _)
theorem impl_MovesFor.calls (k : Nat) (A0 : Option Addr) (c0 : Nat) (l0 : List Int) (r1 : ByteArray) (r2 : Bool) (w : World) (hr0 : Kd.C (Kd.int .i64) w A0 l0.length l0) (hc0 : l0.length ≤ c0) (h : impl_MovesFor.f k l0 = some (r1, r2)) :
    Calls Try.prog 39 #[.slice A0 l0.length c0] w fun e w' => e = .returned (.tuple #[.string r1, .bool r2]) ∧ Below w.heap.size w w' := by
  unfold impl_MovesFor.f at h
  obtain ⟨t, h1, h⟩ := Option.bind_eq_some_iff.1 h
  by_cases c : t = true
  · subst c
    rw [if_pos rfl] at h
    by_cases c2 : 1 ≤ l0.length ∧ l0.length ≤ 8
    · rw [if_pos c2] at h
      simp only [Option.some.injEq, Prod.mk.injEq] at h
      obtain ⟨h2, rfl⟩ := h
      exact sm_MovesFor_yes k A0 c0 l0 w hr0 hc0 h1 c2.1 c2.2 r1 h2
    · rw [if_neg c2] at h
      cases h
  · rw [if_neg c] at h
    simp only [Option.some.injEq, Prod.mk.injEq] at h
    obtain ⟨rfl, rfl⟩ := h
    obtain rfl : t = false := by simpa using c
    have HR0 := Aside0.mk hr0
    have HC0 := Aside0.mk hc0
    have H := Aside0.mk h1
    clear hr0 hc0 h1 c
    go_enter Try.func39, Try.ntmps39
    go_wp2_with (go_at_call 33; (with_reducible refine (impl_FlatOk.calls k _ _ l0 false _ HR0.out HC0.out H.out).mono ?_); rintro e w1 ⟨rfl, hb1⟩)
    go_ret2
    exact ⟨rfl, hb1⟩
end

/-! ### impl_RunStack: function 40, told by hand -/
section
set_option maxHeartbeats 8000000
set_option maxRecDepth 100000
def sm_steps : List Int → List Int → Int → List Int → Option (List Int × Int × List Int)
  | [], ws, nx, hs => some (ws, nx, hs)
  | m :: ms, ws, nx, hs => if (sm_mv m ws nx hs).1 = true then sm_steps ms (sm_mv m ws nx hs).2.1 (sm_mv m ws nx hs).2.2.1 (sm_mv m ws nx hs).2.2.2 else none
/-- the heads that moves tell, if they do -/
def sm_ranL (n : Nat) (s : ByteArray) : Option (List Int) :=
  (sm_steps (bytesOf s) [] 0 (List.replicate n 0)).bind fun r => if r.2.1 < (n : Int) ∨ r.1.length ≠ 1 then none else some r.2.2
def sm_RanP (w : World) (R : Option (List Int)) (n : Nat) (e : Ending) (w' : World) : Prop :=
  Below w.heap.size w w' ∧ match R with
  | none => e = .returned (.pointer none)
  | some hs => ∃ g gh vw ws nx dp, e = .returned (.pointer (some ⟨g, 0, none⟩)) ∧ hs.length = n ∧ sm_St w' w.heap.size g vw ws nx gh hs dp
theorem sm_ran_no (n : Int) (s : ByteArray) (w : World) (h : n < 1 ∨ 8 < n) : Calls Try.prog 87 #[.int .i64 n, .string s] w fun e w' => e = .returned (.pointer none) ∧ w' = w := by
  by_cases h1 : n < 1
  · have e1 : decide (n < 1) = true := decide_eq_true h1
    clear h h1
    go_enter Try.func87, Try.ntmps87
    go_wp2
    go_ret
    exact ⟨rfl, rfl⟩
  · have e1 : decide (n < 1) = false := decide_eq_false h1
    have e2 : decide (8 < n) = true := decide_eq_true (h.resolve_left h1)
    clear h h1
    go_enter Try.func87, Try.ntmps87
    go_wp2
    go_ret
    exact ⟨rfl, rfl⟩
theorem sm_steps_drop {s : ByteArray} {i : Nat} (h : i < s.size) (ws : List Int) (nx : Int) (hs : List Int) : sm_steps ((bytesOf s).drop i) ws nx hs = if (sm_mv (bt s i) ws nx hs).1 = true then sm_steps ((bytesOf s).drop (i + 1)) (sm_mv (bt s i) ws nx hs).2.1 (sm_mv (bt s i) ws nx hs).2.2.1 (sm_mv (bt s i) ws nx hs).2.2.2 else none := by
  have hl : i < (bytesOf s).length := by rw [bytesOf_length]; exact h
  rw [List.drop_eq_getElem_cons hl]
  have e : (bytesOf s)[i] = bt s i := by
    rw [← rd_bytesOf]
    simp [rd, List.getD_eq_getElem?_getD, List.getElem?_eq_getElem hl]
  rw [e]
  rfl
theorem sm_ran_yes (n : Nat) (s : ByteArray) (w : World) (h1 : 1 ≤ n) (h8 : n ≤ 8) (hs1 : s.size ≤ 1000000000) : Calls Try.prog 87 #[.int .i64 (n : Int), .string s] w (sm_RanP w (sm_ranL n s) n) := by
  have hm := print_make (P := Try.prog) 22 3 .i64 8 Try.underlying22 info3 (by omega) n (by omega)
  obtain ⟨R, hR⟩ : ∃ R, R = sm_ranL n s := ⟨_, rfl⟩
  rw [← hR]
  have HRR := Aside0.mk hR
  clear hR
  have e1 : decide ((n : Int) < 1) = false := decide_eq_false (by omega)
  have e2 : decide (8 < (n : Int)) = false := decide_eq_false (by omega)
  go_enter Try.func87, Try.ntmps87
  go_wp2
  clear e1 e2
  have hS0 : sm_St ((w.alloc (.cells (madeCells #[.int .i64 0] n) 3)).alloc (.cells #[.slice none 0 0, .int .i64 0, .slice (some ⟨w.heap.size, 0, none⟩) n n, .int .i64 0] 87)) w.heap.size (w.heap.size + 1) (.slice none 0 0) [] 0 w.heap.size (List.replicate n 0) 0 := by
    have e1 : (w.alloc (.cells (madeCells #[.int .i64 0] n) 3)).heap.size = w.heap.size + 1 := by simp
    have e2 := heap_alloc_new (w.alloc (.cells (madeCells #[.int .i64 0] n) 3)) (.cells #[.slice none 0 0, .int .i64 0, .slice (some ⟨w.heap.size, 0, none⟩) n n, .int .i64 0] 87)
    rw [e1] at e2
    refine ⟨by rw [List.length_replicate]; exact e2, by omega, World.ownsRow_nil _ _ _ _, by simp [Value.ownBlock], by simp [Value.ownBlock], ?_, Nat.le_refl _, by omega⟩
    exact (Below.heap_alloc _ _ _ (by simp)).trans (sm_made_blk w _)
  have hB0 : Below w.heap.size w ((w.alloc (.cells (madeCells #[.int .i64 0] n) 3)).alloc (.cells #[.slice none 0 0, .int .i64 0, .slice (some ⟨w.heap.size, 0, none⟩) n n, .int .i64 0] 87)) :=
    ((Below.refl _ _).alloc (Nat.le_refl _) _).alloc (by simp) _
  generalize (w.alloc (.cells (madeCells #[.int .i64 0] n) 3)).alloc (.cells #[.slice none 0 0, .int .i64 0, .slice (some ⟨w.heap.size, 0, none⟩) n n, .int .i64 0] 87) = W0 at *
  have HS0 := Aside0.mk hS0
  have HB0 := Aside0.mk hB0
  clear hS0 hB0 hm
  have HRP := Aside0.mk (List.length_replicate (n := n) (a := (0 : Int)))
  have HR0 : Aside0 (R = (sm_steps ((bytesOf s).drop 0) [] 0 (List.replicate n 0)).bind fun r => if r.2.1 < (n : Int) ∨ r.1.length ≠ 1 then none else some r.2.2) := ⟨HRR.out⟩
  generalize List.replicate n (0 : Int) = hs0 at *
  have HSZ := Aside0.mk (bytesOf_length s)
  go_loopg [19] s.size (fun kq v19 w' => ∃ (i : Nat) (ws : List Int) (nx : Int) (hs : List Int) (vw : Value) (dp : Int), v19 = .int .i64 (i : Int) ∧ Aside0 (i + kq = s.size) ∧ Aside0 (R = (sm_steps ((bytesOf s).drop i) ws nx hs).bind fun r => if r.2.1 < (n : Int) ∨ r.1.length ≠ 1 then none else some r.2.2) ∧ Aside0 (sm_St w' w.heap.size (w.heap.size + 1) vw ws nx w.heap.size hs dp) ∧ Aside0 (sm_Okm ws nx hs ∧ hs.length = n ∧ 0 ≤ dp ∧ dp ≤ 100000) ∧ Aside0 (Below w.heap.size w w'))
  case atStart => exact ⟨0, [], 0, hs0, _, 0, rfl, ⟨by omega⟩, HR0, HS0, ⟨⟨by omega, by omega, by simp, by simp⟩, HRP.out, by omega, by omega⟩, HB0⟩
  case round =>
    obtain ⟨i, ws, nx, hs, vw, dp, rfl, HI, HA, HS, HK, HB⟩ := hrel
    have ik := HI.out
    obtain ⟨A, c, rfl⟩ := sm_owns_form HS.out.own
    cases gk with
    | zero =>
      have q1 : ¬ ((i : Int) < (s.size : Int)) := by omega
      have HF : Aside0 (R = if nx < (n : Int) ∨ ws.length ≠ 1 then none else some hs) := ⟨by
        rw [HA.out, List.drop_eq_nil_of_le (by rw [HSZ.out]; omega)]
        rfl⟩
      clear ik
      have k0 : wr.cell? ⟨w.heap.size + 1, 0, none⟩ = some (.slice A ws.length c) := (blk_cell HS.out.blk 0).trans rfl
      have k1 : wr.cell? ⟨w.heap.size + 1, 1, none⟩ = some (.int .i64 nx) := (blk_cell HS.out.blk 1).trans rfl
      by_cases c1 : nx < (n : Int)
      · have e1 : decide (nx < (n : Int)) = true := decide_eq_true c1
        have HG := Aside0.mk (HF.out.trans (if_pos (.inl c1)))
        clear c1
        go_wp2
        go_ret
        exact ⟨HB.out, by rw [HG.out]; rfl⟩
      · have e1 : decide (nx < (n : Int)) = false := decide_eq_false c1
        by_cases c2 : ws.length = 1
        · have HG := Aside0.mk (HF.out.trans (if_neg (fun q => q.elim c1 (fun q => q c2))))
          have HS1 : Aside0 (sm_St wr w.heap.size (w.heap.size + 1) (.slice A 1 c) ws nx w.heap.size hs dp) := ⟨by have := HS.out; rw [c2] at this; exact this⟩
          rw [c2] at k0
          clear c1 c2 HS
          go_wp2
          go_ret
          exact ⟨HB.out, by rw [HG.out]; exact ⟨_, _, _, _, _, _, rfl, HK.out.2.1, HS1.out⟩⟩
        · have e2 : ((ws.length : Int) != 1) = true := bne_iff_ne.mpr (by omega)
          have e3 : (ws.length != 1) = true := bne_iff_ne.mpr (by omega)
          have HG := Aside0.mk (HF.out.trans (if_pos (.inr c2)))
          clear c1 c2
          go_wp2
          go_ret
          exact ⟨HB.out, by rw [HG.out]; rfl⟩
    | succ k1 =>
      have q0 : i < s.size := by omega
      have q1 : (i : Int) < (s.size : Int) := by omega
      have q2 : (0 : Int) ≤ (i : Int) := Int.natCast_nonneg _
      have hb : ((s[i]'q0).toNat : Int) = bt s i := bt_at s i q0
      have HM := Aside0.mk (sm_okm_mv (bt s i) HK.out.1)
      have HN := Aside0.mk (HA.out.trans (by rw [sm_steps_drop q0]))
      clear ik
      by_cases c1 : (sm_mv (bt s i) ws nx hs).1 = true
      · have HG := Aside0.mk (HN.out.trans (by rw [if_pos c1]))
        go_wp2_with (go_at_call 86; (with_reducible refine (sm_move_any _ _ _ _ ws nx _ hs dp HS.out HK.out.1 (by rw [HK.out.2.1]; omega) HK.out.2.2.1 HK.out.2.2.2 _).mono ?_); rintro e w2 ⟨v2, d2, rfl, s1, s2, s3, s4⟩)
        go_roundg k1
        case measure => omega
        case rel => exact ⟨i + 1, _, _, _, v2, d2, by go_num, ⟨by have := HI.out; omega⟩, HG, ⟨s1⟩, ⟨HM.out.1, HM.out.2.trans HK.out.2.1, s2, s3⟩, ⟨HB.out.trans s4⟩⟩
      · have HG := Aside0.mk (HN.out.trans (by rw [if_neg c1]))
        have c2 : (sm_mv (bt s i) ws nx hs).1 = false := by simpa using c1
        clear c1
        go_wp2_with (go_at_call 86; (with_reducible refine (sm_move_any _ _ _ _ ws nx _ hs dp HS.out HK.out.1 (by rw [HK.out.2.1]; omega) HK.out.2.2.1 HK.out.2.2.2 _).mono ?_); rintro e w2 ⟨v2, d2, rfl, s1, s2, s3, s4⟩)
        go_ret
        exact ⟨HB.out.trans s4, by rw [HG.out]; rfl⟩

theorem sm_St.row {w : World} {B g : Nat} {vw : Value} {ws : List Int} {nx : Int} {gh : Nat} {hs : List Int} {dp : Int} (h : sm_St w B g vw ws nx gh hs dp) (hl : hs.length ≤ 100) : Kd.R (Kd.int .i64) 3 w B (fun _ => True) (.slice (some ⟨gh, 0, none⟩) hs.length hs.length) hs := by
  have hz : (Kd.int .i64).sz = 1 := rfl
  refine ⟨fun _ _ => trivial, nums .i64 hs, ⟨by simp [nums, hz], .inr ⟨gh, hs.length, _, rfl, h.low', h.hds, Nat.le_refl _, by unfold maxLen; omega, by simp [nums, hz], by rw [hz, Nat.mul_one]; simp only [nums]; exact List.take_of_length_le (by simp)⟩⟩, ?_⟩
  refine ⟨by simp [nums, hz], fun j p hj => ?_⟩
  show _ = [Value.int .i64 p]
  obtain ⟨h1, rfl⟩ := List.getElem?_eq_some_iff.1 hj
  rw [hz, Nat.mul_one, List.drop_eq_getElem_cons (by simpa [nums] using h1)]
  simp [nums]
def sm_RunP (w : World) (r1 : List Int) (r2 : Bool) (e : Ending) (w' : World) : Prop :=
  ∃ v0 : Value, e = .returned (.tuple #[v0, .bool r2]) ∧ Kd.R (Kd.int .i64) 3 w' w.heap.size (fun _ => True) v0 r1 ∧ Below w.heap.size w w'
/-- what the moves tell: heads, and whether they do -/
def sm_runM (n : Int) (s : ByteArray) : List Int × Bool :=
  if n < 1 ∨ 8 < n then ([], false) else match sm_ranL n.toNat s with | none => ([], false) | some hs => (hs, true)
theorem sm_RunStack_any (n : Int) (s : ByteArray) (w : World) (hs1 : s.size ≤ 1000000000) : Calls Try.prog 40 #[.int .i64 n, .string s] w (sm_RunP w (sm_runM n s).1 (sm_runM n s).2) := by
  by_cases h : n < 1 ∨ 8 < n
  · have HE : sm_runM n s = ([], false) := by unfold sm_runM; rw [if_pos h]
    rw [HE]
    clear HE
    go_enter Try.func40, Try.ntmps40
    go_wp2_with (go_at_call 87; (with_reducible refine (sm_ran_no n s _ h).mono ?_); rintro e w' ⟨rfl, rfl⟩)
    go_ret2
    exact ⟨_, rfl, Kd.R_nil _ _ _ _ _, Below.refl _ _⟩
  · obtain ⟨m, rfl⟩ : ∃ m : Nat, n = (m : Int) := ⟨n.toNat, by omega⟩
    have h1 : 1 ≤ m := by omega
    have h8 : m ≤ 8 := by omega
    have hr := sm_ran_yes m s w h1 h8 hs1
    cases hR : sm_ranL m s with
    | none =>
      have HE : sm_runM m s = ([], false) := by unfold sm_runM; rw [if_neg h, Int.toNat_natCast, hR]
      rw [HE]
      rw [hR] at hr
      clear HE hR h
      go_enter Try.func40, Try.ntmps40
      go_wp2_with (go_at_call 87; (with_reducible refine hr.mono ?_); rintro e w' ⟨hb, he⟩; obtain rfl : e = .returned (.pointer none) := he)
      go_ret2
      exact ⟨_, rfl, Kd.R_nil _ _ _ _ _, hb⟩
    | some hs =>
      have HE : sm_runM m s = (hs, true) := by unfold sm_runM; rw [if_neg h, Int.toNat_natCast, hR]
      rw [HE]
      rw [hR] at hr
      clear HE hR h
      go_enter Try.func40, Try.ntmps40
      go_wp2_with (go_at_call 87; (with_reducible refine hr.mono ?_); rintro e w' ⟨hb, he⟩; obtain ⟨g, gh, vw, ws, nx, dp, rfl, hl, hS⟩ := he; have k2 : w'.cell? ⟨g, 2, none⟩ = some (.slice (some ⟨gh, 0, none⟩) hs.length hs.length) := (blk_cell hS.blk 2).trans rfl)
      go_ret2
      exact ⟨.slice (some ⟨gh, 0, none⟩) m m, rfl, by have := hS.row (by omega); rw [hl] at this; exact this, hb⟩

def impl_RunStack.f (a0 : Int) (a1 : ByteArray) : Option (List Int × Bool) := if a1.size ≤ 1000000000 then some (sm_runM a0 a1) else none
theorem impl_RunStack.calls (a0 : Int) (a1 : ByteArray) (r1 : List Int) (r2 : Bool) (w : World) (h : impl_RunStack.f a0 a1 = some (r1, r2)) :
    Calls Try.prog 40 #[.int .i64 a0, .string a1] w fun e w' => ∃ v0_ : Value, e = .returned (.tuple #[v0_, .bool r2]) ∧ Kd.R (Kd.int .i64) 3 w' w.heap.size (fun _ => True) v0_ r1 ∧ Below w.heap.size w w' := by
  unfold impl_RunStack.f at h
  by_cases c : a1.size ≤ 1000000000
  · rw [if_pos c] at h
    have h2 : sm_runM a0 a1 = (r1, r2) := Option.some.inj h
    have := sm_RunStack_any a0 a1 w c
    rw [h2] at this
    exact this
  · rw [if_neg c] at h
    cases h
end

end Go.Proofs.Ytbbhdgpiocojaaa.LE
