/- Printed by a program of this session (wip/lp/lp.py) out of the translation: functions with the same answers as the Go code, and their contracts; no conditions beyond those that each theorem names. -/
import Derived.Test.YtnbdobkgbdncpaaLAx0
namespace Go.Proofs.Ytnbdobkgbdncpaa.LA
open Go.RowKit Go.Proofs.YtnbdobkgbdncpaaV.PrintWords Go.Proofs.YtnbdobkgbdncpaaV.PrintLast Go.Proofs.YtnbdobkgbdncpaaV.PrintMore
attribute [local go_sem] max2_int min2_int max_two min_two max_three min_three max_four min_four   -- for this text's walks alone
set_option linter.unusedVariables false
set_option linter.unusedSimpArgs false

/-- A state of type 47 at block g of W; what its slices lead to came in by w0. -/
def Z47 (w0 W : World) (g : Nat) (f0 : List Int) (f1 : Int) : Prop := ∃ A0 c0, W.heap[g]? = some (.cells #[.slice A0 f0.length c0, .int .i64 f1] 47 (0, 0)) ∧ w0.heap.size ≤ g ∧ Kd.C (Kd.int .u8) w0 A0 f0.length f0
theorem Z47.grown {w0 W : World} {g : Nat} {f0 : List Int} {f1 : Int} {W1 : World} {row : Option Nat} (h : Z47 w0 W g f0 f1) (hw : W.grownBy W1 row) (hne : some g ≠ row) : Z47 w0 W1 g f0 f1 := by
 obtain ⟨A0, c0, hb, hg, hr0⟩ := h
 exact ⟨A0, c0, blk_grown hb hw hne, hg, hr0⟩
theorem Z47.own_neN {w0 W : World} {g : Nat} {f0 : List Int} {f1 : Int} {α : Type} {d : Kd α} {e : Nat} {base : Nat} {ok : Nat → Prop} {v : Value} {xs : List α} (h : Z47 w0 W g f0 f1) (ho : Kd.N d e W base ok v xs) (ht : e ≠ 47) : some g ≠ v.ownBlock := by
 obtain ⟨A0, c0, hb, hg, hr0⟩ := h
 exact Kd.N_ne ho hb ht
theorem Z47.fresh {w0 W : World} {g : Nat} {f0 : List Int} {f1 : Int} (h : Z47 w0 W g f0 f1) : ∀ k, W.heap.size ≤ k → k ≠ g := by
 obtain ⟨A0, c0, hb, hg, hr0⟩ := h
 exact Kd.freshB hb
theorem Z47.kept {w0 W : World} {g : Nat} {f0 : List Int} {f1 : Int} {W1 : World} {S : Nat → Prop} (h : Z47 w0 W g f0 f1) (hk : Kept W W1 S) (hne : ¬ S g) : Z47 w0 W1 g f0 f1 := by
 obtain ⟨A0, c0, hb, hg, hr0⟩ := h
 exact ⟨A0, c0, blk_kept hb hk hne, hg, hr0⟩
theorem Z47.below {w0 W : World} {g : Nat} {f0 : List Int} {f1 : Int} {W1 : World} (h : Z47 w0 W g f0 f1) (hw : Below W.heap.size W W1) : Z47 w0 W1 g f0 f1 := h.grown (grown_of_below hw none) (by simp)
theorem Z47.alloc {w0 W : World} {g : Nat} {f0 : List Int} {f1 : Int} (h : Z47 w0 W g f0 f1) (o : Obj) : Z47 w0 (W.alloc o) g f0 f1 := h.below (zB (Below.refl _ _) o)
theorem Z47.drewN {w0 W : World} {g : Nat} {f0 : List Int} {f1 : Int} (h : Z47 w0 W g f0 f1) (m : Nat) : Z47 w0 (W.drewN m) g f0 f1 := h
theorem Z47.drew {w0 W : World} {g : Nat} {f0 : List Int} {f1 : Int} (h : Z47 w0 W g f0 f1) : Z47 w0 W.drew g f0 f1 := h
theorem Z47.at_ {w0 W : World} {g : Nat} {f0 : List Int} {f1 : Int} {w' : World} {m : Nat} (hq : W.drewN m = w') (h : Z47 w0 W g f0 f1) : Z47 w0 w' g f0 f1 := by subst hq; exact Z47.drewN h m
theorem Z47.apart {w0 W : World} {g : Nat} {f0 : List Int} {f1 : Int} {α : Type} {d : Kd α} {e : Nat} {base : Nat} {ok : Nat → Prop} {v : Value} {xs : List α} (h : Z47 w0 W g f0 f1) (ho : d.R e W base ok v xs) (ht : ∀ q, q ∈ e :: d.E → q ≠ 47) : d.R e W base (fun k => ok k ∧ k ≠ g) v xs := by
 obtain ⟨A0, c0, hb, hg, hr0⟩ := h
 exact Kd.R_types ho hb ht
theorem Z47.own_ne {w0 W : World} {g : Nat} {f0 : List Int} {f1 : Int} {α : Type} {d : Kd α} {e : Nat} {base : Nat} {ok : Nat → Prop} {v : Value} {xs : List α} (h : Z47 w0 W g f0 f1) (ho : d.R e W base ok v xs) (ht : e ≠ 47) : some g ≠ v.ownBlock := by
 obtain ⟨A0, c0, hb, hg, hr0⟩ := h
 exact Kd.R_ne ho hb ht
theorem Z47.apartQ {w0 W : World} {g : Nat} {f0 : List Int} {f1 : Int} {α : Type} {d : Kd α} {e : Nat} {base : Nat} {ok : Nat → Prop} {v : Value} {xs : List α} (h : Z47 w0 W g f0 f1) (ho : d.Q e W base ok v xs) (ht : ∀ q, q ∈ e :: d.E → q ≠ 47) : d.Q e W base (fun k => ok k ∧ k ≠ g) v xs := by
 obtain ⟨A0, c0, hb, hg, hr0⟩ := h
 exact Kd.Q_types ho hb ht
theorem Z47.own_neQ {w0 W : World} {g : Nat} {f0 : List Int} {f1 : Int} {α : Type} {d : Kd α} {e : Nat} {base : Nat} {ok : Nat → Prop} {v : Value} {xs : List α} (h : Z47 w0 W g f0 f1) (ho : d.Q e W base ok v xs) (ht : e ≠ 47) : some g ≠ v.ownBlock := by
 obtain ⟨A0, c0, hb, hg, hr0⟩ := h
 exact Kd.Q_ne ho hb ht
theorem Z47.apartS {w0 W : World} {g : Nat} {f0 : List Int} {f1 : Int} {α : Type} {d : Kd α} {e : Nat} {base : Nat} {ok : Nat → Prop} {v : Value} {xs : List α} (h : Z47 w0 W g f0 f1) (ho : d.S e W base ok v xs) (ht : ∀ q, q ∈ e :: d.E → q ≠ 47) : d.S e W base (fun k => ok k ∧ k ≠ g) v xs := by
 obtain ⟨A0, c0, hb, hg, hr0⟩ := h
 exact Kd.S_types ho hb ht
theorem Z47.own_neS {w0 W : World} {g : Nat} {f0 : List Int} {f1 : Int} {α : Type} {d : Kd α} {e : Nat} {base : Nat} {ok : Nat → Prop} {v : Value} {xs : List α} (h : Z47 w0 W g f0 f1) (ho : d.S e W base ok v xs) (ht : e ≠ 47) : some g ≠ v.ownBlock := by
 obtain ⟨A0, c0, hb, hg, hr0⟩ := h
 exact Kd.S_ne ho hb ht
theorem Z47.lt {w0 W : World} {g : Nat} {f0 : List Int} {f1 : Int} (h : Z47 w0 W g f0 f1) : g < W.heap.size := by
 obtain ⟨A0, c0, hb, hg, hr0⟩ := h
 exact blk_lt hb
theorem Z47.ge {w0 W : World} {g : Nat} {f0 : List Int} {f1 : Int} (h : Z47 w0 W g f0 f1) : w0.heap.size ≤ g := by
 obtain ⟨A0, c0, hb, hg, hr0⟩ := h
 exact hg
theorem Z47.ne_blk {w0 W : World} {g : Nat} {f0 : List Int} {f1 : Int} {a : Nat} {cs : Array Value} {t : TypeId} {fr : Nat × Nat} (h : Z47 w0 W g f0 f1) (hb2 : W.heap[a]? = some (.cells cs t fr)) (ht : t ≠ 47) : g ≠ a := by
 obtain ⟨A0, c0, hb, hg, hr0⟩ := h
 rintro rfl
 rw [hb] at hb2
 injection hb2 with hb2
 injection hb2 with _ ht2
 exact ht ht2.symm
theorem Z47.far {w0 W : World} {g : Nat} {f0 : List Int} {f1 : Int} {p : Addr} (h : Z47 w0 W g f0 f1) (hne : g ≠ p.block) (u : Value) : Z47 w0 (W.setCell p u) g f0 f1 := by
 obtain ⟨A0, c0, hb, hg, hr0⟩ := h
 exact ⟨A0, c0, blk_far hb hne u, hg, hr0⟩
theorem cellS47_0 {W : World} {g : Nat} {A0 : Option Addr} {c0 : Nat} {f0 : List Int} {f1 : Int} (h : W.heap[g]? = some (.cells #[.slice A0 f0.length c0, .int .i64 f1] 47 (0, 0))) : W.cell? ⟨g, 0, none⟩ = some (.slice A0 f0.length c0) := (blk_cell h 0).trans rfl
theorem cellS47_1 {W : World} {g : Nat} {A0 : Option Addr} {c0 : Nat} {f0 : List Int} {f1 : Int} (h : W.heap[g]? = some (.cells #[.slice A0 f0.length c0, .int .i64 f1] 47 (0, 0))) : W.cell? ⟨g, 1, none⟩ = some (.int .i64 f1) := (blk_cell h 1).trans rfl
theorem Z47.set_1 {w0 W : World} {g : Nat} {f0 : List Int} {f1 : Int} (h : Z47 w0 W g f0 f1) (x : Int) : Z47 w0 (W.setCell ⟨g, 1, none⟩ (.int .i64 x)) g f0 x := by
 obtain ⟨A0, c0, hb, hg, hr0⟩ := h
 exact ⟨A0, c0, by simpa using blk_set hb 1 (.int .i64 x), hg, hr0⟩
theorem Z47.new (w0 W : World) (A0 : Option Addr) (c0 : Nat) (f0 : List Int) (f1 : Int) (hB : Below w0.heap.size w0 W) (hr0 : Kd.C (Kd.int .u8) w0 A0 f0.length f0) : Z47 w0 (W.alloc (.cells #[.slice A0 f0.length c0, .int .i64 f1] 47)) W.heap.size f0 f1 := ⟨A0, c0, by simpa using heap_alloc_new W _, hB.size, hr0⟩

/-! ### spec_l20Rd_pick: function 24 -/
def spec_l20Rd_pick.j0 : Nat → Int → Bool → List Int → Int → Option (Int × Int)
 | 0, _, _, _, _ => none
 | k + 1, x1, x24, x1000, x1001 => if x24 = true then (some (0, x1001)) else (if (wrap64 (x1001 - 1)) < (x1000.length : Int) then (if 0 ≤ (wrap64 (x1001 - 1)) then (if x1 = 0 then (none) else (some (Int.tmod (wrap64 (rd x1000 (wrap64 (x1001 - 1)))) x1, x1001))) else (none)) else (if (x1000.length : Int) = 0 then (none) else (if 0 ≤ (Int.tmod (wrap64 (x1001 - 1)) (x1000.length : Int)) then (if (Int.tmod (wrap64 (x1001 - 1)) (x1000.length : Int)) < (x1000.length : Int) then (if 0 ≤ (Int.tmod (wrap64 ((wrap64 ((wrap64 (x1001 - 1)) * 7)) + 3)) (x1000.length : Int)) then (if (Int.tmod (wrap64 ((wrap64 ((wrap64 (x1001 - 1)) * 7)) + 3)) (x1000.length : Int)) < (x1000.length : Int) then (if x1 = 0 then (none) else (some (Int.tmod (Go.bits .xor .i64 (wrap64 ((wrap64 ((wrap64 ((wrap64 ((wrap64 (rd x1000 (Int.tmod (wrap64 (x1001 - 1)) (x1000.length : Int)))) * 131)) + (wrap64 ((wrap64 (rd x1000 (Int.tmod (wrap64 ((wrap64 ((wrap64 (x1001 - 1)) * 7)) + 3)) (x1000.length : Int)))) * 1117)))) + (wrap64 ((wrap64 (x1001 - 1)) * 29)))) + (wrap64 ((wrap64 (Int.tdiv (wrap64 (x1001 - 1)) (x1000.length : Int))) * 53)))) (wrap64 (Int.tdiv (wrap64 ((wrap64 ((wrap64 ((wrap64 ((wrap64 (rd x1000 (Int.tmod (wrap64 (x1001 - 1)) (x1000.length : Int)))) * 131)) + (wrap64 ((wrap64 (rd x1000 (Int.tmod (wrap64 ((wrap64 ((wrap64 (x1001 - 1)) * 7)) + 3)) (x1000.length : Int)))) * 1117)))) + (wrap64 ((wrap64 (x1001 - 1)) * 29)))) + (wrap64 ((wrap64 (Int.tdiv (wrap64 (x1001 - 1)) (x1000.length : Int))) * 53)))) 64))) x1, x1001))) else (none)) else (none)) else (none)) else (none))))
def spec_l20Rd_pick.f (k : Nat) (s0_0 : List Int) (s0_1 : Int) (a1 : Int) : Option (Int × Int) := if a1 < 1 then (spec_l20Rd_pick.j0 k a1 true s0_0 (wrap64 (s0_1 + 1))) else (spec_l20Rd_pick.j0 k a1 ((s0_0.length : Int) == 0) s0_0 (wrap64 (s0_1 + 1)))
theorem spec_l20Rd_pick.mono_l : ∀ k, (∀ y0 y1 y2 y3, LeO (spec_l20Rd_pick.j0 k y0 y1 y2 y3) (spec_l20Rd_pick.j0 (k + 1) y0 y1 y2 y3))
 | 0 => fun _ _ _ _ r h => by simp [spec_l20Rd_pick.j0] at h
 | k + 1 => by
  have ih0 := spec_l20Rd_pick.mono_l k
  ·intro y0 y1 y2 y3
   unfold spec_l20Rd_pick.j0
   repeat' first
   | (with_reducible exact ih0 _ _ _ _)
   | (with_reducible exact LeO.refl _)
   | (with_reducible exact LeO.none _)
   | (with_reducible refine LeO.ite ?_ ?_)
   | (with_reducible refine LeO.bind ?_ (fun _ => ?_))
   | refine LeO.ite ?_ ?_
   | refine LeO.bind ?_ (fun _ => ?_)
theorem spec_l20Rd_pick.mono : ∀ a0 a1 a2 k, LeO (spec_l20Rd_pick.f k a0 a1 a2) (spec_l20Rd_pick.f (k + 1) a0 a1 a2) := by
 intro a0 a1 a2 k
 have ih0 := spec_l20Rd_pick.mono_l k
 unfold spec_l20Rd_pick.f
 repeat' first
   | (with_reducible exact ih0 _ _ _ _)
   | (with_reducible exact LeO.refl _)
   | (with_reducible exact LeO.none _)
   | (with_reducible refine LeO.ite ?_ ?_)
   | (with_reducible refine LeO.bind ?_ (fun _ => ?_))
   | refine LeO.ite ?_ ?_
   | refine LeO.bind ?_ (fun _ => ?_)
set_option maxHeartbeats 8000000 in
set_option maxRecDepth 100000 in
theorem spec_l20Rd_pick.calls (k : Nat) (g : Nat) (s0_0 : List Int) (s0_1 : Int) (a1 : Int) (r1 : Int) (r2 : Int) (w0 w : World) (hI : Z47 w0 w g s0_0 s0_1) (hB : Below w0.heap.size w0 w) (h : spec_l20Rd_pick.f k s0_0 s0_1 a1 = some (r1, r2)) :
  Calls Try.prog 24 #[.pointer (some ⟨g, 0, none⟩), .int .i64 a1] w fun e w' => e = .returned (.int .i64 r1) ∧ Z47 w0 w' g s0_0 r2 ∧ Below w0.heap.size w0 w' ∧ KeepBut w w' g none := by
 have HI0 := zM hI
 have HK := zM (KeepBut.refl w g none)
 have HL := zM hB.size
 clear hI
 have HW0 := zM hB.size
 have HB := zM hB
 clear hB
 have H : (if a1 < 1 then (spec_l20Rd_pick.j0 k a1 true s0_0 (wrap64 (s0_1 + 1))) else (spec_l20Rd_pick.j0 k a1 ((s0_0.length : Int) == 0) s0_0 (wrap64 (s0_1 + 1)))) = some (r1, r2) := h
 clear h
 have HC3 := zM H
 clear H
 obtain ⟨ASz4_0, cSz4_0, HGz4, hgz4, HSz4_0⟩ := HI0.out
 have hcz4_0 := cellS47_0 HGz4
 have hcz4_1 := cellS47_1 HGz4
 have hfz4_1 := blk_frozen HGz4 1
 clear HGz4 hgz4
 go_enter Try.func24, Try.ntmps24
 go_upto_region 2 with (fail)
 repeat (go_quiet (fail); go_upto_region 2 with (fail))
 go_cut [24] (fun v24 wc => ∃ (kq : Nat) (x24_2 : Bool), v24 = .bool x24_2 ∧ Aside0 (spec_l20Rd_pick.j0 kq a1 x24_2 s0_0 (wrap64 (s0_1 + 1)) = some (r1, r2)) ∧ Aside0 (kq ≤ k) ∧ Aside0 (Z47 w0 wc g s0_0 (wrap64 (s0_1 + 1))) ∧ Aside0 (KeepBut w wc g none) ∧ Aside0 (Below w0.heap.size w0 wc))
 case first =>
  have H := HC3.out
  clear HC3
  by_cases c5 : a1 < 1
  ·rw [if_pos c5] at H
   have c5b0 : decide (a1 < 1) = true := decide_eq_true c5
   clear c5
   (first | rw [c5b0] | (simp only [i64_w, i32_w]; rw [c5b0]) | skip)
   have H' := zM H
   clear H
   go_wp2
   repeat (go_quiet (fail); try go_wp2)
   go_meet
   case rel => exact ⟨_, (true), (by first | rfl | (simp; done) | (simp [*]; done)), H', ⟨by first | omega | exact Nat.le_refl _⟩, ⟨by repeat (first | (with_reducible first | exact HI0.out | apply Z47.alloc | apply Z47.drewN | apply Z47.drew | apply Z47.set_1) | exact HI0.out)⟩, ⟨by repeat (first | (with_reducible first | exact HK.out | apply zK | apply keep_drewN | apply keep_drew | apply keep_alloc) | exact HK.out)⟩, ⟨by repeat (first | (with_reducible first | exact HB.out | apply zB | apply zA | apply zC | refine zD ?_ (Z47.ge HI0.out)) | exact HB.out)⟩⟩
  ·rw [if_neg c5] at H
   have c5b0 : decide (a1 < 1) = false := decide_eq_false c5
   clear c5
   (first | rw [c5b0] | (simp only [i64_w, i32_w]; rw [c5b0]) | skip)
   have H' := zM H
   clear H
   obtain ⟨ASz6_0, cSz6_0, HGz6, hgz6, HSz6_0⟩ := HI0.out
   have hcz6_0 := cellS47_0 HGz6
   have hcz6_1 := cellS47_1 HGz6
   have hfz6_1 := blk_frozen HGz6 1
   clear HGz6 hgz6
   go_wp2
   repeat (go_quiet (fail); try go_wp2)
   go_meet
   case rel => exact ⟨_, (((s0_0.length : Int) == 0)), (by first | rfl | (simp; done) | (simp [*]; done)), H', ⟨by first | omega | exact Nat.le_refl _⟩, ⟨by repeat (first | (with_reducible first | exact HI0.out | apply Z47.alloc | apply Z47.drewN | apply Z47.drew | apply Z47.set_1) | exact HI0.out)⟩, ⟨by repeat (first | (with_reducible first | exact HK.out | apply zK | apply keep_drewN | apply keep_drew | apply keep_alloc) | exact HK.out)⟩, ⟨by repeat (first | (with_reducible first | exact HB.out | apply zB | apply zA | apply zC | refine zD ?_ (Z47.ge HI0.out)) | exact HB.out)⟩⟩
 case rest =>
  clear HC3
  try clear c2
  try clear p2
  try clear c5
  try clear c5b0
  try clear p6
  try clear hcz4_0
  try clear hcz4_1
  try clear hcz6_0
  try clear hcz6_1
  try clear hfz4_1
  try clear hfz6_1
  obtain ⟨kq, x24_2, rfl, HA, HJ2, HI0, HK, HB⟩ := hcut
  cases kq with
  | zero => exact absurd HA.out (by simp [spec_l20Rd_pick.j0])
  | succ kj2 =>
   have H := HA.out
   clear HA
   simp only [spec_l20Rd_pick.j0] at H
   by_cases c7 : x24_2 = true
   ·subst c7
    have H1 : (some (0, (wrap64 (s0_1 + 1)))) = some (r1, r2) := by rw [if_pos rfl] at H; exact H
    clear H
    have H := H1
    clear H1
    simp only [Option.some.injEq, Prod.mk.injEq] at H
    obtain ⟨rfl, rfl⟩ := H
    go_wp2
    repeat (go_quiet (fail); try go_wp2)
    go_ret
    exact ⟨by first | rfl | (simp [errW_none, errW_some] <;> rfl) | (simp [*, errW_none, errW_some] <;> rfl), by repeat (first | (with_reducible first | exact HI0.out | apply Z47.alloc | apply Z47.drewN | apply Z47.drew | apply Z47.set_1) | exact HI0.out), by repeat (first | (with_reducible first | exact HB.out | apply zB | apply zA | apply zC | refine zD ?_ (Z47.ge HI0.out)) | exact HB.out), by repeat (first | (with_reducible first | exact HK.out | apply zK | apply keep_drewN | apply keep_drew | apply keep_alloc) | exact HK.out)⟩
   ·replace c7 := Bool.eq_false_iff.mpr c7
    subst c7
    have H1 : (if (wrap64 ((wrap64 (s0_1 + 1)) - 1)) < (s0_0.length : Int) then (if 0 ≤ (wrap64 ((wrap64 (s0_1 + 1)) - 1)) then (if a1 = 0 then (none) else (some (Int.tmod (wrap64 (rd s0_0 (wrap64 ((wrap64 (s0_1 + 1)) - 1)))) a1, (wrap64 (s0_1 + 1))))) else (none)) else (if (s0_0.length : Int) = 0 then (none) else (if 0 ≤ (Int.tmod (wrap64 ((wrap64 (s0_1 + 1)) - 1)) (s0_0.length : Int)) then (if (Int.tmod (wrap64 ((wrap64 (s0_1 + 1)) - 1)) (s0_0.length : Int)) < (s0_0.length : Int) then (if 0 ≤ (Int.tmod (wrap64 ((wrap64 ((wrap64 ((wrap64 (s0_1 + 1)) - 1)) * 7)) + 3)) (s0_0.length : Int)) then (if (Int.tmod (wrap64 ((wrap64 ((wrap64 ((wrap64 (s0_1 + 1)) - 1)) * 7)) + 3)) (s0_0.length : Int)) < (s0_0.length : Int) then (if a1 = 0 then (none) else (some (Int.tmod (Go.bits .xor .i64 (wrap64 ((wrap64 ((wrap64 ((wrap64 ((wrap64 (rd s0_0 (Int.tmod (wrap64 ((wrap64 (s0_1 + 1)) - 1)) (s0_0.length : Int)))) * 131)) + (wrap64 ((wrap64 (rd s0_0 (Int.tmod (wrap64 ((wrap64 ((wrap64 ((wrap64 (s0_1 + 1)) - 1)) * 7)) + 3)) (s0_0.length : Int)))) * 1117)))) + (wrap64 ((wrap64 ((wrap64 (s0_1 + 1)) - 1)) * 29)))) + (wrap64 ((wrap64 (Int.tdiv (wrap64 ((wrap64 (s0_1 + 1)) - 1)) (s0_0.length : Int))) * 53)))) (wrap64 (Int.tdiv (wrap64 ((wrap64 ((wrap64 ((wrap64 ((wrap64 (rd s0_0 (Int.tmod (wrap64 ((wrap64 (s0_1 + 1)) - 1)) (s0_0.length : Int)))) * 131)) + (wrap64 ((wrap64 (rd s0_0 (Int.tmod (wrap64 ((wrap64 ((wrap64 ((wrap64 (s0_1 + 1)) - 1)) * 7)) + 3)) (s0_0.length : Int)))) * 1117)))) + (wrap64 ((wrap64 ((wrap64 (s0_1 + 1)) - 1)) * 29)))) + (wrap64 ((wrap64 (Int.tdiv (wrap64 ((wrap64 (s0_1 + 1)) - 1)) (s0_0.length : Int))) * 53)))) 64))) a1, (wrap64 (s0_1 + 1))))) else (none)) else (none)) else (none)) else (none)))) = some (r1, r2) := by rw [if_neg (show ¬ (false = true) by decide)] at H; exact H
    clear H
    have H := H1
    clear H1
    by_cases c8 : (wrap64 ((wrap64 (s0_1 + 1)) - 1)) < (s0_0.length : Int)
    ·rw [if_pos c8] at H
     have c8b0 : decide ((wrap64 ((wrap64 (s0_1 + 1)) - 1)) < (s0_0.length : Int)) = true := decide_eq_true c8
     clear c8
     obtain ⟨ji9, hji9⟩ : ∃ j_ : Int, (wrap64 ((wrap64 (s0_1 + 1)) - 1)) = j_ := ⟨_, rfl⟩
     replace H : (if 0 ≤ (ji9) then (if a1 = 0 then (none) else (some (Int.tmod (wrap64 (rd s0_0 (ji9))) a1, (wrap64 (s0_1 + 1))))) else (none)) = some (r1, r2) := by first | (rw [hji9] at H; exact H) | (simp only [hji9] at H ⊢; exact H)
     (try rw [hji9] at c8b0)
     have hji9w : (IntKind.i64.wrap ((wrap64 (s0_1 + 1)) - 1)) = ji9 := (i64_w _).trans hji9
     by_cases c10 : 0 ≤ (ji9)
     ·rw [if_pos c10] at H
      have c10b0 : decide (0 ≤ (ji9)) = true := decide_eq_true c10
      clear c10
      by_cases c11 : a1 = 0
      ·rw [if_pos c11] at H
       exact absurd H (by simp)
      ·rw [if_neg c11] at H
       have c11b0 : (a1 == 0) = false := beq_eq_false_iff_ne.mpr c11
       have c11b1 : (a1 != 0) = true := bne_iff_ne.mpr c11
       simp only [Option.some.injEq, Prod.mk.injEq] at H
       obtain ⟨rfl, rfl⟩ := H
       obtain ⟨ASz12_0, cSz12_0, HGz12, hgz12, HSz12_0⟩ := HI0.out
       have hcz12_0 := cellS47_0 HGz12
       have hcz12_1 := cellS47_1 HGz12
       have hfz12_1 := blk_frozen HGz12 1
       clear HGz12 hgz12
       have p108 : 0 ≤ ((ji9) : Int) := of_decide_eq_true (by first | (with_reducible assumption) | assumption)
       have q108 : (ji9) < (s0_0.length : Int) := of_decide_eq_true (by first | (with_reducible assumption) | assumption)
       obtain ⟨ad108, e108, hx108_0⟩ := Kd.at_int HSz12_0 (ji9) p108 q108
       cases e108
       replace hx108_0 := pw_cell_below HB.out hx108_0
       replace p108 := eq_true p108
       replace q108 := eq_true q108
       go_wp2
       repeat (go_quiet (fail); try go_wp2)
       go_ret
       exact ⟨by first | rfl | (simp [errW_none, errW_some] <;> rfl) | (simp only [← hji9]; first | rfl | (simp [errW_none, errW_some] <;> rfl)) | (simp [*, errW_none, errW_some] <;> rfl), by repeat (first | (with_reducible first | exact HI0.out | apply Z47.alloc | apply Z47.drewN | apply Z47.drew | apply Z47.set_1) | exact HI0.out), by repeat (first | (with_reducible first | exact HB.out | apply zB | apply zA | apply zC | refine zD ?_ (Z47.ge HI0.out)) | exact HB.out), by repeat (first | (with_reducible first | exact HK.out | apply zK | apply keep_drewN | apply keep_drew | apply keep_alloc) | exact HK.out)⟩
     ·rw [if_neg c10] at H
      exact absurd H (by simp)
    ·rw [if_neg c8] at H
     have c8b0 : decide ((wrap64 ((wrap64 (s0_1 + 1)) - 1)) < (s0_0.length : Int)) = false := decide_eq_false c8
     clear c8
     by_cases c13 : (s0_0.length : Int) = 0
     ·rw [if_pos c13] at H
      exact absurd H (by simp)
     ·rw [if_neg c13] at H
      have c13b0 : ((s0_0.length : Int) == 0) = false := beq_eq_false_iff_ne.mpr c13
      have c13b1 : ((s0_0.length : Int) != 0) = true := bne_iff_ne.mpr c13
      have c13b2 : ¬ (s0_0 = []) := fun h_ => c13 (by rw [h_]; rfl)
      obtain ⟨ji14, hji14⟩ : ∃ j_ : Int, (Int.tmod (wrap64 ((wrap64 (s0_1 + 1)) - 1)) (s0_0.length : Int)) = j_ := ⟨_, rfl⟩
      replace H : (if 0 ≤ (ji14) then (if (ji14) < (s0_0.length : Int) then (if 0 ≤ (Int.tmod (wrap64 ((wrap64 ((wrap64 ((wrap64 (s0_1 + 1)) - 1)) * 7)) + 3)) (s0_0.length : Int)) then (if (Int.tmod (wrap64 ((wrap64 ((wrap64 ((wrap64 (s0_1 + 1)) - 1)) * 7)) + 3)) (s0_0.length : Int)) < (s0_0.length : Int) then (if a1 = 0 then (none) else (some (Int.tmod (Go.bits .xor .i64 (wrap64 ((wrap64 ((wrap64 ((wrap64 ((wrap64 (rd s0_0 (ji14))) * 131)) + (wrap64 ((wrap64 (rd s0_0 (Int.tmod (wrap64 ((wrap64 ((wrap64 ((wrap64 (s0_1 + 1)) - 1)) * 7)) + 3)) (s0_0.length : Int)))) * 1117)))) + (wrap64 ((wrap64 ((wrap64 (s0_1 + 1)) - 1)) * 29)))) + (wrap64 ((wrap64 (Int.tdiv (wrap64 ((wrap64 (s0_1 + 1)) - 1)) (s0_0.length : Int))) * 53)))) (wrap64 (Int.tdiv (wrap64 ((wrap64 ((wrap64 ((wrap64 ((wrap64 (rd s0_0 (ji14))) * 131)) + (wrap64 ((wrap64 (rd s0_0 (Int.tmod (wrap64 ((wrap64 ((wrap64 ((wrap64 (s0_1 + 1)) - 1)) * 7)) + 3)) (s0_0.length : Int)))) * 1117)))) + (wrap64 ((wrap64 ((wrap64 (s0_1 + 1)) - 1)) * 29)))) + (wrap64 ((wrap64 (Int.tdiv (wrap64 ((wrap64 (s0_1 + 1)) - 1)) (s0_0.length : Int))) * 53)))) 64))) a1, (wrap64 (s0_1 + 1))))) else (none)) else (none)) else (none)) else (none)) = some (r1, r2) := by first | (rw [hji14] at H; exact H) | (simp only [hji14] at H ⊢; exact H)
      by_cases c15 : 0 ≤ (ji14)
      ·rw [if_pos c15] at H
       have c15b0 : decide (0 ≤ (ji14)) = true := decide_eq_true c15
       clear c15
       by_cases c16 : (ji14) < (s0_0.length : Int)
       ·rw [if_pos c16] at H
        have c16b0 : decide ((ji14) < (s0_0.length : Int)) = true := decide_eq_true c16
        clear c16
        obtain ⟨ji17, hji17⟩ : ∃ j_ : Int, (Int.tmod (wrap64 ((wrap64 ((wrap64 ((wrap64 (s0_1 + 1)) - 1)) * 7)) + 3)) (s0_0.length : Int)) = j_ := ⟨_, rfl⟩
        replace H : (if 0 ≤ (ji17) then (if (ji17) < (s0_0.length : Int) then (if a1 = 0 then (none) else (some (Int.tmod (Go.bits .xor .i64 (wrap64 ((wrap64 ((wrap64 ((wrap64 ((wrap64 (rd s0_0 (ji14))) * 131)) + (wrap64 ((wrap64 (rd s0_0 (ji17))) * 1117)))) + (wrap64 ((wrap64 ((wrap64 (s0_1 + 1)) - 1)) * 29)))) + (wrap64 ((wrap64 (Int.tdiv (wrap64 ((wrap64 (s0_1 + 1)) - 1)) (s0_0.length : Int))) * 53)))) (wrap64 (Int.tdiv (wrap64 ((wrap64 ((wrap64 ((wrap64 ((wrap64 (rd s0_0 (ji14))) * 131)) + (wrap64 ((wrap64 (rd s0_0 (ji17))) * 1117)))) + (wrap64 ((wrap64 ((wrap64 (s0_1 + 1)) - 1)) * 29)))) + (wrap64 ((wrap64 (Int.tdiv (wrap64 ((wrap64 (s0_1 + 1)) - 1)) (s0_0.length : Int))) * 53)))) 64))) a1, (wrap64 (s0_1 + 1))))) else (none)) else (none)) = some (r1, r2) := by first | (rw [hji17] at H; exact H) | (simp only [hji17] at H ⊢; exact H)
        by_cases c18 : 0 ≤ (ji17)
        ·rw [if_pos c18] at H
         have c18b0 : decide (0 ≤ (ji17)) = true := decide_eq_true c18
         clear c18
         by_cases c19 : (ji17) < (s0_0.length : Int)
         ·rw [if_pos c19] at H
          have c19b0 : decide ((ji17) < (s0_0.length : Int)) = true := decide_eq_true c19
          clear c19
          by_cases c20 : a1 = 0
          ·rw [if_pos c20] at H
           exact absurd H (by simp)
          ·rw [if_neg c20] at H
           have c20b0 : (a1 == 0) = false := beq_eq_false_iff_ne.mpr c20
           have c20b1 : (a1 != 0) = true := bne_iff_ne.mpr c20
           simp only [Option.some.injEq, Prod.mk.injEq] at H
           obtain ⟨rfl, rfl⟩ := H
           obtain ⟨ASz21_0, cSz21_0, HGz21, hgz21, HSz21_0⟩ := HI0.out
           have hcz21_0 := cellS47_0 HGz21
           have hcz21_1 := cellS47_1 HGz21
           have hfz21_1 := blk_frozen HGz21 1
           clear HGz21 hgz21
           have p109 : 0 ≤ ((ji14) : Int) := of_decide_eq_true (by first | (with_reducible assumption) | assumption)
           have q109 : (ji14) < (s0_0.length : Int) := of_decide_eq_true (by first | (with_reducible assumption) | assumption)
           obtain ⟨ad109, e109, hx109_0⟩ := Kd.at_int HSz21_0 (ji14) p109 q109
           cases e109
           replace hx109_0 := pw_cell_below HB.out hx109_0
           replace p109 := eq_true p109
           replace q109 := eq_true q109
           have p110 : 0 ≤ ((ji17) : Int) := of_decide_eq_true (by first | (with_reducible assumption) | assumption)
           have q110 : (ji17) < (s0_0.length : Int) := of_decide_eq_true (by first | (with_reducible assumption) | assumption)
           obtain ⟨ad110, e110, hx110_0⟩ := Kd.at_int HSz21_0 (ji17) p110 q110
           obtain rfl : ad109 = ad110 := (by injection e110)
           replace hx110_0 := pw_cell_below HB.out hx110_0
           replace p110 := eq_true p110
           replace q110 := eq_true q110
           go_wp2
           repeat (go_quiet (fail); try go_wp2)
           go_ret
           exact ⟨by first | rfl | (simp [errW_none, errW_some] <;> rfl) | (simp only [← hji14, ← hji17]; first | rfl | (simp [errW_none, errW_some] <;> rfl)) | (simp [*, errW_none, errW_some] <;> rfl), by repeat (first | (with_reducible first | exact HI0.out | apply Z47.alloc | apply Z47.drewN | apply Z47.drew | apply Z47.set_1) | exact HI0.out), by repeat (first | (with_reducible first | exact HB.out | apply zB | apply zA | apply zC | refine zD ?_ (Z47.ge HI0.out)) | exact HB.out), by repeat (first | (with_reducible first | exact HK.out | apply zK | apply keep_drewN | apply keep_drew | apply keep_alloc) | exact HK.out)⟩
         ·rw [if_neg c19] at H
          exact absurd H (by simp)
        ·rw [if_neg c18] at H
         exact absurd H (by simp)
       ·rw [if_neg c16] at H
        exact absurd H (by simp)
      ·rw [if_neg c15] at H
       exact absurd H (by simp)

/-! ### spec_l20Order: function 26 -/
def spec_l20Order.l0 : Nat → Int → List Int → Int → Int → List Int → Int → Option (List Int × Int)
 | 0, _, _, _, _, _, _ => none
 | k + 1, x1, x5, x6, x7, x1000, x1001 => if x7 ≤ x1 then (if x6 = 0 then ((spec_l20Rd_pick.f k x1000 x1001 x7).bind fun bt116 => ((some (([] : List Int) : List Int)).bind fun y118 => (if 0 ≤ bt116.1 then (if bt116.1 ≤ (x5.length : Int) then ((some (x5.take (bt116.1 : Int).toNat : List Int)).bind fun y121 => (if y118.length + y121.length < 17592186044416 then ((some (y118 ++ y121 : List Int)).bind fun y125 => (if y125.length < 17592186044416 then ((some (y125 ++ [x7] : List Int)).bind fun y128 => ((some (x5.drop (bt116.1 : Int).toNat : List Int)).bind fun y131 => (if y128.length + y131.length < 17592186044416 then (spec_l20Order.l0 k x1 (y128 ++ y131) x6 (wrap64 (x7 + 1)) x1000 bt116.2) else (none)))) else (none))) else (none))) else (none)) else (none)))) else ((spec_l20Rd_pick.f k x1000 x1001 3).bind fun bt138 => (if bt138.1 = 0 then ((spec_l20Rd_pick.f k x1000 bt138.2 x7).bind fun bt140 => ((some (([] : List Int) : List Int)).bind fun y142 => (if 0 ≤ bt140.1 then (if bt140.1 ≤ (x5.length : Int) then ((some (x5.take (bt140.1 : Int).toNat : List Int)).bind fun y145 => (if y142.length + y145.length < 17592186044416 then ((some (y142 ++ y145 : List Int)).bind fun y149 => (if y149.length < 17592186044416 then ((some (y149 ++ [x7] : List Int)).bind fun y152 => ((some (x5.drop (bt140.1 : Int).toNat : List Int)).bind fun y155 => (if y152.length + y155.length < 17592186044416 then (spec_l20Order.l0 k x1 (y152 ++ y155) x6 (wrap64 (x7 + 1)) x1000 bt140.2) else (none)))) else (none))) else (none))) else (none)) else (none)))) else ((some (([] : List Int) : List Int)).bind fun y162 => (if 0 ≤ (x5.length : Int) then (if (x5.length : Int) ≤ (x5.length : Int) then ((some (x5.take ((x5.length : Int) : Int).toNat : List Int)).bind fun y165 => (if y162.length + y165.length < 17592186044416 then ((some (y162 ++ y165 : List Int)).bind fun y169 => (if y169.length < 17592186044416 then ((some (y169 ++ [x7] : List Int)).bind fun y172 => ((some (x5.drop ((x5.length : Int) : Int).toNat : List Int)).bind fun y175 => (if y172.length + y175.length < 17592186044416 then (spec_l20Order.l0 k x1 (y172 ++ y175) x6 (wrap64 (x7 + 1)) x1000 bt138.2) else (none)))) else (none))) else (none))) else (none)) else (none)))))) else (some (x5, x1001))
def spec_l20Order.f (k : Nat) (s0_0 : List Int) (s0_1 : Int) (a1 : Int) : Option (List Int × Int) := (spec_l20Rd_pick.f k s0_0 s0_1 2).bind fun bt114 => (spec_l20Order.l0 k a1 (([] : List Int)) bt114.1 1 s0_0 bt114.2)
theorem spec_l20Order.mono_l : ∀ k, (∀ y0 y1 y2 y3 y4 y5, LeO (spec_l20Order.l0 k y0 y1 y2 y3 y4 y5) (spec_l20Order.l0 (k + 1) y0 y1 y2 y3 y4 y5))
 | 0 => fun _ _ _ _ _ _ r h => by simp [spec_l20Order.l0] at h
 | k + 1 => by
  have ih0 := spec_l20Order.mono_l k
  ·intro y0 y1 y2 y3 y4 y5
   unfold spec_l20Order.l0
   repeat' first
   | (with_reducible exact ih0 _ _ _ _ _ _)
   | (with_reducible exact spec_l20Rd_pick.mono _ _ _ _)
   | (with_reducible exact LeO.refl _)
   | (with_reducible exact LeO.none _)
   | (with_reducible refine LeO.ite ?_ ?_)
   | (with_reducible refine LeO.bind ?_ (fun _ => ?_))
   | refine LeO.ite ?_ ?_
   | refine LeO.bind ?_ (fun _ => ?_)
theorem spec_l20Order.mono : ∀ a0 a1 a2 k, LeO (spec_l20Order.f k a0 a1 a2) (spec_l20Order.f (k + 1) a0 a1 a2) := by
 intro a0 a1 a2 k
 have ih0 := spec_l20Order.mono_l k
 unfold spec_l20Order.f
 repeat' first
   | (with_reducible exact ih0 _ _ _ _ _ _)
   | (with_reducible exact spec_l20Rd_pick.mono _ _ _ _)
   | (with_reducible exact LeO.refl _)
   | (with_reducible exact LeO.none _)
   | (with_reducible refine LeO.ite ?_ ?_)
   | (with_reducible refine LeO.bind ?_ (fun _ => ?_))
   | refine LeO.ite ?_ ?_
   | refine LeO.bind ?_ (fun _ => ?_)
set_option maxHeartbeats 8000000 in
set_option maxRecDepth 100000 in
theorem spec_l20Order.calls (k : Nat) (g : Nat) (s0_0 : List Int) (s0_1 : Int) (a1 : Int) (r1 : List Int) (r2 : Int) (w0 w : World) (hI : Z47 w0 w g s0_0 s0_1) (hB : Below w0.heap.size w0 w) (h : spec_l20Order.f k s0_0 s0_1 a1 = some (r1, r2)) :
  Calls Try.prog 26 #[.pointer (some ⟨g, 0, none⟩), .int .i64 a1] w fun e w' => ∃ v0_ : Value, e = .returned (v0_) ∧ Kd.R (Kd.int .i64) 3 w' w.heap.size (fun _ => True) v0_ r1 ∧ Z47 w0 w' g s0_0 r2 ∧ Below w0.heap.size w0 w' ∧ KeepBut w w' g none := by
 have HI0 := zM hI
 have HK := zM (KeepBut.refl w g none)
 have HL := zM hB.size
 clear hI
 have HW0 := zM hB.size
 have HB := zM hB
 clear hB
 have H : ((spec_l20Rd_pick.f k s0_0 s0_1 2).bind fun bt114 => (spec_l20Order.l0 k a1 (([] : List Int)) bt114.1 1 s0_0 bt114.2)) = some (r1, r2) := h
 clear h
 obtain ⟨y111, hy111⟩ : ∃ y_ : List Int, y_ = (([] : List Int)) := ⟨_, rfl⟩
 replace H : ((spec_l20Rd_pick.f k s0_0 s0_1 2).bind fun bt114 => (spec_l20Order.l0 k a1 y111 bt114.1 1 s0_0 bt114.2)) = some (r1, r2) := by first | (rw [hy111]; with_reducible exact H) | (have H2_ := (Option.bind_some _ _).symm.trans H; rw [hy111]; with_reducible exact H2_) | (have H2_ := (Option.bind_some _ _).symm.trans H; with_reducible exact H2_) | with_reducible exact H | (rw [hy111]; exact H) | exact H
 have Ny111 := zM hy111
 clear hy111
 replace H := Option.bind_eq_some_iff.mp H
 obtain ⟨⟨t114, t115⟩, A30, H⟩ := H
 replace H : (spec_l20Order.l0 k a1 y111 t114 1 s0_0 t115) = some (r1, r2) := H
 have A3 := zM A30
 clear A30
 have H' := zM H
 clear H
 go_enter Try.func26, Try.ntmps26
 go_wp2_with (first | ((with_reducible refine gate_dst (N := 10) rfl ?_); refine Kd.R_lit (Kd.int .i64) _ 3 ?hg (N := 10) ?hd (xs := ([] : List Int)) (inner := []) (ok := fun _ => True) (okp := fun _ => True) ?hr ?hp (fun _ hk => hk) trivial (Below.refl _ _) (Nat.le_refl _) (by simp) ?_; (case hd => rfl); (case hg => rfl); (case hr => first | (go_simp; done) | (go_simp; rfl)); (case hp => exact (Reps.none _ _)); intro v112 w4 ho5 hb hg_ hnew_; clear hg_ hnew_; (first | rw [← Ny111.out] at ho5 | (simp only [Int.reduceToNat] at ho5; rw [← Ny111.out] at ho5)); have n0_ := zM (Kd.R_lower ho5 (keep_size (w := w) (g := g) (row := none) (by repeat (first | (with_reducible first | exact HK.out | apply zK | apply keep_drewN | apply keep_drew | apply keep_alloc) | exact HK.out)))); have n1_ := zM (Z47.below (by repeat (first | (with_reducible first | exact HI0.out | apply Z47.alloc | apply Z47.drewN | apply Z47.drew | apply Z47.set_1) | exact HI0.out)) hb); have n2_ := zM (KeepBut.trans (by repeat (first | (with_reducible first | exact HK.out | apply zK | apply keep_drewN | apply keep_drew | apply keep_alloc) | exact HK.out)) (KeepBut.of_below hb g none) (.inl rfl)); have n3_ := zM (below_step (by repeat (first | (with_reducible first | exact HB.out | apply zB | apply zA | apply zC | refine zD ?_ (Z47.ge HI0.out)) | exact HB.out)) hb); clear HI0; clear HK; clear HB; have HO113 := n0_; have HI0 := n1_; have HK := n2_; have HB := n3_; clear n0_ n1_ n2_ n3_; clear hb ho5) | ((with_reducible refine gate_callee (f := 24) rfl ?_); refine goesL_ (some 12) rfl rfl Try.func24 (by kernel_rfl) rfl #[.pointer (some ⟨g, 0, none⟩), .int .i64 2] rfl (by (try simp only [List.map_toArray, List.map_cons, List.map_nil]); first | done | rfl | (simp only [List.length_drop, List.length_take]; rfl)) ?_; (with_reducible refine (spec_l20Rd_pick.calls k g s0_0 s0_1 2 t114 t115 w0 _ ?side1 ?side2 A3.out).mono ?_); (case side1 => repeat (first | (with_reducible first | exact HI0.out | apply Z47.alloc | apply Z47.drewN | apply Z47.drew | apply Z47.set_1) | exact HI0.out)); (case side2 => repeat (first | (with_reducible first | exact HB.out | apply zB | apply zA | apply zC | refine zD ?_ (Z47.ge HI0.out)) | exact HB.out)); rintro e w6 ⟨rfl, hi, hb, hk⟩; refine ⟨_, rfl, ?_⟩; have n0_ := zM (Kd.R_mono (Kd.R_keep (Z47.apart (show Z47 w0 _ g s0_0 s0_1 from by repeat (first | (with_reducible first | exact HI0.out | apply Z47.alloc | apply Z47.drewN | apply Z47.drew | apply Z47.set_1) | exact HI0.out)) (by exact HO113.out) (by decide)) hk (fun _ h => h.2)) (fun _ h => h.1)); have n1_ := zM (KeepBut.trans (by repeat (first | (with_reducible first | exact HK.out | apply zK | apply keep_drewN | apply keep_drew | apply keep_alloc) | exact HK.out)) hk (.inl rfl)); have n2_ := zM (hb); have n3_ := zM (hi); clear HO113; clear HK; clear HB; clear HI0; have HO113 := n0_; have HK := n1_; have HB := n2_; have HI0 := n3_; clear n0_ n1_ n2_ n3_; (try clear hb); (try clear hb2); (try clear hk); (try clear hi)))
 go_loopg [5, 7] k (fun kq v5 v7 w' => ∃ (x5_1 : List Int) (x7_1 : Int) (x1001_1 : Int), v7 = .int .i64 x7_1 ∧ Aside0 (spec_l20Order.l0 kq a1 x5_1 t114 x7_1 s0_0 x1001_1 = some (r1, r2)) ∧ Aside0 (kq ≤ k) ∧ Aside0 (Kd.R (Kd.int .i64) 3 w' w.heap.size (fun _ => True) v5 x5_1) ∧ Aside0 (Z47 w0 w' g s0_0 x1001_1) ∧ Aside0 (KeepBut w w' g none) ∧ Aside0 (Below w0.heap.size w0 w'))
 case atStart => exact ⟨(y111), (1), (t115), (by first | rfl | (simp; done) | (simp [*]; done)), H', ⟨Nat.le_refl _⟩, ⟨by exact HO113.out⟩, ⟨by repeat (first | (with_reducible first | exact HI0.out | apply Z47.alloc | apply Z47.drewN | apply Z47.drew | apply Z47.set_1) | exact HI0.out)⟩, ⟨by repeat (first | (with_reducible first | exact HK.out | apply zK | apply keep_drewN | apply keep_drew | apply keep_alloc) | exact HK.out)⟩, ⟨by repeat (first | (with_reducible first | exact HB.out | apply zB | apply zA | apply zC | refine zD ?_ (Z47.ge HI0.out)) | exact HB.out)⟩⟩
 case round =>
  clear H'
  try clear c2
  try clear p2
  obtain ⟨x5_1, x7_1, x1001_1, rfl, HA, HK1, HO_5, HI0, HK, HB⟩ := hrel
  cases gk with
  | zero => exact absurd HA.out (by simp [spec_l20Order.l0])
  | succ k1 =>
   have H := HA.out
   clear HA
   simp only [spec_l20Order.l0] at H
   by_cases c7 : x7_1 ≤ a1
   ·rw [if_pos c7] at H
    have c7b0 : decide (x7_1 ≤ a1) = true := decide_eq_true c7
    clear c7
    by_cases c8 : t114 = 0
    ·rw [if_pos c8] at H
     have c8b0 : (t114 == 0) = true := beq_iff_eq.mpr c8
     have c8b1 : (t114 != 0) = false := bne_eq_false_iff_eq.mpr c8
     clear c8
     replace H := Option.bind_eq_some_iff.mp H
     obtain ⟨⟨t116, t117⟩, A90, H⟩ := H
     replace H : ((some (([] : List Int) : List Int)).bind fun y118 => (if 0 ≤ t116 then (if t116 ≤ (x5_1.length : Int) then ((some (x5_1.take (t116 : Int).toNat : List Int)).bind fun y121 => (if y118.length + y121.length < 17592186044416 then ((some (y118 ++ y121 : List Int)).bind fun y125 => (if y125.length < 17592186044416 then ((some (y125 ++ [x7_1] : List Int)).bind fun y128 => ((some (x5_1.drop (t116 : Int).toNat : List Int)).bind fun y131 => (if y128.length + y131.length < 17592186044416 then (spec_l20Order.l0 k1 a1 (y128 ++ y131) t114 (wrap64 (x7_1 + 1)) s0_0 t117) else (none)))) else (none))) else (none))) else (none)) else (none))) = some (r1, r2) := H
     have A9 := zM A90
     clear A90
     obtain ⟨y118, hy118⟩ : ∃ y_ : List Int, y_ = (([] : List Int)) := ⟨_, rfl⟩
     replace H : (if 0 ≤ t116 then (if t116 ≤ (x5_1.length : Int) then ((some (x5_1.take (t116 : Int).toNat : List Int)).bind fun y121 => (if y118.length + y121.length < 17592186044416 then ((some (y118 ++ y121 : List Int)).bind fun y125 => (if y125.length < 17592186044416 then ((some (y125 ++ [x7_1] : List Int)).bind fun y128 => ((some (x5_1.drop (t116 : Int).toNat : List Int)).bind fun y131 => (if y128.length + y131.length < 17592186044416 then (spec_l20Order.l0 k1 a1 (y128 ++ y131) t114 (wrap64 (x7_1 + 1)) s0_0 t117) else (none)))) else (none))) else (none))) else (none)) else (none)) = some (r1, r2) := by first | (rw [hy118]; with_reducible exact H) | (have H2_ := (Option.bind_some _ _).symm.trans H; rw [hy118]; with_reducible exact H2_) | (have H2_ := (Option.bind_some _ _).symm.trans H; with_reducible exact H2_) | with_reducible exact H | (rw [hy118]; exact H) | exact H
     have Ny118 := zM hy118
     clear hy118
     by_cases c10 : 0 ≤ t116
     ·rw [if_pos c10] at H
      have c10b0 := eq_true c10
      have c10b1 : decide (0 ≤ t116) = true := decide_eq_true c10
      clear c10
      by_cases c11 : t116 ≤ (x5_1.length : Int)
      ·rw [if_pos c11] at H
       have c11b0 := eq_true c11
       have c11b1 : decide (t116 ≤ (x5_1.length : Int)) = true := decide_eq_true c11
       clear c11
       obtain ⟨y121, hy121⟩ : ∃ y_ : List Int, y_ = (x5_1.take (t116 : Int).toNat) := ⟨_, rfl⟩
       replace H : (if y118.length + y121.length < 17592186044416 then ((some (y118 ++ y121 : List Int)).bind fun y125 => (if y125.length < 17592186044416 then ((some (y125 ++ [x7_1] : List Int)).bind fun y128 => ((some (x5_1.drop (t116 : Int).toNat : List Int)).bind fun y131 => (if y128.length + y131.length < 17592186044416 then (spec_l20Order.l0 k1 a1 (y128 ++ y131) t114 (wrap64 (x7_1 + 1)) s0_0 t117) else (none)))) else (none))) else (none)) = some (r1, r2) := by first | (rw [hy121]; with_reducible exact H) | (have H2_ := (Option.bind_some _ _).symm.trans H; rw [hy121]; with_reducible exact H2_) | (have H2_ := (Option.bind_some _ _).symm.trans H; with_reducible exact H2_) | with_reducible exact H | (rw [hy121]; exact H) | exact H
       have Ny121 := zM hy121
       clear hy121
       by_cases c12 : y118.length + y121.length < 17592186044416
       ·rw [if_pos c12] at H
        have LMc12 := zM c12
        clear c12
        obtain ⟨y125, hy125⟩ : ∃ y_ : List Int, y_ = (y118 ++ y121) := ⟨_, rfl⟩
        replace H : (if y125.length < 17592186044416 then ((some (y125 ++ [x7_1] : List Int)).bind fun y128 => ((some (x5_1.drop (t116 : Int).toNat : List Int)).bind fun y131 => (if y128.length + y131.length < 17592186044416 then (spec_l20Order.l0 k1 a1 (y128 ++ y131) t114 (wrap64 (x7_1 + 1)) s0_0 t117) else (none)))) else (none)) = some (r1, r2) := by first | (rw [hy125]; with_reducible exact H) | (have H2_ := (Option.bind_some _ _).symm.trans H; rw [hy125]; with_reducible exact H2_) | (have H2_ := (Option.bind_some _ _).symm.trans H; with_reducible exact H2_) | with_reducible exact H | (rw [hy125]; exact H) | exact H
        have Ny125 := zM hy125
        clear hy125
        by_cases c13 : y125.length < 17592186044416
        ·rw [if_pos c13] at H
         have LMc13 := zM c13
         clear c13
         obtain ⟨y128, hy128⟩ : ∃ y_ : List Int, y_ = (y125 ++ [x7_1]) := ⟨_, rfl⟩
         replace H : ((some (x5_1.drop (t116 : Int).toNat : List Int)).bind fun y131 => (if y128.length + y131.length < 17592186044416 then (spec_l20Order.l0 k1 a1 (y128 ++ y131) t114 (wrap64 (x7_1 + 1)) s0_0 t117) else (none))) = some (r1, r2) := by first | (rw [hy128]; with_reducible exact H) | (have H2_ := (Option.bind_some _ _).symm.trans H; rw [hy128]; with_reducible exact H2_) | (have H2_ := (Option.bind_some _ _).symm.trans H; with_reducible exact H2_) | with_reducible exact H | (rw [hy128]; exact H) | exact H
         have Ny128 := zM hy128
         clear hy128
         have c14b0 := eq_true (of_decide_eq_true (by first | (with_reducible assumption) | assumption) : 0 ≤ t116)
         have c15b0 := eq_true (of_decide_eq_true (by first | (with_reducible assumption) | assumption) : t116 ≤ (x5_1.length : Int))
         obtain ⟨y131, hy131⟩ : ∃ y_ : List Int, y_ = (x5_1.drop (t116 : Int).toNat) := ⟨_, rfl⟩
         replace H : (if y128.length + y131.length < 17592186044416 then (spec_l20Order.l0 k1 a1 (y128 ++ y131) t114 (wrap64 (x7_1 + 1)) s0_0 t117) else (none)) = some (r1, r2) := by first | (rw [hy131]; with_reducible exact H) | (have H2_ := (Option.bind_some _ _).symm.trans H; rw [hy131]; with_reducible exact H2_) | (have H2_ := (Option.bind_some _ _).symm.trans H; with_reducible exact H2_) | with_reducible exact H | (rw [hy131]; exact H) | exact H
         have Ny131 := zM hy131
         clear hy131
         by_cases c16 : y128.length + y131.length < 17592186044416
         ·rw [if_pos c16] at H
          have LMc16 := zM c16
          clear c16
          obtain ⟨y135, hy135⟩ : ∃ y_ : List Int, y_ = (y128 ++ y131) := ⟨_, rfl⟩
          replace H : (spec_l20Order.l0 k1 a1 y135 t114 (wrap64 (x7_1 + 1)) s0_0 t117) = some (r1, r2) := by first | (rw [hy135]; with_reducible exact H) | (have H2_ := (Option.bind_some _ _).symm.trans H; rw [hy135]; with_reducible exact H2_) | (have H2_ := (Option.bind_some _ _).symm.trans H; with_reducible exact H2_) | with_reducible exact H | (rw [hy135]; exact H) | exact H
          have Ny135 := zM hy135
          clear hy135
          have H' := zM H
          clear H
          obtain ⟨Ao17, co17, eo17⟩ := Kd.R_slice HO_5.out
          subst eo17
          go_wp2_with (first | ((with_reducible refine gate_callee (f := 24) rfl ?_); refine goesL_ (some 29) rfl rfl Try.func24 (by kernel_rfl) rfl #[.pointer (some ⟨g, 0, none⟩), .int .i64 x7_1] rfl (by (try simp only [List.map_toArray, List.map_cons, List.map_nil]); first | done | rfl | (simp only [List.length_drop, List.length_take]; rfl)) ?_; (with_reducible refine (spec_l20Rd_pick.calls k1 g s0_0 x1001_1 x7_1 t116 t117 w0 _ ?side1 ?side2 A9.out).mono ?_); (case side1 => repeat (first | (with_reducible first | exact HI0.out | apply Z47.alloc | apply Z47.drewN | apply Z47.drew | apply Z47.set_1) | exact HI0.out)); (case side2 => repeat (first | (with_reducible first | exact HB.out | apply zB | apply zA | apply zC | refine zD ?_ (Z47.ge HI0.out)) | exact HB.out)); rintro e w18 ⟨rfl, hi, hb, hk⟩; refine ⟨_, rfl, ?_⟩; have n0_ := zM (Kd.R_mono (Kd.R_keep (Z47.apart (show Z47 w0 _ g s0_0 x1001_1 from by repeat (first | (with_reducible first | exact HI0.out | apply Z47.alloc | apply Z47.drewN | apply Z47.drew | apply Z47.set_1) | exact HI0.out)) (by exact HO_5.out) (by decide)) hk (fun _ h => h.2)) (fun _ h => h.1)); have n1_ := zM (KeepBut.trans (by repeat (first | (with_reducible first | exact HK.out | apply zK | apply keep_drewN | apply keep_drew | apply keep_alloc) | exact HK.out)) hk (.inl rfl)); have n2_ := zM (hb); have n3_ := zM (hi); clear HO_5; clear HK; clear HB; clear HI0; have HO_5 := n0_; have HK := n1_; have HB := n2_; have HI0 := n3_; clear n0_ n1_ n2_ n3_; (try clear hb); (try clear hb2); (try clear hk); (try clear hi)) | ((with_reducible refine gate_dst (N := 30) rfl ?_); refine Kd.R_lit (Kd.int .i64) _ 3 ?hg (N := 30) ?hd (xs := ([] : List Int)) (inner := []) (ok := fun _ => True) (okp := fun _ => True) ?hr ?hp (fun _ hk => hk) trivial (Below.refl _ _) (Nat.le_refl _) (by simp) ?_; (case hd => rfl); (case hg => rfl); (case hr => first | (go_simp; done) | (go_simp; rfl)); (case hp => exact (Reps.none _ _)); intro v119 w19 ho20 hb hg_ hnew_; clear hg_ hnew_; (first | rw [← Ny118.out] at ho20 | (simp only [Int.reduceToNat] at ho20; rw [← Ny118.out] at ho20)); have n0_ := zM (Kd.R_elder' (by exact HO_5.out) (Kd.R_base ho20) hb); have n1_ := zM (Kd.R_lower (Kd.R_new' ho20 (Kd.R_lt (by exact HO_5.out))) (keep_size (w := w) (g := g) (row := none) (by repeat (first | (with_reducible first | exact HK.out | apply zK | apply keep_drewN | apply keep_drew | apply keep_alloc) | exact HK.out)))); have n2_ := zM (Z47.below (by repeat (first | (with_reducible first | exact HI0.out | apply Z47.alloc | apply Z47.drewN | apply Z47.drew | apply Z47.set_1) | exact HI0.out)) hb); have n3_ := zM (KeepBut.trans (by repeat (first | (with_reducible first | exact HK.out | apply zK | apply keep_drewN | apply keep_drew | apply keep_alloc) | exact HK.out)) (KeepBut.of_below hb g none) (.inl rfl)); have n4_ := zM (below_step (by repeat (first | (with_reducible first | exact HB.out | apply zB | apply zA | apply zC | refine zD ?_ (Z47.ge HI0.out)) | exact HB.out)) hb); clear HO_5; clear HI0; clear HK; clear HB; have HO_5 := n0_; have HO120 := n1_; have HI0 := n2_; have HK := n3_; have HB := n4_; clear n0_ n1_ n2_ n3_ n4_; clear hb ho20; have q21 : (t116 : Int) ≤ ((x5_1.length : Int) : Int) := of_decide_eq_true (by first | (with_reducible assumption) | assumption); obtain ⟨i021, hi021, _, hsz21, _⟩ := info_parts info3; have hroom21 : x5_1.length ≤ co17 := (Kd.R_reads' HO_5.out).2.1; have hC21 : Kd.C (Kd.int .i64) _ Ao17 x5_1.length x5_1 := (Kd.R_reads' HO_5.out).2.2; have hcut21 := cut_to (P := Try.prog) 23 3 .i64 Try.underlying23 hi021 Ao17 x5_1.length co17 t116 (of_decide_eq_true (by first | (with_reducible assumption) | assumption)) q21 hroom21; have hr21 := Kd.C_take (m := (t116 : Int).toNat) hC21 (by omega); have hy21 : y121.length = (t116 : Int).toNat := (by rw [Ny121.out, List.length_take]; omega); rw [← Ny121.out] at hr21; rw [← hy21] at hcut21; have HR124 := zM hr21; have HC124 := zM (show y121.length ≤ co17 from by omega); clear hr21 hC21 hroom21 hi021 hsz21; have KY21 := zM hy21; clear hy21; have KL21 := zM (show (t116 : Int).toNat ≤ x5_1.length from by omega); replace q21 := eq_true q21) | ((with_reducible refine gate_builtin (b := .append) (xs := #[.tmp 30, .tmp 33]) rfl ?_); at_builtin; refine Kd.R_append_rows (Kd.int .i64) w.heap.size rfl (.tmp 30) (.tmp 33) 23 3 (.int .i64 0) 8 rfl Try.underlying23 info3 rfl (by decide) (by omega) v119 y118 y121 _ _ _ (fun k_ => some k_ ≠ (.slice Ao17 x5_1.length co17 : Value).ownBlock) (fun _ => False) rfl rfl ?aO ?aR (fun _ _ h => h) (fun _ h => h.elim) ?aF (Below.refl _ _) ?aS ?aL ?_; (case aR => repeat (first | exact (by repeat (first | (with_reducible exact HR124.out) | (with_reducible refine Kd.C_alloc ?_ _) | (with_reducible refine Kd.C_drewN ?_ _) | (with_reducible refine Kd.C_drew ?_) | exact HR124.out)) | (with_reducible refine Kd.C_alloc ?_ _) | (with_reducible refine Kd.C_drewN ?_ _) | (with_reducible refine Kd.C_drew ?_))); (case aF => exact (fun k_ hk => Kd.fresh' (Kd.R_lt (by exact HO_5.out)) k_ hk)); (case aO => exact (by exact Kd.R_mono HO120.out (fun _ hk => hk.2))); (case aS => exact (keep_size (w := w) (g := g) (row := none) (by repeat (first | (with_reducible first | exact HK.out | apply zK | apply keep_drewN | apply keep_drew | apply keep_alloc) | exact HK.out)))); (case aL => have := LMc12.out; omega); intro v126 w22 ho hb hg hat; rw [← Ny125.out] at ho; have n0_ := zM (Kd.R_after (ok := (fun _ => True)) (by exact HO_5.out) hg hat); have n1_ := zM (Z47.grown (by repeat (first | (with_reducible first | exact HI0.out | apply Z47.alloc | apply Z47.drewN | apply Z47.drew | apply Z47.set_1) | exact HI0.out)) hg (Z47.own_ne HI0.out HO120.out (by decide))); have n2_ := zM (below_weaken (by repeat (first | (with_reducible first | exact HB.out | apply zB | apply zA | apply zC | refine zD ?_ (Z47.ge HI0.out)) | exact HB.out)) HL.out hb); have n3_ := zM (KeepBut.trans (by repeat (first | (with_reducible first | exact HK.out | apply zK | apply keep_drewN | apply keep_drew | apply keep_alloc) | exact HK.out)) (KeepBut.of_grown hg g) (Kd.R_base2 HO120.out)); have n4_ := zM ((show Kd.C (Kd.int .i64) w22 Ao17 y121.length y121 from by rw [Ny121.out]; exact Kd.C_take (m := (t116 : Int).toNat) ((Kd.R_reads' (Kd.R_after (ok := (fun _ => True)) (by exact HO_5.out) hg hat)).2.2) KL21.out)); have n5_ := zM (ho); clear HO_5; clear HI0; clear HB; clear HK; clear HR124; clear HO120; have HO_5 := n0_; have HI0 := n1_; have HB := n2_; have HK := n3_; have HR124 := n4_; have HO127 := n5_; clear n0_ n1_ n2_ n3_ n4_ n5_; clear ho hb hg hat) | ((with_reducible refine gate_builtin (b := .append) (xs := #[.tmp 35, .tmp 37]) rfl ?_); at_builtin; refine Kd.R_append (Kd.int .i64) w.heap.size rfl (.tmp 35) (.tmp 37) 23 3 (.int .i64 0) 8 rfl Try.underlying23 info3 rfl (by decide) (by omega) v126 y125 x7_1 [.int .i64 x7_1] (fun k_ => some k_ ≠ (.slice Ao17 x5_1.length co17 : Value).ownBlock) (fun _ => False) rfl rfl ?aP (fun _ hk => hk.elim) ?aF ?aO (Below.refl _ _) ?aS ?aL ?_; (case aP => exact rfl); (case aF => exact (fun k_ hk => Kd.fresh' (Kd.R_lt (by exact HO_5.out)) k_ hk)); (case aO => exact (by exact HO127.out)); (case aS => exact (keep_size (w := w) (g := g) (row := none) (by repeat (first | (with_reducible first | exact HK.out | apply zK | apply keep_drewN | apply keep_drew | apply keep_alloc) | exact HK.out)))); (case aL => have := LMc13.out; omega); intro v129 w23 ho hb hg hat; rw [← Ny128.out] at ho; have n0_ := zM (Kd.R_after (ok := (fun _ => True)) (by exact HO_5.out) hg hat); have n1_ := zM (Z47.grown (by repeat (first | (with_reducible first | exact HI0.out | apply Z47.alloc | apply Z47.drewN | apply Z47.drew | apply Z47.set_1) | exact HI0.out)) hg (Z47.own_ne HI0.out HO127.out (by decide))); have n2_ := zM (below_weaken (by repeat (first | (with_reducible first | exact HB.out | apply zB | apply zA | apply zC | refine zD ?_ (Z47.ge HI0.out)) | exact HB.out)) HL.out hb); have n3_ := zM (KeepBut.trans (by repeat (first | (with_reducible first | exact HK.out | apply zK | apply keep_drewN | apply keep_drew | apply keep_alloc) | exact HK.out)) (KeepBut.of_grown hg g) (Kd.R_base2 HO127.out)); have n4_ := zM ((show Kd.C (Kd.int .i64) w23 Ao17 y121.length y121 from by rw [Ny121.out]; exact Kd.C_take (m := (t116 : Int).toNat) ((Kd.R_reads' (Kd.R_after (ok := (fun _ => True)) (by exact HO_5.out) hg hat)).2.2) KL21.out)); have n5_ := zM (ho); clear HO_5; clear HI0; clear HB; clear HK; clear HR124; clear HO127; have HO_5 := n0_; have HI0 := n1_; have HB := n2_; have HK := n3_; have HR124 := n4_; have HO130 := n5_; clear n0_ n1_ n2_ n3_ n4_ n5_; clear ho hb hg hat; have q24 : (t116 : Int) ≤ ((x5_1.length : Int) : Int) := of_decide_eq_true (by first | (with_reducible assumption) | assumption); obtain ⟨i024, hi024, _, hsz24, _⟩ := info_parts info3; have hroom24 : x5_1.length ≤ co17 := (Kd.R_reads' HO_5.out).2.1; have hC24 : Kd.C (Kd.int .i64) _ Ao17 x5_1.length x5_1 := (Kd.R_reads' HO_5.out).2.2; have q024 : (0 : Int) ≤ (t116 : Int) := of_decide_eq_true (by first | (with_reducible assumption) | assumption); have hcut24 := cut_from (P := Try.prog) 23 3 .i64 Try.underlying23 hi024 1 hsz24 Ao17 x5_1.length co17 t116 q024 q24; have hr24 := Kd.C_drop (m := (t116 : Int).toNat) (c := co17) hC24 (by omega) hroom24; obtain ⟨A24, hA24⟩ : ∃ A1, A1 = (if co17 = (t116 : Int).toNat then Ao17 else (Ao17 : Option Addr).map (·.add ((t116 : Int).toNat * 1))) := ⟨_, rfl⟩; obtain ⟨c24, hc24⟩ : ∃ c1, c1 = co17 - (t116 : Int).toNat := ⟨_, rfl⟩; have hy24 : y131.length = x5_1.length - (t116 : Int).toNat := (by rw [Ny131.out, List.length_drop] <;> omega); rw [show (x5_1).drop (t116 : Int).toNat = y131 from Ny131.out.symm] at hr24; replace hr24 : Kd.C (Kd.int .i64) _ A24 y131.length y131 := (by rw [hA24]; exact hr24); rw [← hy24, ← hA24, ← hc24] at hcut24; have HR134 := zM hr24; have HC134 := zM (show y131.length ≤ c24 from by rw [hy24, hc24]; exact Nat.sub_le_sub_right hroom24 _); clear hr24 hC24 hroom24 hi024 hsz24 hc24; have KY24 := zM hy24; have KA24 := zM hA24; clear hy24 hA24; have KL24 := zM (show (t116 : Int).toNat ≤ x5_1.length from by omega); replace q24 := eq_true q24) | ((with_reducible refine gate_builtin (b := .append) (xs := #[.tmp 39, .tmp 42]) rfl ?_); at_builtin; refine Kd.R_append_rows (Kd.int .i64) w.heap.size rfl (.tmp 39) (.tmp 42) 23 3 (.int .i64 0) 8 rfl Try.underlying23 info3 rfl (by decide) (by omega) v129 y128 y131 _ _ _ (fun k_ => some k_ ≠ (.slice Ao17 x5_1.length co17 : Value).ownBlock) (fun _ => False) rfl rfl ?aO ?aR (fun _ _ h => h) (fun _ h => h.elim) ?aF (Below.refl _ _) ?aS ?aL ?_; (case aR => repeat (first | exact (by repeat (first | (with_reducible exact HR134.out) | (with_reducible refine Kd.C_alloc ?_ _) | (with_reducible refine Kd.C_drewN ?_ _) | (with_reducible refine Kd.C_drew ?_) | exact HR134.out)) | (with_reducible refine Kd.C_alloc ?_ _) | (with_reducible refine Kd.C_drewN ?_ _) | (with_reducible refine Kd.C_drew ?_))); (case aF => exact (fun k_ hk => Kd.fresh' (Kd.R_lt (by exact HO_5.out)) k_ hk)); (case aO => exact (by exact HO130.out)); (case aS => exact (keep_size (w := w) (g := g) (row := none) (by repeat (first | (with_reducible first | exact HK.out | apply zK | apply keep_drewN | apply keep_drew | apply keep_alloc) | exact HK.out)))); (case aL => have := LMc16.out; omega); intro v136 w25 ho hb hg hat; rw [← Ny135.out] at ho; have n0_ := zM (Kd.R_after (ok := (fun _ => True)) (by exact HO_5.out) hg hat); have n1_ := zM (Z47.grown (by repeat (first | (with_reducible first | exact HI0.out | apply Z47.alloc | apply Z47.drewN | apply Z47.drew | apply Z47.set_1) | exact HI0.out)) hg (Z47.own_ne HI0.out HO130.out (by decide))); have n2_ := zM (below_weaken (by repeat (first | (with_reducible first | exact HB.out | apply zB | apply zA | apply zC | refine zD ?_ (Z47.ge HI0.out)) | exact HB.out)) HL.out hb); have n3_ := zM (KeepBut.trans (by repeat (first | (with_reducible first | exact HK.out | apply zK | apply keep_drewN | apply keep_drew | apply keep_alloc) | exact HK.out)) (KeepBut.of_grown hg g) (Kd.R_base2 HO130.out)); have n4_ := zM ((show Kd.C (Kd.int .i64) w25 Ao17 y121.length y121 from by rw [Ny121.out]; exact Kd.C_take (m := (t116 : Int).toNat) ((Kd.R_reads' (Kd.R_after (ok := (fun _ => True)) (by exact HO_5.out) hg hat)).2.2) KL21.out)); have n5_ := zM ((show Kd.C (Kd.int .i64) w25 A24 y131.length y131 from by rw [Ny131.out, KA24.out]; exact Kd.C_drop (m := (t116 : Int).toNat) (c := co17) ((Kd.R_reads' (Kd.R_after (ok := (fun _ => True)) (by exact HO_5.out) hg hat)).2.2) KL24.out ((Kd.R_reads' (Kd.R_after (ok := (fun _ => True)) (by exact HO_5.out) hg hat)).2.1))); have n6_ := zM (ho); clear HO_5; clear HI0; clear HB; clear HK; clear HR124; clear HR134; clear HO130; have HO_5 := n0_; have HI0 := n1_; have HB := n2_; have HK := n3_; have HR124 := n4_; have HR134 := n5_; have HO137 := n6_; clear n0_ n1_ n2_ n3_ n4_ n5_ n6_; clear ho hb hg hat))
          go_roundg k1
          case measure => have := HK1.out; omega
          case rel => exact ⟨(y135), (wrap64 (x7_1 + 1)), (t117), (by first | rfl | (simp; done) | (simp [*]; done)), H', ⟨by have := HK1.out; omega⟩, ⟨by exact Kd.R_mono HO137.out (fun _ hk => trivial)⟩, ⟨by repeat (first | (with_reducible first | exact HI0.out | apply Z47.alloc | apply Z47.drewN | apply Z47.drew | apply Z47.set_1) | exact HI0.out)⟩, ⟨by repeat (first | (with_reducible first | exact HK.out | apply zK | apply keep_drewN | apply keep_drew | apply keep_alloc) | exact HK.out)⟩, ⟨by repeat (first | (with_reducible first | exact HB.out | apply zB | apply zA | apply zC | refine zD ?_ (Z47.ge HI0.out)) | exact HB.out)⟩⟩
         ·rw [if_neg c16] at H
          exact absurd H (by simp)
        ·rw [if_neg c13] at H
         exact absurd H (by simp)
       ·rw [if_neg c12] at H
        exact absurd H (by simp)
      ·rw [if_neg c11] at H
       exact absurd H (by simp)
     ·rw [if_neg c10] at H
      exact absurd H (by simp)
    ·rw [if_neg c8] at H
     have c8b0 : (t114 == 0) = false := beq_eq_false_iff_ne.mpr c8
     have c8b1 : (t114 != 0) = true := bne_iff_ne.mpr c8
     replace H := Option.bind_eq_some_iff.mp H
     obtain ⟨⟨t138, t139⟩, A260, H⟩ := H
     replace H : (if t138 = 0 then ((spec_l20Rd_pick.f k1 s0_0 t139 x7_1).bind fun bt140 => ((some (([] : List Int) : List Int)).bind fun y142 => (if 0 ≤ bt140.1 then (if bt140.1 ≤ (x5_1.length : Int) then ((some (x5_1.take (bt140.1 : Int).toNat : List Int)).bind fun y145 => (if y142.length + y145.length < 17592186044416 then ((some (y142 ++ y145 : List Int)).bind fun y149 => (if y149.length < 17592186044416 then ((some (y149 ++ [x7_1] : List Int)).bind fun y152 => ((some (x5_1.drop (bt140.1 : Int).toNat : List Int)).bind fun y155 => (if y152.length + y155.length < 17592186044416 then (spec_l20Order.l0 k1 a1 (y152 ++ y155) t114 (wrap64 (x7_1 + 1)) s0_0 bt140.2) else (none)))) else (none))) else (none))) else (none)) else (none)))) else ((some (([] : List Int) : List Int)).bind fun y162 => (if 0 ≤ (x5_1.length : Int) then (if (x5_1.length : Int) ≤ (x5_1.length : Int) then ((some (x5_1.take ((x5_1.length : Int) : Int).toNat : List Int)).bind fun y165 => (if y162.length + y165.length < 17592186044416 then ((some (y162 ++ y165 : List Int)).bind fun y169 => (if y169.length < 17592186044416 then ((some (y169 ++ [x7_1] : List Int)).bind fun y172 => ((some (x5_1.drop ((x5_1.length : Int) : Int).toNat : List Int)).bind fun y175 => (if y172.length + y175.length < 17592186044416 then (spec_l20Order.l0 k1 a1 (y172 ++ y175) t114 (wrap64 (x7_1 + 1)) s0_0 t139) else (none)))) else (none))) else (none))) else (none)) else (none)))) = some (r1, r2) := H
     have A26 := zM A260
     clear A260
     by_cases c27 : t138 = 0
     ·rw [if_pos c27] at H
      have c27b0 : (t138 == 0) = true := beq_iff_eq.mpr c27
      have c27b1 : (t138 != 0) = false := bne_eq_false_iff_eq.mpr c27
      clear c27
      replace H := Option.bind_eq_some_iff.mp H
      obtain ⟨⟨t140, t141⟩, A280, H⟩ := H
      replace H : ((some (([] : List Int) : List Int)).bind fun y142 => (if 0 ≤ t140 then (if t140 ≤ (x5_1.length : Int) then ((some (x5_1.take (t140 : Int).toNat : List Int)).bind fun y145 => (if y142.length + y145.length < 17592186044416 then ((some (y142 ++ y145 : List Int)).bind fun y149 => (if y149.length < 17592186044416 then ((some (y149 ++ [x7_1] : List Int)).bind fun y152 => ((some (x5_1.drop (t140 : Int).toNat : List Int)).bind fun y155 => (if y152.length + y155.length < 17592186044416 then (spec_l20Order.l0 k1 a1 (y152 ++ y155) t114 (wrap64 (x7_1 + 1)) s0_0 t141) else (none)))) else (none))) else (none))) else (none)) else (none))) = some (r1, r2) := H
      have A28 := zM A280
      clear A280
      obtain ⟨y142, hy142⟩ : ∃ y_ : List Int, y_ = (([] : List Int)) := ⟨_, rfl⟩
      replace H : (if 0 ≤ t140 then (if t140 ≤ (x5_1.length : Int) then ((some (x5_1.take (t140 : Int).toNat : List Int)).bind fun y145 => (if y142.length + y145.length < 17592186044416 then ((some (y142 ++ y145 : List Int)).bind fun y149 => (if y149.length < 17592186044416 then ((some (y149 ++ [x7_1] : List Int)).bind fun y152 => ((some (x5_1.drop (t140 : Int).toNat : List Int)).bind fun y155 => (if y152.length + y155.length < 17592186044416 then (spec_l20Order.l0 k1 a1 (y152 ++ y155) t114 (wrap64 (x7_1 + 1)) s0_0 t141) else (none)))) else (none))) else (none))) else (none)) else (none)) = some (r1, r2) := by first | (rw [hy142]; with_reducible exact H) | (have H2_ := (Option.bind_some _ _).symm.trans H; rw [hy142]; with_reducible exact H2_) | (have H2_ := (Option.bind_some _ _).symm.trans H; with_reducible exact H2_) | with_reducible exact H | (rw [hy142]; exact H) | exact H
      have Ny142 := zM hy142
      clear hy142
      by_cases c29 : 0 ≤ t140
      ·rw [if_pos c29] at H
       have c29b0 := eq_true c29
       have c29b1 : decide (0 ≤ t140) = true := decide_eq_true c29
       clear c29
       by_cases c30 : t140 ≤ (x5_1.length : Int)
       ·rw [if_pos c30] at H
        have c30b0 := eq_true c30
        have c30b1 : decide (t140 ≤ (x5_1.length : Int)) = true := decide_eq_true c30
        clear c30
        obtain ⟨y145, hy145⟩ : ∃ y_ : List Int, y_ = (x5_1.take (t140 : Int).toNat) := ⟨_, rfl⟩
        replace H : (if y142.length + y145.length < 17592186044416 then ((some (y142 ++ y145 : List Int)).bind fun y149 => (if y149.length < 17592186044416 then ((some (y149 ++ [x7_1] : List Int)).bind fun y152 => ((some (x5_1.drop (t140 : Int).toNat : List Int)).bind fun y155 => (if y152.length + y155.length < 17592186044416 then (spec_l20Order.l0 k1 a1 (y152 ++ y155) t114 (wrap64 (x7_1 + 1)) s0_0 t141) else (none)))) else (none))) else (none)) = some (r1, r2) := by first | (rw [hy145]; with_reducible exact H) | (have H2_ := (Option.bind_some _ _).symm.trans H; rw [hy145]; with_reducible exact H2_) | (have H2_ := (Option.bind_some _ _).symm.trans H; with_reducible exact H2_) | with_reducible exact H | (rw [hy145]; exact H) | exact H
        have Ny145 := zM hy145
        clear hy145
        by_cases c31 : y142.length + y145.length < 17592186044416
        ·rw [if_pos c31] at H
         have LMc31 := zM c31
         clear c31
         obtain ⟨y149, hy149⟩ : ∃ y_ : List Int, y_ = (y142 ++ y145) := ⟨_, rfl⟩
         replace H : (if y149.length < 17592186044416 then ((some (y149 ++ [x7_1] : List Int)).bind fun y152 => ((some (x5_1.drop (t140 : Int).toNat : List Int)).bind fun y155 => (if y152.length + y155.length < 17592186044416 then (spec_l20Order.l0 k1 a1 (y152 ++ y155) t114 (wrap64 (x7_1 + 1)) s0_0 t141) else (none)))) else (none)) = some (r1, r2) := by first | (rw [hy149]; with_reducible exact H) | (have H2_ := (Option.bind_some _ _).symm.trans H; rw [hy149]; with_reducible exact H2_) | (have H2_ := (Option.bind_some _ _).symm.trans H; with_reducible exact H2_) | with_reducible exact H | (rw [hy149]; exact H) | exact H
         have Ny149 := zM hy149
         clear hy149
         by_cases c32 : y149.length < 17592186044416
         ·rw [if_pos c32] at H
          have LMc32 := zM c32
          clear c32
          obtain ⟨y152, hy152⟩ : ∃ y_ : List Int, y_ = (y149 ++ [x7_1]) := ⟨_, rfl⟩
          replace H : ((some (x5_1.drop (t140 : Int).toNat : List Int)).bind fun y155 => (if y152.length + y155.length < 17592186044416 then (spec_l20Order.l0 k1 a1 (y152 ++ y155) t114 (wrap64 (x7_1 + 1)) s0_0 t141) else (none))) = some (r1, r2) := by first | (rw [hy152]; with_reducible exact H) | (have H2_ := (Option.bind_some _ _).symm.trans H; rw [hy152]; with_reducible exact H2_) | (have H2_ := (Option.bind_some _ _).symm.trans H; with_reducible exact H2_) | with_reducible exact H | (rw [hy152]; exact H) | exact H
          have Ny152 := zM hy152
          clear hy152
          have c33b0 := eq_true (of_decide_eq_true (by first | (with_reducible assumption) | assumption) : 0 ≤ t140)
          have c34b0 := eq_true (of_decide_eq_true (by first | (with_reducible assumption) | assumption) : t140 ≤ (x5_1.length : Int))
          obtain ⟨y155, hy155⟩ : ∃ y_ : List Int, y_ = (x5_1.drop (t140 : Int).toNat) := ⟨_, rfl⟩
          replace H : (if y152.length + y155.length < 17592186044416 then (spec_l20Order.l0 k1 a1 (y152 ++ y155) t114 (wrap64 (x7_1 + 1)) s0_0 t141) else (none)) = some (r1, r2) := by first | (rw [hy155]; with_reducible exact H) | (have H2_ := (Option.bind_some _ _).symm.trans H; rw [hy155]; with_reducible exact H2_) | (have H2_ := (Option.bind_some _ _).symm.trans H; with_reducible exact H2_) | with_reducible exact H | (rw [hy155]; exact H) | exact H
          have Ny155 := zM hy155
          clear hy155
          by_cases c35 : y152.length + y155.length < 17592186044416
          ·rw [if_pos c35] at H
           have LMc35 := zM c35
           clear c35
           obtain ⟨y159, hy159⟩ : ∃ y_ : List Int, y_ = (y152 ++ y155) := ⟨_, rfl⟩
           replace H : (spec_l20Order.l0 k1 a1 y159 t114 (wrap64 (x7_1 + 1)) s0_0 t141) = some (r1, r2) := by first | (rw [hy159]; with_reducible exact H) | (have H2_ := (Option.bind_some _ _).symm.trans H; rw [hy159]; with_reducible exact H2_) | (have H2_ := (Option.bind_some _ _).symm.trans H; with_reducible exact H2_) | with_reducible exact H | (rw [hy159]; exact H) | exact H
           have Ny159 := zM hy159
           clear hy159
           have H' := zM H
           clear H
           obtain ⟨Ao36, co36, eo36⟩ := Kd.R_slice HO_5.out
           subst eo36
           go_wp2_with (first | (go_at_call 24; (with_reducible refine (spec_l20Rd_pick.calls k1 g s0_0 x1001_1 3 t138 t139 w0 _ ?side1 ?side2 A26.out).mono ?_); (case side1 => repeat (first | (with_reducible first | exact HI0.out | apply Z47.alloc | apply Z47.drewN | apply Z47.drew | apply Z47.set_1) | exact HI0.out)); (case side2 => repeat (first | (with_reducible first | exact HB.out | apply zB | apply zA | apply zC | refine zD ?_ (Z47.ge HI0.out)) | exact HB.out)); rintro e w37 ⟨rfl, hi, hb, hk⟩; have n0_ := zM (Kd.R_mono (Kd.R_keep (Z47.apart (show Z47 w0 _ g s0_0 x1001_1 from by repeat (first | (with_reducible first | exact HI0.out | apply Z47.alloc | apply Z47.drewN | apply Z47.drew | apply Z47.set_1) | exact HI0.out)) (by exact HO_5.out) (by decide)) hk (fun _ h => h.2)) (fun _ h => h.1)); have n1_ := zM (KeepBut.trans (by repeat (first | (with_reducible first | exact HK.out | apply zK | apply keep_drewN | apply keep_drew | apply keep_alloc) | exact HK.out)) hk (.inl rfl)); have n2_ := zM (hb); have n3_ := zM (hi); clear HO_5; clear HK; clear HB; clear HI0; have HO_5 := n0_; have HK := n1_; have HB := n2_; have HI0 := n3_; clear n0_ n1_ n2_ n3_; (try clear hb); (try clear hb2); (try clear hk); (try clear hi)) | ((with_reducible refine gate_callee (f := 24) rfl ?_); refine goesL_ (some 29) rfl rfl Try.func24 (by kernel_rfl) rfl #[.pointer (some ⟨g, 0, none⟩), .int .i64 x7_1] rfl (by (try simp only [List.map_toArray, List.map_cons, List.map_nil]); first | done | rfl | (simp only [List.length_drop, List.length_take]; rfl)) ?_; (with_reducible refine (spec_l20Rd_pick.calls k1 g s0_0 t139 x7_1 t140 t141 w0 _ ?side1 ?side2 A28.out).mono ?_); (case side1 => repeat (first | (with_reducible first | exact HI0.out | apply Z47.alloc | apply Z47.drewN | apply Z47.drew | apply Z47.set_1) | exact HI0.out)); (case side2 => repeat (first | (with_reducible first | exact HB.out | apply zB | apply zA | apply zC | refine zD ?_ (Z47.ge HI0.out)) | exact HB.out)); rintro e w38 ⟨rfl, hi, hb, hk⟩; refine ⟨_, rfl, ?_⟩; have n0_ := zM (Kd.R_mono (Kd.R_keep (Z47.apart (show Z47 w0 _ g s0_0 t139 from by repeat (first | (with_reducible first | exact HI0.out | apply Z47.alloc | apply Z47.drewN | apply Z47.drew | apply Z47.set_1) | exact HI0.out)) (by exact HO_5.out) (by decide)) hk (fun _ h => h.2)) (fun _ h => h.1)); have n1_ := zM (KeepBut.trans (by repeat (first | (with_reducible first | exact HK.out | apply zK | apply keep_drewN | apply keep_drew | apply keep_alloc) | exact HK.out)) hk (.inl rfl)); have n2_ := zM (hb); have n3_ := zM (hi); clear HO_5; clear HK; clear HB; clear HI0; have HO_5 := n0_; have HK := n1_; have HB := n2_; have HI0 := n3_; clear n0_ n1_ n2_ n3_; (try clear hb); (try clear hb2); (try clear hk); (try clear hi)) | ((with_reducible refine gate_dst (N := 30) rfl ?_); refine Kd.R_lit (Kd.int .i64) _ 3 ?hg (N := 30) ?hd (xs := ([] : List Int)) (inner := []) (ok := fun _ => True) (okp := fun _ => True) ?hr ?hp (fun _ hk => hk) trivial (Below.refl _ _) (Nat.le_refl _) (by simp) ?_; (case hd => rfl); (case hg => rfl); (case hr => first | (go_simp; done) | (go_simp; rfl)); (case hp => exact (Reps.none _ _)); intro v143 w39 ho40 hb hg_ hnew_; clear hg_ hnew_; (first | rw [← Ny142.out] at ho40 | (simp only [Int.reduceToNat] at ho40; rw [← Ny142.out] at ho40)); have n0_ := zM (Kd.R_elder' (by exact HO_5.out) (Kd.R_base ho40) hb); have n1_ := zM (Kd.R_lower (Kd.R_new' ho40 (Kd.R_lt (by exact HO_5.out))) (keep_size (w := w) (g := g) (row := none) (by repeat (first | (with_reducible first | exact HK.out | apply zK | apply keep_drewN | apply keep_drew | apply keep_alloc) | exact HK.out)))); have n2_ := zM (Z47.below (by repeat (first | (with_reducible first | exact HI0.out | apply Z47.alloc | apply Z47.drewN | apply Z47.drew | apply Z47.set_1) | exact HI0.out)) hb); have n3_ := zM (KeepBut.trans (by repeat (first | (with_reducible first | exact HK.out | apply zK | apply keep_drewN | apply keep_drew | apply keep_alloc) | exact HK.out)) (KeepBut.of_below hb g none) (.inl rfl)); have n4_ := zM (below_step (by repeat (first | (with_reducible first | exact HB.out | apply zB | apply zA | apply zC | refine zD ?_ (Z47.ge HI0.out)) | exact HB.out)) hb); clear HO_5; clear HI0; clear HK; clear HB; have HO_5 := n0_; have HO144 := n1_; have HI0 := n2_; have HK := n3_; have HB := n4_; clear n0_ n1_ n2_ n3_ n4_; clear hb ho40; have q41 : (t140 : Int) ≤ ((x5_1.length : Int) : Int) := of_decide_eq_true (by first | (with_reducible assumption) | assumption); obtain ⟨i041, hi041, _, hsz41, _⟩ := info_parts info3; have hroom41 : x5_1.length ≤ co36 := (Kd.R_reads' HO_5.out).2.1; have hC41 : Kd.C (Kd.int .i64) _ Ao36 x5_1.length x5_1 := (Kd.R_reads' HO_5.out).2.2; have hcut41 := cut_to (P := Try.prog) 23 3 .i64 Try.underlying23 hi041 Ao36 x5_1.length co36 t140 (of_decide_eq_true (by first | (with_reducible assumption) | assumption)) q41 hroom41; have hr41 := Kd.C_take (m := (t140 : Int).toNat) hC41 (by omega); have hy41 : y145.length = (t140 : Int).toNat := (by rw [Ny145.out, List.length_take]; omega); rw [← Ny145.out] at hr41; rw [← hy41] at hcut41; have HR148 := zM hr41; have HC148 := zM (show y145.length ≤ co36 from by omega); clear hr41 hC41 hroom41 hi041 hsz41; have KY41 := zM hy41; clear hy41; have KL41 := zM (show (t140 : Int).toNat ≤ x5_1.length from by omega); replace q41 := eq_true q41) | ((with_reducible refine gate_builtin (b := .append) (xs := #[.tmp 30, .tmp 33]) rfl ?_); at_builtin; refine Kd.R_append_rows (Kd.int .i64) w.heap.size rfl (.tmp 30) (.tmp 33) 23 3 (.int .i64 0) 8 rfl Try.underlying23 info3 rfl (by decide) (by omega) v143 y142 y145 _ _ _ (fun k_ => some k_ ≠ (.slice Ao36 x5_1.length co36 : Value).ownBlock) (fun _ => False) rfl rfl ?aO ?aR (fun _ _ h => h) (fun _ h => h.elim) ?aF (Below.refl _ _) ?aS ?aL ?_; (case aR => repeat (first | exact (by repeat (first | (with_reducible exact HR148.out) | (with_reducible refine Kd.C_alloc ?_ _) | (with_reducible refine Kd.C_drewN ?_ _) | (with_reducible refine Kd.C_drew ?_) | exact HR148.out)) | (with_reducible refine Kd.C_alloc ?_ _) | (with_reducible refine Kd.C_drewN ?_ _) | (with_reducible refine Kd.C_drew ?_))); (case aF => exact (fun k_ hk => Kd.fresh' (Kd.R_lt (by exact HO_5.out)) k_ hk)); (case aO => exact (by exact Kd.R_mono HO144.out (fun _ hk => hk.2))); (case aS => exact (keep_size (w := w) (g := g) (row := none) (by repeat (first | (with_reducible first | exact HK.out | apply zK | apply keep_drewN | apply keep_drew | apply keep_alloc) | exact HK.out)))); (case aL => have := LMc31.out; omega); intro v150 w42 ho hb hg hat; rw [← Ny149.out] at ho; have n0_ := zM (Kd.R_after (ok := (fun _ => True)) (by exact HO_5.out) hg hat); have n1_ := zM (Z47.grown (by repeat (first | (with_reducible first | exact HI0.out | apply Z47.alloc | apply Z47.drewN | apply Z47.drew | apply Z47.set_1) | exact HI0.out)) hg (Z47.own_ne HI0.out HO144.out (by decide))); have n2_ := zM (below_weaken (by repeat (first | (with_reducible first | exact HB.out | apply zB | apply zA | apply zC | refine zD ?_ (Z47.ge HI0.out)) | exact HB.out)) HL.out hb); have n3_ := zM (KeepBut.trans (by repeat (first | (with_reducible first | exact HK.out | apply zK | apply keep_drewN | apply keep_drew | apply keep_alloc) | exact HK.out)) (KeepBut.of_grown hg g) (Kd.R_base2 HO144.out)); have n4_ := zM ((show Kd.C (Kd.int .i64) w42 Ao36 y145.length y145 from by rw [Ny145.out]; exact Kd.C_take (m := (t140 : Int).toNat) ((Kd.R_reads' (Kd.R_after (ok := (fun _ => True)) (by exact HO_5.out) hg hat)).2.2) KL41.out)); have n5_ := zM (ho); clear HO_5; clear HI0; clear HB; clear HK; clear HR148; clear HO144; have HO_5 := n0_; have HI0 := n1_; have HB := n2_; have HK := n3_; have HR148 := n4_; have HO151 := n5_; clear n0_ n1_ n2_ n3_ n4_ n5_; clear ho hb hg hat) | ((with_reducible refine gate_builtin (b := .append) (xs := #[.tmp 35, .tmp 37]) rfl ?_); at_builtin; refine Kd.R_append (Kd.int .i64) w.heap.size rfl (.tmp 35) (.tmp 37) 23 3 (.int .i64 0) 8 rfl Try.underlying23 info3 rfl (by decide) (by omega) v150 y149 x7_1 [.int .i64 x7_1] (fun k_ => some k_ ≠ (.slice Ao36 x5_1.length co36 : Value).ownBlock) (fun _ => False) rfl rfl ?aP (fun _ hk => hk.elim) ?aF ?aO (Below.refl _ _) ?aS ?aL ?_; (case aP => exact rfl); (case aF => exact (fun k_ hk => Kd.fresh' (Kd.R_lt (by exact HO_5.out)) k_ hk)); (case aO => exact (by exact HO151.out)); (case aS => exact (keep_size (w := w) (g := g) (row := none) (by repeat (first | (with_reducible first | exact HK.out | apply zK | apply keep_drewN | apply keep_drew | apply keep_alloc) | exact HK.out)))); (case aL => have := LMc32.out; omega); intro v153 w43 ho hb hg hat; rw [← Ny152.out] at ho; have n0_ := zM (Kd.R_after (ok := (fun _ => True)) (by exact HO_5.out) hg hat); have n1_ := zM (Z47.grown (by repeat (first | (with_reducible first | exact HI0.out | apply Z47.alloc | apply Z47.drewN | apply Z47.drew | apply Z47.set_1) | exact HI0.out)) hg (Z47.own_ne HI0.out HO151.out (by decide))); have n2_ := zM (below_weaken (by repeat (first | (with_reducible first | exact HB.out | apply zB | apply zA | apply zC | refine zD ?_ (Z47.ge HI0.out)) | exact HB.out)) HL.out hb); have n3_ := zM (KeepBut.trans (by repeat (first | (with_reducible first | exact HK.out | apply zK | apply keep_drewN | apply keep_drew | apply keep_alloc) | exact HK.out)) (KeepBut.of_grown hg g) (Kd.R_base2 HO151.out)); have n4_ := zM ((show Kd.C (Kd.int .i64) w43 Ao36 y145.length y145 from by rw [Ny145.out]; exact Kd.C_take (m := (t140 : Int).toNat) ((Kd.R_reads' (Kd.R_after (ok := (fun _ => True)) (by exact HO_5.out) hg hat)).2.2) KL41.out)); have n5_ := zM (ho); clear HO_5; clear HI0; clear HB; clear HK; clear HR148; clear HO151; have HO_5 := n0_; have HI0 := n1_; have HB := n2_; have HK := n3_; have HR148 := n4_; have HO154 := n5_; clear n0_ n1_ n2_ n3_ n4_ n5_; clear ho hb hg hat; have q44 : (t140 : Int) ≤ ((x5_1.length : Int) : Int) := of_decide_eq_true (by first | (with_reducible assumption) | assumption); obtain ⟨i044, hi044, _, hsz44, _⟩ := info_parts info3; have hroom44 : x5_1.length ≤ co36 := (Kd.R_reads' HO_5.out).2.1; have hC44 : Kd.C (Kd.int .i64) _ Ao36 x5_1.length x5_1 := (Kd.R_reads' HO_5.out).2.2; have q044 : (0 : Int) ≤ (t140 : Int) := of_decide_eq_true (by first | (with_reducible assumption) | assumption); have hcut44 := cut_from (P := Try.prog) 23 3 .i64 Try.underlying23 hi044 1 hsz44 Ao36 x5_1.length co36 t140 q044 q44; have hr44 := Kd.C_drop (m := (t140 : Int).toNat) (c := co36) hC44 (by omega) hroom44; obtain ⟨A44, hA44⟩ : ∃ A1, A1 = (if co36 = (t140 : Int).toNat then Ao36 else (Ao36 : Option Addr).map (·.add ((t140 : Int).toNat * 1))) := ⟨_, rfl⟩; obtain ⟨c44, hc44⟩ : ∃ c1, c1 = co36 - (t140 : Int).toNat := ⟨_, rfl⟩; have hy44 : y155.length = x5_1.length - (t140 : Int).toNat := (by rw [Ny155.out, List.length_drop] <;> omega); rw [show (x5_1).drop (t140 : Int).toNat = y155 from Ny155.out.symm] at hr44; replace hr44 : Kd.C (Kd.int .i64) _ A44 y155.length y155 := (by rw [hA44]; exact hr44); rw [← hy44, ← hA44, ← hc44] at hcut44; have HR158 := zM hr44; have HC158 := zM (show y155.length ≤ c44 from by rw [hy44, hc44]; exact Nat.sub_le_sub_right hroom44 _); clear hr44 hC44 hroom44 hi044 hsz44 hc44; have KY44 := zM hy44; have KA44 := zM hA44; clear hy44 hA44; have KL44 := zM (show (t140 : Int).toNat ≤ x5_1.length from by omega); replace q44 := eq_true q44) | ((with_reducible refine gate_builtin (b := .append) (xs := #[.tmp 39, .tmp 42]) rfl ?_); at_builtin; refine Kd.R_append_rows (Kd.int .i64) w.heap.size rfl (.tmp 39) (.tmp 42) 23 3 (.int .i64 0) 8 rfl Try.underlying23 info3 rfl (by decide) (by omega) v153 y152 y155 _ _ _ (fun k_ => some k_ ≠ (.slice Ao36 x5_1.length co36 : Value).ownBlock) (fun _ => False) rfl rfl ?aO ?aR (fun _ _ h => h) (fun _ h => h.elim) ?aF (Below.refl _ _) ?aS ?aL ?_; (case aR => repeat (first | exact (by repeat (first | (with_reducible exact HR158.out) | (with_reducible refine Kd.C_alloc ?_ _) | (with_reducible refine Kd.C_drewN ?_ _) | (with_reducible refine Kd.C_drew ?_) | exact HR158.out)) | (with_reducible refine Kd.C_alloc ?_ _) | (with_reducible refine Kd.C_drewN ?_ _) | (with_reducible refine Kd.C_drew ?_))); (case aF => exact (fun k_ hk => Kd.fresh' (Kd.R_lt (by exact HO_5.out)) k_ hk)); (case aO => exact (by exact HO154.out)); (case aS => exact (keep_size (w := w) (g := g) (row := none) (by repeat (first | (with_reducible first | exact HK.out | apply zK | apply keep_drewN | apply keep_drew | apply keep_alloc) | exact HK.out)))); (case aL => have := LMc35.out; omega); intro v160 w45 ho hb hg hat; rw [← Ny159.out] at ho; have n0_ := zM (Kd.R_after (ok := (fun _ => True)) (by exact HO_5.out) hg hat); have n1_ := zM (Z47.grown (by repeat (first | (with_reducible first | exact HI0.out | apply Z47.alloc | apply Z47.drewN | apply Z47.drew | apply Z47.set_1) | exact HI0.out)) hg (Z47.own_ne HI0.out HO154.out (by decide))); have n2_ := zM (below_weaken (by repeat (first | (with_reducible first | exact HB.out | apply zB | apply zA | apply zC | refine zD ?_ (Z47.ge HI0.out)) | exact HB.out)) HL.out hb); have n3_ := zM (KeepBut.trans (by repeat (first | (with_reducible first | exact HK.out | apply zK | apply keep_drewN | apply keep_drew | apply keep_alloc) | exact HK.out)) (KeepBut.of_grown hg g) (Kd.R_base2 HO154.out)); have n4_ := zM ((show Kd.C (Kd.int .i64) w45 Ao36 y145.length y145 from by rw [Ny145.out]; exact Kd.C_take (m := (t140 : Int).toNat) ((Kd.R_reads' (Kd.R_after (ok := (fun _ => True)) (by exact HO_5.out) hg hat)).2.2) KL41.out)); have n5_ := zM ((show Kd.C (Kd.int .i64) w45 A44 y155.length y155 from by rw [Ny155.out, KA44.out]; exact Kd.C_drop (m := (t140 : Int).toNat) (c := co36) ((Kd.R_reads' (Kd.R_after (ok := (fun _ => True)) (by exact HO_5.out) hg hat)).2.2) KL44.out ((Kd.R_reads' (Kd.R_after (ok := (fun _ => True)) (by exact HO_5.out) hg hat)).2.1))); have n6_ := zM (ho); clear HO_5; clear HI0; clear HB; clear HK; clear HR148; clear HR158; clear HO154; have HO_5 := n0_; have HI0 := n1_; have HB := n2_; have HK := n3_; have HR148 := n4_; have HR158 := n5_; have HO161 := n6_; clear n0_ n1_ n2_ n3_ n4_ n5_ n6_; clear ho hb hg hat))
           go_roundg k1
           case measure => have := HK1.out; omega
           case rel => exact ⟨(y159), (wrap64 (x7_1 + 1)), (t141), (by first | rfl | (simp; done) | (simp [*]; done)), H', ⟨by have := HK1.out; omega⟩, ⟨by exact Kd.R_mono HO161.out (fun _ hk => trivial)⟩, ⟨by repeat (first | (with_reducible first | exact HI0.out | apply Z47.alloc | apply Z47.drewN | apply Z47.drew | apply Z47.set_1) | exact HI0.out)⟩, ⟨by repeat (first | (with_reducible first | exact HK.out | apply zK | apply keep_drewN | apply keep_drew | apply keep_alloc) | exact HK.out)⟩, ⟨by repeat (first | (with_reducible first | exact HB.out | apply zB | apply zA | apply zC | refine zD ?_ (Z47.ge HI0.out)) | exact HB.out)⟩⟩
          ·rw [if_neg c35] at H
           exact absurd H (by simp)
         ·rw [if_neg c32] at H
          exact absurd H (by simp)
        ·rw [if_neg c31] at H
         exact absurd H (by simp)
       ·rw [if_neg c30] at H
        exact absurd H (by simp)
      ·rw [if_neg c29] at H
       exact absurd H (by simp)
     ·rw [if_neg c27] at H
      have c27b0 : (t138 == 0) = false := beq_eq_false_iff_ne.mpr c27
      have c27b1 : (t138 != 0) = true := bne_iff_ne.mpr c27
      obtain ⟨y162, hy162⟩ : ∃ y_ : List Int, y_ = (([] : List Int)) := ⟨_, rfl⟩
      replace H : (if 0 ≤ (x5_1.length : Int) then (if (x5_1.length : Int) ≤ (x5_1.length : Int) then ((some (x5_1.take ((x5_1.length : Int) : Int).toNat : List Int)).bind fun y165 => (if y162.length + y165.length < 17592186044416 then ((some (y162 ++ y165 : List Int)).bind fun y169 => (if y169.length < 17592186044416 then ((some (y169 ++ [x7_1] : List Int)).bind fun y172 => ((some (x5_1.drop ((x5_1.length : Int) : Int).toNat : List Int)).bind fun y175 => (if y172.length + y175.length < 17592186044416 then (spec_l20Order.l0 k1 a1 (y172 ++ y175) t114 (wrap64 (x7_1 + 1)) s0_0 t139) else (none)))) else (none))) else (none))) else (none)) else (none)) = some (r1, r2) := by first | (rw [hy162]; with_reducible exact H) | (have H2_ := (Option.bind_some _ _).symm.trans H; rw [hy162]; with_reducible exact H2_) | (have H2_ := (Option.bind_some _ _).symm.trans H; with_reducible exact H2_) | with_reducible exact H | (rw [hy162]; exact H) | exact H
      have Ny162 := zM hy162
      clear hy162
      by_cases c46 : 0 ≤ (x5_1.length : Int)
      ·rw [if_pos c46] at H
       have c46b0 := eq_true c46
       have c46b1 : decide (0 ≤ (x5_1.length : Int)) = true := decide_eq_true c46
       clear c46
       by_cases c47 : (x5_1.length : Int) ≤ (x5_1.length : Int)
       ·rw [if_pos c47] at H
        have c47b0 := eq_true c47
        have c47b1 : decide ((x5_1.length : Int) ≤ (x5_1.length : Int)) = true := decide_eq_true c47
        clear c47
        obtain ⟨y165, hy165⟩ : ∃ y_ : List Int, y_ = (x5_1.take ((x5_1.length : Int) : Int).toNat) := ⟨_, rfl⟩
        replace H : (if y162.length + y165.length < 17592186044416 then ((some (y162 ++ y165 : List Int)).bind fun y169 => (if y169.length < 17592186044416 then ((some (y169 ++ [x7_1] : List Int)).bind fun y172 => ((some (x5_1.drop ((x5_1.length : Int) : Int).toNat : List Int)).bind fun y175 => (if y172.length + y175.length < 17592186044416 then (spec_l20Order.l0 k1 a1 (y172 ++ y175) t114 (wrap64 (x7_1 + 1)) s0_0 t139) else (none)))) else (none))) else (none)) = some (r1, r2) := by first | (rw [hy165]; with_reducible exact H) | (have H2_ := (Option.bind_some _ _).symm.trans H; rw [hy165]; with_reducible exact H2_) | (have H2_ := (Option.bind_some _ _).symm.trans H; with_reducible exact H2_) | with_reducible exact H | (rw [hy165]; exact H) | exact H
        have Ny165 := zM hy165
        clear hy165
        by_cases c48 : y162.length + y165.length < 17592186044416
        ·rw [if_pos c48] at H
         have LMc48 := zM c48
         clear c48
         obtain ⟨y169, hy169⟩ : ∃ y_ : List Int, y_ = (y162 ++ y165) := ⟨_, rfl⟩
         replace H : (if y169.length < 17592186044416 then ((some (y169 ++ [x7_1] : List Int)).bind fun y172 => ((some (x5_1.drop ((x5_1.length : Int) : Int).toNat : List Int)).bind fun y175 => (if y172.length + y175.length < 17592186044416 then (spec_l20Order.l0 k1 a1 (y172 ++ y175) t114 (wrap64 (x7_1 + 1)) s0_0 t139) else (none)))) else (none)) = some (r1, r2) := by first | (rw [hy169]; with_reducible exact H) | (have H2_ := (Option.bind_some _ _).symm.trans H; rw [hy169]; with_reducible exact H2_) | (have H2_ := (Option.bind_some _ _).symm.trans H; with_reducible exact H2_) | with_reducible exact H | (rw [hy169]; exact H) | exact H
         have Ny169 := zM hy169
         clear hy169
         by_cases c49 : y169.length < 17592186044416
         ·rw [if_pos c49] at H
          have LMc49 := zM c49
          clear c49
          obtain ⟨y172, hy172⟩ : ∃ y_ : List Int, y_ = (y169 ++ [x7_1]) := ⟨_, rfl⟩
          replace H : ((some (x5_1.drop ((x5_1.length : Int) : Int).toNat : List Int)).bind fun y175 => (if y172.length + y175.length < 17592186044416 then (spec_l20Order.l0 k1 a1 (y172 ++ y175) t114 (wrap64 (x7_1 + 1)) s0_0 t139) else (none))) = some (r1, r2) := by first | (rw [hy172]; with_reducible exact H) | (have H2_ := (Option.bind_some _ _).symm.trans H; rw [hy172]; with_reducible exact H2_) | (have H2_ := (Option.bind_some _ _).symm.trans H; with_reducible exact H2_) | with_reducible exact H | (rw [hy172]; exact H) | exact H
          have Ny172 := zM hy172
          clear hy172
          have c50b0 := eq_true (of_decide_eq_true (by first | (with_reducible assumption) | assumption) : 0 ≤ (x5_1.length : Int))
          have c51b0 := eq_true (of_decide_eq_true (by first | (with_reducible assumption) | assumption) : (x5_1.length : Int) ≤ (x5_1.length : Int))
          obtain ⟨y175, hy175⟩ : ∃ y_ : List Int, y_ = (x5_1.drop ((x5_1.length : Int) : Int).toNat) := ⟨_, rfl⟩
          replace H : (if y172.length + y175.length < 17592186044416 then (spec_l20Order.l0 k1 a1 (y172 ++ y175) t114 (wrap64 (x7_1 + 1)) s0_0 t139) else (none)) = some (r1, r2) := by first | (rw [hy175]; with_reducible exact H) | (have H2_ := (Option.bind_some _ _).symm.trans H; rw [hy175]; with_reducible exact H2_) | (have H2_ := (Option.bind_some _ _).symm.trans H; with_reducible exact H2_) | with_reducible exact H | (rw [hy175]; exact H) | exact H
          have Ny175 := zM hy175
          clear hy175
          by_cases c52 : y172.length + y175.length < 17592186044416
          ·rw [if_pos c52] at H
           have LMc52 := zM c52
           clear c52
           obtain ⟨y179, hy179⟩ : ∃ y_ : List Int, y_ = (y172 ++ y175) := ⟨_, rfl⟩
           replace H : (spec_l20Order.l0 k1 a1 y179 t114 (wrap64 (x7_1 + 1)) s0_0 t139) = some (r1, r2) := by first | (rw [hy179]; with_reducible exact H) | (have H2_ := (Option.bind_some _ _).symm.trans H; rw [hy179]; with_reducible exact H2_) | (have H2_ := (Option.bind_some _ _).symm.trans H; with_reducible exact H2_) | with_reducible exact H | (rw [hy179]; exact H) | exact H
           have Ny179 := zM hy179
           clear hy179
           have H' := zM H
           clear H
           obtain ⟨Ao53, co53, eo53⟩ := Kd.R_slice HO_5.out
           subst eo53
           go_wp2_with (first | (go_at_call 24; (with_reducible refine (spec_l20Rd_pick.calls k1 g s0_0 x1001_1 3 t138 t139 w0 _ ?side1 ?side2 A26.out).mono ?_); (case side1 => repeat (first | (with_reducible first | exact HI0.out | apply Z47.alloc | apply Z47.drewN | apply Z47.drew | apply Z47.set_1) | exact HI0.out)); (case side2 => repeat (first | (with_reducible first | exact HB.out | apply zB | apply zA | apply zC | refine zD ?_ (Z47.ge HI0.out)) | exact HB.out)); rintro e w54 ⟨rfl, hi, hb, hk⟩; have n0_ := zM (Kd.R_mono (Kd.R_keep (Z47.apart (show Z47 w0 _ g s0_0 x1001_1 from by repeat (first | (with_reducible first | exact HI0.out | apply Z47.alloc | apply Z47.drewN | apply Z47.drew | apply Z47.set_1) | exact HI0.out)) (by exact HO_5.out) (by decide)) hk (fun _ h => h.2)) (fun _ h => h.1)); have n1_ := zM (KeepBut.trans (by repeat (first | (with_reducible first | exact HK.out | apply zK | apply keep_drewN | apply keep_drew | apply keep_alloc) | exact HK.out)) hk (.inl rfl)); have n2_ := zM (hb); have n3_ := zM (hi); clear HO_5; clear HK; clear HB; clear HI0; have HO_5 := n0_; have HK := n1_; have HB := n2_; have HI0 := n3_; clear n0_ n1_ n2_ n3_; (try clear hb); (try clear hb2); (try clear hk); (try clear hi)) | ((with_reducible refine gate_dst (N := 30) rfl ?_); refine Kd.R_lit (Kd.int .i64) _ 3 ?hg (N := 30) ?hd (xs := ([] : List Int)) (inner := []) (ok := fun _ => True) (okp := fun _ => True) ?hr ?hp (fun _ hk => hk) trivial (Below.refl _ _) (Nat.le_refl _) (by simp) ?_; (case hd => rfl); (case hg => rfl); (case hr => first | (go_simp; done) | (go_simp; rfl)); (case hp => exact (Reps.none _ _)); intro v163 w55 ho56 hb hg_ hnew_; clear hg_ hnew_; (first | rw [← Ny162.out] at ho56 | (simp only [Int.reduceToNat] at ho56; rw [← Ny162.out] at ho56)); have n0_ := zM (Kd.R_elder' (by exact HO_5.out) (Kd.R_base ho56) hb); have n1_ := zM (Kd.R_lower (Kd.R_new' ho56 (Kd.R_lt (by exact HO_5.out))) (keep_size (w := w) (g := g) (row := none) (by repeat (first | (with_reducible first | exact HK.out | apply zK | apply keep_drewN | apply keep_drew | apply keep_alloc) | exact HK.out)))); have n2_ := zM (Z47.below (by repeat (first | (with_reducible first | exact HI0.out | apply Z47.alloc | apply Z47.drewN | apply Z47.drew | apply Z47.set_1) | exact HI0.out)) hb); have n3_ := zM (KeepBut.trans (by repeat (first | (with_reducible first | exact HK.out | apply zK | apply keep_drewN | apply keep_drew | apply keep_alloc) | exact HK.out)) (KeepBut.of_below hb g none) (.inl rfl)); have n4_ := zM (below_step (by repeat (first | (with_reducible first | exact HB.out | apply zB | apply zA | apply zC | refine zD ?_ (Z47.ge HI0.out)) | exact HB.out)) hb); clear HO_5; clear HI0; clear HK; clear HB; have HO_5 := n0_; have HO164 := n1_; have HI0 := n2_; have HK := n3_; have HB := n4_; clear n0_ n1_ n2_ n3_ n4_; clear hb ho56; have q57 : ((x5_1.length : Int) : Int) ≤ ((x5_1.length : Int) : Int) := of_decide_eq_true (by first | (with_reducible assumption) | assumption); obtain ⟨i057, hi057, _, hsz57, _⟩ := info_parts info3; have hroom57 : x5_1.length ≤ co53 := (Kd.R_reads' HO_5.out).2.1; have hC57 : Kd.C (Kd.int .i64) _ Ao53 x5_1.length x5_1 := (Kd.R_reads' HO_5.out).2.2; have hcut57 := cut_to (P := Try.prog) 23 3 .i64 Try.underlying23 hi057 Ao53 x5_1.length co53 (x5_1.length : Int) (of_decide_eq_true (by first | (with_reducible assumption) | assumption)) q57 hroom57; have hr57 := Kd.C_take (m := ((x5_1.length : Int) : Int).toNat) hC57 (by omega); have hy57 : y165.length = ((x5_1.length : Int) : Int).toNat := (by rw [Ny165.out, List.length_take]; omega); rw [← Ny165.out] at hr57; rw [← hy57] at hcut57; have HR168 := zM hr57; have HC168 := zM (show y165.length ≤ co53 from by omega); clear hr57 hC57 hroom57 hi057 hsz57; have KY57 := zM hy57; clear hy57; have KL57 := zM (show ((x5_1.length : Int) : Int).toNat ≤ x5_1.length from by omega); replace q57 := eq_true q57) | ((with_reducible refine gate_builtin (b := .append) (xs := #[.tmp 30, .tmp 33]) rfl ?_); at_builtin; refine Kd.R_append_rows (Kd.int .i64) w.heap.size rfl (.tmp 30) (.tmp 33) 23 3 (.int .i64 0) 8 rfl Try.underlying23 info3 rfl (by decide) (by omega) v163 y162 y165 _ _ _ (fun k_ => some k_ ≠ (.slice Ao53 x5_1.length co53 : Value).ownBlock) (fun _ => False) rfl rfl ?aO ?aR (fun _ _ h => h) (fun _ h => h.elim) ?aF (Below.refl _ _) ?aS ?aL ?_; (case aR => repeat (first | exact (by repeat (first | (with_reducible exact HR168.out) | (with_reducible refine Kd.C_alloc ?_ _) | (with_reducible refine Kd.C_drewN ?_ _) | (with_reducible refine Kd.C_drew ?_) | exact HR168.out)) | (with_reducible refine Kd.C_alloc ?_ _) | (with_reducible refine Kd.C_drewN ?_ _) | (with_reducible refine Kd.C_drew ?_))); (case aF => exact (fun k_ hk => Kd.fresh' (Kd.R_lt (by exact HO_5.out)) k_ hk)); (case aO => exact (by exact Kd.R_mono HO164.out (fun _ hk => hk.2))); (case aS => exact (keep_size (w := w) (g := g) (row := none) (by repeat (first | (with_reducible first | exact HK.out | apply zK | apply keep_drewN | apply keep_drew | apply keep_alloc) | exact HK.out)))); (case aL => have := LMc48.out; omega); intro v170 w58 ho hb hg hat; rw [← Ny169.out] at ho; have n0_ := zM (Kd.R_after (ok := (fun _ => True)) (by exact HO_5.out) hg hat); have n1_ := zM (Z47.grown (by repeat (first | (with_reducible first | exact HI0.out | apply Z47.alloc | apply Z47.drewN | apply Z47.drew | apply Z47.set_1) | exact HI0.out)) hg (Z47.own_ne HI0.out HO164.out (by decide))); have n2_ := zM (below_weaken (by repeat (first | (with_reducible first | exact HB.out | apply zB | apply zA | apply zC | refine zD ?_ (Z47.ge HI0.out)) | exact HB.out)) HL.out hb); have n3_ := zM (KeepBut.trans (by repeat (first | (with_reducible first | exact HK.out | apply zK | apply keep_drewN | apply keep_drew | apply keep_alloc) | exact HK.out)) (KeepBut.of_grown hg g) (Kd.R_base2 HO164.out)); have n4_ := zM ((show Kd.C (Kd.int .i64) w58 Ao53 y165.length y165 from by rw [Ny165.out]; exact Kd.C_take (m := ((x5_1.length : Int) : Int).toNat) ((Kd.R_reads' (Kd.R_after (ok := (fun _ => True)) (by exact HO_5.out) hg hat)).2.2) KL57.out)); have n5_ := zM (ho); clear HO_5; clear HI0; clear HB; clear HK; clear HR168; clear HO164; have HO_5 := n0_; have HI0 := n1_; have HB := n2_; have HK := n3_; have HR168 := n4_; have HO171 := n5_; clear n0_ n1_ n2_ n3_ n4_ n5_; clear ho hb hg hat) | ((with_reducible refine gate_builtin (b := .append) (xs := #[.tmp 35, .tmp 37]) rfl ?_); at_builtin; refine Kd.R_append (Kd.int .i64) w.heap.size rfl (.tmp 35) (.tmp 37) 23 3 (.int .i64 0) 8 rfl Try.underlying23 info3 rfl (by decide) (by omega) v170 y169 x7_1 [.int .i64 x7_1] (fun k_ => some k_ ≠ (.slice Ao53 x5_1.length co53 : Value).ownBlock) (fun _ => False) rfl rfl ?aP (fun _ hk => hk.elim) ?aF ?aO (Below.refl _ _) ?aS ?aL ?_; (case aP => exact rfl); (case aF => exact (fun k_ hk => Kd.fresh' (Kd.R_lt (by exact HO_5.out)) k_ hk)); (case aO => exact (by exact HO171.out)); (case aS => exact (keep_size (w := w) (g := g) (row := none) (by repeat (first | (with_reducible first | exact HK.out | apply zK | apply keep_drewN | apply keep_drew | apply keep_alloc) | exact HK.out)))); (case aL => have := LMc49.out; omega); intro v173 w59 ho hb hg hat; rw [← Ny172.out] at ho; have n0_ := zM (Kd.R_after (ok := (fun _ => True)) (by exact HO_5.out) hg hat); have n1_ := zM (Z47.grown (by repeat (first | (with_reducible first | exact HI0.out | apply Z47.alloc | apply Z47.drewN | apply Z47.drew | apply Z47.set_1) | exact HI0.out)) hg (Z47.own_ne HI0.out HO171.out (by decide))); have n2_ := zM (below_weaken (by repeat (first | (with_reducible first | exact HB.out | apply zB | apply zA | apply zC | refine zD ?_ (Z47.ge HI0.out)) | exact HB.out)) HL.out hb); have n3_ := zM (KeepBut.trans (by repeat (first | (with_reducible first | exact HK.out | apply zK | apply keep_drewN | apply keep_drew | apply keep_alloc) | exact HK.out)) (KeepBut.of_grown hg g) (Kd.R_base2 HO171.out)); have n4_ := zM ((show Kd.C (Kd.int .i64) w59 Ao53 y165.length y165 from by rw [Ny165.out]; exact Kd.C_take (m := ((x5_1.length : Int) : Int).toNat) ((Kd.R_reads' (Kd.R_after (ok := (fun _ => True)) (by exact HO_5.out) hg hat)).2.2) KL57.out)); have n5_ := zM (ho); clear HO_5; clear HI0; clear HB; clear HK; clear HR168; clear HO171; have HO_5 := n0_; have HI0 := n1_; have HB := n2_; have HK := n3_; have HR168 := n4_; have HO174 := n5_; clear n0_ n1_ n2_ n3_ n4_ n5_; clear ho hb hg hat; have q60 : ((x5_1.length : Int) : Int) ≤ ((x5_1.length : Int) : Int) := of_decide_eq_true (by first | (with_reducible assumption) | assumption); obtain ⟨i060, hi060, _, hsz60, _⟩ := info_parts info3; have hroom60 : x5_1.length ≤ co53 := (Kd.R_reads' HO_5.out).2.1; have hC60 : Kd.C (Kd.int .i64) _ Ao53 x5_1.length x5_1 := (Kd.R_reads' HO_5.out).2.2; have q060 : (0 : Int) ≤ ((x5_1.length : Int) : Int) := of_decide_eq_true (by first | (with_reducible assumption) | assumption); have hcut60 := cut_from (P := Try.prog) 23 3 .i64 Try.underlying23 hi060 1 hsz60 Ao53 x5_1.length co53 (x5_1.length : Int) q060 q60; have hr60 := Kd.C_drop (m := ((x5_1.length : Int) : Int).toNat) (c := co53) hC60 (by omega) hroom60; obtain ⟨A60, hA60⟩ : ∃ A1, A1 = (if co53 = ((x5_1.length : Int) : Int).toNat then Ao53 else (Ao53 : Option Addr).map (·.add (((x5_1.length : Int) : Int).toNat * 1))) := ⟨_, rfl⟩; obtain ⟨c60, hc60⟩ : ∃ c1, c1 = co53 - ((x5_1.length : Int) : Int).toNat := ⟨_, rfl⟩; have hy60 : y175.length = x5_1.length - ((x5_1.length : Int) : Int).toNat := (by rw [Ny175.out, List.length_drop] <;> omega); rw [show (x5_1).drop ((x5_1.length : Int) : Int).toNat = y175 from Ny175.out.symm] at hr60; replace hr60 : Kd.C (Kd.int .i64) _ A60 y175.length y175 := (by rw [hA60]; exact hr60); rw [← hy60, ← hA60, ← hc60] at hcut60; have HR178 := zM hr60; have HC178 := zM (show y175.length ≤ c60 from by rw [hy60, hc60]; exact Nat.sub_le_sub_right hroom60 _); clear hr60 hC60 hroom60 hi060 hsz60 hc60; have KY60 := zM hy60; have KA60 := zM hA60; clear hy60 hA60; have KL60 := zM (show ((x5_1.length : Int) : Int).toNat ≤ x5_1.length from by omega); replace q60 := eq_true q60) | ((with_reducible refine gate_builtin (b := .append) (xs := #[.tmp 39, .tmp 42]) rfl ?_); at_builtin; refine Kd.R_append_rows (Kd.int .i64) w.heap.size rfl (.tmp 39) (.tmp 42) 23 3 (.int .i64 0) 8 rfl Try.underlying23 info3 rfl (by decide) (by omega) v173 y172 y175 _ _ _ (fun k_ => some k_ ≠ (.slice Ao53 x5_1.length co53 : Value).ownBlock) (fun _ => False) rfl rfl ?aO ?aR (fun _ _ h => h) (fun _ h => h.elim) ?aF (Below.refl _ _) ?aS ?aL ?_; (case aR => repeat (first | exact (by repeat (first | (with_reducible exact HR178.out) | (with_reducible refine Kd.C_alloc ?_ _) | (with_reducible refine Kd.C_drewN ?_ _) | (with_reducible refine Kd.C_drew ?_) | exact HR178.out)) | (with_reducible refine Kd.C_alloc ?_ _) | (with_reducible refine Kd.C_drewN ?_ _) | (with_reducible refine Kd.C_drew ?_))); (case aF => exact (fun k_ hk => Kd.fresh' (Kd.R_lt (by exact HO_5.out)) k_ hk)); (case aO => exact (by exact HO174.out)); (case aS => exact (keep_size (w := w) (g := g) (row := none) (by repeat (first | (with_reducible first | exact HK.out | apply zK | apply keep_drewN | apply keep_drew | apply keep_alloc) | exact HK.out)))); (case aL => have := LMc52.out; omega); intro v180 w61 ho hb hg hat; rw [← Ny179.out] at ho; have n0_ := zM (Kd.R_after (ok := (fun _ => True)) (by exact HO_5.out) hg hat); have n1_ := zM (Z47.grown (by repeat (first | (with_reducible first | exact HI0.out | apply Z47.alloc | apply Z47.drewN | apply Z47.drew | apply Z47.set_1) | exact HI0.out)) hg (Z47.own_ne HI0.out HO174.out (by decide))); have n2_ := zM (below_weaken (by repeat (first | (with_reducible first | exact HB.out | apply zB | apply zA | apply zC | refine zD ?_ (Z47.ge HI0.out)) | exact HB.out)) HL.out hb); have n3_ := zM (KeepBut.trans (by repeat (first | (with_reducible first | exact HK.out | apply zK | apply keep_drewN | apply keep_drew | apply keep_alloc) | exact HK.out)) (KeepBut.of_grown hg g) (Kd.R_base2 HO174.out)); have n4_ := zM ((show Kd.C (Kd.int .i64) w61 Ao53 y165.length y165 from by rw [Ny165.out]; exact Kd.C_take (m := ((x5_1.length : Int) : Int).toNat) ((Kd.R_reads' (Kd.R_after (ok := (fun _ => True)) (by exact HO_5.out) hg hat)).2.2) KL57.out)); have n5_ := zM ((show Kd.C (Kd.int .i64) w61 A60 y175.length y175 from by rw [Ny175.out, KA60.out]; exact Kd.C_drop (m := ((x5_1.length : Int) : Int).toNat) (c := co53) ((Kd.R_reads' (Kd.R_after (ok := (fun _ => True)) (by exact HO_5.out) hg hat)).2.2) KL60.out ((Kd.R_reads' (Kd.R_after (ok := (fun _ => True)) (by exact HO_5.out) hg hat)).2.1))); have n6_ := zM (ho); clear HO_5; clear HI0; clear HB; clear HK; clear HR168; clear HR178; clear HO174; have HO_5 := n0_; have HI0 := n1_; have HB := n2_; have HK := n3_; have HR168 := n4_; have HR178 := n5_; have HO181 := n6_; clear n0_ n1_ n2_ n3_ n4_ n5_ n6_; clear ho hb hg hat))
           go_roundg k1
           case measure => have := HK1.out; omega
           case rel => exact ⟨(y179), (wrap64 (x7_1 + 1)), (t139), (by first | rfl | (simp; done) | (simp [*]; done)), H', ⟨by have := HK1.out; omega⟩, ⟨by exact Kd.R_mono HO181.out (fun _ hk => trivial)⟩, ⟨by repeat (first | (with_reducible first | exact HI0.out | apply Z47.alloc | apply Z47.drewN | apply Z47.drew | apply Z47.set_1) | exact HI0.out)⟩, ⟨by repeat (first | (with_reducible first | exact HK.out | apply zK | apply keep_drewN | apply keep_drew | apply keep_alloc) | exact HK.out)⟩, ⟨by repeat (first | (with_reducible first | exact HB.out | apply zB | apply zA | apply zC | refine zD ?_ (Z47.ge HI0.out)) | exact HB.out)⟩⟩
          ·rw [if_neg c52] at H
           exact absurd H (by simp)
         ·rw [if_neg c49] at H
          exact absurd H (by simp)
        ·rw [if_neg c48] at H
         exact absurd H (by simp)
       ·rw [if_neg c47] at H
        exact absurd H (by simp)
      ·rw [if_neg c46] at H
       exact absurd H (by simp)
   ·rw [if_neg c7] at H
    have c7b0 : decide (x7_1 ≤ a1) = false := decide_eq_false c7
    clear c7
    simp only [Option.some.injEq, Prod.mk.injEq] at H
    obtain ⟨rfl, rfl⟩ := H
    go_wp2
    go_ret
    exact ⟨_, by first | rfl | (simp [errW_none, errW_some] <;> rfl) | (simp [*, errW_none, errW_some] <;> rfl), by exact HO_5.out, by repeat (first | (with_reducible first | exact HI0.out | apply Z47.alloc | apply Z47.drewN | apply Z47.drew | apply Z47.set_1) | exact HI0.out), by repeat (first | (with_reducible first | exact HB.out | apply zB | apply zA | apply zC | refine zD ?_ (Z47.ge HI0.out)) | exact HB.out), by repeat (first | (with_reducible first | exact HK.out | apply zK | apply keep_drewN | apply keep_drew | apply keep_alloc) | exact HK.out)⟩

/-! ### spec_l20Rd_odd: function 30 -/
def spec_l20Rd_odd.f (k : Nat) (s0_0 : List Int) (s0_1 : Int) (a1 : Int) : Option (Bool × Int) := if a1 > 0 then ((spec_l20Rd_pick.f k s0_0 s0_1 a1).bind fun bt182 => (some ((bt182.1 == (wrap64 (a1 - 1))), bt182.2))) else (some (false, s0_1))
theorem spec_l20Rd_odd.mono : ∀ a0 a1 a2 k, LeO (spec_l20Rd_odd.f k a0 a1 a2) (spec_l20Rd_odd.f (k + 1) a0 a1 a2) := by
 intro a0 a1 a2 k
 unfold spec_l20Rd_odd.f
 repeat' first
   | (with_reducible exact spec_l20Rd_pick.mono _ _ _ _)
   | (with_reducible exact LeO.refl _)
   | (with_reducible exact LeO.none _)
   | (with_reducible refine LeO.ite ?_ ?_)
   | (with_reducible refine LeO.bind ?_ (fun _ => ?_))
   | refine LeO.ite ?_ ?_
   | refine LeO.bind ?_ (fun _ => ?_)
set_option maxHeartbeats 8000000 in
set_option maxRecDepth 100000 in
theorem spec_l20Rd_odd.calls (k : Nat) (g : Nat) (s0_0 : List Int) (s0_1 : Int) (a1 : Int) (r1 : Bool) (r2 : Int) (w0 w : World) (hI : Z47 w0 w g s0_0 s0_1) (hB : Below w0.heap.size w0 w) (h : spec_l20Rd_odd.f k s0_0 s0_1 a1 = some (r1, r2)) :
  Calls Try.prog 30 #[.pointer (some ⟨g, 0, none⟩), .int .i64 a1] w fun e w' => e = .returned (.bool r1) ∧ Z47 w0 w' g s0_0 r2 ∧ Below w0.heap.size w0 w' ∧ KeepBut w w' g none := by
 have HI0 := zM hI
 have HK := zM (KeepBut.refl w g none)
 have HL := zM hB.size
 clear hI
 have HW0 := zM hB.size
 have HB := zM hB
 clear hB
 have H : (if a1 > 0 then ((spec_l20Rd_pick.f k s0_0 s0_1 a1).bind fun bt182 => (some ((bt182.1 == (wrap64 (a1 - 1))), bt182.2))) else (some (false, s0_1))) = some (r1, r2) := h
 clear h
 by_cases c3 : a1 > 0
 ·rw [if_pos c3] at H
  have c3b0 : decide (0 < a1) = true := decide_eq_true c3
  clear c3
  replace H := Option.bind_eq_some_iff.mp H
  obtain ⟨⟨t182, t183⟩, A40, H⟩ := H
  replace H : (some ((t182 == (wrap64 (a1 - 1))), t183)) = some (r1, r2) := H
  have A4 := zM A40
  clear A40
  simp only [Option.some.injEq, Prod.mk.injEq] at H
  obtain ⟨rfl, rfl⟩ := H
  go_enter Try.func30, Try.ntmps30
  go_wp2_with (first | (go_at_call 24; (with_reducible refine (spec_l20Rd_pick.calls k g s0_0 s0_1 a1 t182 t183 w0 _ ?side1 ?side2 A4.out).mono ?_); (case side1 => repeat (first | (with_reducible first | exact HI0.out | apply Z47.alloc | apply Z47.drewN | apply Z47.drew | apply Z47.set_1) | exact HI0.out)); (case side2 => repeat (first | (with_reducible first | exact HB.out | apply zB | apply zA | apply zC | refine zD ?_ (Z47.ge HI0.out)) | exact HB.out)); rintro e w5 ⟨rfl, hi, hb, hk⟩; have n0_ := zM (KeepBut.trans (by repeat (first | (with_reducible first | exact HK.out | apply zK | apply keep_drewN | apply keep_drew | apply keep_alloc) | exact HK.out)) hk (.inl rfl)); have n1_ := zM (hb); have n2_ := zM (hi); clear HK; clear HB; clear HI0; have HK := n0_; have HB := n1_; have HI0 := n2_; clear n0_ n1_ n2_; (try clear hb); (try clear hb2); (try clear hk); (try clear hi)))
  go_ret
  exact ⟨by first | rfl | (simp [errW_none, errW_some] <;> rfl) | (simp [*, errW_none, errW_some] <;> rfl), by repeat (first | (with_reducible first | exact HI0.out | apply Z47.alloc | apply Z47.drewN | apply Z47.drew | apply Z47.set_1) | exact HI0.out), by repeat (first | (with_reducible first | exact HB.out | apply zB | apply zA | apply zC | refine zD ?_ (Z47.ge HI0.out)) | exact HB.out), by repeat (first | (with_reducible first | exact HK.out | apply zK | apply keep_drewN | apply keep_drew | apply keep_alloc) | exact HK.out)⟩
 ·rw [if_neg c3] at H
  have c3b0 : decide (0 < a1) = false := decide_eq_false c3
  clear c3
  simp only [Option.some.injEq, Prod.mk.injEq] at H
  obtain ⟨rfl, rfl⟩ := H
  go_enter Try.func30, Try.ntmps30
  go_wp2
  go_ret
  exact ⟨by first | rfl | (simp [errW_none, errW_some] <;> rfl) | (simp [*, errW_none, errW_some] <;> rfl), by repeat (first | (with_reducible first | exact HI0.out | apply Z47.alloc | apply Z47.drewN | apply Z47.drew | apply Z47.set_1) | exact HI0.out), by repeat (first | (with_reducible first | exact HB.out | apply zB | apply zA | apply zC | refine zD ?_ (Z47.ge HI0.out)) | exact HB.out), by repeat (first | (with_reducible first | exact HK.out | apply zK | apply keep_drewN | apply keep_drew | apply keep_alloc) | exact HK.out)⟩

end Go.Proofs.Ytnbdobkgbdncpaa.LA
