/- Printed out of the translation: functions with the answers of the Go code, and their contracts; no further conditions. -/
import Derived.Deep.CutBlock
import Derived.Deep.RegionHeld3
import Derived.Deep.RegionLaw
import Derived.Outline
import Derived.Test.YtnpoeeliaolbaaaGreatDoorLAx0
namespace Go.Proofs.YtnpoeeliaolbaaaGreatDoor.LA
open Go.RowKit Go.Proofs.YtnpoeeliaolbaaaGreatDoorV.PrintWords Go.Proofs.YtnpoeeliaolbaaaGreatDoorV.PrintLast Go.Proofs.YtnpoeeliaolbaaaGreatDoorV.PrintMore
attribute [local go_sem] max2_int min2_int max_two min_two max_three min_three max_four min_four
set_option linter.unusedVariables false
set_option linter.unusedSimpArgs false
set_option maxHeartbeats 16000000
set_option maxRecDepth 100000
theorem eqA39 (d : Nat) (w : World) (x0 y0 : Int) (x1 y1 : Int) (x2 y2 : Int) :
  (Op.equalIn (d + 2) 39 (.agg #[.int .i64 x0, .int .i64 x1, .int .i64 x2]) (.agg #[.int .i64 y0, .int .i64 y1, .int .i64 y2])).run Tryz.prog w = .ok (x0 == y0 && (x1 == y1 && (x2 == y2))) w := by
 refine eqA_of Tryz.underlying39 zk ?_;refine eqf_cons (by rfl) (by go_simp; rfl) (by go_simp; rfl) (by go_simp) ?_;refine eqf_cons (by rfl) (by go_simp; rfl) (by go_simp; rfl) (by go_simp) ?_;exact eqf_last (by rfl) (by go_simp; rfl) (by go_simp; rfl) (by go_simp)
def Iq (w0 W : World) (g : Nat) (f0 : List Int) (f1 : Int) : Prop := ∃ A0 c0, W.heap[g]? = some (.cells #[.slice A0 f0.length c0, .int .i64 f1] 69 (0, 0)) ∧ w0.heap.size ≤ g ∧ Kd.C (Kd.int .u8) w0 A0 f0.length f0
theorem Iq.grown {w0 W : World} {g : Nat} {f0 : List Int} {f1 : Int} {W1 : World} {row : Option Nat} (h : Iq w0 W g f0 f1) (hw : W.grownBy W1 row) (hne : some g ≠ row) : Iq w0 W1 g f0 f1 := by
  obtain ⟨A0, c0, hb, hg, hr0⟩ := h
  exact ⟨A0, c0, blk_grown hb hw hne, hg, hr0⟩
theorem Iq.own_neN {w0 W : World} {g : Nat} {f0 : List Int} {f1 : Int} {α : Type} {d : Kd α} {e : Nat} {base : Nat} {ok : Nat → Prop} {v : Value} {xs : List α} (h : Iq w0 W g f0 f1) (ho : Kd.N d e W base ok v xs) (ht : e ≠ 69) : some g ≠ v.ownBlock := by
  obtain ⟨A0, c0, hb, hg, hr0⟩ := h
  exact Kd.N_ne ho hb ht
theorem Iq.fresh {w0 W : World} {g : Nat} {f0 : List Int} {f1 : Int} (h : Iq w0 W g f0 f1) : ∀ k, W.heap.size ≤ k → k ≠ g := by
  obtain ⟨A0, c0, hb, hg, hr0⟩ := h
  exact Kd.freshB hb
theorem Iq.kept {w0 W : World} {g : Nat} {f0 : List Int} {f1 : Int} {W1 : World} {S : Nat → Prop} (h : Iq w0 W g f0 f1) (hk : Kept W W1 S) (hne : ¬ S g) : Iq w0 W1 g f0 f1 := by
  obtain ⟨A0, c0, hb, hg, hr0⟩ := h
  exact ⟨A0, c0, blk_kept hb hk hne, hg, hr0⟩
theorem Iq.below {w0 W : World} {g : Nat} {f0 : List Int} {f1 : Int} {W1 : World} (h : Iq w0 W g f0 f1) (hw : Below W.heap.size W W1) : Iq w0 W1 g f0 f1 := h.grown (grown_of_below hw none) (by simp)
theorem Iq.alloc {w0 W : World} {g : Nat} {f0 : List Int} {f1 : Int} (h : Iq w0 W g f0 f1) (o : Obj) : Iq w0 (W.alloc o) g f0 f1 := h.below (below_alloc (Below.refl _ _) o)
theorem Iq.drewN {w0 W : World} {g : Nat} {f0 : List Int} {f1 : Int} (h : Iq w0 W g f0 f1) (m : Nat) : Iq w0 (W.drewN m) g f0 f1 := h
theorem Iq.drew {w0 W : World} {g : Nat} {f0 : List Int} {f1 : Int} (h : Iq w0 W g f0 f1) : Iq w0 W.drew g f0 f1 := h
theorem Iq.at_ {w0 W : World} {g : Nat} {f0 : List Int} {f1 : Int} {w' : World} {m : Nat} (hq : W.drewN m = w') (h : Iq w0 W g f0 f1) : Iq w0 w' g f0 f1 := by subst hq; exact Iq.drewN h m
theorem Iq.apart {w0 W : World} {g : Nat} {f0 : List Int} {f1 : Int} {α : Type} {d : Kd α} {e : Nat} {base : Nat} {ok : Nat → Prop} {v : Value} {xs : List α} (h : Iq w0 W g f0 f1) (ho : d.R e W base ok v xs) (ht : ∀ q, q ∈ e :: d.E → q ≠ 69) : d.R e W base (fun k => ok k ∧ k ≠ g) v xs := by
  obtain ⟨A0, c0, hb, hg, hr0⟩ := h
  exact Kd.Rt ho hb ht
theorem Iq.own_ne {w0 W : World} {g : Nat} {f0 : List Int} {f1 : Int} {α : Type} {d : Kd α} {e : Nat} {base : Nat} {ok : Nat → Prop} {v : Value} {xs : List α} (h : Iq w0 W g f0 f1) (ho : d.R e W base ok v xs) (ht : e ≠ 69) : some g ≠ v.ownBlock := by
  obtain ⟨A0, c0, hb, hg, hr0⟩ := h
  exact Kd.R_ne ho hb ht
theorem Iq.apartQ {w0 W : World} {g : Nat} {f0 : List Int} {f1 : Int} {α : Type} {d : Kd α} {e : Nat} {base : Nat} {ok : Nat → Prop} {v : Value} {xs : List α} (h : Iq w0 W g f0 f1) (ho : d.Q e W base ok v xs) (ht : ∀ q, q ∈ e :: d.E → q ≠ 69) : d.Q e W base (fun k => ok k ∧ k ≠ g) v xs := by
  obtain ⟨A0, c0, hb, hg, hr0⟩ := h
  exact Kd.Q_types ho hb ht
theorem Iq.own_neQ {w0 W : World} {g : Nat} {f0 : List Int} {f1 : Int} {α : Type} {d : Kd α} {e : Nat} {base : Nat} {ok : Nat → Prop} {v : Value} {xs : List α} (h : Iq w0 W g f0 f1) (ho : d.Q e W base ok v xs) (ht : e ≠ 69) : some g ≠ v.ownBlock := by
  obtain ⟨A0, c0, hb, hg, hr0⟩ := h
  exact Kd.Q_ne ho hb ht
theorem Iq.apartS {w0 W : World} {g : Nat} {f0 : List Int} {f1 : Int} {α : Type} {d : Kd α} {e : Nat} {base : Nat} {ok : Nat → Prop} {v : Value} {xs : List α} (h : Iq w0 W g f0 f1) (ho : d.S e W base ok v xs) (ht : ∀ q, q ∈ e :: d.E → q ≠ 69) : d.S e W base (fun k => ok k ∧ k ≠ g) v xs := by
  obtain ⟨A0, c0, hb, hg, hr0⟩ := h
  exact Kd.S_types ho hb ht
theorem Iq.own_neS {w0 W : World} {g : Nat} {f0 : List Int} {f1 : Int} {α : Type} {d : Kd α} {e : Nat} {base : Nat} {ok : Nat → Prop} {v : Value} {xs : List α} (h : Iq w0 W g f0 f1) (ho : d.S e W base ok v xs) (ht : e ≠ 69) : some g ≠ v.ownBlock := by
  obtain ⟨A0, c0, hb, hg, hr0⟩ := h
  exact Kd.S_ne ho hb ht
theorem Iq.lt {w0 W : World} {g : Nat} {f0 : List Int} {f1 : Int} (h : Iq w0 W g f0 f1) : g < W.heap.size := by
  obtain ⟨A0, c0, hb, hg, hr0⟩ := h
  exact blk_lt hb
theorem Iq.ge {w0 W : World} {g : Nat} {f0 : List Int} {f1 : Int} (h : Iq w0 W g f0 f1) : w0.heap.size ≤ g := by
  obtain ⟨A0, c0, hb, hg, hr0⟩ := h
  exact hg
theorem Iq.ne_blk {w0 W : World} {g : Nat} {f0 : List Int} {f1 : Int} {a : Nat} {cs : Array Value} {t : TypeId} {fr : Nat × Nat} (h : Iq w0 W g f0 f1) (hb2 : W.heap[a]? = some (.cells cs t fr)) (ht : t ≠ 69) : g ≠ a := by
  obtain ⟨A0, c0, hb, hg, hr0⟩ := h
  rintro rfl
  rw [hb] at hb2
  injection hb2 with hb2
  injection hb2 with _ ht2
  exact ht ht2.symm
theorem Iq.far {w0 W : World} {g : Nat} {f0 : List Int} {f1 : Int} {p : Addr} (h : Iq w0 W g f0 f1) (hne : g ≠ p.block) (u : Value) : Iq w0 (W.setCell p u) g f0 f1 := by
  obtain ⟨A0, c0, hb, hg, hr0⟩ := h
  exact ⟨A0, c0, bR hb hne u, hg, hr0⟩
theorem cellS69_0 {W : World} {g : Nat} {A0 : Option Addr} {c0 : Nat} {f0 : List Int} {f1 : Int} (h : W.heap[g]? = some (.cells #[.slice A0 f0.length c0, .int .i64 f1] 69 (0, 0))) : W.cell? ⟨g, 0, none⟩ = some (.slice A0 f0.length c0) := (bC h 0).trans rfl
theorem cellS69_1 {W : World} {g : Nat} {A0 : Option Addr} {c0 : Nat} {f0 : List Int} {f1 : Int} (h : W.heap[g]? = some (.cells #[.slice A0 f0.length c0, .int .i64 f1] 69 (0, 0))) : W.cell? ⟨g, 1, none⟩ = some (.int .i64 f1) := (bC h 1).trans rfl
theorem Iq.set_1 {w0 W : World} {g : Nat} {f0 : List Int} {f1 : Int} (h : Iq w0 W g f0 f1) (x : Int) : Iq w0 (W.setCell ⟨g, 1, none⟩ (.int .i64 x)) g f0 x := by
  obtain ⟨A0, c0, hb, hg, hr0⟩ := h
  exact ⟨A0, c0, by simpa using blk_set hb 1 (.int .i64 x), hg, hr0⟩
theorem Iq.new (w0 W : World) (A0 : Option Addr) (c0 : Nat) (f0 : List Int) (f1 : Int) (hB : Below w0.heap.size w0 W) (hr0 : Kd.C (Kd.int .u8) w0 A0 f0.length f0) : Iq w0 (W.alloc (.cells #[.slice A0 f0.length c0, .int .i64 f1] 69)) W.heap.size f0 f1 := ⟨A0, c0, by simpa using heap_alloc_new W _, hB.size, hr0⟩
def F16.f (l0 : List Int) : Option (List Int × Int) := if (l0.length : Int) > 2000 then (if 2000 ≤ (l0.length : Int) then (some (l0.take 2000, 0)) else (none)) else (some (l0, 0))
theorem F16.calls (A0 : Option Addr) (c0 : Nat) (l0 : List Int) (r1 : List Int) (r2 : Int) (w0 w : World) (hB : Below w0.heap.size w0 w) (hr0 : Kd.C (Kd.int .u8) w0 A0 l0.length l0) (hc0 : l0.length ≤ c0) (h : F16.f l0 = some (r1, r2)) :
  Calls Tryz.prog 16 #[.slice A0 l0.length c0] w fun e w' => ∃ g_ : Nat, e = .returned (.pointer (some ⟨g_, 0, none⟩)) ∧ Iq w0 w' g_ r1 r2 ∧ Below w0.heap.size w0 w' ∧ Below w.heap.size w w' := by
 have hu69 := Tryz.underlying69;have HR0:=zM hr0;have HC0:=zM hc0;clear hr0 hc0;have HBW:=zM (Below.refl w.heap.size w);have HW0:=zM hB.size;have HB:=zM hB;clear hB;have H : (if (l0.length : Int) > 2000 then (if 2000 ≤ (l0.length : Int) then (some (l0.take 2000, 0)) else (none)) else (some (l0, 0))) = some (r1, r2) := h;clear h;by_cases c2 : (l0.length : Int) > 2000
 ·rw [if_pos c2] at H;have c2b0 : decide (2000 < (l0.length : Int)) = true := decide_eq_true c2;have c2b1 : decide (2000 < l0.length) = true := decide_eq_true zo_;clear c2;replace H := zn H; obtain ⟨c3, H⟩ := H;have c3b0 := eq_true c3;have c3b1 := decide_eq_true c3;clear c3;simp only [Option.some.injEq, Prod.mk.injEq] at H;obtain ⟨rfl, rfl⟩ := H;obtain ⟨i04, hi04, _, hsz4, _⟩ := info_parts info5;obtain ⟨hcut4, hA4, hC4⟩ := print_take_of (P := Tryz.prog) (Value.int .u8) 0 22 5 .i64 Tryz.underlying22 hi04 hsz4 A0 c0 l0 2000 zo_ (of_decide_eq_true zs0) HC0.out;have HR101:=zM (Kd.C_of_reads (h1 := fun _ => rfl) (hA4 _ (Kd.reads_of_C HR0.out)));have HC101:=zM hC4;clear hA4 hC4 hi04 hsz4;go_enter Tryz.func16, Tryz.ntmps16;go_wp2_with (first | ((with_reducible refine gD (N := 10) rfl ?_); refine bX zs1 (N := 10) zs1 (cs := #[.slice A0 (l0.take 2000).length c0, .int .i64 0]) (t := 69) zs2 ?_; intro gb102 hg w5 hbox hb; replace HB:=zM (bS (zs3 HB) hb); have BK102:=zM (hbox); have GW102 := zg1 (zs3 HBW) hg; have GE102:=zM ((Nat.le_trans HW0.out (by rw [hg]; exact (bZ (zs3 HBW)) : w.heap.size ≤ gb102) : w0.heap.size ≤ gb102)); replace HBW:=zM (bS HBW.out hb); clear hb hbox hg));go_ret;exact ⟨_, rfl, (show Iq w0 _ gb102 (l0.take 2000) 0 from ⟨_, _, by exact BK102.out, GE102.out, HR101.out⟩), (zs4 HB GE102), (zs4 HBW GW102)⟩
 ·rw [if_neg c2] at H;have c2b0 : decide (2000 < (l0.length : Int)) = false := decide_eq_false c2;have c2b1 : decide (2000 < l0.length) = false := decide_eq_false zo_;clear c2;simp only [Option.some.injEq, Prod.mk.injEq] at H;obtain ⟨rfl, rfl⟩ := H;go_enter Tryz.func16, Tryz.ntmps16;go_wp2_with (first | ((with_reducible refine gD (N := 10) rfl ?_); refine bX zs1 (N := 10) zs1 (cs := #[.slice A0 l0.length c0, .int .i64 0]) (t := 69) zs2 ?_; intro gb103 hg w6 hbox hb; replace HB:=zM (bS (zs3 HB) hb); have BK103:=zM (hbox); have GW103 := zg1 (zs3 HBW) hg; have GE103:=zM ((Nat.le_trans HW0.out (by rw [hg]; exact (bZ (zs3 HBW)) : w.heap.size ≤ gb103) : w0.heap.size ≤ gb103)); replace HBW:=zM (bS HBW.out hb); clear hb hbox hg));go_ret;exact ⟨_, rfl, (show Iq w0 _ gb103 l0 0 from ⟨_, _, by exact BK103.out, GE103.out, HR0.out⟩), (zs4 HB GE103), (zs4 HBW GW103)⟩
def F49.f (a0 : Int) (a1 : Int) (a2 : Int) : Option (Bool) := if a0 ≥ a1 then (some (decide (a0 ≤ a2))) else (some false)
theorem F49.calls (a0 : Int) (a1 : Int) (a2 : Int) (r : Bool) (w : World) (h : F49.f a0 a1 a2 = some r) :
  Calls Tryz.prog 49 #[.int .i64 a0, .int .i64 a1, .int .i64 a2] w fun e w' => e = .returned (.bool r) ∧ D0w w w' := by
 have H : (if a0 ≥ a1 then (some (decide (a0 ≤ a2))) else (some false)) = some r := h;clear h;by_cases c4 : a0 ≥ a1
 ·rw [if_pos c4] at H;have c4b0 : decide (a1 ≤ a0) = true := decide_eq_true c4;clear c4;obtain rfl := Option.some.inj H;go_enter Tryz.func49, Tryz.ntmps49;go_wp2;go_ret;exact ⟨by first | rfl | (simp; done) | (simp [*]; done), by repeat (first | exact D0w.refl _ | apply D0w.step)⟩
 ·rw [if_neg c4] at H;have c4b0 : decide (a1 ≤ a0) = false := decide_eq_false c4;clear c4;obtain rfl := Option.some.inj H;go_enter Tryz.func49, Tryz.ntmps49;go_wp2;go_ret;exact ⟨by first | rfl | (simp; done) | (simp [*]; done), by repeat (first | exact D0w.refl _ | apply D0w.step)⟩
def F77.f : Nat → Int → Option (ByteArray)
 | 0, _ => none
 | k + 1, a0 => if a0 < 10 then (some (strOfNums (([(wrap64 (48 + (mx a0 0))) % 256] : List Int)))) else ((F77.f k (wrap64 (Int.tdiv a0 10))).bind fun t107 => ((some (([(wrap64 (48 + (Int.tmod a0 10))) % 256] : List Int) : List Int)).bind fun y108 => (if t107.size + (strOfNums y108).size ≤ 9223372036854775807 then (some (t107 ++ (strOfNums y108))) else (none))))
theorem F77.ml : ∀ k, (∀ y0, LeO (F77.f k y0) (F77.f (k + 1) y0))
 | 0 => fun _ r h => by simp [F77.f] at h
 | k + 1 => by
  have ih0 := F77.ml k
  ·intro y0
   unfold F77.f
   exact zm
theorem F77.mono : ∀ a0 k, LeO (F77.f k a0) (F77.f (k + 1) a0) := by
 intro a0 k;have ih0 := F77.ml k;exact ih0 a0
def F77.T3 : Bool × List (List Nat × List Nat) := (true, [([], []), ([0], [0]), ([1], [1]), ([], []), ([3], [3]), ([4], [4]), ([5], [5]), ([6], [6]), ([7], [7]), ([2, 8], [2, 8]), ([9, 2, 0, 1, 2, 3, 4, 5, 6, 7, 8, 9], [9])])
def F77.B3 : List Nat := [0, 1, 3, 0, 8, 24, 56, 120, 248, 511, 1023]
theorem F77.tab3 : rtab .any (opsOf Tryz.f77 3) = F77.T3 := by kernel_rfl
theorem F77.bits3 : waitsOk F77.T3.2 F77.B3 = true := by kernel_rfl
theorem F77.calls (k : Nat) : ∀ (a0 : Int) (r : ByteArray) (w : World) (h : F77.f k a0 = some r),
  Calls Tryz.prog 77 #[.int .i64 a0] w fun e w' => e = .returned (.string r) ∧ Below w.heap.size w w' := by
 induction k using Nat.strongRecOn with
 | _ k ih =>
 intro a0 r w h;cases k with
 | zero => exact absurd h (by simp [F77.f])
 | succ k =>
 simp only [F77.f] at h;have HB:=zM (Below.refl w.heap.size w);have H : (if a0 < 10 then (some (strOfNums (([(wrap64 (48 + (mx a0 0))) % 256] : List Int)))) else ((F77.f k (wrap64 (Int.tdiv a0 10))).bind fun t107 => ((some (([(wrap64 (48 + (Int.tmod a0 10))) % 256] : List Int) : List Int)).bind fun y108 => (if t107.size + (strOfNums y108).size ≤ 9223372036854775807 then (some (t107 ++ (strOfNums y108))) else (none))))) = some r := h;clear h;by_cases c2 : a0 < 10
 ·rw [if_pos c2] at H;have c2b0 := decide_eq_true c2;clear c2;obtain ⟨ji3, hji3⟩ : ∃ j_ : Int, (mx a0 0) = j_ := ⟨_, rfl⟩;(replace H : (some (strOfNums (([(wrap64 (48 + (ji3))) % 256] : List Int)))) = some r := by first | (rw [hji3] at H; exact H) | (simp only [hji3] at H ⊢; exact H));((try (have hji3l : 0 ≤ ji3 := by (rw [← hji3]; unfold mx; (repeat' split) <;> omega))));(try (have hji3m : 0 ≤ ji3 := by omega));have hji3_ : (if a0 < 0 then 0 else a0) = ji3 := hji3;obtain ⟨y104, hy104⟩ : ∃ y_ : List Int, y_ = (([(wrap64 (48 + (ji3))) % 256] : List Int)) := ⟨_, rfl⟩;(replace H : (some (strOfNums y104)) = some r := by first | (rw [hy104]; with_reducible exact H) | (have H2_ := (Option.bind_some _ _).symm.trans H; rw [hy104]; with_reducible exact H2_) | (have H2_ := (Option.bind_some _ _).symm.trans H; with_reducible exact H2_) | with_reducible exact H | (rw [hy104]; exact H) | exact H);have Ny104:=zM hy104;clear hy104;obtain rfl := Option.some.inj H;go_enter Tryz.func77, Tryz.ntmps77;go_wp2_with (first | ((with_reducible refine gD (N := 9) rfl ?_); refine Kd.R_lit (Kd.int .u8) _ 5 zs1 (N := 9) zs1 (xs := ([(wrap64 (48 + (ji3))) % 256] : List Int)) (inner := [.int .u8 ((wrap64 (48 + (ji3))) % 256)]) (ok := fun _ => True) (okp := fun _ => True) zs2 ?hp (fun _ hk => hk) trivial (Below.refl _ _) (Nat.le_refl _) (by simp) ?_; (case hp => exact (zri _ fun _ => rfl)); intro v105 w4 ho5 hb hg_ hnew_; clear hg_ hnew_; (first | rw [← Ny104.out] at ho5 | (simp only [Int.reduceToNat] at ho5; rw [← Ny104.out] at ho5)); have HO106:=zM (Kd.Rl ho5 (bZ (zs3 HB))); replace HB:=zM (bS (zs3 HB) hb); clear hb ho5; have hcv6 := own_string (P := Tryz.prog) Tryz.underlying22 Tryz.underlying5 Tryz.underlying9 (Kd.own_of_R HO106.out)));go_ret;(exact ⟨by first | rfl | (simp [eN, eS] <;> rfl) | (simp only [← hji3]; first | rfl | (simp [eN, eS] <;> rfl)) | (simp [*, eN, eS] <;> rfl), (zs3 HB)⟩)
 ·rw [if_neg c2] at H;have c2b0 := decide_eq_false c2;clear c2;replace H := zb H; obtain ⟨t107, A7, H⟩ := H; (try dsimp only at H);replace H := zy H; obtain ⟨y108, Ny108, H⟩ := H; (try dsimp only at H);replace H := zn H; obtain ⟨c8, H⟩ := H;have c8b0 := eq_true c8;have c8b1 := decide_eq_true c8;(try have c8b2 : (9223372036854775807 < t107.size + (strOfNums y108).size) = False := eq_false (Nat.not_lt.2 c8));obtain rfl := Option.some.inj H;go_enter Tryz.func77, Tryz.ntmps77;(try go_wp2);replace HB:=zM (zC HB.out);refine start_ (n := 11) (S := fun w' => True) (ds := []) (zL 11 0) zk rfl rfl trivial (fun hHeld => ?_); refine with_tabW F77.tab3 F77.bits3 (fun HT_ HW_ => ?_);generalize w.drew = w9 at HB hHeld ⊢;refine zp 0 (some 11) (zL 11 1) HT_ ?_;refine zp 1 (some 12) (zL 11 3) HT_ ?_;refine zp 3 (some 14) (zL 11 11) HT_ ?_;refine zp 4 (some 15) (zL 11 27) HT_ ?_;refine zp 5 (some 16) (zL 11 59) HT_ ?_;refine zp 6 (some 17) (zL 11 123) HT_ ?_;refine join_ (σ := Value) 2 (zL 11 511) (fun s_ => [(13, .string t107), (18, s_), (19, .string (strOfNums y108))]) (fun s_ w' => (Kd.R (Kd.int .u8) 5 w' w.heap.size (fun _ => True) s_ y108) ∧ (Below w.heap.size w w')) ?_ ?_;rotate_left
  ·intro hCont;refine two_ (i := 2) (j := 7) (Ni := some 13) (Nj := some 18) (zL 11 127) (zL 11 251) rfl rfl rfl rfl (two_of HT_.out zk) zd zd (fun K hK => ?_) (fun K hK => ?_)
   ·skip
    refine zv Tryz.func77 #[.int .i64 (wrap64 (Int.tdiv a0 10))] ?_;(with_reducible refine (ih k zo_ (wrap64 (Int.tdiv a0 10)) t107 _ A7.out).mono ?_);rintro e w10 ⟨rfl, hb⟩;refine ⟨_, rfl, ?_⟩;replace HB:=zM (bS (zs3 HB) hb);refine hK.out _ _ trivial (fun hHeld => ?_);clear hK K;refine zq (some 13) ?_;refine one_ (i := 7) (N := some 18) (zL 11 255) rfl rfl (one_of HT_.out zk) zd (fun K hK => ?_);refine Kd.R_lit_step (Kd.int .u8) _ 5 zs1 (N := 18) zs1 (xs := ([(wrap64 (48 + (Int.tmod a0 10))) % 256] : List Int)) (inner := [.int .u8 ((wrap64 (48 + (Int.tmod a0 10))) % 256)]) (ok := fun _ => True) (okp := fun _ => True) zs2 ?hp (fun _ hk => hk) trivial (Below.refl _ _) (Nat.le_refl _) (by simp) ?_; (case hp => exact (zri _ fun _ => rfl));intro v109 w11 ho12 hb hg_ hnew_;clear hg_ hnew_;(first | rw [← Ny108.out] at ho12 | (simp only [Int.reduceToNat] at ho12; rw [← Ny108.out] at ho12));have HO110:=zM (Kd.Rl ho12 (bZ (zs3 HB)));replace HB:=zM (bS (zs3 HB) hb);clear hb ho12;refine hK.out _ _ trivial (fun hHeld => ?_);clear hK K;refine zq (some 18) ?_;refine one_ (i := 8) (N := some 19) (zL 11 511) rfl rfl (one_of HT_.out zk) zd (fun K hK => ?_);have hcv13 := own_string (P := Tryz.prog) Tryz.underlying22 Tryz.underlying5 Tryz.underlying9 (Kd.own_of_R HO110.out);refine value_ (w1 := ?_) (v := ?_) (by rfl) rfl ?_ ?_;rotate_left 2
    ·go_simp
     constructor
     ·rfl
     ·rfl
    clear hcv13;refine hK.out _ _ trivial (fun hHeld => ?_);clear hK K;refine zq (some 19) ?_;exact norm_ (by simp only [putAll, Act.put, zE, zF, zG]) (hCont (v109) _ ⟨(zs5 HO110), (zs3 HB)⟩)
   ·skip
    refine Kd.R_lit_step (Kd.int .u8) _ 5 zs1 (N := 18) zs1 (xs := ([(wrap64 (48 + (Int.tmod a0 10))) % 256] : List Int)) (inner := [.int .u8 ((wrap64 (48 + (Int.tmod a0 10))) % 256)]) (ok := fun _ => True) (okp := fun _ => True) zs2 ?hp (fun _ hk => hk) trivial (Below.refl _ _) (Nat.le_refl _) (by simp) ?_; (case hp => exact (zri _ fun _ => rfl));intro v109 w10 ho11 hb hg_ hnew_;clear hg_ hnew_;(first | rw [← Ny108.out] at ho11 | (simp only [Int.reduceToNat] at ho11; rw [← Ny108.out] at ho11));have HO110:=zM (Kd.Rl ho11 (bZ (zs3 HB)));replace HB:=zM (bS (zs3 HB) hb);clear hb ho11;refine hK.out _ _ trivial (fun hHeld => ?_);clear hK K;refine zq (some 18) ?_;refine two_ (i := 2) (j := 8) (Ni := some 13) (Nj := some 19) (zL 11 255) (zL 11 507) rfl rfl rfl rfl (two_of HT_.out zk) zd zd (fun K hK => ?_) (fun K hK => ?_)
    ·skip
     refine zv Tryz.func77 #[.int .i64 (wrap64 (Int.tdiv a0 10))] ?_;(with_reducible refine (ih k zo_ (wrap64 (Int.tdiv a0 10)) t107 _ A7.out).mono ?_);rintro e w12 ⟨rfl, hb⟩;refine ⟨_, rfl, ?_⟩;replace HO110 := zrR HO110 hb;replace HB:=zM (bS (zs3 HB) hb);refine hK.out _ _ trivial (fun hHeld => ?_);clear hK K;refine zq (some 13) ?_;refine one_ (i := 8) (N := some 19) (zL 11 511) rfl rfl (one_of HT_.out zk) zd (fun K hK => ?_);have hcv13 := own_string (P := Tryz.prog) Tryz.underlying22 Tryz.underlying5 Tryz.underlying9 (Kd.own_of_R HO110.out);refine value_ (w1 := ?_) (v := ?_) (by rfl) rfl ?_ ?_;rotate_left 2
     ·go_simp
      constructor
      ·rfl
      ·rfl
     clear hcv13;refine hK.out _ _ trivial (fun hHeld => ?_);clear hK K;refine zq (some 19) ?_;exact norm_ (by simp only [putAll, Act.put, zE, zF, zG]) (hCont (v109) _ ⟨(zs5 HO110), (zs3 HB)⟩)
    ·skip
     have hcv12 := own_string (P := Tryz.prog) Tryz.underlying22 Tryz.underlying5 Tryz.underlying9 (Kd.own_of_R HO110.out);refine value_ (w1 := ?_) (v := ?_) (by rfl) rfl ?_ ?_;rotate_left 2
     ·go_simp
      constructor
      ·rfl
      ·rfl
     clear hcv12;refine hK.out _ _ trivial (fun hHeld => ?_);clear hK K;refine zq (some 19) ?_;refine one_ (i := 2) (N := some 13) (zL 11 511) rfl rfl (one_of HT_.out zk) zd (fun K hK => ?_);refine zv Tryz.func77 #[.int .i64 (wrap64 (Int.tdiv a0 10))] ?_;(with_reducible refine (ih k zo_ (wrap64 (Int.tdiv a0 10)) t107 _ A7.out).mono ?_);rintro e w13 ⟨rfl, hb⟩;refine ⟨_, rfl, ?_⟩;replace HO110 := zrR HO110 hb;replace HB:=zM (bS (zs3 HB) hb);refine hK.out _ _ trivial (fun hHeld => ?_);clear hK K;refine zq (some 13) ?_;exact norm_ (by simp only [putAll, Act.put, zE, zF, zG]) (hCont (v109) _ ⟨(zs5 HO110), (zs3 HB)⟩)
  rintro v109 w14 ⟨h0_, h1_⟩;have HO110 : Qo (Kd.R (Kd.int .u8) 5 w14 w.heap.size (fun _ => True) v109 y108) := ⟨h0_⟩;replace HB : Qo (Below w.heap.size w w14) := ⟨h1_⟩;clear h0_ h1_;have hHeld := trivial;refine zQ ?_;refine zp 9 (some 20) (zL 11 1023) HT_ ?_;refine zp 10 (some 2) (zL 11 2047) HT_ ?_;refine done_ (done_of HT_.out zk) ?_;(try go_wp2);go_ret;exact ⟨zs6, (zs3 HB)⟩
attribute [local go_sem high] eqA39
mutual
def F38.j0 : Nat → Bool → Int → Int → Int → Option (ByteArray)
 | 0, _, _, _, _ => none
 | k + 1, x3, x112000, x112001, x112002 => if x3 = true then ((F77.f k x112001).bind fun t114 => (if 5 + t114.size ≤ 9223372036854775807 then (if ((⟨#[104, 101, 97, 100, 32]⟩ : ByteArray) ++ t114).size + 1 ≤ 9223372036854775807 then ((F77.f k x112002).bind fun t115 => (if (((⟨#[104, 101, 97, 100, 32]⟩ : ByteArray) ++ t114) ++ (⟨#[32]⟩ : ByteArray)).size + t115.size ≤ 9223372036854775807 then (some ((((⟨#[104, 101, 97, 100, 32]⟩ : ByteArray) ++ t114) ++ (⟨#[32]⟩ : ByteArray)) ++ t115)) else (none))) else (none)) else (none))) else (if x112000 = 1 then ((F49.f x112001 0 99).bind fun t116 => (if t116 = true then (F38.j1 k (x112002 == 0) x112000 x112001 x112002) else (F38.j1 k false x112000 x112001 x112002))) else (F38.j1 k false x112000 x112001 x112002))
def F38.j1 : Nat → Bool → Int → Int → Int → Option (ByteArray)
 | 0, _, _, _, _ => none
 | k + 1, x26, x112000, x112001, x112002 => if x26 = true then ((F77.f k x112001).bind fun t117 => (if 4 + t117.size ≤ 9223372036854775807 then (some ((⟨#[97, 100, 100, 32]⟩ : ByteArray) ++ t117)) else (none))) else (if (x112000 == 2 && (x112001 == 0 && (x112002 == 0))) = true then (some (⟨#[100, 114, 111, 112]⟩ : ByteArray)) else (if (x112000 == 3 && (x112001 == 0 && (x112002 == 0))) = true then (some (⟨#[116, 117, 114, 110]⟩ : ByteArray)) else (if (x112000 == 4 && (x112001 == 0 && (x112002 == 0))) = true then (some (⟨#[102, 108, 97, 116]⟩ : ByteArray)) else (if (x112000 == 5 && (x112001 == 0 && (x112002 == 0))) = true then (some (⟨#[98, 97, 99, 107]⟩ : ByteArray)) else (some (⟨#[]⟩ : ByteArray))))))
end
def F38.f (k : Nat) (a0_0 : Int) (a0_1 : Int) (a0_2 : Int) : Option (ByteArray) := if a0_0 = 0 then ((F49.f a0_1 0 99).bind fun t112 => (if t112 = true then ((F49.f a0_2 0 99).bind fun t113 => (F38.j0 k t113 a0_0 a0_1 a0_2)) else (F38.j0 k false a0_0 a0_1 a0_2))) else (F38.j0 k false a0_0 a0_1 a0_2)
theorem F38.ml : ∀ k, (∀ y0 y1 y2 y3, LeO (F38.j0 k y0 y1 y2 y3) (F38.j0 (k + 1) y0 y1 y2 y3)) ∧ (∀ y0 y1 y2 y3, LeO (F38.j1 k y0 y1 y2 y3) (F38.j1 (k + 1) y0 y1 y2 y3))
 | 0 => ⟨fun _ _ _ _ r h => by simp [F38.j0] at h, fun _ _ _ _ r h => by simp [F38.j1] at h⟩
 | k + 1 => by
  obtain ⟨ih0, ih1⟩ := F38.ml k
  refine ⟨?_, ?_⟩
  ·intro y0 y1 y2 y3
   unfold F38.j0
   have := @F77.mono; exact zm
  ·intro y0 y1 y2 y3
   unfold F38.j1
   have := @F77.mono; exact zm
theorem F38.mono : ∀ a0 a1 a2 k, LeO (F38.f k a0 a1 a2) (F38.f (k + 1) a0 a1 a2) := by
 intro a0 a1 a2 k;obtain ⟨ih0, ih1⟩ := F38.ml k;unfold F38.f;have := @F77.mono; exact zm
def F38.T2 : Bool × List (List Nat × List Nat) := (true, [([], []), ([0], [0]), ([1], [1]), ([2], [2]), ([3], [3]), ([], []), ([5], [5]), ([6, 2], [6]), ([4, 7], [4, 7]), ([8, 7, 0, 1, 2, 3, 4, 5, 6, 7, 8], [8])])
def F38.B2 : List Nat := [0, 1, 3, 7, 15, 0, 32, 103, 255, 511]
theorem F38.tab2 : rtab .any (opsOf Tryz.f38 2) = F38.T2 := by kernel_rfl
theorem F38.bits2 : waitsOk F38.T2.2 F38.B2 = true := by kernel_rfl
theorem F38.calls (k : Nat) (a0_0 : Int) (a0_1 : Int) (a0_2 : Int) (r : ByteArray) (w : World) (h : F38.f k a0_0 a0_1 a0_2 = some r) :
  Calls Tryz.prog 38 #[.agg #[.int .i64 a0_0, .int .i64 a0_1, .int .i64 a0_2]] w fun e w' => e = .returned (.string r) ∧ Below w.heap.size w w' := by
 have hu39 := Tryz.underlying39;have HB:=zM (Below.refl w.heap.size w);have H : (if a0_0 = 0 then ((F49.f a0_1 0 99).bind fun t112 => (if t112 = true then ((F49.f a0_2 0 99).bind fun t113 => (F38.j0 k t113 a0_0 a0_1 a0_2)) else (F38.j0 k false a0_0 a0_1 a0_2))) else (F38.j0 k false a0_0 a0_1 a0_2)) = some r := h;clear h;have HC2:=zM H;clear H;go_enter Tryz.func38, Tryz.ntmps38;go_upto_region 1 with (first | ((with_reducible refine gD (N := 1) rfl ?_); refine bX zs1 (N := 1) zs1 (cs := #[.int .i64 a0_0, .int .i64 a0_1, .int .i64 a0_2]) (t := 39) zs2 ?_; intro gb111 hg w3 hbox hb; have BK111:=zM (hbox); have GW111 := zg1 (zs3 HB) hg; have GE111 := zg1 (zs3 HB) hg; replace HB:=zM (bS (zs3 HB) hb); clear hb hbox hg));(try simp only [Act.put, zE, zF, zG]);go_cut [3] (fun v3 wc => ∃ (kq : Nat) (x3_1 : Bool), v3 = .bool x3_1 ∧ Qo (F38.j0 kq x3_1 a0_0 a0_1 a0_2 = some r) ∧ Qo (kq ≤ k) ∧ Qo (wc.heap[gb111]? = some (.cells #[.int .i64 a0_0, .int .i64 a0_1, .int .i64 a0_2] 39 (0, 0))) ∧ Qo (Below w.heap.size w wc))
 case first =>
  have H := HC2.out;clear HC2;by_cases c4 : a0_0 = 0
  ·rw [if_pos c4] at H;have c4b0 := beq_iff_eq.mpr c4;have c4b1 := bne_eq_false_iff_eq.mpr c4;clear c4;(first | rw [c4b0] | (simp only [i64_w, i32_w]; rw [c4b0]) | skip);replace H := zb H; obtain ⟨t112, A5, H⟩ := H; (try dsimp only at H);by_cases c6 : t112 = true
   ·subst c6;(have H1 : ((F49.f a0_2 0 99).bind fun t113 => (F38.j0 k t113 a0_0 a0_1 a0_2)) = some r := by rw [if_pos rfl] at H; exact H);clear H;have H := H1;clear H1;replace H := zb H; obtain ⟨t113, A7, H⟩ := H; (try dsimp only at H);have H':=zM H;clear H;have hcz8_0 := cz0 BK111.out;have hcz8_1 := cz1 BK111.out;have hcz8_2 := cz2 BK111.out;have hfz8_0 := bF BK111.out 0;have hfz8_1 := bF BK111.out 1;have hfz8_2 := bF BK111.out 2;go_wp2_with (first | (go_at_call 49; (with_reducible refine (F49.calls a0_1 0 99 true _ A5.out).mono ?_); rintro e w' ⟨rfl, ⟨nd, rfl⟩⟩) | (go_at_call 49; (with_reducible refine (F49.calls a0_2 0 99 t113 _ A7.out).mono ?_); rintro e w' ⟨rfl, ⟨nd, rfl⟩⟩));go_meet
    case rel => exact ⟨_, (t113), zs7, H', ⟨zs8⟩, ⟨by exact BK111.out⟩, ⟨(zs4 HB GE111)⟩⟩
   ·replace c6 := Bool.eq_false_iff.mpr c6;subst c6;(have H1 : (F38.j0 k false a0_0 a0_1 a0_2) = some r := by rw [if_neg (show ¬ (false = true) by decide)] at H; exact H);clear H;have H := H1;clear H1;have H':=zM H;clear H;have hcz9_0 := cz0 BK111.out;have hcz9_1 := cz1 BK111.out;have hcz9_2 := cz2 BK111.out;have hfz9_0 := bF BK111.out 0;have hfz9_1 := bF BK111.out 1;have hfz9_2 := bF BK111.out 2;go_wp2_with (first | (go_at_call 49; (with_reducible refine (F49.calls a0_1 0 99 false _ A5.out).mono ?_); rintro e w' ⟨rfl, ⟨nd, rfl⟩⟩));go_meet
    case rel => exact ⟨_, (false), zs7, H', ⟨zs8⟩, ⟨by exact BK111.out⟩, ⟨(zs4 HB GE111)⟩⟩
  ·rw [if_neg c4] at H;have c4b0 := beq_eq_false_iff_ne.mpr c4;have c4b1 := bne_iff_ne.mpr c4;(first | rw [c4b0] | (simp only [i64_w, i32_w]; rw [c4b0]) | skip);have H':=zM H;clear H;have hcz10_0 := cz0 BK111.out;have hcz10_1 := cz1 BK111.out;have hcz10_2 := cz2 BK111.out;have hfz10_0 := bF BK111.out 0;have hfz10_1 := bF BK111.out 1;have hfz10_2 := bF BK111.out 2;go_wp2;go_meet
   case rel => exact ⟨_, (false), zs7, H', ⟨zs8⟩, ⟨by exact BK111.out⟩, ⟨(zs4 HB GE111)⟩⟩
 case rest =>
  clear HC2;obtain ⟨kq, x3_1, rfl, HA, HJ1, BK111, HB⟩ := hcut;cases kq with
  | zero => exact absurd HA.out (by simp [F38.j0])
  | succ kj1 =>
   have H := HA.out;clear HA;simp only [F38.j0] at H;by_cases c11 : x3_1 = true
   ·subst c11;(have H1 : ((F77.f kj1 a0_1).bind fun t114 => (if 5 + t114.size ≤ 9223372036854775807 then (if ((⟨#[104, 101, 97, 100, 32]⟩ : ByteArray) ++ t114).size + 1 ≤ 9223372036854775807 then ((F77.f kj1 a0_2).bind fun t115 => (if (((⟨#[104, 101, 97, 100, 32]⟩ : ByteArray) ++ t114) ++ (⟨#[32]⟩ : ByteArray)).size + t115.size ≤ 9223372036854775807 then (some ((((⟨#[104, 101, 97, 100, 32]⟩ : ByteArray) ++ t114) ++ (⟨#[32]⟩ : ByteArray)) ++ t115)) else (none))) else (none)) else (none))) = some r := by rw [if_pos rfl] at H; exact H);clear H;have H := H1;clear H1;replace H := zb H; obtain ⟨t114, A12, H⟩ := H; (try dsimp only at H);replace H := zn H; obtain ⟨c13, H⟩ := H;have c13b0 := eq_true c13;have c13b1 := decide_eq_true c13;(try have c13b2 : (9223372036854775807 < 5 + t114.size) = False := eq_false (Nat.not_lt.2 c13));replace H := zn H; obtain ⟨c14, H⟩ := H;have c14b0 := eq_true c14;have c14b1 := decide_eq_true c14;(try have c14b2 : (9223372036854775807 < ((⟨#[104, 101, 97, 100, 32]⟩ : ByteArray) ++ t114).size + 1) = False := eq_false (Nat.not_lt.2 c14));have c14z := c14;(try simp only [ByteArray.size_append, show ((⟨#[104, 101, 97, 100, 32]⟩ : ByteArray)).size = 5 from rfl] at c14z);have c14y := eq_false (Nat.not_lt.2 c14z);replace H := zb H; obtain ⟨t115, A15, H⟩ := H; (try dsimp only at H);replace H := zn H; obtain ⟨c16, H⟩ := H;have c16b0 := eq_true c16;have c16b1 := decide_eq_true c16;(try have c16b2 : (9223372036854775807 < (((⟨#[104, 101, 97, 100, 32]⟩ : ByteArray) ++ t114) ++ (⟨#[32]⟩ : ByteArray)).size + t115.size) = False := eq_false (Nat.not_lt.2 c16));have c16z := c16;(try simp only [ByteArray.size_append, show ((⟨#[104, 101, 97, 100, 32]⟩ : ByteArray)).size = 5 from rfl, show ((⟨#[32]⟩ : ByteArray)).size = 1 from rfl] at c16z);have c16y := eq_false (Nat.not_lt.2 c16z);obtain rfl := Option.some.inj H;(try go_wp2);replace BK111:=zM (bW BK111.out);replace HB:=zM (zC HB.out);refine start_ (n := 10) (S := fun w' => w'.cell? ⟨gb111, 0, none⟩ = some (.int .i64 a0_0) ∧ w'.cell? ⟨gb111, 1, none⟩ = some (.int .i64 a0_1) ∧ w'.cell? ⟨gb111, 2, none⟩ = some (.int .i64 a0_2)) (ds := []) (zL 10 0) zk rfl rfl ⟨(bC BK111.out 0).trans rfl, (bC BK111.out 1).trans rfl, (bC BK111.out 2).trans rfl⟩ (fun hHeld => ?_); refine with_tabW F38.tab2 F38.bits2 (fun HT_ HW_ => ?_);generalize wc.drew = w17 at BK111 HB hHeld ⊢;refine zp 0 (some 17) (zL 10 1) HT_ ?_;refine zp 5 (some 22) (zL 10 33) HT_ ?_;refine zt 1 (some 18) (zL 10 35) HT_ HW_ hHeld rfl ?_ (hy := by rintro w' ⟨s0, s1, s2⟩; go_simp; with_reducible rfl);refine zt 6 (some 23) (zL 10 99) HT_ HW_ hHeld rfl ?_ (hy := by rintro w' ⟨s0, s1, s2⟩; go_simp; with_reducible rfl);refine one_ (i := 2) (N := some 19) (zL 10 103) rfl rfl (one_of HT_.out zk) zd (fun K hK => ?_);refine zv Tryz.func77 #[.int .i64 a0_1] ?_;(with_reducible refine (F77.calls kj1 a0_1 t114 _ A12.out).mono ?_);rintro e w18 ⟨rfl, hb⟩;refine ⟨_, rfl, ?_⟩;replace BK111 := zb1 BK111 hb;replace HB:=zM (bS (zs4 HB GE111) hb);refine hK.out _ _ ⟨(bC BK111.out 0).trans rfl, (bC BK111.out 1).trans rfl, (bC BK111.out 2).trans rfl⟩ (fun hHeld => ?_);clear hK K;refine zq (some 19) ?_;refine zp 3 (some 20) (zL 10 111) HT_ ?_;refine zp 4 (some 21) (zL 10 127) HT_ ?_;refine one_ (i := 7) (N := some 24) (zL 10 255) rfl rfl (one_of HT_.out zk) zd (fun K hK => ?_);refine zv Tryz.func77 #[.int .i64 a0_2] ?_;(with_reducible refine (F77.calls kj1 a0_2 t115 _ A15.out).mono ?_);rintro e w19 ⟨rfl, hb⟩;refine ⟨_, rfl, ?_⟩;replace BK111 := zb1 BK111 hb;replace HB:=zM (bS (zs4 HB GE111) hb);refine hK.out _ _ ⟨(bC BK111.out 0).trans rfl, (bC BK111.out 1).trans rfl, (bC BK111.out 2).trans rfl⟩ (fun hHeld => ?_);clear hK K;refine zq (some 24) ?_;refine zp 8 (some 25) (zL 10 511) HT_ ?_;refine zp 9 (some 2) (zL 10 1023) HT_ ?_;refine done_ (done_of HT_.out zk) ?_;(try go_wp2);go_ret;exact ⟨zs6, (zs4 HB GE111)⟩
   ·replace c11 := Bool.eq_false_iff.mpr c11;subst c11;(have H1 : (if a0_0 = 1 then ((F49.f a0_1 0 99).bind fun t116 => (if t116 = true then (F38.j1 kj1 (a0_2 == 0) a0_0 a0_1 a0_2) else (F38.j1 kj1 false a0_0 a0_1 a0_2))) else (F38.j1 kj1 false a0_0 a0_1 a0_2)) = some r := by rw [if_neg (show ¬ (false = true) by decide)] at H; exact H);clear H;have H := H1;clear H1;have HC20:=zM H;clear H;go_upto_region 3 with (fail);go_cut [26] (fun v26 wc => ∃ (kq : Nat) (x26_19 : Bool), v26 = .bool x26_19 ∧ Qo (F38.j1 kq x26_19 a0_0 a0_1 a0_2 = some r) ∧ Qo (kq ≤ kj1) ∧ Qo (wc.heap[gb111]? = some (.cells #[.int .i64 a0_0, .int .i64 a0_1, .int .i64 a0_2] 39 (0, 0))) ∧ Qo (Below w.heap.size w wc))
    case first =>
     have H := HC20.out;clear HC20;by_cases c21 : a0_0 = 1
     ·rw [if_pos c21] at H;have c21b0 := beq_iff_eq.mpr c21;have c21b1 := bne_eq_false_iff_eq.mpr c21;clear c21;(first | rw [c21b0] | (simp only [i64_w, i32_w]; rw [c21b0]) | skip);replace H := zb H; obtain ⟨t116, A22, H⟩ := H; (try dsimp only at H);by_cases c23 : t116 = true
      ·subst c23;(have H1 : (F38.j1 kj1 (a0_2 == 0) a0_0 a0_1 a0_2) = some r := by rw [if_pos rfl] at H; exact H);clear H;have H := H1;clear H1;have H':=zM H;clear H;have hcz24_0 := cz0 BK111.out;have hcz24_1 := cz1 BK111.out;have hcz24_2 := cz2 BK111.out;have hfz24_0 := bF BK111.out 0;have hfz24_1 := bF BK111.out 1;have hfz24_2 := bF BK111.out 2;go_wp2_with (first | (go_at_call 49; (with_reducible refine (F49.calls a0_1 0 99 true _ A22.out).mono ?_); rintro e w' ⟨rfl, ⟨nd, rfl⟩⟩));go_meet
       case rel => exact ⟨_, ((a0_2 == 0)), zs7, H', ⟨by have := HJ1.out; first | omega | exact Nat.le_refl _⟩, ⟨by exact BK111.out⟩, ⟨(zs4 HB GE111)⟩⟩
      ·replace c23 := Bool.eq_false_iff.mpr c23;subst c23;(have H1 : (F38.j1 kj1 false a0_0 a0_1 a0_2) = some r := by rw [if_neg (show ¬ (false = true) by decide)] at H; exact H);clear H;have H := H1;clear H1;have H':=zM H;clear H;have hcz25_0 := cz0 BK111.out;have hcz25_1 := cz1 BK111.out;have hcz25_2 := cz2 BK111.out;have hfz25_0 := bF BK111.out 0;have hfz25_1 := bF BK111.out 1;have hfz25_2 := bF BK111.out 2;go_wp2_with (first | (go_at_call 49; (with_reducible refine (F49.calls a0_1 0 99 false _ A22.out).mono ?_); rintro e w' ⟨rfl, ⟨nd, rfl⟩⟩));go_meet
       case rel => exact ⟨_, (false), zs7, H', ⟨by have := HJ1.out; first | omega | exact Nat.le_refl _⟩, ⟨by exact BK111.out⟩, ⟨(zs4 HB GE111)⟩⟩
     ·rw [if_neg c21] at H;have c21b0 := beq_eq_false_iff_ne.mpr c21;have c21b1 := bne_iff_ne.mpr c21;(first | rw [c21b0] | (simp only [i64_w, i32_w]; rw [c21b0]) | skip);have H':=zM H;clear H;have hcz26_0 := cz0 BK111.out;have hcz26_1 := cz1 BK111.out;have hcz26_2 := cz2 BK111.out;have hfz26_0 := bF BK111.out 0;have hfz26_1 := bF BK111.out 1;have hfz26_2 := bF BK111.out 2;go_wp2;go_meet
      case rel => exact ⟨_, (false), zs7, H', ⟨by have := HJ1.out; first | omega | exact Nat.le_refl _⟩, ⟨by exact BK111.out⟩, ⟨(zs4 HB GE111)⟩⟩
    case rest =>
     clear HC20;obtain ⟨kq, x26_19, rfl, HA, HJ19, BK111, HB⟩ := hcut;cases kq with
     | zero => exact absurd HA.out (by simp [F38.j1])
     | succ kj19 =>
      have H := HA.out;clear HA;simp only [F38.j1] at H;by_cases c27 : x26_19 = true
      ·subst c27;(have H1 : ((F77.f kj19 a0_1).bind fun t117 => (if 4 + t117.size ≤ 9223372036854775807 then (some ((⟨#[97, 100, 100, 32]⟩ : ByteArray) ++ t117)) else (none))) = some r := by rw [if_pos rfl] at H; exact H);clear H;have H := H1;clear H1;replace H := zb H; obtain ⟨t117, A28, H⟩ := H; (try dsimp only at H);replace H := zn H; obtain ⟨c29, H⟩ := H;have c29b0 := eq_true c29;have c29b1 := decide_eq_true c29;(try have c29b2 : (9223372036854775807 < 4 + t117.size) = False := eq_false (Nat.not_lt.2 c29));obtain rfl := Option.some.inj H;have hcz30_0 := cz0 BK111.out;have hcz30_1 := cz1 BK111.out;have hcz30_2 := cz2 BK111.out;have hfz30_0 := bF BK111.out 0;have hfz30_1 := bF BK111.out 1;have hfz30_2 := bF BK111.out 2;go_wp2_with (first | (refine zg 77 (some 42) Tryz.func77 #[.int .i64 a0_1] ?_; (with_reducible refine (F77.calls kj19 a0_1 t117 _ A28.out).mono ?_); rintro e w31 ⟨rfl, hb⟩; refine ⟨_, rfl, ?_⟩; replace BK111 := zb1 BK111 hb; replace HB:=zM (bS (zs4 HB GE111) hb); clear hb));go_ret;exact ⟨zs6, (zs4 HB GE111)⟩
      ·replace c27 := Bool.eq_false_iff.mpr c27;subst c27;(have H1 : (if (a0_0 == 2 && (a0_1 == 0 && (a0_2 == 0))) = true then (some (⟨#[100, 114, 111, 112]⟩ : ByteArray)) else (if (a0_0 == 3 && (a0_1 == 0 && (a0_2 == 0))) = true then (some (⟨#[116, 117, 114, 110]⟩ : ByteArray)) else (if (a0_0 == 4 && (a0_1 == 0 && (a0_2 == 0))) = true then (some (⟨#[102, 108, 97, 116]⟩ : ByteArray)) else (if (a0_0 == 5 && (a0_1 == 0 && (a0_2 == 0))) = true then (some (⟨#[98, 97, 99, 107]⟩ : ByteArray)) else (some (⟨#[]⟩ : ByteArray)))))) = some r := by rw [if_neg (show ¬ (false = true) by decide)] at H; exact H);clear H;have H := H1;clear H1;by_cases c32 : (a0_0 == 2 && (a0_1 == 0 && (a0_2 == 0))) = true
       ·rw [if_pos c32] at H;have c32b0 : (a0_0 == 2 && (a0_1 == 0 && (a0_2 == 0))) = true := c32;(try (have c32b1 : decide (a0_0 = 2 && (a0_1 == 0 && (a0_2 == 0))) = true := by simpa using c32));(try (have c32b2 : (a0_0 == 2 && (a0_1 == 0 && (a0_2 == 0))) = true := by simpa using c32));clear c32;obtain rfl := Option.some.inj H;have hcz33_0 := cz0 BK111.out;have hcz33_1 := cz1 BK111.out;have hcz33_2 := cz2 BK111.out;have hfz33_0 := bF BK111.out 0;have hfz33_1 := bF BK111.out 1;have hfz33_2 := bF BK111.out 2;go_wp2;go_ret;exact ⟨zs6, (zs4 HB GE111)⟩
       ·rw [if_neg c32] at H;(have c32b0 : (a0_0 == 2 && (a0_1 == 0 && (a0_2 == 0))) = false := by simpa using c32);(try (have c32b1 : decide (a0_0 = 2 && (a0_1 == 0 && (a0_2 == 0))) = false := by simpa using c32));(try (have c32b2 : (a0_0 == 2 && (a0_1 == 0 && (a0_2 == 0))) = false := by simpa using c32));(try (have c32b3 : ¬ (a0_0 = 2 && (a0_1 == 0 && (a0_2 == 0))) := by simpa using c32));clear c32;by_cases c34 : (a0_0 == 3 && (a0_1 == 0 && (a0_2 == 0))) = true
        ·rw [if_pos c34] at H;have c34b0 : (a0_0 == 3 && (a0_1 == 0 && (a0_2 == 0))) = true := c34;(try (have c34b1 : decide (a0_0 = 3 && (a0_1 == 0 && (a0_2 == 0))) = true := by simpa using c34));(try (have c34b2 : (a0_0 == 3 && (a0_1 == 0 && (a0_2 == 0))) = true := by simpa using c34));clear c34;obtain rfl := Option.some.inj H;have hcz35_0 := cz0 BK111.out;have hcz35_1 := cz1 BK111.out;have hcz35_2 := cz2 BK111.out;have hfz35_0 := bF BK111.out 0;have hfz35_1 := bF BK111.out 1;have hfz35_2 := bF BK111.out 2;go_wp2;go_ret;exact ⟨zs6, (zs4 HB GE111)⟩
        ·rw [if_neg c34] at H;(have c34b0 : (a0_0 == 3 && (a0_1 == 0 && (a0_2 == 0))) = false := by simpa using c34);(try (have c34b1 : decide (a0_0 = 3 && (a0_1 == 0 && (a0_2 == 0))) = false := by simpa using c34));(try (have c34b2 : (a0_0 == 3 && (a0_1 == 0 && (a0_2 == 0))) = false := by simpa using c34));(try (have c34b3 : ¬ (a0_0 = 3 && (a0_1 == 0 && (a0_2 == 0))) := by simpa using c34));clear c34;by_cases c36 : (a0_0 == 4 && (a0_1 == 0 && (a0_2 == 0))) = true
         ·rw [if_pos c36] at H;have c36b0 : (a0_0 == 4 && (a0_1 == 0 && (a0_2 == 0))) = true := c36;(try (have c36b1 : decide (a0_0 = 4 && (a0_1 == 0 && (a0_2 == 0))) = true := by simpa using c36));(try (have c36b2 : (a0_0 == 4 && (a0_1 == 0 && (a0_2 == 0))) = true := by simpa using c36));clear c36;obtain rfl := Option.some.inj H;have hcz37_0 := cz0 BK111.out;have hcz37_1 := cz1 BK111.out;have hcz37_2 := cz2 BK111.out;have hfz37_0 := bF BK111.out 0;have hfz37_1 := bF BK111.out 1;have hfz37_2 := bF BK111.out 2;go_wp2;go_ret;exact ⟨zs6, (zs4 HB GE111)⟩
         ·rw [if_neg c36] at H;(have c36b0 : (a0_0 == 4 && (a0_1 == 0 && (a0_2 == 0))) = false := by simpa using c36);(try (have c36b1 : decide (a0_0 = 4 && (a0_1 == 0 && (a0_2 == 0))) = false := by simpa using c36));(try (have c36b2 : (a0_0 == 4 && (a0_1 == 0 && (a0_2 == 0))) = false := by simpa using c36));(try (have c36b3 : ¬ (a0_0 = 4 && (a0_1 == 0 && (a0_2 == 0))) := by simpa using c36));clear c36;by_cases c38 : (a0_0 == 5 && (a0_1 == 0 && (a0_2 == 0))) = true
          ·rw [if_pos c38] at H;have c38b0 : (a0_0 == 5 && (a0_1 == 0 && (a0_2 == 0))) = true := c38;(try (have c38b1 : decide (a0_0 = 5 && (a0_1 == 0 && (a0_2 == 0))) = true := by simpa using c38));(try (have c38b2 : (a0_0 == 5 && (a0_1 == 0 && (a0_2 == 0))) = true := by simpa using c38));clear c38;obtain rfl := Option.some.inj H;have hcz39_0 := cz0 BK111.out;have hcz39_1 := cz1 BK111.out;have hcz39_2 := cz2 BK111.out;have hfz39_0 := bF BK111.out 0;have hfz39_1 := bF BK111.out 1;have hfz39_2 := bF BK111.out 2;go_wp2;go_ret;exact ⟨zs6, (zs4 HB GE111)⟩
          ·rw [if_neg c38] at H;(have c38b0 : (a0_0 == 5 && (a0_1 == 0 && (a0_2 == 0))) = false := by simpa using c38);(try (have c38b1 : decide (a0_0 = 5 && (a0_1 == 0 && (a0_2 == 0))) = false := by simpa using c38));(try (have c38b2 : (a0_0 == 5 && (a0_1 == 0 && (a0_2 == 0))) = false := by simpa using c38));(try (have c38b3 : ¬ (a0_0 = 5 && (a0_1 == 0 && (a0_2 == 0))) := by simpa using c38));clear c38;obtain rfl := Option.some.inj H;have hcz40_0 := cz0 BK111.out;have hcz40_1 := cz1 BK111.out;have hcz40_2 := cz2 BK111.out;have hfz40_0 := bF BK111.out 0;have hfz40_1 := bF BK111.out 1;have hfz40_2 := bF BK111.out 2;go_wp2;go_ret;exact ⟨zs6, (zs4 HB GE111)⟩
def F17.l0 : Nat → List (S39) → ByteArray → Int → Option (ByteArray)
 | 0, _, _, _ => none
 | k + 1, x0, x3, x4 => if x4 < (x0.length : Int) then (if 0 ≤ x4 then ((F38.f k ((r9 x0 x4).f0) ((r9 x0 x4).f1) ((r9 x0 x4).f2)).bind fun t119 => (if t119.toList = ([] : List UInt8) then (some (⟨#[]⟩ : ByteArray)) else ((F38.f k ((r9 x0 x4).f0) ((r9 x0 x4).f1) ((r9 x0 x4).f2)).bind fun t121 => (if x3.size + t121.size ≤ 9223372036854775807 then (if (x3 ++ t121).size + 1 ≤ 9223372036854775807 then (F17.l0 k x0 ((x3 ++ t121) ++ (⟨#[10]⟩ : ByteArray)) (wrap64 (x4 + 1))) else (none)) else (none))))) else (none)) else (some x3)
def F17.f (k : Nat) (l0 : List (S39)) : Option (ByteArray) := F17.l0 k l0 (⟨#[]⟩ : ByteArray) 0
theorem F17.ml : ∀ k, (∀ y0 y1 y2, LeO (F17.l0 k y0 y1 y2) (F17.l0 (k + 1) y0 y1 y2))
 | 0 => fun _ _ _ r h => by simp [F17.l0] at h
 | k + 1 => by
  have ih0 := F17.ml k
  ·intro y0 y1 y2
   unfold F17.l0
   have := @F38.mono; exact zm
theorem F17.mono : ∀ a0 k, LeO (F17.f k a0) (F17.f (k + 1) a0) := by
 intro a0 k;have ih0 := F17.ml k;unfold F17.f;have := @F38.mono; exact zm
theorem F17.calls (k : Nat) (A0 : Option Addr) (c0 : Nat) (l0 : List (S39)) (r : ByteArray) (w : World) (hr0 : Kd.C k39 w A0 l0.length l0) (hc0 : l0.length ≤ c0) (h : F17.f k l0 = some r) :
  Calls Tryz.prog 17 #[.slice A0 l0.length c0] w fun e w' => e = .returned (.string r) ∧ Below w.heap.size w w' := by
 have hu39 := Tryz.underlying39;have HR0:=zM hr0;have HC0:=zM hc0;clear hr0 hc0;have HB:=zM (Below.refl w.heap.size w);have H : (F17.l0 k l0 (⟨#[]⟩ : ByteArray) 0) = some r := h;clear h;have H':=zM H;clear H;go_enter Tryz.func17, Tryz.ntmps17;go_wp2;go_loopg [3, 4] k (fun kq v3 v4 w' => ∃ (x3_1 : ByteArray) (x4_1 : Int), v3 = .string x3_1 ∧ v4 = .int .i64 x4_1 ∧ Qo (F17.l0 kq l0 x3_1 x4_1 = some r) ∧ Qo (kq ≤ k) ∧ Qo (Below w.heap.size w w'))
 case atStart => exact ⟨((⟨#[]⟩ : ByteArray)), (0), zs7, zs7, H', ⟨Nat.le_refl _⟩, ⟨(zs3 HB)⟩⟩
 case round =>
  clear H';obtain ⟨x3_1, x4_1, rfl, rfl, HA, HK1, HB⟩ := hrel;cases gk with
  | zero => exact absurd HA.out (by simp [F17.l0])
  | succ k1 =>
   have H := HA.out;clear HA;simp only [F17.l0] at H;by_cases c2 : x4_1 < (l0.length : Int)
   ·rw [if_pos c2] at H;have c2b0 := decide_eq_true c2;clear c2;replace H := zn H; obtain ⟨c3, H⟩ := H;have c3b0 := decide_eq_true c3;clear c3;replace H := zb H; obtain ⟨t119, A4, H⟩ := H; (try dsimp only at H);by_cases c5 : t119.toList = ([] : List UInt8)
    ·rw [if_pos c5] at H;have c5b0 := beq_iff_eq.mpr c5;have c5b1 := bne_eq_false_iff_eq.mpr c5;clear c5;obtain rfl := Option.some.inj H;have p118 : 0 ≤ (x4_1 : Int) := of_decide_eq_true zs0;have q118 : x4_1 < (l0.length : Int) := of_decide_eq_true zs0;obtain ⟨ad118, e118, hx118_0, hx118_1, hx118_2⟩ := at_T39 HR0.out x4_1 p118 q118;cases e118;replace hx118_0 := (HB.out.cell (World.block_lt_of_cell? w _ hx118_0)).trans hx118_0;replace hx118_1 := (HB.out.cell (World.block_lt_of_cell? w _ hx118_1)).trans hx118_1;replace hx118_2 := (HB.out.cell (World.block_lt_of_cell? w _ hx118_2)).trans hx118_2;replace p118 := eq_true p118;replace q118 := eq_true q118;go_wp2_with (first | (refine zg 38 (some 15) Tryz.func38 #[.agg #[.int .i64 ((r9 l0 x4_1).f0), .int .i64 ((r9 l0 x4_1).f1), .int .i64 ((r9 l0 x4_1).f2)]] ?_; (with_reducible refine (F38.calls k1 ((r9 l0 x4_1).f0) ((r9 l0 x4_1).f1) ((r9 l0 x4_1).f2) t119 _ A4.out).mono ?_); rintro e w6 ⟨rfl, hb⟩; refine ⟨_, rfl, ?_⟩; replace HB:=zM (bS (zs3 HB) hb); clear hb));go_ret;exact ⟨zs6, (zs3 HB)⟩
    ·rw [if_neg c5] at H;have c5b0 := beq_eq_false_iff_ne.mpr c5;have c5b1 := bne_iff_ne.mpr c5;replace H := zb H; obtain ⟨t121, A7, H⟩ := H; (try dsimp only at H);replace H := zn H; obtain ⟨c8, H⟩ := H;have c8b0 := eq_true c8;have c8b1 := decide_eq_true c8;(try have c8b2 : (9223372036854775807 < x3_1.size + t121.size) = False := eq_false (Nat.not_lt.2 c8));replace H := zn H; obtain ⟨c9, H⟩ := H;have c9b0 := eq_true c9;have c9b1 := decide_eq_true c9;(try have c9b2 : (9223372036854775807 < (x3_1 ++ t121).size + 1) = False := eq_false (Nat.not_lt.2 c9));have c9z := c9;(try simp only [ByteArray.size_append] at c9z);have c9y := eq_false (Nat.not_lt.2 c9z);have H':=zM H;clear H;have p118 : 0 ≤ (x4_1 : Int) := of_decide_eq_true zs0;have q118 : x4_1 < (l0.length : Int) := of_decide_eq_true zs0;obtain ⟨ad118, e118, hx118_0, hx118_1, hx118_2⟩ := at_T39 HR0.out x4_1 p118 q118;cases e118;replace hx118_0 := (HB.out.cell (World.block_lt_of_cell? w _ hx118_0)).trans hx118_0;replace hx118_1 := (HB.out.cell (World.block_lt_of_cell? w _ hx118_1)).trans hx118_1;replace hx118_2 := (HB.out.cell (World.block_lt_of_cell? w _ hx118_2)).trans hx118_2;replace p118 := eq_true p118;replace q118 := eq_true q118;go_wp2_with (first | (refine zg 38 (some 15) Tryz.func38 #[.agg #[.int .i64 ((r9 l0 x4_1).f0), .int .i64 ((r9 l0 x4_1).f1), .int .i64 ((r9 l0 x4_1).f2)]] ?_; (with_reducible refine (F38.calls k1 ((r9 l0 x4_1).f0) ((r9 l0 x4_1).f1) ((r9 l0 x4_1).f2) t119 _ A4.out).mono ?_); rintro e w10 ⟨rfl, hb⟩; refine ⟨_, rfl, ?_⟩; replace HB:=zM (bS (zs3 HB) hb); clear hb; have p120 : 0 ≤ (x4_1 : Int) := of_decide_eq_true zs0; have q120 : x4_1 < (l0.length : Int) := of_decide_eq_true zs0; obtain ⟨ad120, e120, hx120_0, hx120_1, hx120_2⟩ := at_T39 HR0.out x4_1 p120 q120; obtain rfl : ad118 = ad120 := (by injection e120); replace hx120_0 := (HB.out.cell (World.block_lt_of_cell? w _ hx120_0)).trans hx120_0; replace hx120_1 := (HB.out.cell (World.block_lt_of_cell? w _ hx120_1)).trans hx120_1; replace hx120_2 := (HB.out.cell (World.block_lt_of_cell? w _ hx120_2)).trans hx120_2; replace p120 := eq_true p120; replace q120 := eq_true q120) | (refine zg 38 (some 22) Tryz.func38 #[.agg #[.int .i64 ((r9 l0 x4_1).f0), .int .i64 ((r9 l0 x4_1).f1), .int .i64 ((r9 l0 x4_1).f2)]] ?_; (with_reducible refine (F38.calls k1 ((r9 l0 x4_1).f0) ((r9 l0 x4_1).f1) ((r9 l0 x4_1).f2) t121 _ A7.out).mono ?_); rintro e w11 ⟨rfl, hb⟩; refine ⟨_, rfl, ?_⟩; replace HB:=zM (bS (zs3 HB) hb); clear hb));go_roundg k1
     case measure => have := HK1.out; omega
     case rel => exact ⟨((x3_1 ++ t121) ++ (⟨#[10]⟩ : ByteArray)), (wrap64 (x4_1 + 1)), zs7, zs7, H', ⟨by have := HK1.out; omega⟩, ⟨(zs3 HB)⟩⟩
   ·rw [if_neg c2] at H;have c2b0 := decide_eq_false c2;clear c2;obtain rfl := Option.some.inj H;go_wp2;go_ret;exact ⟨zs6, (zs3 HB)⟩
def F19.j0 : Nat → Int → Bool → List Int → Int → Option (Int × Int)
 | 0, _, _, _, _ => none
 | k + 1, x1, x24, x1000, x1001 => if x24 = true then (some (0, x1001)) else (if (wrap64 (x1001 - 1)) < (x1000.length : Int) then (if 0 ≤ (wrap64 (x1001 - 1)) then (if x1 = 0 then (none) else (some (Int.tmod (wrap64 (rd x1000 (wrap64 (x1001 - 1)))) x1, x1001))) else (none)) else (if (x1000.length : Int) = 0 then (none) else (if 0 ≤ (Int.tmod (wrap64 (x1001 - 1)) (x1000.length : Int)) then (if (Int.tmod (wrap64 (x1001 - 1)) (x1000.length : Int)) < (x1000.length : Int) then (if 0 ≤ (Int.tmod (wrap64 ((wrap64 ((wrap64 (x1001 - 1)) * 7)) + 3)) (x1000.length : Int)) then (if (Int.tmod (wrap64 ((wrap64 ((wrap64 (x1001 - 1)) * 7)) + 3)) (x1000.length : Int)) < (x1000.length : Int) then (if x1 = 0 then (none) else (some (Int.tmod (Go.bits .xor .i64 (wrap64 ((wrap64 ((wrap64 ((wrap64 ((wrap64 (rd x1000 (Int.tmod (wrap64 (x1001 - 1)) (x1000.length : Int)))) * 131)) + (wrap64 ((wrap64 (rd x1000 (Int.tmod (wrap64 ((wrap64 ((wrap64 (x1001 - 1)) * 7)) + 3)) (x1000.length : Int)))) * 1117)))) + (wrap64 ((wrap64 (x1001 - 1)) * 29)))) + (wrap64 ((wrap64 (Int.tdiv (wrap64 (x1001 - 1)) (x1000.length : Int))) * 53)))) (wrap64 (Int.tdiv (wrap64 ((wrap64 ((wrap64 ((wrap64 ((wrap64 (rd x1000 (Int.tmod (wrap64 (x1001 - 1)) (x1000.length : Int)))) * 131)) + (wrap64 ((wrap64 (rd x1000 (Int.tmod (wrap64 ((wrap64 ((wrap64 (x1001 - 1)) * 7)) + 3)) (x1000.length : Int)))) * 1117)))) + (wrap64 ((wrap64 (x1001 - 1)) * 29)))) + (wrap64 ((wrap64 (Int.tdiv (wrap64 (x1001 - 1)) (x1000.length : Int))) * 53)))) 64))) x1, x1001))) else (none)) else (none)) else (none)) else (none))))
def F19.f (k : Nat) (s0_0 : List Int) (s0_1 : Int) (a1 : Int) : Option (Int × Int) := if a1 < 1 then (F19.j0 k a1 true s0_0 (wrap64 (s0_1 + 1))) else (F19.j0 k a1 ((s0_0.length : Int) == 0) s0_0 (wrap64 (s0_1 + 1)))
theorem F19.ml : ∀ k, (∀ y0 y1 y2 y3, LeO (F19.j0 k y0 y1 y2 y3) (F19.j0 (k + 1) y0 y1 y2 y3))
 | 0 => fun _ _ _ _ r h => by simp [F19.j0] at h
 | k + 1 => by
  have ih0 := F19.ml k
  ·intro y0 y1 y2 y3
   unfold F19.j0
   exact zm
theorem F19.mono : ∀ a0 a1 a2 k, LeO (F19.f k a0 a1 a2) (F19.f (k + 1) a0 a1 a2) := by
 intro a0 a1 a2 k;have ih0 := F19.ml k;unfold F19.f;exact zm
theorem F19.calls (k : Nat) (g : Nat) (s0_0 : List Int) (s0_1 : Int) (a1 : Int) (r1 : Int) (r2 : Int) (w0 w : World) (hI : Iq w0 w g s0_0 s0_1) (hB : Below w0.heap.size w0 w) (h : F19.f k s0_0 s0_1 a1 = some (r1, r2)) :
  Calls Tryz.prog 19 #[.pointer (some ⟨g, 0, none⟩), .int .i64 a1] w fun e w' => e = .returned (.int .i64 r1) ∧ Iq w0 w' g s0_0 r2 ∧ Below w0.heap.size w0 w' ∧ KB w w' g none := by
 have HI0:=zM hI;have HK:=zM (KB.refl w g none);have HL:=zM hB.size;clear hI;have HW0:=zM hB.size;have HB:=zM hB;clear hB;have H : (if a1 < 1 then (F19.j0 k a1 true s0_0 (wrap64 (s0_1 + 1))) else (F19.j0 k a1 ((s0_0.length : Int) == 0) s0_0 (wrap64 (s0_1 + 1)))) = some (r1, r2) := h;clear h;have HC3:=zM H;clear H;obtain ⟨ASz4_0, cSz4_0, HGz4, hgz4, HSz4_0⟩ := HI0.out;have hcz4_0 := cellS69_0 HGz4;have hcz4_1 := cellS69_1 HGz4;have hfz4_1 := bF HGz4 1;clear HGz4 hgz4;go_enter Tryz.func19, Tryz.ntmps19;go_upto_region 2 with (fail);(repeat (go_quiet (fail); go_upto_region 2 with (fail)));go_cut [24] (fun v24 wc => ∃ (kq : Nat) (x24_2 : Bool), v24 = .bool x24_2 ∧ Qo (F19.j0 kq a1 x24_2 s0_0 (wrap64 (s0_1 + 1)) = some (r1, r2)) ∧ Qo (kq ≤ k) ∧ Qo (Iq w0 wc g s0_0 (wrap64 (s0_1 + 1))) ∧ Qo (KB w wc g none) ∧ Qo (Below w0.heap.size w0 wc))
 case first =>
  have H := HC3.out;clear HC3;by_cases c5 : a1 < 1
  ·rw [if_pos c5] at H;have c5b0 := decide_eq_true c5;clear c5;(first | rw [c5b0] | (simp only [i64_w, i32_w]; rw [c5b0]) | skip);have H':=zM H;clear H;go_wp2;(repeat (go_quiet (fail); try go_wp2));go_meet
   case rel => exact ⟨_, (true), zs7, H', ⟨zs8⟩, ⟨(zs9 HI0)⟩, ⟨(zs10 HK)⟩, ⟨(zs11 HB HI0)⟩⟩
  ·rw [if_neg c5] at H;have c5b0 := decide_eq_false c5;clear c5;(first | rw [c5b0] | (simp only [i64_w, i32_w]; rw [c5b0]) | skip);have H':=zM H;clear H;obtain ⟨ASz6_0, cSz6_0, HGz6, hgz6, HSz6_0⟩ := HI0.out;have hcz6_0 := cellS69_0 HGz6;have hcz6_1 := cellS69_1 HGz6;have hfz6_1 := bF HGz6 1;clear HGz6 hgz6;go_wp2;(repeat (go_quiet (fail); try go_wp2));go_meet
   case rel => exact ⟨_, (((s0_0.length : Int) == 0)), zs7, H', ⟨zs8⟩, ⟨(zs9 HI0)⟩, ⟨(zs10 HK)⟩, ⟨(zs11 HB HI0)⟩⟩
 case rest =>
  clear HC3;obtain ⟨kq, x24_2, rfl, HA, HJ2, HI0, HK, HB⟩ := hcut;cases kq with
  | zero => exact absurd HA.out (by simp [F19.j0])
  | succ kj2 =>
   have H := HA.out;clear HA;simp only [F19.j0] at H;by_cases c7 : x24_2 = true
   ·subst c7;(have H1 : (some (0, (wrap64 (s0_1 + 1)))) = some (r1, r2) := by rw [if_pos rfl] at H; exact H);clear H;have H := H1;clear H1;simp only [Option.some.injEq, Prod.mk.injEq] at H;obtain ⟨rfl, rfl⟩ := H;go_wp2;(repeat (go_quiet (fail); try go_wp2));go_ret;exact ⟨zs6, (zs9 HI0), (zs11 HB HI0), (zs10 HK)⟩
   ·replace c7 := Bool.eq_false_iff.mpr c7;subst c7;(have H1 : (if (wrap64 ((wrap64 (s0_1 + 1)) - 1)) < (s0_0.length : Int) then (if 0 ≤ (wrap64 ((wrap64 (s0_1 + 1)) - 1)) then (if a1 = 0 then (none) else (some (Int.tmod (wrap64 (rd s0_0 (wrap64 ((wrap64 (s0_1 + 1)) - 1)))) a1, (wrap64 (s0_1 + 1))))) else (none)) else (if (s0_0.length : Int) = 0 then (none) else (if 0 ≤ (Int.tmod (wrap64 ((wrap64 (s0_1 + 1)) - 1)) (s0_0.length : Int)) then (if (Int.tmod (wrap64 ((wrap64 (s0_1 + 1)) - 1)) (s0_0.length : Int)) < (s0_0.length : Int) then (if 0 ≤ (Int.tmod (wrap64 ((wrap64 ((wrap64 ((wrap64 (s0_1 + 1)) - 1)) * 7)) + 3)) (s0_0.length : Int)) then (if (Int.tmod (wrap64 ((wrap64 ((wrap64 ((wrap64 (s0_1 + 1)) - 1)) * 7)) + 3)) (s0_0.length : Int)) < (s0_0.length : Int) then (if a1 = 0 then (none) else (some (Int.tmod (Go.bits .xor .i64 (wrap64 ((wrap64 ((wrap64 ((wrap64 ((wrap64 (rd s0_0 (Int.tmod (wrap64 ((wrap64 (s0_1 + 1)) - 1)) (s0_0.length : Int)))) * 131)) + (wrap64 ((wrap64 (rd s0_0 (Int.tmod (wrap64 ((wrap64 ((wrap64 ((wrap64 (s0_1 + 1)) - 1)) * 7)) + 3)) (s0_0.length : Int)))) * 1117)))) + (wrap64 ((wrap64 ((wrap64 (s0_1 + 1)) - 1)) * 29)))) + (wrap64 ((wrap64 (Int.tdiv (wrap64 ((wrap64 (s0_1 + 1)) - 1)) (s0_0.length : Int))) * 53)))) (wrap64 (Int.tdiv (wrap64 ((wrap64 ((wrap64 ((wrap64 ((wrap64 (rd s0_0 (Int.tmod (wrap64 ((wrap64 (s0_1 + 1)) - 1)) (s0_0.length : Int)))) * 131)) + (wrap64 ((wrap64 (rd s0_0 (Int.tmod (wrap64 ((wrap64 ((wrap64 ((wrap64 (s0_1 + 1)) - 1)) * 7)) + 3)) (s0_0.length : Int)))) * 1117)))) + (wrap64 ((wrap64 ((wrap64 (s0_1 + 1)) - 1)) * 29)))) + (wrap64 ((wrap64 (Int.tdiv (wrap64 ((wrap64 (s0_1 + 1)) - 1)) (s0_0.length : Int))) * 53)))) 64))) a1, (wrap64 (s0_1 + 1))))) else (none)) else (none)) else (none)) else (none)))) = some (r1, r2) := by rw [if_neg (show ¬ (false = true) by decide)] at H; exact H);clear H;have H := H1;clear H1;by_cases c8 : (wrap64 ((wrap64 (s0_1 + 1)) - 1)) < (s0_0.length : Int)
    ·rw [if_pos c8] at H;have c8b0 := decide_eq_true c8;clear c8;obtain ⟨ji9, hji9⟩ : ∃ j_ : Int, (wrap64 ((wrap64 (s0_1 + 1)) - 1)) = j_ := ⟨_, rfl⟩;(replace H : (if 0 ≤ (ji9) then (if a1 = 0 then (none) else (some (Int.tmod (wrap64 (rd s0_0 (ji9))) a1, (wrap64 (s0_1 + 1))))) else (none)) = some (r1, r2) := by first | (rw [hji9] at H; exact H) | (simp only [hji9] at H ⊢; exact H));(try rw [hji9] at c8b0);have hji9w : (IntKind.i64.wrap ((wrap64 (s0_1 + 1)) - 1)) = ji9 := (i64_w _).trans hji9;replace H := zn H; obtain ⟨c10, H⟩ := H;have c10b0 := decide_eq_true c10;clear c10;replace H := zo H; obtain ⟨c11, H⟩ := H;have c11b0 := beq_eq_false_iff_ne.mpr c11;have c11b1 := bne_iff_ne.mpr c11;simp only [Option.some.injEq, Prod.mk.injEq] at H;obtain ⟨rfl, rfl⟩ := H;obtain ⟨ASz12_0, cSz12_0, HGz12, hgz12, HSz12_0⟩ := HI0.out;have hcz12_0 := cellS69_0 HGz12;have hcz12_1 := cellS69_1 HGz12;have hfz12_1 := bF HGz12 1;clear HGz12 hgz12;have p122 : 0 ≤ ((ji9) : Int) := of_decide_eq_true zs0;have q122 : (ji9) < (s0_0.length : Int) := of_decide_eq_true zs0;obtain ⟨ad122, e122, hx122_0⟩ := Kd.at_int HSz12_0 (ji9) p122 q122;cases e122;replace hx122_0 := pB HB.out hx122_0;replace p122 := eq_true p122;replace q122 := eq_true q122;go_wp2;(repeat (go_quiet (fail); try go_wp2));go_ret;(exact ⟨by first | rfl | (simp [eN, eS] <;> rfl) | (simp only [← hji9]; first | rfl | (simp [eN, eS] <;> rfl)) | (simp [*, eN, eS] <;> rfl), (zs9 HI0), (zs11 HB HI0), (zs10 HK)⟩)
    ·rw [if_neg c8] at H;have c8b0 := decide_eq_false c8;clear c8;replace H := zo H; obtain ⟨c13, H⟩ := H;have c13b0 := beq_eq_false_iff_ne.mpr c13;have c13b1 := bne_iff_ne.mpr c13;have c13b2 : ¬ (s0_0 = []) := fun h_ => c13 (by rw [h_]; rfl);obtain ⟨ji14, hji14⟩ : ∃ j_ : Int, (Int.tmod (wrap64 ((wrap64 (s0_1 + 1)) - 1)) (s0_0.length : Int)) = j_ := ⟨_, rfl⟩;(replace H : (if 0 ≤ (ji14) then (if (ji14) < (s0_0.length : Int) then (if 0 ≤ (Int.tmod (wrap64 ((wrap64 ((wrap64 ((wrap64 (s0_1 + 1)) - 1)) * 7)) + 3)) (s0_0.length : Int)) then (if (Int.tmod (wrap64 ((wrap64 ((wrap64 ((wrap64 (s0_1 + 1)) - 1)) * 7)) + 3)) (s0_0.length : Int)) < (s0_0.length : Int) then (if a1 = 0 then (none) else (some (Int.tmod (Go.bits .xor .i64 (wrap64 ((wrap64 ((wrap64 ((wrap64 ((wrap64 (rd s0_0 (ji14))) * 131)) + (wrap64 ((wrap64 (rd s0_0 (Int.tmod (wrap64 ((wrap64 ((wrap64 ((wrap64 (s0_1 + 1)) - 1)) * 7)) + 3)) (s0_0.length : Int)))) * 1117)))) + (wrap64 ((wrap64 ((wrap64 (s0_1 + 1)) - 1)) * 29)))) + (wrap64 ((wrap64 (Int.tdiv (wrap64 ((wrap64 (s0_1 + 1)) - 1)) (s0_0.length : Int))) * 53)))) (wrap64 (Int.tdiv (wrap64 ((wrap64 ((wrap64 ((wrap64 ((wrap64 (rd s0_0 (ji14))) * 131)) + (wrap64 ((wrap64 (rd s0_0 (Int.tmod (wrap64 ((wrap64 ((wrap64 ((wrap64 (s0_1 + 1)) - 1)) * 7)) + 3)) (s0_0.length : Int)))) * 1117)))) + (wrap64 ((wrap64 ((wrap64 (s0_1 + 1)) - 1)) * 29)))) + (wrap64 ((wrap64 (Int.tdiv (wrap64 ((wrap64 (s0_1 + 1)) - 1)) (s0_0.length : Int))) * 53)))) 64))) a1, (wrap64 (s0_1 + 1))))) else (none)) else (none)) else (none)) else (none)) = some (r1, r2) := by first | (rw [hji14] at H; exact H) | (simp only [hji14] at H ⊢; exact H));replace H := zn H; obtain ⟨c15, H⟩ := H;have c15b0 := decide_eq_true c15;clear c15;replace H := zn H; obtain ⟨c16, H⟩ := H;have c16b0 := decide_eq_true c16;clear c16;obtain ⟨ji17, hji17⟩ : ∃ j_ : Int, (Int.tmod (wrap64 ((wrap64 ((wrap64 ((wrap64 (s0_1 + 1)) - 1)) * 7)) + 3)) (s0_0.length : Int)) = j_ := ⟨_, rfl⟩;(replace H : (if 0 ≤ (ji17) then (if (ji17) < (s0_0.length : Int) then (if a1 = 0 then (none) else (some (Int.tmod (Go.bits .xor .i64 (wrap64 ((wrap64 ((wrap64 ((wrap64 ((wrap64 (rd s0_0 (ji14))) * 131)) + (wrap64 ((wrap64 (rd s0_0 (ji17))) * 1117)))) + (wrap64 ((wrap64 ((wrap64 (s0_1 + 1)) - 1)) * 29)))) + (wrap64 ((wrap64 (Int.tdiv (wrap64 ((wrap64 (s0_1 + 1)) - 1)) (s0_0.length : Int))) * 53)))) (wrap64 (Int.tdiv (wrap64 ((wrap64 ((wrap64 ((wrap64 ((wrap64 (rd s0_0 (ji14))) * 131)) + (wrap64 ((wrap64 (rd s0_0 (ji17))) * 1117)))) + (wrap64 ((wrap64 ((wrap64 (s0_1 + 1)) - 1)) * 29)))) + (wrap64 ((wrap64 (Int.tdiv (wrap64 ((wrap64 (s0_1 + 1)) - 1)) (s0_0.length : Int))) * 53)))) 64))) a1, (wrap64 (s0_1 + 1))))) else (none)) else (none)) = some (r1, r2) := by first | (rw [hji17] at H; exact H) | (simp only [hji17] at H ⊢; exact H));replace H := zn H; obtain ⟨c18, H⟩ := H;have c18b0 := decide_eq_true c18;clear c18;replace H := zn H; obtain ⟨c19, H⟩ := H;have c19b0 := decide_eq_true c19;clear c19;replace H := zo H; obtain ⟨c20, H⟩ := H;have c20b0 := beq_eq_false_iff_ne.mpr c20;have c20b1 := bne_iff_ne.mpr c20;simp only [Option.some.injEq, Prod.mk.injEq] at H;obtain ⟨rfl, rfl⟩ := H;obtain ⟨ASz21_0, cSz21_0, HGz21, hgz21, HSz21_0⟩ := HI0.out;have hcz21_0 := cellS69_0 HGz21;have hcz21_1 := cellS69_1 HGz21;have hfz21_1 := bF HGz21 1;clear HGz21 hgz21;have p123 : 0 ≤ ((ji14) : Int) := of_decide_eq_true zs0;have q123 : (ji14) < (s0_0.length : Int) := of_decide_eq_true zs0;obtain ⟨ad123, e123, hx123_0⟩ := Kd.at_int HSz21_0 (ji14) p123 q123;cases e123;replace hx123_0 := pB HB.out hx123_0;replace p123 := eq_true p123;replace q123 := eq_true q123;have p124 : 0 ≤ ((ji17) : Int) := of_decide_eq_true zs0;have q124 : (ji17) < (s0_0.length : Int) := of_decide_eq_true zs0;obtain ⟨ad124, e124, hx124_0⟩ := Kd.at_int HSz21_0 (ji17) p124 q124;obtain rfl : ad123 = ad124 := (by injection e124);replace hx124_0 := pB HB.out hx124_0;replace p124 := eq_true p124;replace q124 := eq_true q124;go_wp2;(repeat (go_quiet (fail); try go_wp2));go_ret;(exact ⟨by first | rfl | (simp [eN, eS] <;> rfl) | (simp only [← hji14, ← hji17]; first | rfl | (simp [eN, eS] <;> rfl)) | (simp [*, eN, eS] <;> rfl), (zs9 HI0), (zs11 HB HI0), (zs10 HK)⟩)
def F26.f (k : Nat) (s0_0 : List Int) (s0_1 : Int) (a1 : Int) : Option (Bool × Int) := if a1 > 0 then ((F19.f k s0_0 s0_1 a1).bind fun bt125 => (some ((bt125.1 == (wrap64 (a1 - 1))), bt125.2))) else (some (false, s0_1))
theorem F26.mono : ∀ a0 a1 a2 k, LeO (F26.f k a0 a1 a2) (F26.f (k + 1) a0 a1 a2) := by
 intro a0 a1 a2 k;unfold F26.f;have := @F19.mono; exact zm
theorem F26.calls (k : Nat) (g : Nat) (s0_0 : List Int) (s0_1 : Int) (a1 : Int) (r1 : Bool) (r2 : Int) (w0 w : World) (hI : Iq w0 w g s0_0 s0_1) (hB : Below w0.heap.size w0 w) (h : F26.f k s0_0 s0_1 a1 = some (r1, r2)) :
  Calls Tryz.prog 26 #[.pointer (some ⟨g, 0, none⟩), .int .i64 a1] w fun e w' => e = .returned (.bool r1) ∧ Iq w0 w' g s0_0 r2 ∧ Below w0.heap.size w0 w' ∧ KB w w' g none := by
 have HI0:=zM hI;have HK:=zM (KB.refl w g none);have HL:=zM hB.size;clear hI;have HW0:=zM hB.size;have HB:=zM hB;clear hB;have H : (if a1 > 0 then ((F19.f k s0_0 s0_1 a1).bind fun bt125 => (some ((bt125.1 == (wrap64 (a1 - 1))), bt125.2))) else (some (false, s0_1))) = some (r1, r2) := h;clear h;by_cases c3 : a1 > 0
 ·rw [if_pos c3] at H;have c3b0 : decide (0 < a1) = true := decide_eq_true c3;clear c3;replace H := zb H; obtain ⟨⟨t125, t126⟩, A4, H⟩ := H; (try dsimp only at H);simp only [Option.some.injEq, Prod.mk.injEq] at H;obtain ⟨rfl, rfl⟩ := H;go_enter Tryz.func26, Tryz.ntmps26;go_wp2_with (first | (go_at_call 19; (with_reducible refine (F19.calls k g s0_0 s0_1 a1 t125 t126 w0 _ (zs9 HI0) (zs11 HB HI0) A4.out).mono ?_); rintro e w5 ⟨rfl, hi, hb, hk⟩; replace HK:=zM (KB.trans (zs10 HK) hk (.inl rfl)); replace HB:=zM (hb); replace HI0:=zM (hi); clear hb hk hi));go_ret;exact ⟨zs6, (zs9 HI0), (zs11 HB HI0), (zs10 HK)⟩
 ·rw [if_neg c3] at H;have c3b0 : decide (0 < a1) = false := decide_eq_false c3;clear c3;simp only [Option.some.injEq, Prod.mk.injEq] at H;obtain ⟨rfl, rfl⟩ := H;go_enter Tryz.func26, Tryz.ntmps26;go_wp2;go_ret;exact ⟨zs6, (zs9 HI0), (zs11 HB HI0), (zs10 HK)⟩
def F48.j0 : Nat → List Int → Int → Int → Int → Int → Option (Int × Int × Int × Int)
 | 0, _, _, _, _, _ => none
 | k + 1, x1000, x1001, x137000, x137001, x137002 => (F26.f k x1000 x1001 40).bind fun bt145 => (if bt145.1 = true then ((some (([(-1), 9, 100] : List Int) : List Int)).bind fun y147 => ((F19.f k x1000 bt145.2 3).bind fun bt150 => (if 0 ≤ bt150.1 then (if bt150.1 < (y147.length : Int) then (some (x137000, x137001, rd y147 bt150.1, bt150.2)) else (none)) else (none)))) else (some (x137000, x137001, x137002, bt145.2)))
def F48.f (k : Nat) (s0_0 : List Int) (s0_1 : Int) (l1 : List Int) : Option (Int × Int × Int × Int) := (some (([0, 0, 1, 1, 2, 3, 4, 5] : List Int) : List Int)).bind fun y128 => ((F19.f k s0_0 s0_1 8).bind fun bt131 => (if 0 ≤ bt131.1 then (if bt131.1 < (y128.length : Int) then ((F19.f k s0_0 bt131.2 60).bind fun bt134 => (if (wrap64 ((rd y128 bt131.1) + (wrap64 ((wrap64 (Int.tdiv bt134.1 59)) * 6)))) = 0 then ((F19.f k s0_0 bt134.2 (mx (l1.length : Int) 1)).bind fun bt137 => ((F19.f k s0_0 bt137.2 (wrap64 ((l1.length : Int) + 1))).bind fun bt139 => (F48.j0 k s0_0 bt139.2 (wrap64 ((rd y128 bt131.1) + (wrap64 ((wrap64 (Int.tdiv bt134.1 59)) * 6)))) (wrap64 (1 + bt137.1)) bt139.1))) else (if (wrap64 ((rd y128 bt131.1) + (wrap64 ((wrap64 (Int.tdiv bt134.1 59)) * 6)))) = 1 then ((F19.f k s0_0 bt134.2 (wrap64 ((l1.length : Int) + 1))).bind fun bt141 => ((F19.f k s0_0 bt141.2 9).bind fun bt143 => (F48.j0 k s0_0 bt143.2 (wrap64 ((rd y128 bt131.1) + (wrap64 ((wrap64 (Int.tdiv bt134.1 59)) * 6)))) (wrap64 (bt141.1 + (wrap64 (Int.tdiv bt143.1 8)))) 0))) else (F48.j0 k s0_0 bt134.2 (wrap64 ((rd y128 bt131.1) + (wrap64 ((wrap64 (Int.tdiv bt134.1 59)) * 6)))) 0 0)))) else (none)) else (none)))
theorem F48.ml : ∀ k, (∀ y0 y1 y2 y3 y4, LeO (F48.j0 k y0 y1 y2 y3 y4) (F48.j0 (k + 1) y0 y1 y2 y3 y4))
 | 0 => fun _ _ _ _ _ r h => by simp [F48.j0] at h
 | k + 1 => by
  have ih0 := F48.ml k
  ·intro y0 y1 y2 y3 y4
   unfold F48.j0
   have := @F26.mono; have := @F19.mono; exact zm
theorem F48.mono : ∀ a0 a1 a2 k, LeO (F48.f k a0 a1 a2) (F48.f (k + 1) a0 a1 a2) := by
 intro a0 a1 a2 k;have ih0 := F48.ml k;unfold F48.f;have := @F26.mono; have := @F19.mono; exact zm
section
set_option maxHeartbeats 8000000
set_option maxRecDepth 100000
structure rdP (w0 w W : World) (g : Nat) (s : List Int) (i : Int) : Prop where
 I : Iq w0 W g s i
 B : Below w0.heap.size w0 W
 K : KB w W g none
 L : w0.heap.size ≤ w.heap.size
theorem rdP.new {w0 w : World} {g : Nat} {s : List Int} {i : Int} (hI : Iq w0 w g s i) (hB : Below w0.heap.size w0 w) : rdP w0 w w g s i := ⟨hI, hB, KB.refl _ _ _, hB.size⟩
theorem rdP.drewN {w0 w W : World} {g : Nat} {s : List Int} {i : Int} (h : rdP w0 w W g s i) (n : Nat) : rdP w0 w (W.drewN n) g s i := ⟨h.I.drewN n, bN h.B n, keep_drewN h.K n, h.L⟩
theorem rdP.drew {w0 w W : World} {g : Nat} {s : List Int} {i : Int} (h : rdP w0 w W g s i) : rdP w0 w W.drew g s i := ⟨h.I.drew, below_drew1 h.B, keep_drew h.K, h.L⟩
theorem rdP.below {w0 w W W' : World} {g : Nat} {s : List Int} {i : Int} (h : rdP w0 w W g s i) (hb : Below W.heap.size W W') : rdP w0 w W' g s i := ⟨h.I.below hb, bS h.B hb, h.K.trans (KB.of_below hb g none) (.inl rfl), h.L⟩
theorem rdP.alloc {w0 w W : World} {g : Nat} {s : List Int} {i : Int} (h : rdP w0 w W g s i) (o : Obj) : rdP w0 w (W.alloc o) g s i := h.below (below_alloc (Below.refl _ _) o)
theorem rdP.set {w0 w W : World} {g : Nat} {s : List Int} {i : Int} (h : rdP w0 w W g s i) {b : Nat} (hb : w.heap.size ≤ b) (hg : b ≠ g) (j : Nat) (u : Value) : rdP w0 w (W.setCell ⟨b, j, none⟩ u) g s i :=
 ⟨h.I.far (Ne.symm hg) u, h.B.setCell (Nat.le_trans h.L hb) u, keep_far h.K hb u, h.L⟩
theorem rdP.call {w0 w W W' : World} {g : Nat} {s : List Int} {i j : Int} (h : rdP w0 w W g s i) (c : Iq w0 W' g s j ∧ Below w0.heap.size w0 W' ∧ KB W W' g none) : rdP w0 w W' g s j := ⟨c.1, c.2.1, h.K.trans c.2.2 (.inl rfl), h.L⟩
structure rdX (w W : World) (g b : Nat) (o : Obj) : Prop where
 h : W.heap[b]? = some o
 l : w.heap.size ≤ b
 n : b ≠ g
theorem rdX.keep {w W W' : World} {g b : Nat} {o : Obj} (h : rdX w W g b o) (k : KB W W' g none) : rdX w W' g b o := ⟨k.blk h.h h.n (by simp), h.l, h.n⟩
theorem rdX.below {w W W' : World} {g b : Nat} {o : Obj} (h : rdX w W g b o) (hb : Below W.heap.size W W') : rdX w W' g b o := h.keep (KB.of_below hb g none)
theorem rdX.alloc {w W : World} {g b : Nat} {o : Obj} (h : rdX w W g b o) (o' : Obj) : rdX w (W.alloc o') g b o := h.below (below_alloc (Below.refl _ _) o')
theorem rdX.new {w0 w W : World} {g : Nat} {s : List Int} {i : Int} (h : rdP w0 w W g s i) (cs : Array Value) (t : TypeId) : rdX w (W.alloc (.cells cs t)) g W.heap.size (.cells cs t (0, 0)) := ⟨heap_alloc_new _ _, h.K.1, Nat.ne_of_gt h.I.lt⟩
theorem rdX.drew {w W : World} {g b : Nat} {o : Obj} (h : rdX w W g b o) : rdX w W.drew g b o := ⟨h.h, h.l, h.n⟩
theorem rdX.far {w W : World} {g b b' : Nat} {cs : Array Value} {t : TypeId} (h : rdX w W g b (.cells cs t (0, 0))) (hn : b ≠ b') (j : Nat) (u : Value) : rdX w (W.setCell ⟨b', j, none⟩ u) g b (.cells cs t (0, 0)) := ⟨bR h.h hn _, h.l, h.n⟩
theorem rdX.c3 {w W : World} {g b : Nat} {x y z : Value} {t : TypeId} (h : rdX w W g b (.cells #[x, y, z] t (0, 0))) : W.cell? ⟨b, 0, none⟩ = some x ∧ W.cell? ⟨b, 1, none⟩ = some y ∧ W.cell? ⟨b, 2, none⟩ = some z ∧ W.frozen? ⟨b, 0, none⟩ = false ∧ W.frozen? ⟨b, 1, none⟩ = false ∧ W.frozen? ⟨b, 2, none⟩ = false :=
 ⟨bC h.h 0, bC h.h 1, bC h.h 2, bF h.h 0, bF h.h 1, bF h.h 2⟩
theorem rdX.c2 {w W : World} {g b : Nat} {x y : Value} {t : TypeId} (h : rdX w W g b (.cells #[x, y] t (0, 0))) : (W.cell? ⟨b, 0, none⟩ = some x ∧ W.cell? ⟨b, 1, none⟩ = some y) ∧ W.frozen? ⟨b, 0, none⟩ = false ∧ W.frozen? ⟨b, 1, none⟩ = false :=
 ⟨⟨bC h.h 0, bC h.h 1⟩, bF h.h 0, bF h.h 1⟩
theorem rdX.end1 {w0 w W0 W : World} {g r : Nat} {o : Obj} {s : List Int} {i : Int} {cs : Array Value} {t : TypeId} (hP : rdP w0 W0 W g s i) (hR : rdX w W g r o) {b : Nat} (hb : W.heap.size = b) : rdX W0 (W.alloc (.cells cs t)) g b (.cells cs t (0, 0)) ∧ rdX w (W.alloc (.cells cs t)) g r o ∧ rdP w0 W0 (W.alloc (.cells cs t)) g s i :=
 hb ▸ ⟨rdX.new hP _ _, hR.alloc _, hP.alloc _⟩
theorem rdX.set3 {w W : World} {g b : Nat} {x y z p q r : Value} {t : TypeId} (h : rdX w W g b (.cells #[x, y, z] t (0, 0))) : rdX w (((W.setCell ⟨b, 0, none⟩ p).setCell ⟨b, 1, none⟩ q).setCell ⟨b, 2, none⟩ r) g b (.cells #[p, q, r] t (0, 0)) :=
 ⟨bP (bP (bP h.h 0 _ rfl) 1 _ rfl) 2 _ rfl, h.l, h.n⟩
theorem rdX.end2 {w0 w W0 W : World} {g r b : Nat} {s : List Int} {i : Int} {x y z p q u : Value} {cs : Array Value} {t t' : TypeId} (hP : rdP w0 W0 W g s i) (hR : rdX w W g r (.cells cs t' (0, 0))) (hX : rdX W0 W g b (.cells #[x, y, z] t (0, 0))) (hr : r < W0.heap.size) : rdX W0 (((W.setCell ⟨b, 0, none⟩ p).setCell ⟨b, 1, none⟩ q).setCell ⟨b, 2, none⟩ u) g b (.cells #[p, q, u] t (0, 0)) ∧ rdX w (((W.setCell ⟨b, 0, none⟩ p).setCell ⟨b, 1, none⟩ q).setCell ⟨b, 2, none⟩ u) g r (.cells cs t' (0, 0)) ∧ rdP w0 W0 (((W.setCell ⟨b, 0, none⟩ p).setCell ⟨b, 1, none⟩ q).setCell ⟨b, 2, none⟩ u) g s i :=
 have n : r ≠ b := Nat.ne_of_lt (Nat.lt_of_lt_of_le hr hX.l)
 ⟨hX.set3, ((hR.far n _ _).far n _ _).far n _ _, ((hP.set hX.l hX.n _ _).set hX.l hX.n _ _).set hX.l hX.n _ _⟩
theorem rdX.set1 {w W : World} {g b : Nat} {x y z q : Value} {t : TypeId} (h : rdX w W g b (.cells #[x, y, z] t (0, 0))) : rdX w (W.setCell ⟨b, 1, none⟩ q) g b (.cells #[x, q, z] t (0, 0)) := ⟨bP h.h 1 _ rfl, h.l, h.n⟩
theorem rdX.set2 {w W : World} {g b : Nat} {x y z q : Value} {t : TypeId} (h : rdX w W g b (.cells #[x, y, z] t (0, 0))) : rdX w (W.setCell ⟨b, 2, none⟩ q) g b (.cells #[x, y, q] t (0, 0)) := ⟨bP h.h 2 _ rfl, h.l, h.n⟩
theorem rdP.fin {w0 w W0 W : World} {g r : Nat} {s : List Int} {i j : Int} {x y z p q u : Value} {t : TypeId} (hU : rdP w0 w W0 g s i) (hP : rdP w0 W0 W g s j) (hR : rdX w W g r (.cells #[x, y, z] t (0, 0))) : (((W.setCell ⟨r, 0, none⟩ p).setCell ⟨r, 1, none⟩ q).setCell ⟨r, 2, none⟩ u).heap[r]? = some (.cells #[p, q, u] t (0, 0)) ∧ Iq w0 (((W.setCell ⟨r, 0, none⟩ p).setCell ⟨r, 1, none⟩ q).setCell ⟨r, 2, none⟩ u) g s j ∧ Below w0.heap.size w0 (((W.setCell ⟨r, 0, none⟩ p).setCell ⟨r, 1, none⟩ q).setCell ⟨r, 2, none⟩ u) ∧ KB w (((W.setCell ⟨r, 0, none⟩ p).setCell ⟨r, 1, none⟩ q).setCell ⟨r, 2, none⟩ u) g none :=
 have h : rdP w0 w W g s j := ⟨hP.I, hP.B, hU.K.trans hP.K (.inl rfl), hU.L⟩
 have h := ((h.set hR.l hR.n 0 p).set hR.l hR.n 1 q).set hR.l hR.n 2 u
 ⟨hR.set3.h, h.I, h.B, h.K⟩
theorem F48.calls (k : Nat) (g : Nat) (s0_0 : List Int) (s0_1 : Int) (A1 : Option Addr) (c1 : Nat) (l1 : List Int) (r1 : Int) (r2 : Int) (r3 : Int) (r4 : Int) (w0 w : World) (hI : Iq w0 w g s0_0 s0_1) (hB : Below w0.heap.size w0 w) (hr1 : Kd.C (Kd.int .i64) w A1 l1.length l1) (hc1 : l1.length ≤ c1) (hf1 : ∀ ad, A1 = some ad → 0 < l1.length → ad.block ≠ g) (h : F48.f k s0_0 s0_1 l1 = some (r1, r2, r3, r4)) :
 Calls Tryz.prog 48 #[.pointer (some ⟨g, 0, none⟩), .slice A1 l1.length c1] w fun e w' => e = .returned (.agg #[.int .i64 r1, .int .i64 r2, .int .i64 r3]) ∧ Iq w0 w' g s0_0 r4 ∧ Below w0.heap.size w0 w' ∧ KB w w' g none := by
 have hu39 := Tryz.underlying39
 have HP := Qo.mk (rdP.new hI hB)
 clear hI hB hr1 hc1 hf1
 unfold F48.f at h
 simp only [Option.bind_some] at h
 replace h := Option.bind_eq_some_iff.mp h
 obtain ⟨⟨t, i1⟩, e1, h⟩ := h
 have E1 := Qo.mk e1
 clear e1
 by_cases c0 : 0 ≤ t
 rotate_left
 ·simp only [if_neg c0] at h; cases h
 by_cases c1 : t < 8
 rotate_left
 ·simp only [List.length_cons, List.length_nil] at h; rw [if_pos c0, if_neg (by omega)] at h; cases h
 rw [if_pos c0, if_pos (by simpa using c1)] at h
 replace h := Option.bind_eq_some_iff.mp h
 obtain ⟨⟨t2, i2⟩, e1, h⟩ := h
 have E2 := Qo.mk e1
 clear e1
 obtain ⟨d, hd⟩ : ∃ d, d = rd ([0, 0, 1, 1, 2, 3, 4, 5] : List Int) t := ⟨_, rfl⟩
 obtain ⟨p, hp⟩ : ∃ p, p = wrap64 (d + wrap64 (wrap64 (Int.tdiv t2 59) * 6)) := ⟨_, rfl⟩
 dsimp only at h
 rw [← hd, ← hp] at h
 have H := Qo.mk h
 clear h
 have hz : (#[.int .i64 0, .int .i64 0, .int .i64 1, .int .i64 1, .int .i64 2, .int .i64 3, .int .i64 4, .int .i64 5] : Array Value)[t.toNat]? = some (.int .i64 d) := by
  obtain ⟨n, rfl⟩ : ∃ n : Nat, t = n := ⟨t.toNat, by omega⟩
  have : n < 8 := by omega
  rw [hd]
  rcases n with _|_|_|_|_|_|_|_|n <;> first | rfl | omega
 have hz2 : ∀ q : t.toNat < ([.int .i64 0, .int .i64 0, .int .i64 1, .int .i64 1, .int .i64 2, .int .i64 3, .int .i64 4, .int .i64 5] : List Value).length, ([.int .i64 0, .int .i64 0, .int .i64 1, .int .i64 1, .int .i64 2, .int .i64 3, .int .i64 4, .int .i64 5] : List Value)[t.toNat]'q = .int .i64 d := fun q => Option.some.inj ((List.getElem?_eq_getElem q).symm.trans (by simpa using hz))
 replace hd := Qo.mk hd
 replace hp := Qo.mk hp
 go_enter Tryz.func48, Tryz.ntmps48
 go_upto_if 19 with (fail)
 have HR := Qo.mk (rdX.new HP.out #[.int .i64 0, .int .i64 0, .int .i64 0] 39)
 have HU := Qo.mk (HP.out.alloc (.cells #[.int .i64 0, .int .i64 0, .int .i64 0] 39))
 have HL := Qo.mk (show w.heap.size < (w.alloc (.cells #[.int .i64 0, .int .i64 0, .int .i64 0] 39)).heap.size by simp)
 generalize w.alloc (.cells #[.int .i64 0, .int .i64 0, .int .i64 0] 39) = W0 at HR HU HL ⊢
 have HP : Qo (rdP w0 W0 W0 g s0_0 s0_1) := ⟨rdP.new HU.out.I HU.out.B⟩
 go_cut [5] (fun v5 wd => ∃ b : Nat, v5 = .pointer (some ⟨b, 0, none⟩) ∧ Qo (rdX W0 wd g b (.cells #[.int .i64 p, .int .i64 0, .int .i64 0] 39 (0, 0)) ∧ rdX w wd g w.heap.size (.cells #[.int .i64 0, .int .i64 0, .int .i64 0] 39 (0, 0)) ∧ rdP w0 W0 wd g s0_0 i2))
 case first =>
  go_region_law (first
   | (go_simp; go_at_call 19; (with_reducible refine Calls.mono (F19.calls k g s0_0 s0_1 8 t i1 w0 _ (rdP.I zh6) (rdP.B zh6) E1.out) ?_); rintro e w3 ⟨rfl, hc⟩; have hk := hc.2.2; (try (have HX := Qo.mk (rdX.keep (w := W0) (g := g) (o := .cells #[.int .i64 0, .int .i64 0, .int .i64 0] 39 (0, 0)) (by (with_reducible repeat first | exact HX.out | exact rdX.new zh6 _ _ | apply rdX.alloc | apply rdX.drew); done) hk); have x0 := HX.out.c3; have x1 := fun o => (HX.out.alloc o).c3; (try simp only [World.size_alloc] at HX x0 x1))); (try (have HS := Qo.mk (rdX.keep (w := W0) (g := g) (o := .cells #[.int .i64 0, .int .i64 0, .int .i64 1, .int .i64 1, .int .i64 2, .int .i64 3, .int .i64 4, .int .i64 5] 3 (0, 0)) (by (with_reducible repeat first | exact HS.out | exact rdX.new zh6 _ _ | apply rdX.alloc | apply rdX.drew); done) hk))); (try (have k0 := (bC HS.out.h t.toNat).trans hz; have k1 := fun o => (bC (HS.out.alloc o).h t.toNat).trans hz; (try simp only [World.size_alloc] at k0 k1))); have HR := Qo.mk (rdX.keep zh2 hk); have HP1 : Qo (rdP w0 W0 w3 g s0_0 i1) := ⟨rdP.call zh6 hc⟩; clear hc hk)
   | (go_simp; go_at_call 19; (with_reducible refine Calls.mono (F19.calls k g s0_0 i1 60 t2 i2 w0 _ (rdP.I zh4) (rdP.B zh4) E2.out) ?_); rintro e w4 ⟨rfl, hc⟩; have hk := hc.2.2; (try (have HX := Qo.mk (rdX.keep (w := W0) (g := g) (o := .cells #[.int .i64 0, .int .i64 0, .int .i64 0] 39 (0, 0)) (by (with_reducible repeat first | exact HX.out | exact rdX.new zh4 _ _ | apply rdX.alloc | apply rdX.drew); done) hk); have x0 := HX.out.c3; have x1 := fun o => (HX.out.alloc o).c3; (try simp only [World.size_alloc] at HX x0 x1))); (try (have HS := Qo.mk (rdX.keep (w := W0) (g := g) (o := .cells #[.int .i64 0, .int .i64 0, .int .i64 1, .int .i64 1, .int .i64 2, .int .i64 3, .int .i64 4, .int .i64 5] 3 (0, 0)) (by (with_reducible repeat first | exact HS.out | exact rdX.new zh4 _ _ | apply rdX.alloc | apply rdX.drew); done) hk))); (try (have k0 := (bC HS.out.h t.toNat).trans hz; have k1 := fun o => (bC (HS.out.alloc o).h t.toNat).trans hz; (try simp only [World.size_alloc] at k0 k1))); have HR := Qo.mk (rdX.keep zh2 hk); have HP2 : Qo (rdP w0 W0 w4 g s0_0 i2) := ⟨rdP.call zh4 hc⟩; clear hc hk)
   | fail)
  all_goals
   go_wp2
   go_meet
   case rel =>
    simp only [i64_w, ← hp.out]
    first
     | exact ⟨_, rfl, ⟨rdX.end1 zh1 zh2 (by simp)⟩⟩
     | exact ⟨_, rfl, ⟨(rdX.new zh1 _ _).alloc _, zh2, zh1⟩⟩
     | exact ⟨_, rfl, ⟨rdX.end2 zh1 zh2 (by (with_reducible repeat first | exact HX.out | exact rdX.new zh1 _ _ | apply rdX.alloc | apply rdX.drew); done) HL.out⟩⟩
 case rest =>
  obtain ⟨b, rfl, HA⟩ := hcut
  have HX := Qo.mk HA.out.1
  have HR := Qo.mk HA.out.2.1
  have HP := Qo.mk HA.out.2.2
  have x0 := HX.out.c3
  clear HA hz hz2 hd hp E1 E2
  go_upto_block 0 with (fail)
  go_cut [5] (fun v5 we => v5 = .pointer (some ⟨b, 0, none⟩) ∧ ∃ A B j, Qo (F48.j0 k s0_0 j p A B = some (r1, r2, r3, r4)) ∧ Qo (rdX W0 we g b (.cells #[.int .i64 p, .int .i64 A, .int .i64 B] 39 (0, 0))) ∧ Qo (rdX w we g w.heap.size (.cells #[.int .i64 0, .int .i64 0, .int .i64 0] 39 (0, 0))) ∧ Qo (rdP w0 W0 we g s0_0 j))
  case first =>
   have h := H.out
   clear H
   by_cases p0 : p = 0
   ·subst p0
    rw [if_pos rfl] at h
    have cm : (((l1.length : Int) < 1) = True ∧ mx (l1.length : Int) 1 = 1) ∨ (((l1.length : Int) < 1) = False ∧ mx (l1.length : Int) 1 = l1.length) := by
     by_cases c : (l1.length : Int) < 1
     ·exact .inl ⟨eq_true c, if_pos c⟩
     ·exact .inr ⟨eq_false c, if_neg c⟩
    rcases cm with ⟨cm, em⟩ | ⟨cm, em⟩
    all_goals
     rw [em] at h
     clear em
     replace h := Option.bind_eq_some_iff.mp h; obtain ⟨⟨a1, j1⟩, e1, h⟩ := h
     have E1 := Qo.mk e1
     clear e1
     replace h := Option.bind_eq_some_iff.mp h; obtain ⟨⟨a2, j2⟩, e1, h⟩ := h
     have E2 := Qo.mk e1
     clear e1
     have H := Qo.mk h
     clear h
     go_wp2_with (first
      | (go_at_call 19; (with_reducible refine Calls.mono (F19.calls k g s0_0 _ _ a1 j1 w0 _ HP.out.I HP.out.B E1.out) ?_); rintro e w5 ⟨rfl, hc⟩; have HX := Qo.mk (rdX.keep HX.out hc.2.2); have HR := Qo.mk (rdX.keep HR.out hc.2.2); have HP := Qo.mk (rdP.call HP.out hc); have x0 := HX.out.c3; clear hc)
      | (go_at_call 19; (with_reducible refine Calls.mono (F19.calls k g s0_0 _ _ a2 j2 w0 _ (HP.out.set HX.out.l HX.out.n 1 _).I (HP.out.set HX.out.l HX.out.n 1 _).B E2.out) ?_); rintro e w6 ⟨rfl, hc⟩; have HX := Qo.mk (rdX.keep HX.out.set1 hc.2.2); have HR := Qo.mk (rdX.keep (HR.out.far (Nat.ne_of_lt (Nat.lt_of_lt_of_le HL.out HX.out.l)) 1 _) hc.2.2); have HP := Qo.mk (rdP.call (HP.out.set HX.out.l HX.out.n 1 _) hc); have x0 := HX.out.c3; clear hc))
     go_meet
     case rel => exact ⟨rfl, _, _, _, H, ⟨HX.out.set2⟩, ⟨HR.out.far (Nat.ne_of_lt (Nat.lt_of_lt_of_le HL.out HX.out.l)) 2 _⟩, ⟨HP.out.set HX.out.l HX.out.n 2 _⟩⟩
   ·have q0 : (p == 0) = false := by simp [p0]
    rw [if_neg p0] at h
    by_cases p1 : p = 1
    ·subst p1
     rw [if_pos rfl] at h
     replace h := Option.bind_eq_some_iff.mp h; obtain ⟨⟨a1, j1⟩, e1, h⟩ := h
     have E1 := Qo.mk e1
     clear e1
     replace h := Option.bind_eq_some_iff.mp h; obtain ⟨⟨a2, j2⟩, e1, h⟩ := h
     have E2 := Qo.mk e1
     clear e1
     have H := Qo.mk h
     clear h
     go_wp2_with (first
      | (go_at_call 19; (with_reducible refine Calls.mono (F19.calls k g s0_0 _ _ a1 j1 w0 _ HP.out.I HP.out.B E1.out) ?_); rintro e w5 ⟨rfl, hc⟩; have HX := Qo.mk (rdX.keep HX.out hc.2.2); have HR := Qo.mk (rdX.keep HR.out hc.2.2); have HP := Qo.mk (rdP.call HP.out hc); have x0 := HX.out.c3; clear hc)
      | (go_at_call 19; (with_reducible refine Calls.mono (F19.calls k g s0_0 _ _ a2 j2 w0 _ HP.out.I HP.out.B E2.out) ?_); rintro e w6 ⟨rfl, hc⟩; have HX := Qo.mk (rdX.keep HX.out hc.2.2); have HR := Qo.mk (rdX.keep HR.out hc.2.2); have HP := Qo.mk (rdP.call HP.out hc); have x0 := HX.out.c3; clear hc))
     go_meet
     case rel => exact ⟨rfl, _, _, _, H, ⟨HX.out.set1⟩, ⟨HR.out.far (Nat.ne_of_lt (Nat.lt_of_lt_of_le HL.out HX.out.l)) 1 _⟩, ⟨HP.out.set HX.out.l HX.out.n 1 _⟩⟩
    ·have q1 : (p == 1) = false := by simp [p1]
     rw [if_neg p1] at h
     have H := Qo.mk h
     clear h
     go_wp2
     go_meet
     case rel => exact ⟨rfl, _, _, _, H, HX, HR, HP⟩
  case rest =>
   obtain ⟨rfl, A, B, j, H, HX, HR, HP⟩ := hcut
   have x0 := HX.out.c3
   have h := H.out
   clear H
   cases k with
   | zero => simp [F48.j0] at h
   | succ k =>
    unfold F48.j0 at h
    replace h := Option.bind_eq_some_iff.mp h; obtain ⟨⟨e, j1⟩, e1, h⟩ := h
    have E1 := Qo.mk e1
    have H := Qo.mk h
    clear e1 h
    go_upto_if 47 with (go_at_call 26; (with_reducible refine Calls.mono (F26.calls k g s0_0 _ _ e j1 w0 _ HP.out.I HP.out.B E1.out) ?_); rintro e w5 ⟨rfl, hc⟩; have HX := Qo.mk (rdX.keep HX.out hc.2.2); have HR := Qo.mk (rdX.keep HR.out hc.2.2); have HP := Qo.mk (rdP.call HP.out hc); have x0 := HX.out.c3; clear hc)
    have h := H.out
    clear H E1
    cases e
    ·rw [if_neg (by simp)] at h
     simp only [Option.some.injEq, Prod.mk.injEq] at h
     obtain ⟨rfl, rfl, rfl, rfl⟩ := h
     have r0 := HR.out.c3
     go_wp2
     have z := fun p q u => rdP.fin (p := p) (q := q) (u := u) HU.out HP.out HR.out
     exact bodyPost_ret (results_cell_row rfl _ _ w.heap.size 39 #[_, _, _] (0, 0) _ rfl (z _ _ _).1 Tryz.underlying39 rfl zh7) rfl ⟨rfl, (z _ _ _).2⟩
    ·rw [if_pos rfl] at h
     simp only [Option.bind_some] at h
     replace h := Option.bind_eq_some_iff.mp h; obtain ⟨⟨n, j2⟩, e1, h⟩ := h
     have E1 := Qo.mk e1
     clear e1
     by_cases n0 : 0 ≤ n
     rotate_left
     ·rw [if_neg n0] at h; cases h
     by_cases n1 : n < 3
     rotate_left
     ·rw [if_pos n0, if_neg (by simpa using n1)] at h; cases h
     rw [if_pos n0, if_pos (by simpa using n1)] at h
     simp only [Option.some.injEq, Prod.mk.injEq] at h
     obtain ⟨rfl, rfl, hd, rfl⟩ := h
     have hz : (#[.int .i64 (-1), .int .i64 9, .int .i64 100] : Array Value)[n.toNat]? = some (.int .i64 r3) := by
      obtain ⟨m, rfl⟩ : ∃ m : Nat, n = m := ⟨n.toNat, by omega⟩
      have : m < 3 := by omega
      rw [← hd]
      rcases m with _|_|_|m <;> first | rfl | omega
     clear hd
     have r0 := HR.out.c3
     have nb := Nat.ne_of_lt (Nat.lt_of_lt_of_le HL.out HX.out.l)
     have nb1 := eq_false nb
     have nb2 := eq_false (Ne.symm nb)
     go_wp2_with (go_at_call 19; (with_reducible refine Calls.mono (F19.calls k g s0_0 _ _ n j2 w0 _ (HP.out.alloc _).I (HP.out.alloc _).B E1.out) ?_); rintro e w6 ⟨rfl, hc⟩; have kz := (bC (rdX.keep (rdX.new HP.out _ _) hc.2.2).h n.toNat).trans hz; have HX := Qo.mk (rdX.keep (HX.out.alloc _) hc.2.2); have HR := Qo.mk (rdX.keep (HR.out.alloc _) hc.2.2); have HP := Qo.mk (rdP.call (HP.out.alloc _) hc); have x0 := HX.out.c3; have r0 := HR.out.c3; clear hc)
     have z := fun p q u => rdP.fin (p := p) (q := q) (u := u) HU.out (HP.out.set HX.out.l HX.out.n 2 (.int .i64 r3)) (HR.out.far nb 2 (.int .i64 r3))
     exact bodyPost_ret (results_cell_row rfl _ _ w.heap.size 39 #[_, _, _] (0, 0) _ rfl (z _ _ _).1 Tryz.underlying39 rfl zh7) rfl ⟨rfl, (z _ _ _).2⟩
end
def F27.l0 : Nat → List Int → List (S39) → Int → List Int → Int → Option ((List (S39)) × Int)
 | 0, _, _, _, _, _ => none
 | k + 1, x1, x5, x6, x1000, x1001 => if x6 > 0 then ((F48.f k x1000 x1001 x1).bind fun bt158 => (if x5.length < 5864062014805 then (F27.l0 k x1 (x5 ++ [(⟨bt158.1, bt158.2.1, bt158.2.2.1⟩ : S39)]) (wrap64 (x6 - 1)) x1000 bt158.2.2.2) else (none))) else (some (x5, x1001))
def F27.f (k : Nat) (s0_0 : List Int) (s0_1 : Int) (l1 : List Int) : Option ((List (S39)) × Int) := (F19.f k s0_0 s0_1 6).bind fun bt156 => (F27.l0 k l1 (([] : List (S39))) bt156.1 s0_0 bt156.2)
theorem F27.ml : ∀ k, (∀ y0 y1 y2 y3 y4, LeO (F27.l0 k y0 y1 y2 y3 y4) (F27.l0 (k + 1) y0 y1 y2 y3 y4))
 | 0 => fun _ _ _ _ _ r h => by simp [F27.l0] at h
 | k + 1 => by
  have ih0 := F27.ml k
  ·intro y0 y1 y2 y3 y4
   unfold F27.l0
   have := @F48.mono; have := @F19.mono; exact zm
theorem F27.mono : ∀ a0 a1 a2 k, LeO (F27.f k a0 a1 a2) (F27.f (k + 1) a0 a1 a2) := by
 intro a0 a1 a2 k;have ih0 := F27.ml k;unfold F27.f;have := @F48.mono; have := @F19.mono; exact zm
theorem F27.calls (k : Nat) (g : Nat) (s0_0 : List Int) (s0_1 : Int) (A1 : Option Addr) (c1 : Nat) (l1 : List Int) (r1 : List (S39)) (r2 : Int) (w0 w : World) (hI : Iq w0 w g s0_0 s0_1) (hB : Below w0.heap.size w0 w) (hr1 : Kd.C (Kd.int .i64) w A1 l1.length l1) (hc1 : l1.length ≤ c1) (hf1 : ∀ ad, A1 = some ad → 0 < l1.length → ad.block ≠ g) (h : F27.f k s0_0 s0_1 l1 = some (r1, r2)) :
  Calls Tryz.prog 27 #[.pointer (some ⟨g, 0, none⟩), .slice A1 l1.length c1] w fun e w' => ∃ v0_ : Value, e = .returned (v0_) ∧ Kd.R k39 39 w' w.heap.size (fun _ => True) v0_ r1 ∧ Iq w0 w' g s0_0 r2 ∧ Below w0.heap.size w0 w' ∧ KB w w' g none := by
 have HR1:=zM hr1;have HC1:=zM hc1;clear hr1 hc1;have HI0:=zM hI;have HK:=zM (KB.refl w g none);have HL:=zM hB.size;clear hI;have HW0:=zM hB.size;have HB:=zM hB;clear hB;have H : ((F19.f k s0_0 s0_1 6).bind fun bt156 => (F27.l0 k l1 (([] : List (S39))) bt156.1 s0_0 bt156.2)) = some (r1, r2) := h;clear h;obtain ⟨y153, hy153⟩ : ∃ y_ : List (S39), y_ = (([] : List (S39))) := ⟨_, rfl⟩;(replace H : ((F19.f k s0_0 s0_1 6).bind fun bt156 => (F27.l0 k l1 y153 bt156.1 s0_0 bt156.2)) = some (r1, r2) := by first | (rw [hy153]; with_reducible exact H) | (have H2_ := (Option.bind_some _ _).symm.trans H; rw [hy153]; with_reducible exact H2_) | (have H2_ := (Option.bind_some _ _).symm.trans H; with_reducible exact H2_) | with_reducible exact H | (rw [hy153]; exact H) | exact H);have Ny153:=zM hy153;clear hy153;replace H := zb H; obtain ⟨⟨t156, t157⟩, A3, H⟩ := H; (try dsimp only at H);have H':=zM H;clear H;go_enter Tryz.func27, Tryz.ntmps27;go_wp2_with (first | ((with_reducible refine gD (N := 7) rfl ?_); refine Kd.R_lit k39 _ 39 zs1 (N := 7) zs1 (xs := ([] : List (S39))) (inner := []) (ok := fun _ => True) (okp := fun _ => True) zs2 ?hp (fun _ hk => hk) trivial (Below.refl _ _) (Nat.le_refl _) (by simp) ?_; (case hp => exact (Reps.none _ _)); intro v154 w4 ho5 hb hg_ hnew_; clear hg_ hnew_; (first | rw [← Ny153.out] at ho5 | (simp only [Int.reduceToNat] at ho5; rw [← Ny153.out] at ho5)); have HO155:=zM (Kd.Rl ho5 (kS (w := w) (g := g) (row := none) (zs10 HK))); replace HK:=zM (KB.trans (zs10 HK) (KB.of_below hb g none) (.inl rfl)); replace HB:=zM (bS (zs11 HB HI0) hb); replace HI0:=zM (Iq.below (zs9 HI0) hb); clear hb ho5) | (refine zg 19 (some 9) Tryz.func19 #[.pointer (some ⟨g, 0, none⟩), .int .i64 6] ?_; (with_reducible refine (F19.calls k g s0_0 s0_1 6 t156 t157 w0 _ (zs9 HI0) (zs11 HB HI0) A3.out).mono ?_); rintro e w6 ⟨rfl, hi, hb, hk⟩; refine ⟨_, rfl, ?_⟩; replace HO155:=zM (Kd.Rm (Kd.Rk (Iq.apart (show Iq w0 _ g s0_0 s0_1 from (zs9 HI0)) (zs5 HO155) zd) hk (fun _ h => h.2)) (fun _ h => h.1)); replace HK:=zM (KB.trans (zs10 HK) hk (.inl rfl)); replace HB:=zM (hb); replace HI0:=zM (hi); clear hb hk hi));go_loopg [5, 6] k (fun kq v5 v6 w' => ∃ (x5_1 : List (S39)) (x6_1 : Int) (x1001_1 : Int), v6 = .int .i64 x6_1 ∧ Qo (F27.l0 kq l1 x5_1 x6_1 s0_0 x1001_1 = some (r1, r2)) ∧ Qo (kq ≤ k) ∧ Qo (Kd.R k39 39 w' w.heap.size (fun _ => True) v5 x5_1) ∧ Qo (Iq w0 w' g s0_0 x1001_1) ∧ Qo (KB w w' g none) ∧ Qo (Below w0.heap.size w0 w'))
 case atStart => exact ⟨(y153), (t156), (t157), zs7, H', ⟨Nat.le_refl _⟩, ⟨(zs5 HO155)⟩, ⟨(zs9 HI0)⟩, ⟨(zs10 HK)⟩, ⟨(zs11 HB HI0)⟩⟩
 case round =>
  clear H';obtain ⟨x5_1, x6_1, x1001_1, rfl, HA, HK1, HO_5, HI0, HK, HB⟩ := hrel;cases gk with
  | zero => exact absurd HA.out (by simp [F27.l0])
  | succ k1 =>
   have H := HA.out;clear HA;simp only [F27.l0] at H;by_cases c7 : x6_1 > 0
   ·rw [if_pos c7] at H;have c7b0 : decide (0 < x6_1) = true := decide_eq_true c7;clear c7;replace H := zb H; obtain ⟨⟨t158, t159, t160, t161⟩, A8, H⟩ := H; (try dsimp only at H);replace H := zn H; obtain ⟨c9, H⟩ := H;have LMc9:=zM c9;clear c9;obtain ⟨y162, hy162⟩ : ∃ y_ : List (S39), y_ = (x5_1 ++ [(⟨t158, t159, t160⟩ : S39)]) := ⟨_, rfl⟩;(replace H : (F27.l0 k1 l1 y162 (wrap64 (x6_1 - 1)) s0_0 t161) = some (r1, r2) := by first | (rw [hy162]; with_reducible exact H) | (have H2_ := (Option.bind_some _ _).symm.trans H; rw [hy162]; with_reducible exact H2_) | (have H2_ := (Option.bind_some _ _).symm.trans H; with_reducible exact H2_) | with_reducible exact H | (rw [hy162]; exact H) | exact H);have Ny162:=zM hy162;clear hy162;have H':=zM H;clear H;go_wp2_with (first | (refine zg 48 (some 17) Tryz.func48 #[.pointer (some ⟨g, 0, none⟩), .slice A1 l1.length c1] ?_; (with_reducible refine (F48.calls k1 g s0_0 x1001_1 _ _ l1 t158 t159 t160 t161 w0 _ (zs9 HI0) (zs11 HB HI0) ?side3 ?side4 ?side5 A8.out).mono ?_); (case side3 => exact Kd.C_keep 0 HR1.out (zs10 HK) hf1); (case side4 => exact HC1.out); (case side5 => exact hf1); rintro e w10 ⟨rfl, hi, hb, hk⟩; refine ⟨_, rfl, ?_⟩; replace HO_5:=zM (Kd.Rm (Kd.Rk (Iq.apart (show Iq w0 _ g s0_0 x1001_1 from (zs9 HI0)) (zs5 HO_5) zd) hk (fun _ h => h.2)) (fun _ h => h.1)); replace HK:=zM (KB.trans (zs10 HK) hk (.inl rfl)); replace HB:=zM (hb); replace HI0:=zM (hi); clear hb hk hi) | ((with_reducible refine gB (b := .append) (xs := #[.tmp 14, .tmp 18]) rfl ?_); at_builtin; refine Kd.R_append k39 w.heap.size rfl (.tmp 14) (.tmp 18) 24 39 (.agg #[(.int .i64 0), (.int .i64 0), (.int .i64 0)]) 24 rfl Tryz.underlying24 info39 rfl zd zo_ u5 x5_1 (⟨t158, t159, t160⟩ : S39) [.int .i64 t158, .int .i64 t159, .int .i64 t160] (fun _ => True) (fun _ => False) rfl rfl ?aP (fun _ hk => hk.elim) ?aF ?aO (Below.refl _ _) ?aS ?aL ?_; (case aP => exact k39_mkM _ _ _ (⟨t158, t159, t160⟩ : S39)); (case aF => exact (fun _ _ => trivial)); (case aO => exact (zs5 HO_5)); (case aS => exact (kS (w := w) (g := g) (row := none) (zs10 HK))); (case aL => have := LMc9.out; omega); intro v163 w11 ho hb hg hat; rw [← Ny162.out] at ho; replace HB:=zM (below_weaken (zs11 HB HI0) HL.out hb); replace HI0:=zM (Iq.grown (zs9 HI0) hg (Iq.own_ne HI0.out HO_5.out zd)); replace HK:=zM (KB.trans (zs10 HK) (KB.of_grown hg g) (Kd.R_base2 HO_5.out)); have HO164:=zM (ho); clear HO_5; clear ho hb hg hat));go_roundg k1
    case measure => have := HK1.out; omega
    case rel => exact ⟨(y162), (wrap64 (x6_1 - 1)), (t161), zs7, H', ⟨by have := HK1.out; omega⟩, ⟨(zs5 HO164)⟩, ⟨(zs9 HI0)⟩, ⟨(zs10 HK)⟩, ⟨(zs11 HB HI0)⟩⟩
   ·rw [if_neg c7] at H;have c7b0 : decide (0 < x6_1) = false := decide_eq_false c7;clear c7;simp only [Option.some.injEq, Prod.mk.injEq] at H;obtain ⟨rfl, rfl⟩ := H;go_wp2;go_ret;exact ⟨_, zs6, (zs5 HO_5), (zs9 HI0), (zs11 HB HI0), (zs10 HK)⟩
mutual
def F28.l0 : Nat → List Int → Int → Int → Int → Option (Bool)
 | 0, _, _, _, _ => none
 | k + 1, x0, x3, x4, x5 => if x5 < x3 then (if 0 ≤ x5 then (if x5 < (x0.length : Int) then ((F49.f (rd x0 x5) 0 x3).bind fun t167 => (if t167 = true then (F28.j1 k x0 x3 x4 x5 ((rd x0 x5) == (wrap64 (x5 + 1)))) else (F28.j1 k x0 x3 x4 x5 true))) else (none)) else (none)) else (some (x4 == 1))
def F28.j1 : Nat → List Int → Int → Int → Int → Bool → Option (Bool)
 | 0, _, _, _, _, _ => none
 | k + 1, x0, x3, x4, x5, x33 => if x33 = true then (some false) else (if 0 ≤ x5 then (if x5 < (x0.length : Int) then (if (rd x0 x5) = 0 then (F28.j2 k x0 x3 (wrap64 (x4 + 1)) x5) else (F28.j2 k x0 x3 x4 x5)) else (none)) else (none))
def F28.j2 : Nat → List Int → Int → Int → Int → Option (Bool)
 | 0, _, _, _, _ => none
 | k + 1, x0, x3, x4, x5 => F28.l1 k x0 x3 x4 x5 (wrap64 (x5 + 1)) 0
def F28.l1 : Nat → List Int → Int → Int → Int → Int → Int → Option (Bool)
 | 0, _, _, _, _, _, _ => none
 | k + 1, x0, x3, x4, x5, x6, x7 => if x6 > 0 then (F28.j4 k x0 x3 x4 x5 x6 x7 (decide (x7 < x3))) else (F28.j4 k x0 x3 x4 x5 x6 x7 false)
def F28.j4 : Nat → List Int → Int → Int → Int → Int → Int → Bool → Option (Bool)
 | 0, _, _, _, _, _, _, _ => none
 | k + 1, x0, x3, x4, x5, x6, x7, x49 => if x49 = true then (if 0 ≤ (wrap64 (x6 - 1)) then (if (wrap64 (x6 - 1)) < (x0.length : Int) then ((F49.f (rd x0 (wrap64 (x6 - 1))) 0 x3).bind fun t171 => (if t171 = true then (F28.l1 k x0 x3 x4 x5 (rd x0 (wrap64 (x6 - 1))) (wrap64 (x7 + 1))) else (some false))) else (none)) else (none)) else (if x6 > 0 then (some false) else (F28.l0 k x0 x3 x4 (wrap64 (x5 + 1))))
end
def F28.f (k : Nat) (l0 : List Int) : Option (Bool) := (F49.f (l0.length : Int) 1 8).bind fun t165 => (if t165 = true then (F28.l0 k l0 (l0.length : Int) 0 0) else (some false))
theorem F28.ml : ∀ k, (∀ y0 y1 y2 y3, LeO (F28.l0 k y0 y1 y2 y3) (F28.l0 (k + 1) y0 y1 y2 y3)) ∧ (∀ y0 y1 y2 y3 y4, LeO (F28.j1 k y0 y1 y2 y3 y4) (F28.j1 (k + 1) y0 y1 y2 y3 y4)) ∧ (∀ y0 y1 y2 y3, LeO (F28.j2 k y0 y1 y2 y3) (F28.j2 (k + 1) y0 y1 y2 y3)) ∧ (∀ y0 y1 y2 y3 y4 y5, LeO (F28.l1 k y0 y1 y2 y3 y4 y5) (F28.l1 (k + 1) y0 y1 y2 y3 y4 y5)) ∧ (∀ y0 y1 y2 y3 y4 y5 y6, LeO (F28.j4 k y0 y1 y2 y3 y4 y5 y6) (F28.j4 (k + 1) y0 y1 y2 y3 y4 y5 y6))
 | 0 => ⟨fun _ _ _ _ r h => by simp [F28.l0] at h, fun _ _ _ _ _ r h => by simp [F28.j1] at h, fun _ _ _ _ r h => by simp [F28.j2] at h, fun _ _ _ _ _ _ r h => by simp [F28.l1] at h, fun _ _ _ _ _ _ _ r h => by simp [F28.j4] at h⟩
 | k + 1 => by
  obtain ⟨ih0, ih1, ih2, ih3, ih4⟩ := F28.ml k
  refine ⟨?_, ?_, ?_, ?_, ?_⟩
  ·intro y0 y1 y2 y3
   unfold F28.l0
   exact zm
  ·intro y0 y1 y2 y3 y4
   unfold F28.j1
   exact zm
  ·intro y0 y1 y2 y3
   unfold F28.j2
   exact zm
  ·intro y0 y1 y2 y3 y4 y5
   unfold F28.l1
   exact zm
  ·intro y0 y1 y2 y3 y4 y5 y6
   unfold F28.j4
   exact zm
theorem F28.mono : ∀ a0 k, LeO (F28.f k a0) (F28.f (k + 1) a0) := by
 intro a0 k;obtain ⟨ih0, ih1, ih2, ih3, ih4⟩ := F28.ml k;unfold F28.f;exact zm
theorem F28.calls (k : Nat) (A0 : Option Addr) (c0 : Nat) (l0 : List Int) (r : Bool) (w : World) (hr0 : Kd.C (Kd.int .i64) w A0 l0.length l0) (hc0 : l0.length ≤ c0) (h : F28.f k l0 = some r) :
  Calls Tryz.prog 28 #[.slice A0 l0.length c0] w fun e w' => e = .returned (.bool r) ∧ D0w w w' := by
 have HR0:=zM hr0;have HC0:=zM hc0;clear hr0 hc0;have H : ((F49.f (l0.length : Int) 1 8).bind fun t165 => (if t165 = true then (F28.l0 k l0 (l0.length : Int) 0 0) else (some false))) = some r := h;clear h;replace H := zb H; obtain ⟨t165, A2, H⟩ := H; (try dsimp only at H);by_cases c3 : t165 = true
 ·subst c3;(have H1 : (F28.l0 k l0 (l0.length : Int) 0 0) = some r := by rw [if_pos rfl] at H; exact H);clear H;have H := H1;clear H1;have H':=zM H;clear H;go_enter Tryz.func28, Tryz.ntmps28;go_wp2_with (first | (refine zg 49 (some 11) Tryz.func49 #[.int .i64 (l0.length : Int), .int .i64 1, .int .i64 8] ?_; (with_reducible refine (F49.calls (l0.length : Int) 1 8 true _ A2.out).mono ?_); rintro e w' ⟨rfl, ⟨nd, rfl⟩⟩; refine ⟨_, rfl, ?_⟩));go_loopg [4, 5] k (fun kq v4 v5 w' => ∃ (x4_1 : Int) (x5_1 : Int), v4 = .int .i64 x4_1 ∧ v5 = .int .i64 x5_1 ∧ Qo (F28.l0 kq l0 (l0.length : Int) x4_1 x5_1 = some r) ∧ Qo (kq ≤ k) ∧ D0w w w')
  case atStart => exact ⟨(0), (0), zs7, zs7, H', ⟨Nat.le_refl _⟩, by repeat (first | exact D0w.refl _ | apply D0w.step)⟩
  case round =>
   clear H';obtain ⟨x4_1, x5_1, rfl, rfl, HA, HK1, ⟨m1, rfl⟩⟩ := hrel;cases gk with
   | zero => exact absurd HA.out (by simp [F28.l0])
   | succ k1 =>
    have H := HA.out;clear HA;simp only [F28.l0] at H;by_cases c4 : x5_1 < (l0.length : Int)
    ·rw [if_pos c4] at H;have c4b0 := decide_eq_true c4;clear c4;have HC5:=zM H;clear H;go_upto_region 8 with (fail);go_cut [33] (fun v33 wc => ∃ (kq : Nat) (x33_4 : Bool), v33 = .bool x33_4 ∧ Qo (F28.j1 kq l0 (l0.length : Int) x4_1 x5_1 x33_4 = some r) ∧ Qo (kq ≤ k1) ∧ D0w w wc)
     case first =>
      have H := HC5.out;clear HC5;replace H := zn H; obtain ⟨c6, H⟩ := H;have c6b0 := decide_eq_true c6;clear c6;(first | rw [c6b0] | (simp only [i64_w, i32_w]; rw [c6b0]) | skip);replace H := zn H; obtain ⟨c7, H⟩ := H;have c7b0 := decide_eq_true c7;clear c7;replace H := zb H; obtain ⟨t167, A8, H⟩ := H; (try dsimp only at H);by_cases c9 : t167 = true
      ·subst c9;(have H1 : (F28.j1 k1 l0 (l0.length : Int) x4_1 x5_1 ((rd l0 x5_1) == (wrap64 (x5_1 + 1)))) = some r := by rw [if_pos rfl] at H; exact H);clear H;have H := H1;clear H1;have H':=zM H;clear H;have p166 : 0 ≤ (x5_1 : Int) := of_decide_eq_true zs0;have q166 : x5_1 < (l0.length : Int) := of_decide_eq_true zs0;obtain ⟨ad166, e166, hx166_0⟩ := Kd.at_int HR0.out x5_1 p166 q166;cases e166;replace p166 := eq_true p166;replace q166 := eq_true q166;go_wp2_with (first | (refine zg 49 (some 23) Tryz.func49 #[.int .i64 (rd l0 x5_1), .int .i64 0, .int .i64 (l0.length : Int)] ?_; (with_reducible refine (F49.calls (rd l0 x5_1) 0 (l0.length : Int) true _ A8.out).mono ?_); rintro e w' ⟨rfl, ⟨nd, rfl⟩⟩; refine ⟨_, rfl, ?_⟩; have p168 : 0 ≤ (x5_1 : Int) := of_decide_eq_true zs0; have q168 : x5_1 < (l0.length : Int) := of_decide_eq_true zs0; obtain ⟨ad168, e168, hx168_0⟩ := Kd.at_int HR0.out x5_1 p168 q168; obtain rfl : ad166 = ad168 := (by injection e168); replace p168 := eq_true p168; replace q168 := eq_true q168));go_meet
       case rel => exact ⟨_, (((rd l0 x5_1) == (wrap64 (x5_1 + 1)))), zs7, H', ⟨by have := HK1.out; first | omega | exact Nat.le_refl _⟩, by repeat (first | exact D0w.refl _ | apply D0w.step)⟩
      ·replace c9 := Bool.eq_false_iff.mpr c9;subst c9;(have H1 : (F28.j1 k1 l0 (l0.length : Int) x4_1 x5_1 true) = some r := by rw [if_neg (show ¬ (false = true) by decide)] at H; exact H);clear H;have H := H1;clear H1;have H':=zM H;clear H;have p166 : 0 ≤ (x5_1 : Int) := of_decide_eq_true zs0;have q166 : x5_1 < (l0.length : Int) := of_decide_eq_true zs0;obtain ⟨ad166, e166, hx166_0⟩ := Kd.at_int HR0.out x5_1 p166 q166;cases e166;replace p166 := eq_true p166;replace q166 := eq_true q166;go_wp2_with (first | (refine zg 49 (some 23) Tryz.func49 #[.int .i64 (rd l0 x5_1), .int .i64 0, .int .i64 (l0.length : Int)] ?_; (with_reducible refine (F49.calls (rd l0 x5_1) 0 (l0.length : Int) false _ A8.out).mono ?_); rintro e w' ⟨rfl, ⟨nd, rfl⟩⟩; refine ⟨_, rfl, ?_⟩));go_meet
       case rel => exact ⟨_, (true), zs7, H', ⟨by have := HK1.out; first | omega | exact Nat.le_refl _⟩, by repeat (first | exact D0w.refl _ | apply D0w.step)⟩
     case rest =>
      clear HC5;obtain ⟨kq, x33_4, rfl, HA, HJ4, ⟨mc4, rfl⟩⟩ := hcut;cases kq with
      | zero => exact absurd HA.out (by simp [F28.j1])
      | succ kj4 =>
       have H := HA.out;clear HA;simp only [F28.j1] at H;by_cases c10 : x33_4 = true
       ·subst c10;(have H1 : (some false) = some r := by rw [if_pos rfl] at H; exact H);clear H;have H := H1;clear H1;obtain rfl := Option.some.inj H;go_wp2;go_ret;exact ⟨by first | rfl | (simp; done) | (simp [*]; done), by repeat (first | exact D0w.refl _ | apply D0w.step)⟩
       ·replace c10 := Bool.eq_false_iff.mpr c10;subst c10;(have H1 : (if 0 ≤ x5_1 then (if x5_1 < (l0.length : Int) then (if (rd l0 x5_1) = 0 then (F28.j2 kj4 l0 (l0.length : Int) (wrap64 (x4_1 + 1)) x5_1) else (F28.j2 kj4 l0 (l0.length : Int) x4_1 x5_1)) else (none)) else (none)) = some r := by rw [if_neg (show ¬ (false = true) by decide)] at H; exact H);clear H;have H := H1;clear H1;replace H := zn H; obtain ⟨c11, H⟩ := H;have c11b0 := decide_eq_true c11;clear c11;replace H := zn H; obtain ⟨c12, H⟩ := H;have c12b0 := decide_eq_true c12;clear c12;have HC13:=zM H;clear H;have p169 : 0 ≤ (x5_1 : Int) := of_decide_eq_true zs0;have q169 : x5_1 < (l0.length : Int) := of_decide_eq_true zs0;obtain ⟨ad169, e169, hx169_0⟩ := Kd.at_int HR0.out x5_1 p169 q169;cases e169;replace p169 := eq_true p169;replace q169 := eq_true q169;go_upto_if 38 with (fail);go_cut [4] (fun v4 wc => ∃ (kq : Nat) (x4_12 : Int), v4 = .int .i64 x4_12 ∧ Qo (F28.j2 kq l0 (l0.length : Int) x4_12 x5_1 = some r) ∧ Qo (kq ≤ kj4) ∧ D0w w wc)
        case first =>
         have H := HC13.out;clear HC13;by_cases c14 : (rd l0 x5_1) = 0
         ·rw [if_pos c14] at H;have c14b0 := beq_iff_eq.mpr c14;have c14b1 := bne_eq_false_iff_eq.mpr c14;clear c14;(first | rw [c14b0] | (simp only [i64_w, i32_w]; rw [c14b0]) | skip);have H':=zM H;clear H;go_wp2;go_meet
          case rel => exact ⟨_, (wrap64 (x4_1 + 1)), zs7, H', ⟨by have := HK1.out; have := HJ4.out; first | omega | exact Nat.le_refl _⟩, by repeat (first | exact D0w.refl _ | apply D0w.step)⟩
         ·rw [if_neg c14] at H;have c14b0 := beq_eq_false_iff_ne.mpr c14;have c14b1 := bne_iff_ne.mpr c14;(first | rw [c14b0] | (simp only [i64_w, i32_w]; rw [c14b0]) | skip);have H':=zM H;clear H;go_wp2;go_meet
          case rel => exact ⟨_, (x4_1), zs7, H', ⟨by have := HK1.out; have := HJ4.out; first | omega | exact Nat.le_refl _⟩, by repeat (first | exact D0w.refl _ | apply D0w.step)⟩
        case rest =>
         clear HC13;obtain ⟨kq, x4_12, rfl, HA, HJ12, ⟨mc12, rfl⟩⟩ := hcut;cases kq with
         | zero => exact absurd HA.out (by simp [F28.j2])
         | succ kj12 =>
          have H := HA.out;clear HA;simp only [F28.j2] at H;have H':=zM H;clear H;go_wp2;go_loopg [6, 7] kj12 (fun kq v6 v7 w' => ∃ (x6_4 : Int) (x7_4 : Int), v6 = .int .i64 x6_4 ∧ v7 = .int .i64 x7_4 ∧ Qo (F28.l1 kq l0 (l0.length : Int) x4_12 x5_1 x6_4 x7_4 = some r) ∧ Qo (kq ≤ kj12) ∧ D0w w w')
          case atStart => exact ⟨(wrap64 (x5_1 + 1)), (0), zs7, zs7, H', ⟨Nat.le_refl _⟩, by repeat (first | exact D0w.refl _ | apply D0w.step)⟩
          case round =>
           clear H';obtain ⟨x6_4, x7_4, rfl, rfl, HA, HK4, ⟨m4, rfl⟩⟩ := hrel;cases gk with
           | zero => exact absurd HA.out (by simp [F28.l1])
           | succ k4 =>
            have H := HA.out;clear HA;simp only [F28.l1] at H;have HC15:=zM H;clear H;go_upto_region 14 with (fail);go_cut [49] (fun v49 wc => ∃ (kq : Nat) (x49_14 : Bool), v49 = .bool x49_14 ∧ Qo (F28.j4 kq l0 (l0.length : Int) x4_12 x5_1 x6_4 x7_4 x49_14 = some r) ∧ Qo (kq ≤ k4) ∧ D0w w wc)
            case first =>
             have H := HC15.out;clear HC15;by_cases c16 : x6_4 > 0
             ·rw [if_pos c16] at H;have c16b0 : decide (0 < x6_4) = true := decide_eq_true c16;clear c16;(first | rw [c16b0] | (simp only [i64_w, i32_w]; rw [c16b0]) | skip);have H':=zM H;clear H;go_wp2;go_meet
              case rel => exact ⟨_, (decide (x7_4 < (l0.length : Int))), zs7, H', ⟨by have := HK1.out; have := HJ4.out; have := HJ12.out; have := HK4.out; first | omega | exact Nat.le_refl _⟩, by repeat (first | exact D0w.refl _ | apply D0w.step)⟩
             ·rw [if_neg c16] at H;have c16b0 : decide (0 < x6_4) = false := decide_eq_false c16;clear c16;(first | rw [c16b0] | (simp only [i64_w, i32_w]; rw [c16b0]) | skip);have H':=zM H;clear H;go_wp2;go_meet
              case rel => exact ⟨_, (false), zs7, H', ⟨by have := HK1.out; have := HJ4.out; have := HJ12.out; have := HK4.out; first | omega | exact Nat.le_refl _⟩, by repeat (first | exact D0w.refl _ | apply D0w.step)⟩
            case rest =>
             clear HC15;obtain ⟨kq, x49_14, rfl, HA, HJ14, ⟨mc14, rfl⟩⟩ := hcut;cases kq with
             | zero => exact absurd HA.out (by simp [F28.j4])
             | succ kj14 =>
              have H := HA.out;clear HA;simp only [F28.j4] at H;by_cases c17 : x49_14 = true
              ·subst c17;(have H1 : (if 0 ≤ (wrap64 (x6_4 - 1)) then (if (wrap64 (x6_4 - 1)) < (l0.length : Int) then ((F49.f (rd l0 (wrap64 (x6_4 - 1))) 0 (l0.length : Int)).bind fun t171 => (if t171 = true then (F28.l1 kj14 l0 (l0.length : Int) x4_12 x5_1 (rd l0 (wrap64 (x6_4 - 1))) (wrap64 (x7_4 + 1))) else (some false))) else (none)) else (none)) = some r := by rw [if_pos rfl] at H; exact H);clear H;have H := H1;clear H1;obtain ⟨ji18, hji18⟩ : ∃ j_ : Int, (wrap64 (x6_4 - 1)) = j_ := ⟨_, rfl⟩;(replace H : (if 0 ≤ (ji18) then (if (ji18) < (l0.length : Int) then ((F49.f (rd l0 (ji18)) 0 (l0.length : Int)).bind fun t171 => (if t171 = true then (F28.l1 kj14 l0 (l0.length : Int) x4_12 x5_1 (rd l0 (ji18)) (wrap64 (x7_4 + 1))) else (some false))) else (none)) else (none)) = some r := by first | (rw [hji18] at H; exact H) | (simp only [hji18] at H ⊢; exact H));have hji18w : (IntKind.i64.wrap (x6_4 - 1)) = ji18 := (i64_w _).trans hji18;replace H := zn H; obtain ⟨c19, H⟩ := H;have c19b0 := decide_eq_true c19;clear c19;replace H := zn H; obtain ⟨c20, H⟩ := H;have c20b0 := decide_eq_true c20;clear c20;replace H := zb H; obtain ⟨t171, A21, H⟩ := H; (try dsimp only at H);by_cases c22 : t171 = true
               ·subst c22;(have H1 : (F28.l1 kj14 l0 (l0.length : Int) x4_12 x5_1 (rd l0 (ji18)) (wrap64 (x7_4 + 1))) = some r := by rw [if_pos rfl] at H; exact H);clear H;have H := H1;clear H1;have H':=zM H;clear H;have p170 : 0 ≤ ((ji18) : Int) := of_decide_eq_true zs0;have q170 : (ji18) < (l0.length : Int) := of_decide_eq_true zs0;obtain ⟨ad170, e170, hx170_0⟩ := Kd.at_int HR0.out (ji18) p170 q170;obtain rfl : ad169 = ad170 := (by injection e170);replace p170 := eq_true p170;replace q170 := eq_true q170;go_wp2_with (first | (refine zg 49 (some 59) Tryz.func49 #[.int .i64 (rd l0 (ji18)), .int .i64 0, .int .i64 (l0.length : Int)] ?_ (hargs := by (try simp only [List.map_toArray, List.map_cons, List.map_nil]); first | done | (simp only [hji18]; rfl) | rfl); (with_reducible refine (F49.calls (rd l0 (ji18)) 0 (l0.length : Int) true _ A21.out).mono ?_); rintro e w' ⟨rfl, ⟨nd, rfl⟩⟩; refine ⟨_, rfl, ?_⟩));go_roundg kj14
                case measure => have := HK1.out; have := HJ4.out; have := HJ12.out; have := HK4.out; have := HJ14.out; omega
                case rel => exact ⟨(rd l0 (ji18)), (wrap64 (x7_4 + 1)), (by first | rfl | (simp; done) | (simp only [← hji18] <;> (first | rfl | simp)) | (simp [*]; done)), zs7, H', ⟨by have := HK1.out; have := HJ4.out; have := HJ12.out; have := HK4.out; have := HJ14.out; omega⟩, by repeat (first | exact D0w.refl _ | apply D0w.step)⟩
               ·replace c22 := Bool.eq_false_iff.mpr c22;subst c22;(have H1 : (some false) = some r := by rw [if_neg (show ¬ (false = true) by decide)] at H; exact H);clear H;have H := H1;clear H1;obtain rfl := Option.some.inj H;have p170 : 0 ≤ ((ji18) : Int) := of_decide_eq_true zs0;have q170 : (ji18) < (l0.length : Int) := of_decide_eq_true zs0;obtain ⟨ad170, e170, hx170_0⟩ := Kd.at_int HR0.out (ji18) p170 q170;obtain rfl : ad169 = ad170 := (by injection e170);replace p170 := eq_true p170;replace q170 := eq_true q170;go_wp2_with (first | (refine zg 49 (some 59) Tryz.func49 #[.int .i64 (rd l0 (ji18)), .int .i64 0, .int .i64 (l0.length : Int)] ?_ (hargs := by (try simp only [List.map_toArray, List.map_cons, List.map_nil]); first | done | (simp only [hji18]; rfl) | rfl); (with_reducible refine (F49.calls (rd l0 (ji18)) 0 (l0.length : Int) false _ A21.out).mono ?_); rintro e w' ⟨rfl, ⟨nd, rfl⟩⟩; refine ⟨_, rfl, ?_⟩));go_ret;(exact ⟨by first | rfl | (simp; done) | (simp only [← hji18] <;> (first | rfl | simp)) | (simp [*]; done), by repeat (first | exact D0w.refl _ | apply D0w.step)⟩)
              ·replace c17 := Bool.eq_false_iff.mpr c17;subst c17;(have H1 : (if x6_4 > 0 then (some false) else (F28.l0 kj14 l0 (l0.length : Int) x4_12 (wrap64 (x5_1 + 1)))) = some r := by rw [if_neg (show ¬ (false = true) by decide)] at H; exact H);clear H;have H := H1;clear H1;by_cases c23 : x6_4 > 0
               ·rw [if_pos c23] at H;have c23b0 : decide (0 < x6_4) = true := decide_eq_true c23;clear c23;obtain rfl := Option.some.inj H;go_wp2;go_ret;exact ⟨by first | rfl | (simp; done) | (simp [*]; done), by repeat (first | exact D0w.refl _ | apply D0w.step)⟩
               ·rw [if_neg c23] at H;have c23b0 : decide (0 < x6_4) = false := decide_eq_false c23;clear c23;have H':=zM H;clear H;go_wp2;go_roundg kj14
                case measure => have := HK1.out; have := HJ4.out; have := HJ12.out; have := HK4.out; have := HJ14.out; omega
                case rel => exact ⟨(x4_12), (wrap64 (x5_1 + 1)), zs7, zs7, H', ⟨by have := HK1.out; have := HJ4.out; have := HJ12.out; have := HK4.out; have := HJ14.out; omega⟩, by repeat (first | exact D0w.refl _ | apply D0w.step)⟩
    ·rw [if_neg c4] at H;have c4b0 := decide_eq_false c4;clear c4;obtain rfl := Option.some.inj H;go_wp2;go_ret;exact ⟨by first | rfl | (simp; done) | (simp [*]; done), by repeat (first | exact D0w.refl _ | apply D0w.step)⟩
 ·replace c3 := Bool.eq_false_iff.mpr c3;subst c3;(have H1 : (some false) = some r := by rw [if_neg (show ¬ (false = true) by decide)] at H; exact H);clear H;have H := H1;clear H1;obtain rfl := Option.some.inj H;go_enter Tryz.func28, Tryz.ntmps28;go_wp2_with (first | (refine zg 49 (some 11) Tryz.func49 #[.int .i64 (l0.length : Int), .int .i64 1, .int .i64 8] ?_; (with_reducible refine (F49.calls (l0.length : Int) 1 8 false _ A2.out).mono ?_); rintro e w' ⟨rfl, ⟨nd, rfl⟩⟩; refine ⟨_, rfl, ?_⟩));go_ret;exact ⟨by first | rfl | (simp; done) | (simp [*]; done), by repeat (first | exact D0w.refl _ | apply D0w.step)⟩
end Go.Proofs.YtnpoeeliaolbaaaGreatDoor.LA
