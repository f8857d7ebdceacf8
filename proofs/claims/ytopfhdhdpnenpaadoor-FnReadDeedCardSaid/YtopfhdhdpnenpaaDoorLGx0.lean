/- Printed by a program of this session (wip/lp/lp.py) out of the translation: functions with the same answers as the Go code, and their contracts; no conditions beyond those that each theorem names. -/
import Derived.Test.YtopfhdhdpnenpaaDoorProg
import Derived.Below
import Derived.Deep.Draws
import Derived.Deep.AppendLies
import Derived.Maps.AppendAt
import Derived.OwnWalk
import Derived.Laws.BytesArg
import Derived.Laws.MakeOwn
import Derived.Laws.OwnMore
import Derived.Deep.OwnRows
import Derived.Tactics
import Derived.Lib.ConvBytes
import Derived.Laws.Slices
import Derived.WalkKit
import Derived.KernelRfl
import Derived.RowKit3
import Derived.Deep.LoopGhost
import Derived.Deep.QuietTactic
import Derived.BigQuiet
import Derived.WideLaws
import Derived.Deep.DeepCutAuto
import Derived.Deep.CutBlock
import Derived.Deep.RegionHeld3
import Derived.Laws.Rows
import Derived.Lib.AppendStr
import Derived.ArgAppend
import Derived.Laws.IdiomCopy
import Derived.OrdersHeld
import Derived.Laws.BitsLemmas
import Derived.RowKit
import Derived.Test.YtopfhdhdpnenpaaDoorUCutRow
import Derived.Test.YtopfhdhdpnenpaaDoorUPop
import Derived.Test.YtopfhdhdpnenpaaDoorUCloneRow
import Derived.Shelf.Strconv.AtoiAll
import Derived.Shelf.Small.Bits
import Derived.Test.YtopfhdhdpnenpaaDoorUClip
import Derived.WalkSpells
import Derived.LoopTactic
import Derived.Shelf.Strings.Cut
import Derived.Shelf.Strconv.Itoa3
import Derived.Test.YtopfhdhdpnenpaaDoorULawStep
import Derived.Shelf.SlIterI.Collect
import Derived.Shelf.Strings.Split
import Derived.Test.YtopfhdhdpnenpaaDoorUTold
import Derived.Test.YtopfhdhdpnenpaaDoorUWords
import Derived.Test.YtopfhdhdpnenpaaDoorULast
import Derived.Test.YtopfhdhdpnenpaaDoorUTab
import Derived.Test.YtopfhdhdpnenpaaDoorUFour
import Derived.Test.YtopfhdhdpnenpaaDoorUQPut
import Derived.Test.YtopfhdhdpnenpaaDoorUApart
import Derived.Test.YtopfhdhdpnenpaaDoorUArr
import Derived.Test.YtopfhdhdpnenpaaDoorUZeros
import Derived.Test.YtopfhdhdpnenpaaDoorUFoot
import Derived.Test.YtopfhdhdpnenpaaDoorUKept
import Derived.Test.YtopfhdhdpnenpaaDoorUShare
import Derived.Test.YtopfhdhdpnenpaaDoorUN
import Derived.Test.YtopfhdhdpnenpaaDoorUFootNe
import Derived.Test.YtopfhdhdpnenpaaDoorUAt
import Derived.Test.YtopfhdhdpnenpaaDoorUEqStruct
import Derived.Test.YtopfhdhdpnenpaaDoorURepsOne
import Derived.Test.YtopfhdhdpnenpaaDoorUInv
import Derived.Test.YtopfhdhdpnenpaaDoorUInvWords
import Derived.Test.YtopfhdhdpnenpaaDoorUGuard
import Derived.Test.YtopfhdhdpnenpaaDoorUNEv
import Derived.Test.YtopfhdhdpnenpaaDoorUMore
namespace Go.Proofs.YtopfhdhdpnenpaaDoor.LG
open Go.RowKit Go.Proofs.YtopfhdhdpnenpaaDoorV.PrintWords Go.Proofs.YtopfhdhdpnenpaaDoorV.PrintLast Go.Proofs.YtopfhdhdpnenpaaDoorV.PrintMore
attribute [local go_sem] max2_int min2_int max_two min_two max_three min_three max_four min_four   -- for this text's walks alone
set_option linter.unusedVariables false
set_option linter.unusedSimpArgs false



def errW : Option Int → Value
  | none => .nilIface
  | some c => .iface 0 (.int .i64 c)
theorem errW_none : errW none = .nilIface := rfl
theorem errW_some (c : Int) : errW (some c) = .iface 0 (.int .i64 c) := rfl

theorem info3 : (Tryd.prog.info? 3).map (fun i => (i.zero, i.size, i.bytes)) = some (some (.int .i64 0), 1, 8) := by kernel_rfl
theorem info5 : (Tryd.prog.info? 5).map (fun i => (i.zero, i.size, i.bytes)) = some (some (.int .u8 0), 1, 1) := by kernel_rfl
theorem info9 : (Tryd.prog.info? 9).map (fun i => (i.zero, i.size, i.bytes)) = some (some (.string ⟨#[]⟩), 1, 16) := by kernel_rfl
theorem info25 : (Tryd.prog.info? 25).map (fun i => (i.zero, i.size, i.bytes)) = some (some (.agg #[(.int .i64 0), (.int .i64 0), (.int .i64 0)]), 3, 24) := by kernel_rfl
-- the values' own types
/-! #### struct type 25 -/
structure S25 where
  f0 : Int
  f1 : Int
  f2 : Int
def z25 : S25 := ⟨(0 : Int), (0 : Int), (0 : Int)⟩
def k25 : Kd S25 := Kd.iso (Kd.pair (Kd.int .i64) (Kd.pair (Kd.int .i64) (Kd.int .i64))) (fun x : S25 => (x.f0, x.f1, x.f2))
theorem k25_open {w : World} {x : S25} {cs : List Value} (h : k25.K w x cs) : cs = [.int .i64 x.f0, .int .i64 x.f1, .int .i64 x.f2] := by
  obtain ⟨_, _, rfl, rfl, ⟨_, _, rfl, rfl, rfl⟩⟩ := h
  exact rfl
theorem k25_openM {w : World} {base : Nat} {ok : Nat → Prop} {x : S25} {cs : List Value} (h : k25.M w base ok x cs) : cs = [.int .i64 x.f0, .int .i64 x.f1, .int .i64 x.f2] := by
  obtain ⟨_, _, rfl, rfl, ⟨_, _, rfl, rfl, rfl⟩⟩ := h
  exact rfl
theorem k25_mk (w : World) (x : S25)  : k25.K w x [.int .i64 x.f0, .int .i64 x.f1, .int .i64 x.f2] := ⟨[.int .i64 x.f0], [.int .i64 x.f1, .int .i64 x.f2], rfl, rfl, ⟨[.int .i64 x.f1], [.int .i64 x.f2], rfl, rfl, rfl⟩⟩
theorem k25_mkM (w : World) (base : Nat) (ok : Nat → Prop) (x : S25)  : k25.M w base ok x [.int .i64 x.f0, .int .i64 x.f1, .int .i64 x.f2] := ⟨[.int .i64 x.f0], [.int .i64 x.f1, .int .i64 x.f2], rfl, rfl, ⟨[.int .i64 x.f1], [.int .i64 x.f2], rfl, rfl, rfl⟩⟩
def rd_T25 (xs : List S25) (i : Int) : S25 := xs.getD i.toNat z25
theorem at_T25 {w : World} {A : Option Addr} {n : Nat} {xs : List S25} (h : Kd.C k25 w A n xs) (i : Int) (h0 : 0 ≤ i) (h1 : i < n) : ∃ ad , A = some ad ∧ w.cell? (ad.add (i.toNat * 3)) = some (.int .i64 (rd_T25 xs i).f0) ∧ w.cell? ⟨(ad.add (i.toNat * 3)).block, (ad.add (i.toNat * 3)).off + 1, none⟩ = some (.int .i64 (rd_T25 xs i).f1) ∧ w.cell? ⟨(ad.add (i.toNat * 3)).block, (ad.add (i.toNat * 3)).off + 2, none⟩ = some (.int .i64 (rd_T25 xs i).f2) := by
  obtain ⟨ad, c, e, _, hK, hc0⟩ := Kd.C_get h z25 i h0 h1
  have hc : ∀ j u, c[j]? = some u → w.cell? (ad.add (i.toNat * 3 + j)) = some u := hc0
  obtain rfl := k25_open hK
  exact ⟨ad, e, hc 0 _ rfl, by rw [← add_field _ _ 1 (by omega)]; exact hc 1 _ rfl, by rw [← add_field _ _ 2 (by omega)]; exact hc 2 _ rfl⟩

theorem zb {α β : Type} {o : Option α} {f : α → Option β} {r : β} (h : o.bind f = some r) : ∃ t, Aside0 (o = some t) ∧ f t = some r := by obtain ⟨t, a, b⟩ := Option.bind_eq_some_iff.mp h; exact ⟨t, ⟨a⟩, b⟩
theorem zg {P : Program} {ops : Array Oper} {Q : Exit → Act → World → Prop} {w : World} {rest : List Oper} {oi : Oper} {a : Act} (f : FuncId) (N : Option Tmp) {fn : Func} {xs : Array Operand} {ts : Array TypeId} (hf : P.funcs[f]? = some fn) (args : Array Value)
  (h : Calls P f args w fun e w' => ∃ v, e = .returned v ∧ wpList P ops Q rest (a.put N v) w')
  (hop : oi.op = .call { callee := .value (.func f), args := xs, argTypes := ts } := by with_reducible rfl) (hd : oi.dst = N := by rfl) (hg : oi.guard = none := by rfl) (hname : (fn.name == "runtime.NumGoroutine") = false := by kernel_rfl) (hb : fn.body.isSome = true := by rfl)
  (hargs : xs.map a.eval = args := by (try simp only [List.map_toArray, List.map_cons, List.map_nil]); first | done | rfl | (simp only [List.length_drop, List.length_take]; rfl)) : wpList P ops Q (oi :: rest) a w := goesL_ N hd hg hf hname hb args hop hargs h
theorem zp {P : Program} {ops : Array Oper} {md : Region.Mode} {Q : Exit → Act → World → Prop} {S : World → Prop} {ds : List Nat} {oi : Oper} {v : Value} {fuel : Nat} {l : Array Bool} {a a' : Act} {w : World} {T : Bool × List (List Nat × List Nat)} (i : Nat) (N : Option Tmp) (l' : Array Bool) (hT : Aside0 (rtab md ops = T))
  (h : wpAnyLast P md ops Q S ds fuel l' a' w) (hi : ops[i]? = some oi := by rfl) (hN : oi.dst = N := by rfl) (hc : anyT T l.toList l'.toList i = true := by kernel_rfl)
  (hQ : ∀ c a w, Q (.panic c) (a.put oi.dst v) w → Q (.panic c) a w := by exact fun _ _ _ h => h) (hg : Region.wanted oi (yielded ops a.tmps) = true := by rfl) (hy : ∀ w', (execOp a.eval oi).run P w' = .ok (.value v) w' := by (intro w'; go_simp; with_reducible rfl)) (ha : a.put N v = a' := by (simp only [Act.put, List.setIfInBounds_toArray, List.set_cons_zero, List.set_cons_succ, i64_w, i32_w]; rfl)) : wpAnyLast P md ops Q S ds (fuel + 1) l a w := pure_ l' hi hN (any_of hT.out hc) hQ (Or.inl ⟨hg, hy⟩) ha h
theorem zy {α β : Type} {x : α} {f : α → Option β} {r : β} (h : (some x).bind f = some r) : ∃ y, Aside0 (y = x) ∧ f y = some r := ⟨x, ⟨rfl⟩, h⟩
theorem cz0 {w : World} {g : Nat} {t : TypeId} {a : Value} {l : List Value} (h : w.heap[g]? = some (.cells (List.toArray (a :: l)) t (0, 0))) : w.cell? ⟨g, 0, none⟩ = some a := (blk_cell h 0).trans rfl
theorem cz1 {w : World} {g : Nat} {t : TypeId} {a b : Value} {l : List Value} (h : w.heap[g]? = some (.cells (List.toArray (b :: a :: l)) t (0, 0))) : w.cell? ⟨g, 1, none⟩ = some a := (blk_cell h 1).trans rfl
theorem cz2 {w : World} {g : Nat} {t : TypeId} {a b c : Value} {l : List Value} (h : w.heap[g]? = some (.cells (List.toArray (c :: b :: a :: l)) t (0, 0))) : w.cell? ⟨g, 2, none⟩ = some a := (blk_cell h 2).trans rfl
theorem zmono {P : Prop} (h : P := by repeat' first | (with_reducible exact LeO.refl _) | (with_reducible exact LeO.none _) | (with_reducible refine LeO.ite ?_ ?_) | (with_reducible refine LeO.bind ?_ (fun _ => ?_)) | (with_reducible apply_assumption) | refine LeO.ite ?_ ?_ | refine LeO.bind ?_ (fun _ => ?_)) : P := h
def zL (n m : Nat) : Array Bool := ((List.range n).map m.testBit).toArray
abbrev zB := @below_alloc
abbrev zC := @below_drew1
abbrev zD := @below_set
abbrev zE := @List.setIfInBounds_toArray
abbrev zF := @List.set_cons_zero
abbrev zG := @List.set_cons_succ
abbrev zM := @Aside0.mk
theorem zs0 {P : Prop} (h : P := by rfl) : P := h
theorem zs1 {P : Prop} (h : P := by first | (go_simp; done) | (go_simp; rfl)) : P := h
theorem zs2 {A0 B : Prop} (x0 : A0) (h : A0 → B := by (intro z0_; repeat (first | (with_reducible first | exact z0_ | apply below_alloc | apply pw_below_drewN | apply below_drew1) | exact z0_))) : B := h x0
theorem zs3 {P : Prop} (h : P := by first | rfl | (simp [errW_none, errW_some] <;> rfl) | (simp [*, errW_none, errW_some] <;> rfl)) : P := h
theorem zs4 {A0 A1 B : Prop} (x0 : A0) (x1 : A1) (h : A0 → A1 → B := by (intro z0_ z1_; repeat (first | (with_reducible first | exact z0_ | apply below_alloc | apply pw_below_drewN | apply below_drew1 | refine below_set ?_ z1_) | exact z0_))) : B := h x0 x1
theorem zs5 {A0 B : Prop} (x0 : A0) (h : A0 → B := by (intro z0_; (with_reducible repeat (first | refine blk_drewN ?_ _ | refine blk_drew ?_ | refine blk_alloc ?_ _)); exact z0_)) : B := h x0
theorem zs6 {P : Prop} (h : P := by first | rfl | (simp; done) | (simp [*]; done)) : P := h
theorem zs7 {P : Prop} (h : P := by first | omega | exact Nat.le_refl _) : P := h
theorem zs8 {P : Prop} (h : P := by first | (with_reducible assumption) | assumption) : P := h
theorem zs9 {A0 B : Prop} (x0 : A0) (h : A0 → B := by (intro z0_; repeat (first | exact z0_ | (with_reducible refine Kd.C_alloc ?_ _) | (with_reducible refine Kd.C_drewN ?_ _) | (with_reducible refine Kd.C_drew ?_)))) : B := h x0
theorem zs10 {A0 B : Prop} (x0 : A0) (h : A0 → B := by (intro z0_; repeat (first | exact (Kd.R_reads' z0_).2.2 | (with_reducible refine Kd.C_alloc ?_ _) | (with_reducible refine Kd.C_drewN ?_ _) | (with_reducible refine Kd.C_drew ?_)))) : B := h x0
theorem zs11 {A0 B : Prop} (x0 : A0) (h : A0 → B := by (intro z0_; (with_reducible repeat (first | apply Kd.R_alloc | apply Kd.R_drewN | apply Kd.R_drew)); exact z0_)) : B := h x0
theorem zs12 {A0 B : Prop} (x0 : A0) (h : A0 → B := by (intro z0_; exact z0_)) : B := h x0
theorem zs13 {A0 A1 A2 B : Prop} (x0 : A0) (x1 : A1) (x2 : A2) (h : A0 → A1 → A2 → B := by (intro z0_ z1_ z2_; repeat (first | (with_reducible first | exact z0_ | apply below_alloc | apply pw_below_drewN | apply below_drew1 | refine below_set ?_ z1_ | refine below_set ?_ z2_) | exact z0_))) : B := h x0 x1 x2
theorem zs14 {A0 B : Prop} (x0 : A0) (h : A0 → B := by (intro z0_; repeat (first | (with_reducible first | exact z0_ | apply IsS73.alloc | apply IsS73.drewN | apply IsS73.drew | apply IsS73.set_1) | exact z0_))) : B := h x0
theorem zs15 {A0 B : Prop} (x0 : A0) (h : A0 → B := by (intro z0_; repeat (first | (with_reducible first | exact z0_ | apply KeepBut.set_ | apply keep_drewN | apply keep_drew | apply keep_alloc) | exact z0_))) : B := h x0
theorem zs16 {A0 A1 B : Prop} (x0 : A0) (x1 : A1) (h : A0 → A1 → B := by (intro z0_ z1_; repeat (first | (with_reducible first | exact z0_ | apply below_alloc | apply pw_below_drewN | apply below_drew1 | refine below_set ?_ (IsS73.ge z1_)) | exact z0_))) : B := h x0 x1
theorem zs17 {A0 A1 B : Prop} (x0 : A0) (x1 : A1) (h : A0 → A1 → B := by (intro z0_ z1_; repeat (first | (with_reducible first | exact z0_ | apply KeepBut.set_ | apply keep_drewN | apply keep_drew | apply keep_alloc | refine keep_far ?_ z1_ _) | exact z0_))) : B := h x0 x1
theorem zs18 {A0 A1 A2 B : Prop} (x0 : A0) (x1 : A1) (x2 : A2) (h : A0 → A1 → A2 → B := by (intro z0_ z1_ z2_; repeat (first | (with_reducible first | exact z0_ | apply below_alloc | apply pw_below_drewN | apply below_drew1 | refine below_set ?_ (IsS73.ge z1_) | refine below_set ?_ z2_) | exact z0_))) : B := h x0 x1 x2
theorem zs19 {A0 A1 B : Prop} (x0 : A0) (x1 : A1) (h : A0 → A1 → B := by (intro z0_ z1_; repeat (first | (with_reducible first | exact z0_ | apply IsS73.alloc | apply IsS73.drewN | apply IsS73.drew | apply IsS73.set_1 | refine IsS73.far ?_ z1_ _) | exact z0_))) : B := h x0 x1
theorem zs20 {P : Prop} (h : P := by first | (simp only [putAll, Act.put, List.setIfInBounds_toArray, List.set_cons_zero, List.set_cons_succ]; done) | (simp only [putAll, Act.put, List.setIfInBounds_toArray, List.set_cons_zero, List.set_cons_succ]; rfl)) : P := h
theorem zs21 {A0 A1 A2 B : Prop} (x0 : A0) (x1 : A1) (x2 : A2) (h : A0 → A1 → A2 → B := by (intro z0_ z1_ z2_; repeat (first | (with_reducible first | exact z0_ | apply IsS73.alloc | apply IsS73.drewN | apply IsS73.drew | apply IsS73.set_1 | refine IsS73.far ?_ z1_ _ | refine IsS73.far ?_ z2_ _) | exact z0_))) : B := h x0 x1 x2
theorem zs22 {A0 A1 A2 B : Prop} (x0 : A0) (x1 : A1) (x2 : A2) (h : A0 → A1 → A2 → B := by (intro z0_ z1_ z2_; repeat (first | (with_reducible first | exact z0_ | apply KeepBut.set_ | apply keep_drewN | apply keep_drew | apply keep_alloc | refine keep_far ?_ z1_ _ | refine keep_far ?_ z2_ _) | exact z0_))) : B := h x0 x1 x2
theorem zs23 {A0 A1 A2 A3 B : Prop} (x0 : A0) (x1 : A1) (x2 : A2) (x3 : A3) (h : A0 → A1 → A2 → A3 → B := by (intro z0_ z1_ z2_ z3_; repeat (first | (with_reducible first | exact z0_ | apply below_alloc | apply pw_below_drewN | apply below_drew1 | refine below_set ?_ (IsS73.ge z1_) | refine below_set ?_ z2_ | refine below_set ?_ z3_) | exact z0_))) : B := h x0 x1 x2 x3
theorem zs24 {A0 A1 A2 A3 B : Prop} (x0 : A0) (x1 : A1) (x2 : A2) (x3 : A3) (h : A0 → A1 → A2 → A3 → B := by (intro z0_ z1_ z2_ z3_; repeat (first | (with_reducible first | exact z0_ | apply below_alloc | apply pw_below_drewN | apply below_drew1 | refine below_set ?_ (Nat.le_trans z1_ z2_) | refine below_set ?_ (IsS73.ge z3_)) | exact z0_))) : B := h x0 x1 x2 x3
theorem zs25 {A0 A1 B : Prop} (x0 : A0) (x1 : A1) (h : A0 → A1 → B := by (intro z0_ z1_; repeat (first | exact (Kd.C_below z0_ z1_) | (with_reducible refine Kd.C_alloc ?_ _) | (with_reducible refine Kd.C_drewN ?_ _) | (with_reducible refine Kd.C_drew ?_)))) : B := h x0 x1
theorem zs26 {A0 B : Prop} (x0 : A0) (h : A0 → B := by (intro z0_; repeat (first | (with_reducible first | exact z0_ | apply Kept.alloc | apply Kept.drewN | apply Kept.drew | refine Kept.setCell ?_ (.inl (.inr rfl)) _) | exact z0_))) : B := h x0
theorem zs27 {A0 A1 A2 A3 B : Prop} (x0 : A0) (x1 : A1) (x2 : A2) (x3 : A3) (h : A0 → A1 → A2 → A3 → B := by (intro z0_ z1_ z2_ z3_; repeat (first | (with_reducible first | exact z0_ | apply below_alloc | apply pw_below_drewN | apply below_drew1 | refine below_set ?_ z1_ | refine below_set ?_ z2_ | refine below_set ?_ z3_) | exact z0_))) : B := h x0 x1 x2 x3

end Go.Proofs.YtopfhdhdpnenpaaDoor.LG
