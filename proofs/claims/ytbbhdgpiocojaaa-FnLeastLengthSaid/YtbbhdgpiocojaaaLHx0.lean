/- Printed by a program of this session (wip/lp/lp.py) out of the translation: functions with the same answers as the Go code, and their contracts; no conditions beyond those that each theorem names. -/
import Derived.Test.YtbbhdgpiocojaaaProg
import Derived.Below
import Derived.Deep.Draws
import Derived.Deep.AppendLies
import Derived.Maps.AppendAt
import Derived.OwnWalk
import Derived.Laws.BytesArg
import Derived.Laws.MakeOwn
import Derived.Laws.OwnMore
import Derived.Deep.OwnRows
import Derived.Tactics
import Derived.Lib.ConvBytes
import Derived.Laws.Slices
import Derived.WalkKit
import Derived.KernelRfl
import Derived.RowKit3
import Derived.Deep.LoopGhost
import Derived.Deep.QuietTactic
import Derived.BigQuiet
import Derived.WideLaws
import Derived.Deep.DeepCutAuto
import Derived.Deep.CutBlock
import Derived.Deep.RegionHeld3
import Derived.Laws.Rows
import Derived.Lib.AppendStr
import Derived.ArgAppend
import Derived.Laws.IdiomCopy
import Derived.OrdersHeld
import Derived.Laws.BitsLemmas
import Derived.RowKit
import Derived.Test.YtbbhdgpiocojaaaUCutRow
import Derived.Test.YtbbhdgpiocojaaaUPop
import Derived.Test.YtbbhdgpiocojaaaUCloneRow
import Derived.Shelf.Strconv.AtoiAll
import Derived.Shelf.Small.Bits
import Derived.Test.YtbbhdgpiocojaaaUClip
import Derived.WalkSpells
import Derived.LoopTactic
import Derived.Shelf.Strings.Cut
import Derived.Deep.RegionLaw
import Derived.Deep.DrawnRows
import Derived.RegionTactic
import Derived.BigRegion
import Derived.Outline
import Derived.Shelf.Strconv.Itoa3
import Derived.Test.YtbbhdgpiocojaaaULawStep
import Derived.Shelf.SlIterI.Collect
import Derived.Shelf.Strings.Split
import Derived.Test.YtbbhdgpiocojaaaUWords
import Derived.Test.YtbbhdgpiocojaaaULast
import Derived.Test.YtbbhdgpiocojaaaUTab
import Derived.Test.YtbbhdgpiocojaaaUFour
import Derived.Test.YtbbhdgpiocojaaaUQPut
import Derived.Test.YtbbhdgpiocojaaaUApart
import Derived.Test.YtbbhdgpiocojaaaUArr
import Derived.Test.YtbbhdgpiocojaaaUZeros
import Derived.Test.YtbbhdgpiocojaaaUFoot
import Derived.Test.YtbbhdgpiocojaaaUKept
import Derived.Test.YtbbhdgpiocojaaaUShare
import Derived.Test.YtbbhdgpiocojaaaUN
import Derived.Test.YtbbhdgpiocojaaaUFootNe
import Derived.Test.YtbbhdgpiocojaaaUAt
import Derived.Test.YtbbhdgpiocojaaaUEqStruct
import Derived.Test.YtbbhdgpiocojaaaURepsOne
import Derived.Test.YtbbhdgpiocojaaaUInv
import Derived.Test.YtbbhdgpiocojaaaUInvWords
import Derived.Test.YtbbhdgpiocojaaaUGuard
import Derived.Test.YtbbhdgpiocojaaaUNEv
import Derived.Test.YtbbhdgpiocojaaaUMore
namespace Go.Proofs.Ytbbhdgpiocojaaa.LH
open Go.RowKit Go.Proofs.YtbbhdgpiocojaaaV.PrintWords Go.Proofs.YtbbhdgpiocojaaaV.PrintLast Go.Proofs.YtbbhdgpiocojaaaV.PrintMore
attribute [local go_sem] max2_int min2_int max_two min_two max_three min_three max_four min_four   -- for this text's walks alone
set_option linter.unusedVariables false
set_option linter.unusedSimpArgs false



def errW : Option Int → Value
  | none => .nilIface
  | some c => .iface 0 (.int .i64 c)
theorem errW_none : errW none = .nilIface := rfl
theorem errW_some (c : Int) : errW (some c) = .iface 0 (.int .i64 c) := rfl

theorem info3 : (Try.prog.info? 3).map (fun i => (i.zero, i.size, i.bytes)) = some (some (.int .i64 0), 1, 8) := by kernel_rfl
theorem info5 : (Try.prog.info? 5).map (fun i => (i.zero, i.size, i.bytes)) = some (some (.int .u8 0), 1, 1) := by kernel_rfl
theorem info22 : (Try.prog.info? 22).map (fun i => (i.zero, i.size, i.bytes)) = some (some (.slice none 0 0), 1, 24) := by kernel_rfl
theorem info23 : (Try.prog.info? 23).map (fun i => (i.zero, i.size, i.bytes)) = some (some (.slice none 0 0), 1, 24) := by kernel_rfl
-- the values' own types
def rd_L1 (xs : List (List Int)) (i : Int) : (List Int) := xs.getD i.toNat ([] : List Int)
theorem at_L1 {w : World} {A : Option Addr} {n : Nat} {xs : List (List Int)} (h : Kd.C (Kd.slice 3 (Kd.int .i64)) w A n xs) (i : Int) (h0 : 0 ≤ i) (h1 : i < n) : ∃ ad A0 c0, A = some ad ∧ w.cell? (ad.add i.toNat) = some (.slice A0 (rd_L1 xs i).length c0) ∧ (rd_L1 xs i).length ≤ c0 ∧ (Kd.int .i64).C w A0 (rd_L1 xs i).length (rd_L1 xs i) := by
  obtain ⟨ad, c, e, _, hK, hc0⟩ := Kd.C_get h ([] : List Int) i h0 h1
  have hc : ∀ j u, c[j]? = some u → w.cell? (ad.add (i.toNat * 1 + j)) = some u := hc0
  obtain ⟨A0, c0, rfl, l0, g0⟩ := hK
  exact ⟨ad, A0, c0, e, by have hq := hc 0 _ rfl; rwa [Nat.mul_one, Nat.add_zero] at hq, l0, g0⟩

theorem zb {α β : Type} {o : Option α} {f : α → Option β} {r : β} (h : o.bind f = some r) : ∃ t, Aside0 (o = some t) ∧ f t = some r := by obtain ⟨t, a, b⟩ := Option.bind_eq_some_iff.mp h; exact ⟨t, ⟨a⟩, b⟩
theorem zg {P : Program} {ops : Array Oper} {Q : Exit → Act → World → Prop} {w : World} {rest : List Oper} {oi : Oper} {a : Act} (f : FuncId) (N : Option Tmp) {fn : Func} {xs : Array Operand} {ts : Array TypeId} (hf : P.funcs[f]? = some fn) (args : Array Value)
  (h : Calls P f args w fun e w' => ∃ v, e = .returned v ∧ wpList P ops Q rest (a.put N v) w')
  (hop : oi.op = .call { callee := .value (.func f), args := xs, argTypes := ts } := by with_reducible rfl) (hd : oi.dst = N := by rfl) (hg : oi.guard = none := by rfl) (hname : (fn.name == "runtime.NumGoroutine") = false := by kernel_rfl) (hb : fn.body.isSome = true := by rfl)
  (hargs : xs.map a.eval = args := by (try simp only [List.map_toArray, List.map_cons, List.map_nil]); first | done | rfl | (simp only [List.length_drop, List.length_take]; rfl)) : wpList P ops Q (oi :: rest) a w := goesL_ N hd hg hf hname hb args hop hargs h
theorem zp {P : Program} {ops : Array Oper} {md : Region.Mode} {Q : Exit → Act → World → Prop} {S : World → Prop} {ds : List Nat} {oi : Oper} {v : Value} {fuel : Nat} {l : Array Bool} {a a' : Act} {w : World} {T : Bool × List (List Nat × List Nat)} (i : Nat) (N : Option Tmp) (l' : Array Bool) (hT : Aside0 (rtab md ops = T))
  (h : wpAnyLast P md ops Q S ds fuel l' a' w) (hi : ops[i]? = some oi := by rfl) (hN : oi.dst = N := by rfl) (hc : anyT T l.toList l'.toList i = true := by kernel_rfl)
  (hQ : ∀ c a w, Q (.panic c) (a.put oi.dst v) w → Q (.panic c) a w := by exact fun _ _ _ h => h) (hg : Region.wanted oi (yielded ops a.tmps) = true := by rfl) (hy : ∀ w', (execOp a.eval oi).run P w' = .ok (.value v) w' := by (intro w'; go_simp; with_reducible rfl)) (ha : a.put N v = a' := by (simp only [Act.put, List.setIfInBounds_toArray, List.set_cons_zero, List.set_cons_succ, i64_w, i32_w]; rfl)) : wpAnyLast P md ops Q S ds (fuel + 1) l a w := pure_ l' hi hN (any_of hT.out hc) hQ (Or.inl ⟨hg, hy⟩) ha h
theorem zy {α β : Type} {x : α} {f : α → Option β} {r : β} (h : (some x).bind f = some r) : ∃ y, Aside0 (y = x) ∧ f y = some r := ⟨x, ⟨rfl⟩, h⟩
theorem zri {R : Int → List Value → Prop} {k : IntKind} : ∀ xs : List Int, (∀ x, R x [.int k x]) → Reps R 1 xs (xs.map (.int k))
 | [], _ => Reps.none _ _
 | x :: l, h => Reps.one (h x) (zri l h)
theorem zn {P : Prop} [Decidable P] {α : Type} {a : Option α} {r : α} (h : (if P then a else none) = some r) : P ∧ a = some r := by by_cases c : P <;> simp_all
theorem zo {P : Prop} [Decidable P] {α : Type} {a : Option α} {r : α} (h : (if P then none else a) = some r) : ¬ P ∧ a = some r := by by_cases c : P <;> simp_all
theorem zrR {α : Type} {d : Kd α} {e n : Nat} {ok : Nat → Prop} {v : Value} {xs : List α} {w1 w w' : World} (x : Aside0 (Kd.R d e w1 n ok v xs)) (hb : Below w.heap.size w w') (h : Kd.R d e w1 n ok v xs → Kd.R d e w n ok v xs := by (intro z_; (with_reducible repeat (first | apply Kd.R_alloc | apply Kd.R_drewN | apply Kd.R_drew)); exact z_)) : Aside0 (Kd.R d e w' n ok v xs) := ⟨Kd.R_below (h x.out) hb⟩
theorem zv {P : Program} {ops : Array Oper} {Q : Exit → Act → World → Prop} {w : World} {oi : Oper} {N : Option Tmp} {a : Act} {K : Act → World → Prop} {f : FuncId} {fn : Func} {xs : Array Operand} {ts : Array TypeId} (hf : P.funcs[f]? = some fn) (args : Array Value)
  (h : Calls P f args w fun e w' => ∃ v, e = .returned v ∧ K (a.put N v) w') (hname : (fn.name == "runtime.NumGoroutine") = false := by kernel_rfl) (hb : fn.body.isSome = true := by rfl) (hw : Region.wanted oi (yielded ops a.tmps) = true := by rfl) (hN : oi.dst = N := by rfl) (hop : oi.op = .call { callee := .value (.func f), args := xs, argTypes := ts } := by rfl)
  (hargs : xs.map a.eval = args := by (try simp only [List.map_toArray, List.map_cons, List.map_nil]); first | done | rfl | (simp only [List.length_drop, List.length_take]; rfl)) : if Region.wanted oi (yielded ops a.tmps) = true then Oper.wp P oi a w K Q else K (a.put N undef) w := goes_ hf hname hb args hw hN hop hargs h
theorem zt {P : Program} {ops : Array Oper} {md : Region.Mode} {Q : Exit → Act → World → Prop} {S : World → Prop} {ds : List Nat} {oi : Oper} {v : Value} {fuel : Nat} {l : Array Bool} {a a' : Act} {w : World} {T : Bool × List (List Nat × List Nat)} {B : List Nat} (i : Nat) (N : Option Tmp) (l' : Array Bool) (hT : Aside0 (rtab md ops = T)) (hB : Aside0 (waitsOk T.2 B = true)) (hS : S w) (hi : ops[i]? = some oi)
  (h : wpAnyLast P md ops Q S ds fuel l' a' w) (hN : oi.dst = N := by rfl) (hc : takeW T B ds l.toList l'.toList i = true := by kernel_rfl)
  (hQ : ∀ c a w, Q (.panic c) (a.put oi.dst v) w → Q (.panic c) a w := by exact fun _ _ _ h => h) (hg : Region.wanted oi (yielded ops a.tmps) = true := by rfl) (hy : ∀ w', S w' → (execOp a.eval oi).run P w' = .ok (.value v) w') (ha : a.put N v = a' := by (simp only [Act.put, List.setIfInBounds_toArray, List.set_cons_zero, List.set_cons_succ, i64_w, i32_w]; rfl)) : wpAnyLast P md ops Q S ds (fuel + 1) l a w := take_ l' hi hN (take_ofW hT.out hB.out hc) hQ (Or.inl ⟨hg, hy⟩) hS ha h
theorem zq {P : Program} {ops : Array Oper} {md : Region.Mode} {Q : Exit → Act → World → Prop} {S : World → Prop} {ds : List Nat} {fuel : Nat} {l : Array Bool} {b a' : Act} {v : Value} {w : World} (N : Option Tmp) (h : wpAnyLast P md ops Q S ds fuel l a' w) (ha : b.put N v = a' := by (simp only [Act.put, List.setIfInBounds_toArray, List.set_cons_zero, List.set_cons_succ, i64_w, i32_w]; rfl)) : wpAnyLast P md ops Q S ds fuel l (b.put N v) w := norm_ ha h
theorem zd {P : Prop} (h : P := by decide) : P := h
theorem zk {P : Prop} (h : P := by kernel_rfl) : P := h
theorem zo_ {P : Prop} (h : P := by omega) : P := h
theorem zmono {P : Prop} (h : P := by repeat' first | (with_reducible exact LeO.refl _) | (with_reducible exact LeO.none _) | (with_reducible refine LeO.ite ?_ ?_) | (with_reducible refine LeO.bind ?_ (fun _ => ?_)) | (with_reducible apply_assumption) | refine LeO.ite ?_ ?_ | refine LeO.bind ?_ (fun _ => ?_)) : P := h
def zL (n m : Nat) : Array Bool := ((List.range n).map m.testBit).toArray
abbrev zA := @pw_below_drewN
abbrev zB := @below_alloc
abbrev zC := @below_drew1
abbrev zD := @below_set
abbrev zE := @List.setIfInBounds_toArray
abbrev zF := @List.set_cons_zero
abbrev zG := @List.set_cons_succ
abbrev zM := @Aside0.mk
theorem zs0 {P : Prop} (h : P := by first | rfl | (simp; done) | (simp [*]; done)) : P := h
theorem zs1 {P : Prop} (h : P := by first | (with_reducible assumption) | assumption) : P := h
theorem zs2 {P : Prop} (h : P := by first | omega | exact Nat.le_refl _) : P := h
theorem zs3 {A0 B : Prop} (x0 : Aside0 A0) (h : A0 → B := by (intro z0_; repeat (first | exact z0_ | (with_reducible refine Kd.C_alloc ?_ _) | (with_reducible refine Kd.C_drewN ?_ _) | (with_reducible refine Kd.C_drew ?_)))) : B := h x0.out
theorem zs4 {P : Prop} (h : P := by rfl) : P := h
theorem zs5 {P : Prop} (h : P := by first | (go_simp; done) | (go_simp; rfl)) : P := h
theorem zs6 {A0 B : Prop} (x0 : Aside0 A0) (h : A0 → B := by (intro z0_; repeat (first | (with_reducible first | exact z0_ | apply below_alloc | apply pw_below_drewN | apply below_drew1) | exact z0_))) : B := h x0.out
theorem zs7 {A0 B : Prop} (x0 : Aside0 A0) (h : A0 → B := by (intro z0_; repeat (first | exact (Kd.R_reads' z0_).2.2 | (with_reducible refine Kd.C_alloc ?_ _) | (with_reducible refine Kd.C_drewN ?_ _) | (with_reducible refine Kd.C_drew ?_)))) : B := h x0.out
theorem zs8 {A0 B : Prop} (x0 : Aside0 A0) (h : A0 → B := by (intro z0_; (with_reducible repeat (first | apply Kd.R_alloc | apply Kd.R_drewN | apply Kd.R_drew)); exact z0_)) : B := h x0.out
theorem zs9 {P : Prop} (h : P := by first | rfl | (simp [errW_none, errW_some] <;> rfl) | (simp [*, errW_none, errW_some] <;> rfl)) : P := h
theorem zs10 {A0 A1 B : Prop} (x0 : Aside0 A0) (x1 : Aside0 A1) (h : A0 → A1 → B := by (intro z0_ z1_; repeat (first | exact (Kd.C_below z0_ z1_) | (with_reducible refine Kd.C_alloc ?_ _) | (with_reducible refine Kd.C_drewN ?_ _) | (with_reducible refine Kd.C_drew ?_)))) : B := h x0.out x1.out
theorem zs11 {A0 B : Prop} (x0 : Aside0 A0) (h : A0 → B := by (intro z0_; (with_reducible repeat (first | apply Kd.R_alloc | apply Kd.R_drewN | apply Kd.R_drew)); exact Kd.R_mono z0_ (fun _ hk => hk.2))) : B := h x0.out
theorem zs12 {A0 B : Prop} (x0 : Aside0 A0) (h : A0 → B := by (intro z0_; (with_reducible repeat (first | apply Kd.R_alloc | apply Kd.R_drewN | apply Kd.R_drew)); exact Kd.R_mono z0_ (fun _ hk => ⟨trivial, hk⟩))) : B := h x0.out
theorem zs13 {A0 B : Prop} (x0 : Aside0 A0) (h : A0 → B := by (intro z0_; (with_reducible repeat (first | apply Kd.R_alloc | apply Kd.R_drewN | apply Kd.R_drew)); exact Kd.R_mono z0_ (fun _ hk => trivial))) : B := h x0.out
theorem zs14 {A0 B : Prop} (x0 : Aside0 A0) (h : A0 → B := by (intro z0_; repeat (first | (with_reducible first | exact z0_ | apply Kept.alloc | apply Kept.drewN | apply Kept.drew) | exact z0_))) : B := h x0.out
theorem zs15 {A0 B : Prop} (x0 : Aside0 A0) (h : A0 → B := by (intro z0_; (with_reducible repeat (first | apply Kd.R_alloc | apply Kd.R_drewN | apply Kd.R_drew)); exact Kd.R_mono z0_ (fun _ hk => ⟨hk.2, hk.1⟩))) : B := h x0.out
theorem zs16 {A0 B : Prop} (x0 : Aside0 A0) (h : A0 → B := by (intro z0_; (with_reducible repeat (first | apply Kd.R_alloc | apply Kd.R_drewN | apply Kd.R_drew)); exact Kd.R_mono z0_ (fun _ hk => hk.1))) : B := h x0.out
theorem zs17 {A0 B : Prop} (x0 : Aside0 A0) (h : A0 → B := by (intro z0_; (with_reducible repeat (first | apply Kd.R_alloc | apply Kd.R_drewN | apply Kd.R_drew)); exact Kd.R_mono z0_ (fun _ hk => ⟨hk.1.2, hk.2⟩))) : B := h x0.out
theorem zs18 {A0 B : Prop} (x0 : Aside0 A0) (h : A0 → B := by (intro z0_; repeat (first | (with_reducible first | exact z0_ | apply IsS102.alloc | apply IsS102.drewN | apply IsS102.drew | apply IsS102.set_1) | exact z0_))) : B := h x0.out
theorem zs19 {A0 B : Prop} (x0 : Aside0 A0) (h : A0 → B := by (intro z0_; repeat (first | (with_reducible first | exact z0_ | apply KeepBut.set_ | apply keep_drewN | apply keep_drew | apply keep_alloc) | exact z0_))) : B := h x0.out
theorem zs20 {A0 A1 B : Prop} (x0 : Aside0 A0) (x1 : Aside0 A1) (h : A0 → A1 → B := by (intro z0_ z1_; repeat (first | (with_reducible first | exact z0_ | apply below_alloc | apply pw_below_drewN | apply below_drew1 | refine below_set ?_ (IsS102.ge z1_)) | exact z0_))) : B := h x0.out x1.out
theorem zs21 {A0 A1 B : Prop} (x0 : Aside0 A0) (x1 : Aside0 A1) (h : A0 → A1 → B := by (intro z0_ z1_; repeat (first | (with_reducible first | exact z0_ | apply IsS102.alloc | apply IsS102.drewN | apply IsS102.drew | apply IsS102.set_1 | refine IsS102.far ?_ z1_ _) | exact z0_))) : B := h x0.out x1.out
theorem zs22 {A0 A1 B : Prop} (x0 : Aside0 A0) (x1 : Aside0 A1) (h : A0 → A1 → B := by (intro z0_ z1_; repeat (first | (with_reducible first | exact z0_ | apply KeepBut.set_ | apply keep_drewN | apply keep_drew | apply keep_alloc | refine keep_far ?_ z1_ _) | exact z0_))) : B := h x0.out x1.out
theorem zs23 {A0 A1 A2 A3 B : Prop} (x0 : Aside0 A0) (x1 : Aside0 A1) (x2 : Aside0 A2) (x3 : Aside0 A3) (h : A0 → A1 → A2 → A3 → B := by (intro z0_ z1_ z2_ z3_; repeat (first | (with_reducible first | exact z0_ | apply below_alloc | apply pw_below_drewN | apply below_drew1 | refine below_set ?_ (Nat.le_trans z1_ z2_) | refine below_set ?_ (IsS102.ge z3_)) | exact z0_))) : B := h x0.out x1.out x2.out x3.out
theorem zs24 {A0 B : Prop} (x0 : Aside0 A0) (h : A0 → B := by (intro z0_; repeat (first | (with_reducible first | exact z0_ | apply Kept.alloc | apply Kept.drewN | apply Kept.drew | refine Kept.setCell ?_ (.inl (.inr rfl)) _) | exact z0_))) : B := h x0.out

end Go.Proofs.Ytbbhdgpiocojaaa.LH
