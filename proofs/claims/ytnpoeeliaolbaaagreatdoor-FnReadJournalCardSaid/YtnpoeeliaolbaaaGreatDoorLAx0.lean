/- Printed out of the translation: functions with the answers of the Go code, and their contracts; no further conditions. -/
import Derived.Test.YtnpoeeliaolbaaaGreatDoorProg
import Derived.Below
import Derived.Deep.Draws
import Derived.Deep.AppendLies
import Derived.Maps.AppendAt
import Derived.OwnWalk
import Derived.Laws.BytesArg
import Derived.Laws.MakeOwn
import Derived.Laws.OwnMore
import Derived.Deep.OwnRows
import Derived.Tactics
import Derived.Lib.ConvBytes
import Derived.Laws.Slices
import Derived.WalkKit
import Derived.KernelRfl
import Derived.RowKit3
import Derived.Deep.LoopGhost
import Derived.Deep.QuietTactic
import Derived.BigQuiet
import Derived.WideLaws
import Derived.Deep.DeepCutAuto
import Derived.Deep.CutBlock
import Derived.Deep.RegionHeld3
import Derived.Laws.Rows
import Derived.Lib.AppendStr
import Derived.ArgAppend
import Derived.Laws.IdiomCopy
import Derived.OrdersHeld
import Derived.Laws.BitsLemmas
import Derived.RowKit
import Derived.Test.YtnpoeeliaolbaaaGreatDoorUCutRow
import Derived.Test.YtnpoeeliaolbaaaGreatDoorUPop
import Derived.Test.YtnpoeeliaolbaaaGreatDoorUCloneRow
import Derived.Shelf.Strconv.AtoiAll
import Derived.Shelf.Small.Bits
import Derived.Test.YtnpoeeliaolbaaaGreatDoorUClip
import Derived.WalkSpells
import Derived.LoopTactic
import Derived.Shelf.Strings.Cut
import Derived.Deep.RegionLaw
import Derived.Deep.DrawnRows
import Derived.RegionTactic
import Derived.BigRegion
import Derived.Outline
import Derived.Shelf.Strconv.Itoa3
import Derived.Test.YtnpoeeliaolbaaaGreatDoorULawStep
import Derived.Shelf.SlIterI.Collect
import Derived.Shelf.Strings.Split
import Derived.Test.YtnpoeeliaolbaaaGreatDoorUTold
import Derived.Test.YtnpoeeliaolbaaaGreatDoorUWords
import Derived.Test.YtnpoeeliaolbaaaGreatDoorULast
import Derived.Test.YtnpoeeliaolbaaaGreatDoorUTab
import Derived.Test.YtnpoeeliaolbaaaGreatDoorUFour
import Derived.Test.YtnpoeeliaolbaaaGreatDoorUQPut
import Derived.Test.YtnpoeeliaolbaaaGreatDoorUApart
import Derived.Test.YtnpoeeliaolbaaaGreatDoorUArr
import Derived.Test.YtnpoeeliaolbaaaGreatDoorUZeros
import Derived.Test.YtnpoeeliaolbaaaGreatDoorUFoot
import Derived.Test.YtnpoeeliaolbaaaGreatDoorUKept
import Derived.Test.YtnpoeeliaolbaaaGreatDoorUShare
import Derived.Test.YtnpoeeliaolbaaaGreatDoorUN
import Derived.Test.YtnpoeeliaolbaaaGreatDoorUFootNe
import Derived.Test.YtnpoeeliaolbaaaGreatDoorUAt
import Derived.Test.YtnpoeeliaolbaaaGreatDoorUEqStruct
import Derived.Test.YtnpoeeliaolbaaaGreatDoorURepsOne
import Derived.Test.YtnpoeeliaolbaaaGreatDoorUInv
import Derived.Test.YtnpoeeliaolbaaaGreatDoorUInvWords
import Derived.Test.YtnpoeeliaolbaaaGreatDoorUGuard
import Derived.Test.YtnpoeeliaolbaaaGreatDoorUNEv
import Derived.Test.YtnpoeeliaolbaaaGreatDoorUMore
namespace Go.Proofs.YtnpoeeliaolbaaaGreatDoor.LA
open Go.RowKit Go.Proofs.YtnpoeeliaolbaaaGreatDoorV.PrintWords Go.Proofs.YtnpoeeliaolbaaaGreatDoorV.PrintLast Go.Proofs.YtnpoeeliaolbaaaGreatDoorV.PrintMore
attribute [local go_sem] max2_int min2_int max_two min_two max_three min_three max_four min_four
set_option linter.unusedVariables false
set_option linter.unusedSimpArgs false
def errW : Option Int → Value
  | none => .nilIface
  | some c => .iface 0 (.int .i64 c)
theorem eN : errW none = .nilIface := rfl
theorem eS (c : Int) : errW (some c) = .iface 0 (.int .i64 c) := rfl
theorem info3 : (Tryz.prog.info? 3).map (fun i => (i.zero, i.size, i.bytes)) = some (some (.int .i64 0), 1, 8) := by kernel_rfl
theorem info5 : (Tryz.prog.info? 5).map (fun i => (i.zero, i.size, i.bytes)) = some (some (.int .u8 0), 1, 1) := by kernel_rfl
theorem info9 : (Tryz.prog.info? 9).map (fun i => (i.zero, i.size, i.bytes)) = some (some (.string ⟨#[]⟩), 1, 16) := by kernel_rfl
theorem info28 : (Tryz.prog.info? 28).map (fun i => (i.zero, i.size, i.bytes)) = some (some (.slice none 0 0), 1, 24) := by kernel_rfl
theorem info39 : (Tryz.prog.info? 39).map (fun i => (i.zero, i.size, i.bytes)) = some (some (.agg #[(.int .i64 0), (.int .i64 0), (.int .i64 0)]), 3, 24) := by kernel_rfl
-- the values' own types
structure S39 where
  f0 : Int
  f1 : Int
  f2 : Int
def z39 : S39 := ⟨(0 : Int), (0 : Int), (0 : Int)⟩
def k39 : Kd S39 := Kd.iso (Kd.pair (Kd.int .i64) (Kd.pair (Kd.int .i64) (Kd.int .i64))) (fun x : S39 => (x.f0, x.f1, x.f2))
theorem k39_open {w : World} {x : S39} {cs : List Value} (h : k39.K w x cs) : cs = [.int .i64 x.f0, .int .i64 x.f1, .int .i64 x.f2] := by
  obtain ⟨_, _, rfl, rfl, ⟨_, _, rfl, rfl, rfl⟩⟩ := h
  exact rfl
theorem k39_openM {w : World} {base : Nat} {ok : Nat → Prop} {x : S39} {cs : List Value} (h : k39.M w base ok x cs) : cs = [.int .i64 x.f0, .int .i64 x.f1, .int .i64 x.f2] := by
  obtain ⟨_, _, rfl, rfl, ⟨_, _, rfl, rfl, rfl⟩⟩ := h
  exact rfl
theorem k39_mk (w : World) (x : S39)  : k39.K w x [.int .i64 x.f0, .int .i64 x.f1, .int .i64 x.f2] := ⟨[.int .i64 x.f0], [.int .i64 x.f1, .int .i64 x.f2], rfl, rfl, ⟨[.int .i64 x.f1], [.int .i64 x.f2], rfl, rfl, rfl⟩⟩
theorem k39_mkM (w : World) (base : Nat) (ok : Nat → Prop) (x : S39)  : k39.M w base ok x [.int .i64 x.f0, .int .i64 x.f1, .int .i64 x.f2] := ⟨[.int .i64 x.f0], [.int .i64 x.f1, .int .i64 x.f2], rfl, rfl, ⟨[.int .i64 x.f1], [.int .i64 x.f2], rfl, rfl, rfl⟩⟩
theorem k39_mkF (W : World) (ok : Nat → Prop) (x : S39) : Kd.FK k39 W ok x [.int .i64 x.f0, .int .i64 x.f1, .int .i64 x.f2] := fun W2 _ => k39_mk W2 x
def r9 (xs : List S39) (i : Int) : S39 := xs.getD i.toNat z39
theorem at_T39 {w : World} {A : Option Addr} {n : Nat} {xs : List S39} (h : Kd.C k39 w A n xs) (i : Int) (h0 : 0 ≤ i) (h1 : i < n) : ∃ ad , A = some ad ∧ w.cell? (ad.add (i.toNat * 3)) = some (.int .i64 (r9 xs i).f0) ∧ w.cell? ⟨(ad.add (i.toNat * 3)).block, (ad.add (i.toNat * 3)).off + 1, none⟩ = some (.int .i64 (r9 xs i).f1) ∧ w.cell? ⟨(ad.add (i.toNat * 3)).block, (ad.add (i.toNat * 3)).off + 2, none⟩ = some (.int .i64 (r9 xs i).f2) := by
  obtain ⟨ad, c, e, _, hK, hc0⟩ := Kd.C_get h z39 i h0 h1
  have hc : ∀ j u, c[j]? = some u → w.cell? (ad.add (i.toNat * 3 + j)) = some u := hc0
  obtain rfl := k39_open hK
  exact ⟨ad, e, hc 0 _ rfl, by rw [← add_field _ _ 1 (by omega)]; exact hc 1 _ rfl, by rw [← add_field _ _ 2 (by omega)]; exact hc 2 _ rfl⟩
def rd_L4 (xs : List (List Int)) (i : Int) : (List Int) := xs.getD i.toNat ([] : List Int)
theorem at_L4 {w : World} {A : Option Addr} {n : Nat} {xs : List (List Int)} (h : Kd.C (Kd.slice 3 (Kd.int .i64)) w A n xs) (i : Int) (h0 : 0 ≤ i) (h1 : i < n) : ∃ ad A0 c0, A = some ad ∧ w.cell? (ad.add i.toNat) = some (.slice A0 (rd_L4 xs i).length c0) ∧ (rd_L4 xs i).length ≤ c0 ∧ (Kd.int .i64).C w A0 (rd_L4 xs i).length (rd_L4 xs i) := by
  obtain ⟨ad, c, e, _, hK, hc0⟩ := Kd.C_get h ([] : List Int) i h0 h1
  have hc : ∀ j u, c[j]? = some u → w.cell? (ad.add (i.toNat * 1 + j)) = some u := hc0
  obtain ⟨A0, c0, rfl, l0, g0⟩ := hK
  exact ⟨ad, A0, c0, e, by have hq := hc 0 _ rfl; rwa [Nat.mul_one, Nat.add_zero] at hq, l0, g0⟩
theorem zb {α β : Type} {o : Option α} {f : α → Option β} {r : β} (h : o.bind f = some r) : ∃ t, Qo (o = some t) ∧ f t = some r := by obtain ⟨t, a, b⟩ := Option.bind_eq_some_iff.mp h; exact ⟨t, ⟨a⟩, b⟩
theorem zg {P : Program} {ops : Array Oper} {Q : Exit → Act → World → Prop} {w : World} {rest : List Oper} {oi : Oper} {a : Act} (f : FuncId) (N : Option Tmp) {fn : Func} {xs : Array Operand} {ts : Array TypeId} (hf : P.funcs[f]? = some fn) (args : Array Value)
  (h : Calls P f args w fun e w' => ∃ v, e = .returned v ∧ wpList P ops Q rest (a.put N v) w')
  (hop : oi.op = .call { callee := .value (.func f), args := xs, argTypes := ts } := by with_reducible rfl) (hd : oi.dst = N := by rfl) (hg : oi.guard = none := by rfl) (hname : (fn.name == "runtime.NumGoroutine") = false := by kernel_rfl) (hb : fn.body.isSome = true := by rfl)
  (hargs : xs.map a.eval = args := by (try simp only [List.map_toArray, List.map_cons, List.map_nil]); first | done | rfl | (simp only [List.length_drop, List.length_take]; rfl)) : wpList P ops Q (oi :: rest) a w := goesL_ N hd hg hf hname hb args hop hargs h
theorem zp {P : Program} {ops : Array Oper} {md : Region.Mode} {Q : Exit → Act → World → Prop} {S : World → Prop} {ds : List Nat} {oi : Oper} {v : Value} {fuel : Nat} {l : Array Bool} {a a' : Act} {w : World} {T : Bool × List (List Nat × List Nat)} (i : Nat) (N : Option Tmp) (l' : Array Bool) (hT : Qo (rtab md ops = T))
  (h : wL P md ops Q S ds fuel l' a' w) (hi : ops[i]? = some oi := by rfl) (hN : oi.dst = N := by rfl) (hc : anyT T l.toList l'.toList i = true := by kernel_rfl)
  (hQ : ∀ c a w, Q (.panic c) (a.put oi.dst v) w → Q (.panic c) a w := by exact fun _ _ _ h => h) (hg : Region.wanted oi (yielded ops a.tmps) = true := by rfl) (hy : ∀ w', (execOp a.eval oi).run P w' = .ok (.value v) w' := by (intro w'; go_simp; with_reducible rfl)) (ha : a.put N v = a' := by (simp only [Act.put, List.setIfInBounds_toArray, List.set_cons_zero, List.set_cons_succ, i64_w, i32_w]; rfl)) : wL P md ops Q S ds (fuel + 1) l a w := pure_ l' hi hN (any_of hT.out hc) hQ (Or.inl ⟨hg, hy⟩) ha h
theorem zy {α β : Type} {x : α} {f : α → Option β} {r : β} (h : (some x).bind f = some r) : ∃ y, Qo (y = x) ∧ f y = some r := ⟨x, ⟨rfl⟩, h⟩
theorem zri {R : Int → List Value → Prop} {k : IntKind} : ∀ xs : List Int, (∀ x, R x [.int k x]) → Reps R 1 xs (xs.map (.int k))
 | [], _ => Reps.none _ _
 | x :: l, h => Reps.one (h x) (zri l h)
theorem zn {P : Prop} [Decidable P] {α : Type} {a : Option α} {r : α} (h : (if P then a else none) = some r) : P ∧ a = some r := by by_cases c : P <;> simp_all
theorem zo {P : Prop} [Decidable P] {α : Type} {a : Option α} {r : α} (h : (if P then none else a) = some r) : ¬ P ∧ a = some r := by by_cases c : P <;> simp_all
theorem cz0 {w : World} {g : Nat} {t : TypeId} {a : Value} {l : List Value} (h : w.heap[g]? = some (.cells (List.toArray (a :: l)) t (0, 0))) : w.cell? ⟨g, 0, none⟩ = some a := (bC h 0).trans rfl
theorem cz1 {w : World} {g : Nat} {t : TypeId} {a b : Value} {l : List Value} (h : w.heap[g]? = some (.cells (List.toArray (b :: a :: l)) t (0, 0))) : w.cell? ⟨g, 1, none⟩ = some a := (bC h 1).trans rfl
theorem cz2 {w : World} {g : Nat} {t : TypeId} {a b c : Value} {l : List Value} (h : w.heap[g]? = some (.cells (List.toArray (c :: b :: a :: l)) t (0, 0))) : w.cell? ⟨g, 2, none⟩ = some a := (bC h 2).trans rfl
theorem cy0 {w : World} {g : Nat} {t : TypeId} {a : Value} {l : List Value} (h : w.heap[g]? = some (.cells (List.toArray (a :: l)) t (0, 0))) : w.cell? ⟨g, 0, none⟩ = some a ∧ w.frozen? ⟨g, 0, none⟩ = false := ⟨(bC h 0).trans rfl, bF h 0⟩
theorem cy1 {w : World} {g : Nat} {t : TypeId} {a b : Value} {l : List Value} (h : w.heap[g]? = some (.cells (List.toArray (b :: a :: l)) t (0, 0))) : w.cell? ⟨g, 1, none⟩ = some a ∧ w.frozen? ⟨g, 1, none⟩ = false := ⟨(bC h 1).trans rfl, bF h 1⟩
theorem cy2 {w : World} {g : Nat} {t : TypeId} {a b c : Value} {l : List Value} (h : w.heap[g]? = some (.cells (List.toArray (c :: b :: a :: l)) t (0, 0))) : w.cell? ⟨g, 2, none⟩ = some a ∧ w.frozen? ⟨g, 2, none⟩ = false := ⟨(bC h 2).trans rfl, bF h 2⟩
theorem zb1 {w1 w w' : World} {g : Nat} {o : Obj} (x : Qo (w1.heap[g]? = some o)) (hb : Below w.heap.size w w') (h : w1.heap[g]? = some o → w.heap[g]? = some o := by (intro z_; (with_reducible repeat (first | refine bV ?_ _ | refine bW ?_ | refine bA ?_ _)); exact z_)) : Qo (w'.heap[g]? = some o) := ⟨bB (h x.out) hb⟩
theorem zrR {α : Type} {d : Kd α} {e n : Nat} {ok : Nat → Prop} {v : Value} {xs : List α} {w1 w w' : World} (x : Qo (Kd.R d e w1 n ok v xs)) (hb : Below w.heap.size w w') (h : Kd.R d e w1 n ok v xs → Kd.R d e w n ok v xs := by (intro z_; (with_reducible repeat (first | apply Kd.Ra | apply Kd.RdN | apply Kd.Rd)); exact z_)) : Qo (Kd.R d e w' n ok v xs) := ⟨Kd.R_below (h x.out) hb⟩
theorem zrS {α : Type} {d : Kd α} {e n : Nat} {ok : Nat → Prop} {v : Value} {xs : List α} {w1 w w' : World} (x : Qo (Kd.S d e w1 n ok v xs)) (hb : Below w.heap.size w w') (h : Kd.S d e w1 n ok v xs → Kd.S d e w n ok v xs := by (intro z_; (with_reducible repeat (first | apply Kd.S_alloc | apply Kd.S_drewN | apply Kd.S_drew)); exact z_)) : Qo (Kd.S d e w' n ok v xs) := ⟨Kd.S_below (h x.out) hb⟩
theorem znlt {w1 w : World} {g g' : Nat} {o : Obj} (x : Qo (w1.heap[g]? = some o)) (hg : g' = w.heap.size) (h : w1.heap[g]? = some o → w.heap[g]? = some o := by (intro z_; (with_reducible repeat (first | refine bV ?_ _ | refine bW ?_ | refine bA ?_ _)); exact z_)) : Qo (g ≠ g') := ⟨by rw [hg]; exact Nat.ne_of_lt (blk_lt (h x.out))⟩
theorem zngt {w1 w : World} {g g' : Nat} {o : Obj} (x : Qo (w1.heap[g]? = some o)) (hg : g' = w.heap.size) (h : w1.heap[g]? = some o → w.heap[g]? = some o := by (intro z_; (with_reducible repeat (first | refine bV ?_ _ | refine bW ?_ | refine bA ?_ _)); exact z_)) : Qo (g' ≠ g) := ⟨by rw [hg]; exact Nat.ne_of_gt (blk_lt (h x.out))⟩
theorem zg1 {w W : World} {g' : Nat} (h : Below w.heap.size w W) (hg : g' = W.heap.size) : Qo (w.heap.size ≤ g') := ⟨by rw [hg]; exact bZ h⟩
theorem zv {P : Program} {ops : Array Oper} {Q : Exit → Act → World → Prop} {w : World} {oi : Oper} {N : Option Tmp} {a : Act} {K : Act → World → Prop} {f : FuncId} {fn : Func} {xs : Array Operand} {ts : Array TypeId} (hf : P.funcs[f]? = some fn) (args : Array Value)
  (h : Calls P f args w fun e w' => ∃ v, e = .returned v ∧ K (a.put N v) w') (hname : (fn.name == "runtime.NumGoroutine") = false := by kernel_rfl) (hb : fn.body.isSome = true := by rfl) (hw : Region.wanted oi (yielded ops a.tmps) = true := by rfl) (hN : oi.dst = N := by rfl) (hop : oi.op = .call { callee := .value (.func f), args := xs, argTypes := ts } := by rfl)
  (hargs : xs.map a.eval = args := by (try simp only [List.map_toArray, List.map_cons, List.map_nil]); first | done | rfl | (simp only [List.length_drop, List.length_take]; rfl)) : if Region.wanted oi (yielded ops a.tmps) = true then Oper.wp P oi a w K Q else K (a.put N undef) w := goes_ hf hname hb args hw hN hop hargs h
theorem zt {P : Program} {ops : Array Oper} {md : Region.Mode} {Q : Exit → Act → World → Prop} {S : World → Prop} {ds : List Nat} {oi : Oper} {v : Value} {fuel : Nat} {l : Array Bool} {a a' : Act} {w : World} {T : Bool × List (List Nat × List Nat)} {B : List Nat} (i : Nat) (N : Option Tmp) (l' : Array Bool) (hT : Qo (rtab md ops = T)) (hB : Qo (waitsOk T.2 B = true)) (hS : S w) (hi : ops[i]? = some oi)
  (h : wL P md ops Q S ds fuel l' a' w) (hN : oi.dst = N := by rfl) (hc : takeW T B ds l.toList l'.toList i = true := by kernel_rfl)
  (hQ : ∀ c a w, Q (.panic c) (a.put oi.dst v) w → Q (.panic c) a w := by exact fun _ _ _ h => h) (hg : Region.wanted oi (yielded ops a.tmps) = true := by rfl) (hy : ∀ w', S w' → (execOp a.eval oi).run P w' = .ok (.value v) w') (ha : a.put N v = a' := by (simp only [Act.put, List.setIfInBounds_toArray, List.set_cons_zero, List.set_cons_succ, i64_w, i32_w]; rfl)) : wL P md ops Q S ds (fuel + 1) l a w := take_ l' hi hN (take_ofW hT.out hB.out hc) hQ (Or.inl ⟨hg, hy⟩) hS ha h
theorem zq {P : Program} {ops : Array Oper} {md : Region.Mode} {Q : Exit → Act → World → Prop} {S : World → Prop} {ds : List Nat} {fuel : Nat} {l : Array Bool} {b a' : Act} {v : Value} {w : World} (N : Option Tmp) (h : wL P md ops Q S ds fuel l a' w) (ha : b.put N v = a' := by (simp only [Act.put, List.setIfInBounds_toArray, List.set_cons_zero, List.set_cons_succ, i64_w, i32_w]; rfl)) : wL P md ops Q S ds fuel l (b.put N v) w := norm_ ha h
theorem zQ {P : Program} {ops : Array Oper} {md : Region.Mode} {Q : Exit → Act → World → Prop} {S : World → Prop} {ds : List Nat} {fuel : Nat} {l : Array Bool} {a a' : Act} {w : World} (h : wL P md ops Q S ds fuel l a' w) (ha : a = a' := by (simp only [putAll, Act.put, List.setIfInBounds_toArray, List.set_cons_zero, List.set_cons_succ]; rfl)) : wL P md ops Q S ds fuel l a w := norm_ ha h
theorem zd {P : Prop} (h : P := by decide) : P := h
theorem zk {P : Prop} (h : P := by kernel_rfl) : P := h
theorem zo_ {P : Prop} (h : P := by omega) : P := h
theorem zm {P : Prop} (h : P := by repeat' first | (with_reducible exact LeO.refl _) | (with_reducible exact LeO.none _) | (with_reducible refine LeO.ite ?_ ?_) | (with_reducible refine LeO.bind ?_ (fun _ => ?_)) | (with_reducible apply_assumption) | refine LeO.ite ?_ ?_ | refine LeO.bind ?_ (fun _ => ?_)) : P := h
def zL (n m : Nat) : Array Bool := ((List.range n).map m.testBit).toArray
abbrev zA := @bN
abbrev zB := @below_alloc
abbrev zC := @below_drew1
abbrev zD := @below_set
abbrev zE := @List.setIfInBounds_toArray
abbrev zF := @List.set_cons_zero
abbrev zG := @List.set_cons_succ
abbrev zM := @Qo.mk
theorem zs0 {P : Prop} (h : P := by first | (with_reducible assumption) | assumption) : P := h
theorem zs1 {P : Prop} (h : P := by rfl) : P := h
theorem zs2 {P : Prop} (h : P := by first | (go_simp; done) | (go_simp; rfl)) : P := h
theorem zs3 {A0 B : Prop} (x0 : Qo A0) (h : A0 → B := by (intro z0_; repeat (first | (with_reducible first | exact z0_ | apply below_alloc | apply bN | apply below_drew1) | exact z0_))) : B := h x0.out
theorem zs4 {A0 A1 B : Prop} (x0 : Qo A0) (x1 : Qo A1) (h : A0 → A1 → B := by (intro z0_ z1_; repeat (first | (with_reducible first | exact z0_ | apply below_alloc | apply bN | apply below_drew1 | refine below_set ?_ z1_) | exact z0_))) : B := h x0.out x1.out
theorem zs5 {A0 B : Prop} (x0 : Qo A0) (h : A0 → B := by (intro z0_; (with_reducible repeat (first | apply Kd.Ra | apply Kd.RdN | apply Kd.Rd)); exact z0_)) : B := h x0.out
theorem zs6 {P : Prop} (h : P := by first | rfl | (simp [eN, eS] <;> rfl) | (simp [*, eN, eS] <;> rfl)) : P := h
theorem zs7 {P : Prop} (h : P := by first | rfl | (simp; done) | (simp [*]; done)) : P := h
theorem zs8 {P : Prop} (h : P := by first | omega | exact Nat.le_refl _) : P := h
theorem zs9 {A0 B : Prop} (x0 : Qo A0) (h : A0 → B := by (intro z0_; repeat (first | (with_reducible first | exact z0_ | apply Iq.alloc | apply Iq.drewN | apply Iq.drew | apply Iq.set_1) | exact z0_))) : B := h x0.out
theorem zs10 {A0 B : Prop} (x0 : Qo A0) (h : A0 → B := by (intro z0_; repeat (first | (with_reducible first | exact z0_ | apply KB.set_ | apply keep_drewN | apply keep_drew | apply keep_alloc) | exact z0_))) : B := h x0.out
theorem zs11 {A0 A1 B : Prop} (x0 : Qo A0) (x1 : Qo A1) (h : A0 → A1 → B := by (intro z0_ z1_; repeat (first | (with_reducible first | exact z0_ | apply below_alloc | apply bN | apply below_drew1 | refine below_set ?_ (Iq.ge z1_)) | exact z0_))) : B := h x0.out x1.out
theorem zs12 {A0 B : Prop} (x0 : Qo A0) (h : A0 → B := by (intro z0_; (with_reducible repeat (first | apply Kd.Ra | apply Kd.RdN | apply Kd.Rd)); exact Kd.Rm z0_ (fun _ hk => hk.2))) : B := h x0.out
theorem zs13 {A0 B : Prop} (x0 : Qo A0) (h : A0 → B := by (intro z0_; (with_reducible repeat (first | apply Kd.Ra | apply Kd.RdN | apply Kd.Rd)); exact Kd.Rm z0_ (fun _ hk => trivial))) : B := h x0.out
theorem zs14 {A0 A1 B : Prop} (x0 : Qo A0) (x1 : Qo A1) (h : A0 → A1 → B := by (intro z0_ z1_; repeat (first | (with_reducible first | exact z0_ | apply Iq.alloc | apply Iq.drewN | apply Iq.drew | apply Iq.set_1 | refine Iq.far ?_ z1_ _) | exact z0_))) : B := h x0.out x1.out
theorem zs15 {A0 A1 B : Prop} (x0 : Qo A0) (x1 : Qo A1) (h : A0 → A1 → B := by (intro z0_ z1_; repeat (first | (with_reducible first | exact z0_ | apply KB.set_ | apply keep_drewN | apply keep_drew | apply keep_alloc | refine keep_far ?_ z1_ _) | exact z0_))) : B := h x0.out x1.out
theorem zs16 {A0 A1 A2 A3 B : Prop} (x0 : Qo A0) (x1 : Qo A1) (x2 : Qo A2) (x3 : Qo A3) (h : A0 → A1 → A2 → A3 → B := by (intro z0_ z1_ z2_ z3_; repeat (first | (with_reducible first | exact z0_ | apply below_alloc | apply bN | apply below_drew1 | refine below_set ?_ (Nat.le_trans z1_ z2_) | refine below_set ?_ (Iq.ge z3_)) | exact z0_))) : B := h x0.out x1.out x2.out x3.out
theorem zs17 {A0 B : Prop} (x0 : Qo A0) (h : A0 → B := by (intro z0_; (with_reducible repeat (first | apply Kd.Ra | apply Kd.RdN | apply Kd.Rd)); exact Kd.Rm z0_ (fun _ hk => ⟨trivial, hk⟩))) : B := h x0.out
theorem zs18 {A0 B : Prop} (x0 : Qo A0) (h : A0 → B := by (intro z0_; (with_reducible repeat (first | apply Kd.Ra | apply Kd.RdN | apply Kd.Rd)); exact Kd.Rm z0_ (fun _ hk => ⟨hk.2, hk.1⟩))) : B := h x0.out
theorem zs19 {A0 B : Prop} (x0 : Qo A0) (h : A0 → B := by (intro z0_; (with_reducible repeat (first | apply Kd.Ra | apply Kd.RdN | apply Kd.Rd)); exact Kd.Rm z0_ (fun _ hk => ⟨hk.1.2, hk.2⟩))) : B := h x0.out
theorem zs20 {A0 A1 B : Prop} (x0 : Qo A0) (x1 : Qo A1) (h : A0 → A1 → B := by (intro z0_ z1_; repeat (first | exact (Kd.Cb z0_ z1_) | (with_reducible refine Kd.C_alloc ?_ _) | (with_reducible refine Kd.C_drewN ?_ _) | (with_reducible refine Kd.C_drew ?_)))) : B := h x0.out x1.out
theorem zs21 {A0 B : Prop} (x0 : Qo A0) (h : A0 → B := by (intro z0_; repeat (first | (with_reducible first | exact z0_ | apply Kept.alloc | apply Kept.drewN | apply Kept.drew | refine Kept.setCell ?_ (.inl (.inr rfl)) _) | exact z0_))) : B := h x0.out
theorem zs22 {A0 B : Prop} (x0 : Qo A0) (h : A0 → B := by (intro z0_; repeat (first | exact (Kd.rr' z0_).2.2 | (with_reducible refine Kd.C_alloc ?_ _) | (with_reducible refine Kd.C_drewN ?_ _) | (with_reducible refine Kd.C_drew ?_)))) : B := h x0.out
theorem zs23 {A0 B : Prop} (x0 : Qo A0) (h : A0 → B := by (intro z0_; exact z0_)) : B := h x0.out
theorem zs24 {A0 A1 A2 B : Prop} (x0 : Qo A0) (x1 : Qo A1) (x2 : Qo A2) (h : A0 → A1 → A2 → B := by (intro z0_ z1_ z2_; repeat (first | (with_reducible first | exact z0_ | apply below_alloc | apply bN | apply below_drew1 | refine below_set ?_ z1_ | refine below_set ?_ z2_) | exact z0_))) : B := h x0.out x1.out x2.out
theorem zs25 {A0 A1 A2 A3 B : Prop} (x0 : Qo A0) (x1 : Qo A1) (x2 : Qo A2) (x3 : Qo A3) (h : A0 → A1 → A2 → A3 → B := by (intro z0_ z1_ z2_ z3_; repeat (first | (with_reducible first | exact z0_ | apply below_alloc | apply bN | apply below_drew1 | refine below_set ?_ z1_ | refine below_set ?_ z2_ | refine below_set ?_ z3_) | exact z0_))) : B := h x0.out x1.out x2.out x3.out
theorem zs26 {A0 B : Prop} (x0 : Qo A0) (h : A0 → B := by (intro z0_; (with_reducible repeat (first | apply Kd.S_alloc | apply Kd.S_drewN | apply Kd.S_drew)); exact z0_)) : B := h x0.out
theorem zs27 {A0 B : Prop} (x0 : Qo A0) (h : A0 → B := by (intro z0_; (with_reducible repeat (first | apply Kd.S_alloc | apply Kd.S_drewN | apply Kd.S_drew)); exact Kd.Sm z0_ (fun k_ hk => ⟨hk.1, fun e_ => hk.2 e_⟩))) : B := h x0.out
theorem zs28 {A0 B : Prop} (x0 : Qo A0) (h : A0 → B := by (intro z0_; repeat (first | exact z0_ | (with_reducible refine Kd.C_alloc ?_ _) | (with_reducible refine Kd.C_drewN ?_ _) | (with_reducible refine Kd.C_drew ?_)))) : B := h x0.out
theorem zs29 {A0 A1 A2 B : Prop} (x0 : Qo A0) (x1 : Qo A1) (x2 : Qo A2) (h : A0 → A1 → A2 → B := by (intro z0_ z1_ z2_; repeat (first | (with_reducible first | exact z0_ | apply below_alloc | apply bN | apply below_drew1 | refine below_set ?_ (Iq.ge z1_) | refine below_set ?_ z2_) | exact z0_))) : B := h x0.out x1.out x2.out
theorem zs30 {A0 A1 A2 B : Prop} (x0 : Qo A0) (x1 : Qo A1) (x2 : Qo A2) (h : A0 → A1 → A2 → B := by (intro z0_ z1_ z2_; repeat (first | (with_reducible first | exact z0_ | apply Iq.alloc | apply Iq.drewN | apply Iq.drew | apply Iq.set_1 | refine Iq.far ?_ z1_ _ | refine Iq.far ?_ z2_ _) | exact z0_))) : B := h x0.out x1.out x2.out
theorem zs31 {A0 A1 A2 A3 B : Prop} (x0 : Qo A0) (x1 : Qo A1) (x2 : Qo A2) (x3 : Qo A3) (h : A0 → A1 → A2 → A3 → B := by (intro z0_ z1_ z2_ z3_; repeat (first | (with_reducible first | exact z0_ | apply below_alloc | apply bN | apply below_drew1 | refine below_set ?_ (Iq.ge z1_) | refine below_set ?_ z2_ | refine below_set ?_ z3_) | exact z0_))) : B := h x0.out x1.out x2.out x3.out
theorem zs32 {A0 B : Prop} (x0 : Qo A0) (h : A0 → B := by (intro z0_; (with_reducible repeat (first | apply Kd.Ra | apply Kd.RdN | apply Kd.Rd)); exact Kd.Rm z0_ (fun _ hk => hk.1))) : B := h x0.out
theorem zs33 {A0 B : Prop} (x0 : Qo A0) (h : A0 → B := by (intro z0_; repeat (first | (with_reducible first | exact z0_ | apply Kept.alloc | apply Kept.drewN | apply Kept.drew) | exact z0_))) : B := h x0.out
theorem zs34 {A0 A1 A2 A3 A4 B : Prop} (x0 : Qo A0) (x1 : Qo A1) (x2 : Qo A2) (x3 : Qo A3) (x4 : Qo A4) (h : A0 → A1 → A2 → A3 → A4 → B := by (intro z0_ z1_ z2_ z3_ z4_; repeat (first | (with_reducible first | exact z0_ | apply below_alloc | apply bN | apply below_drew1 | refine below_set ?_ z1_ | refine below_set ?_ z2_ | refine below_set ?_ z3_ | refine below_set ?_ z4_) | exact z0_))) : B := h x0.out x1.out x2.out x3.out x4.out
theorem zs35 {A0 B : Prop} (x0 : Qo A0) (h : A0 → B := by (intro z0_; repeat (first | exact (Kd.Cb z0_ (zs24 HB GE927 GE928)) | (with_reducible refine Kd.C_alloc ?_ _) | (with_reducible refine Kd.C_drewN ?_ _) | (with_reducible refine Kd.C_drew ?_)))) : B := h x0.out
theorem zh9 {P : Prop} (h : P := by (with_reducible repeat first | exact HPr.out | apply rdP.alloc | apply rdP.drew); done) : P := h
theorem zh8 {P : Prop} (h : P := by show w.heap.size ≤ w.heap.size + 2; omega) : P := h
theorem zh7 {P : Prop} (h : P := by kernel_rfl) : P := h
theorem zh6 {P : Prop} (h : P := by repeat (first | exact HP.out | apply rdP.alloc | apply rdP.drew)) : P := h
theorem zh5 {P : Prop} (h : P := by decide) : P := h
theorem zh4 {P : Prop} (h : P := by repeat (first | exact HP1.out | apply rdP.alloc | apply rdP.drew)) : P := h
theorem zh3 {P : Prop} (h : P := by (with_reducible repeat first | exact HD.out | apply kdS.alloc | apply kdS.drew); done) : P := h
theorem zh2 {P : Prop} (h : P := by (with_reducible repeat first | exact HR.out | apply rdX.alloc | apply rdX.drew); done) : P := h
theorem zh1 {P : Prop} (h : P := by (with_reducible repeat first | exact HP2.out | apply rdP.alloc | apply rdP.drew); done) : P := h
theorem zh0 {P : Prop} (h : P := by (with_reducible repeat first | exact HD1.out | apply kdS.alloc | apply kdS.drew); done) : P := h
end Go.Proofs.YtnpoeeliaolbaaaGreatDoor.LA
