/- What a law that marks what it made is told of its own values: each lies in a stretch of memory of its own. No conditions beyond those that each theorem names. -/
import Derived.Test.YtbbhdgpiocojaaaUMore
namespace Go.Proofs.YtbbhdgpiocojaaaV.PrintWords
open Go.RowKit
set_option linter.unusedVariables false
section
variable {α β : Type} {d : Kd α} {d' : Kd β} {e e' p : Nat} {w W W2 : World} {ok ok' : Nat → Prop} {v v' : Value} {xs : List α} {ys : List β}
theorem obj_D2 (hB : Below w.heap.size w W) (hz : p ≤ W.heap.size) (ho : d.R e W2 W.heap.size ok v xs) (ho' : Kd.S d' e' W2 W.heap.size (fun k => some k ≠ v.ownBlock) v' ys) (hb : Below W.heap.size W W2) :
  ∃ lo, (p ≤ lo ∧ lo ≤ W2.heap.size) ∧ d.R e W2 w.heap.size (fun k => lo ≤ k ∧ k < W2.heap.size) v xs ∧ Kd.S d' e' W2 w.heap.size (fun k => (lo ≤ k ∧ k < W2.heap.size) ∧ some k ≠ v.ownBlock) v' ys :=
 ⟨W.heap.size, ⟨hz, hb.size⟩, Kd.R_lower (Kd.R_mono (Kd.R_bound ho) (fun k hk => ⟨hk.2.1, hk.2.2.1⟩)) hB.size,
  Kd.S_lower (Kd.S_mono (Kd.S_bound ho') (fun k hk => ⟨⟨hk.2.1, hk.2.2.1⟩, hk.1⟩)) hB.size⟩
theorem cell3_0 {w : World} {g : Nat} {t : TypeId} {a b c : Value} (h : w.heap[g]? = some (.cells #[a, b, c] t (0, 0))) : w.cell? ⟨g, 0, none⟩ = some a := (blk_cell h 0).trans rfl
theorem cell3_1 {w : World} {g : Nat} {t : TypeId} {a b c : Value} (h : w.heap[g]? = some (.cells #[a, b, c] t (0, 0))) : w.cell? ⟨g, 1, none⟩ = some b := (blk_cell h 1).trans rfl
theorem cell3_2 {w : World} {g : Nat} {t : TypeId} {a b c : Value} (h : w.heap[g]? = some (.cells #[a, b, c] t (0, 0))) : w.cell? ⟨g, 2, none⟩ = some c := (blk_cell h 2).trans rfl
theorem cell2_0 {w : World} {g : Nat} {t : TypeId} {a b : Value} (h : w.heap[g]? = some (.cells #[a, b] t (0, 0))) : w.cell? ⟨g, 0, none⟩ = some a := (blk_cell h 0).trans rfl
theorem cell2_1 {w : World} {g : Nat} {t : TypeId} {a b : Value} (h : w.heap[g]? = some (.cells #[a, b] t (0, 0))) : w.cell? ⟨g, 1, none⟩ = some b := (blk_cell h 1).trans rfl
theorem alloc_size1 (W : World) (o : Obj) : W.heap.size + 1 ≤ (W.alloc o).heap.size := blk_lt (blk_new W o)
end
end Go.Proofs.YtbbhdgpiocojaaaV.PrintWords
