/- What a law that marks what it made is told of its own values: each lies in a stretch of memory of its own. No conditions beyond those that each theorem names. -/
import Derived.Test.YtidimndhnagfeaaVMore
namespace Go.Proofs.YtidimndhnagfeaaV.PrintWords
open Go.RowKit
set_option linter.unusedVariables false
theorem below_drawn {W W2 : World} (h : Drawn0 W W2) : Below W.heap.size W W2 := by
  obtain ⟨n, rfl⟩ := h.out
  exact pw_below_drewN (Below.refl _ _) n
section
variable {α β : Type} {d : Kd α} {d' : Kd β} {e e' p : Nat} {w W W2 : World} {ok ok' : Nat → Prop} {v v' : Value} {xs : List α} {ys : List β}
theorem obj_S (hB : Below w.heap.size w W) (hz : p ≤ W.heap.size) (ho : Kd.S d e W2 W.heap.size ok v xs) (hb : Below W.heap.size W W2) :
    ∃ lo hi, (p ≤ lo ∧ lo ≤ hi) ∧ hi ≤ W2.heap.size ∧ Kd.S d e W2 w.heap.size (fun k => lo ≤ k ∧ k < hi) v xs :=
  ⟨W.heap.size, W2.heap.size, ⟨hz, hb.size⟩, Nat.le_refl _, Kd.S_lower (Kd.S_mono (Kd.S_bound ho) (fun k hk => ⟨hk.2.1, hk.2.2.1⟩)) hB.size⟩
theorem obj_R (hB : Below w.heap.size w W) (hz : p ≤ W.heap.size) (ho : d.R e W2 W.heap.size ok v xs) (hb : Below W.heap.size W W2) :
    ∃ lo hi, (p ≤ lo ∧ lo ≤ hi) ∧ hi ≤ W2.heap.size ∧ d.R e W2 w.heap.size (fun k => lo ≤ k ∧ k < hi) v xs :=
  ⟨W.heap.size, W2.heap.size, ⟨hz, hb.size⟩, Nat.le_refl _, Kd.R_lower (Kd.R_mono (Kd.R_bound ho) (fun k hk => ⟨hk.2.1, hk.2.2.1⟩)) hB.size⟩
theorem obj_D (hB : Below w.heap.size w W) (hz : p ≤ W.heap.size) (ho : d.R e W2 W.heap.size ok v xs) (ho' : Kd.S d' e' W2 W.heap.size (fun k => some k ≠ v.ownBlock) v' ys) (hb : Below W.heap.size W W2) :
    ∃ lo hi, (p ≤ lo ∧ lo ≤ hi) ∧ hi ≤ W2.heap.size ∧ d.R e W2 w.heap.size (fun k => lo ≤ k ∧ k < hi) v xs ∧ Kd.S d' e' W2 w.heap.size (fun k => (lo ≤ k ∧ k < hi) ∧ some k ≠ v.ownBlock) v' ys :=
  ⟨W.heap.size, W2.heap.size, ⟨hz, hb.size⟩, Nat.le_refl _, Kd.R_lower (Kd.R_mono (Kd.R_bound ho) (fun k hk => ⟨hk.2.1, hk.2.2.1⟩)) hB.size,
    Kd.S_lower (Kd.S_mono (Kd.S_bound ho') (fun k hk => ⟨⟨hk.2.1, hk.2.2.1⟩, hk.1⟩)) hB.size⟩
end
end Go.Proofs.YtidimndhnagfeaaV.PrintWords
