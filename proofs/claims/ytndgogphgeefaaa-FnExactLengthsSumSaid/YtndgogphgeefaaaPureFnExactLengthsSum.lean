/- The plain statement of FnExactLengthsSum: the printed functions answer true for all arguments within the printed bounds; no other conditions. -/
import Derived.Test.YtndgogphgeefaaaPFnExactLengthsSumx1
namespace Go.Proofs.Ytndgogphgeefaaa.Pure
open Go.RowKit Go.Proofs.Ytndgogphgeefaaa.PFnExactLengthsSum Go.Proofs.YtndgogphgeefaaaW.PrintWords Go.Proofs.YtndgogphgeefaaaW.PrintLast
set_option linter.unusedVariables false

theorem Ev.ret {α : Type} {r r' : α} (h : r = r') : Ev (fun _ => some r) r' := ⟨0, fun _ _ => by rw [h]⟩
theorem Ev.pos {α : Type} {c : Prop} [Decidable c] {g f : Nat → Option α} {r : α} (h : c) (k : Ev g r) : Ev (fun n => if c then g n else f n) r := by
  simpa only [if_pos h] using k
theorem Ev.neg {α : Type} {c : Prop} [Decidable c] {g f : Nat → Option α} {r : α} (h : ¬ c) (k : Ev f r) : Ev (fun n => if c then g n else f n) r := by
  simpa only [if_neg h] using k
theorem Ev.ite {α : Type} {c : Prop} [Decidable c] {g f : Nat → Option α} {r : α} (h : c → Ev g r) (k : ¬ c → Ev f r) : Ev (fun n => if c then g n else f n) r := by
  by_cases hc : c
  · exact Ev.pos hc (h hc)
  · exact Ev.neg hc (k hc)
theorem Ev.bind0 {α β : Type} {o : Option α} {f : Nat → α → Option β} {a : α} {r : β} (h : o = some a) (k : Ev (fun n => f n a) r) : Ev (fun n => o.bind (f n)) r := by
  subst h; simpa only [Option.bind_some] using k
theorem Ev.eq {α : Type} {g : Nat → Option α} {r r' : α} (h : Ev g r) (e : r = r') : Ev g r' := e ▸ h
theorem wrap_id {n : Int} (h0 : -9223372036854775808 ≤ n) (h1 : n < 9223372036854775808) : wrap64 n = n := by
  unfold wrap64; omega
theorem wrap_add1 {n : Nat} (h : n < 1099511627776) : wrap64 ((n : Int) + 1) = ((n + 1 : Nat) : Int) := by
  unfold wrap64; omega
theorem rd_nat (l : List Int) (j : Nat) : rd l (j : Int) = l.getD j 0 := by simp [rd]

theorem l1In_eq' (a b c : Int) : spec_l1In.f a b c = some (decide (b ≤ a ∧ a ≤ c)) := by
  unfold spec_l1In.f
  split
  · rename_i h; congr 1; rw [decide_eq_decide]; omega
  · rename_i h; congr 1; symm; rw [decide_eq_false_iff_not]; omega
theorem FnExactLengthsSum : laws_FnExactLengthsSum.Pure := by
  intro a _
  by_cases h0 : a < 1
  · refine ⟨0, ?_⟩
    unfold laws_FnExactLengthsSum.f spec_LengthsSum.f impl_LengthsSum.f
    rw [l1In_eq', decide_eq_false (by omega)]
    simp [h0]
  · by_cases h1 : a > 8
    · refine ⟨0, ?_⟩
      unfold laws_FnExactLengthsSum.f spec_LengthsSum.f impl_LengthsSum.f
      rw [l1In_eq', decide_eq_false (by omega)]
      simp [h0, h1]
    · refine ⟨12, ?_⟩
      obtain rfl | rfl | rfl | rfl | rfl | rfl | rfl | rfl : a = 1 ∨ a = 2 ∨ a = 3 ∨ a = 4 ∨ a = 5 ∨ a = 6 ∨ a = 7 ∨ a = 8 := by omega
      all_goals decide +kernel

end Go.Proofs.Ytndgogphgeefaaa.Pure
