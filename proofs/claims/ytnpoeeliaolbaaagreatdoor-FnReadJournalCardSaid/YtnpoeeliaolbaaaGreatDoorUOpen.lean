/- Arguments that can be read as data, opened kind by kind: what a value's cells say. No conditions beyond those that each theorem names. -/
import Derived.Test.YtnpoeeliaolbaaaGreatDoorUMore
import Derived.ProofKit
import Derived.OpenShut
import Derived.ShutString
import Derived.ChangeOld
import Derived.ChangeArms
import Derived.Deep.Slices
import Derived.DataReads
import Derived.Deep.Strs
import Derived.Deep.Fields
namespace Go.Proofs.YtnpoeeliaolbaaaGreatDoorV.PrintWords
open Go.RowKit Go.ChangeShapes Go.WideShapes
def Opens {H : Type} (enc : TypeId × Value → H) (P : Program) (w : World) (base : Nat) (held : Bool) {α : Type} (t : TypeId) (d : Kd α) (G : α → Prop) : Prop :=
 ∀ fuel cs x, DataW.trod enc P w base (fun _ => true) held fuel t cs = some x → ∃ v, d.K w v cs ∧ G v
section
variable {H : Type} {enc : TypeId × Value → H} {P : Program} {w : World} {base : Nat} {held : Bool} {t e : TypeId}
theorem opens_int {k : IntKind} (ht : P.underlying t = some (.int k)) : Opens enc P w base held t (Kd.int k) (fun n => (Lit.int k n).wf = true) := by
 intro fuel cs x h;obtain ⟨n, rfl, _, hn⟩ := DataW.trod_int ht h;exact ⟨n, rfl, hn⟩
theorem opens_slice {α : Type} {d : Kd α} {G : α → Prop} (ht : P.underlying t = some (.slice e)) (hc : P.cellsOf e = d.sz) (he : Opens enc P w base held e d G) :
  Opens enc P w base held t (Kd.slice e d) (fun xs => xs.length ≤ maxLen ∧ ∀ x, x ∈ xs → G x) := by
 intro fuel cs x h;rcases Deep.open_slice ht h with ⟨rfl, _⟩ | ⟨a, len, cap, m, n, D, Pl, rfl, _, hl, hm, hmm, _, hx⟩
 ·exact ⟨[], ⟨none, 0, rfl, Nat.le_refl _, Kd.C_nil d w⟩, by simp, by simp⟩
 ·simp only [if_true] at hmm;subst hmm
  have each : ∀ i, i < len → ∃ v : α, (∃ c, w.cells? base (a.add (i * P.cellsOf e)) (P.cellsOf e) = some c ∧ d.K w v c) ∧ G v := by
   intro i hi;obtain ⟨c, h1, h2⟩ := hx i (by omega);obtain ⟨v, h3, h4⟩ := he _ _ _ h2;exact ⟨v, ⟨c, h1, h3⟩, h4⟩
  rcases Nat.eq_zero_or_pos len with h0 | hp
  ·subst h0;exact ⟨[], ⟨some a, m, rfl, Nat.zero_le _, rfl, by simp, fun h => absurd h (Nat.lt_irrefl 0)⟩, by simp, by simp⟩
  ·obtain ⟨v0, _⟩ := each 0 hp;have : Nonempty α := ⟨v0⟩;let V : Nat → α := fun i => if hi : i < len then Classical.choose (each i hi) else v0
   have hV : ∀ i, i < len → (∃ c, w.cells? base (a.add (i * P.cellsOf e)) (P.cellsOf e) = some c ∧ d.K w (V i) c) ∧ G (V i) := by
    intro i hi;have h1 := Classical.choose_spec (each i hi);simp only [V, dif_pos hi];exact h1
   (have hlen : ((List.range len).map V).length = len := by simp);refine ⟨(List.range len).map V, ⟨some a, m, by rw [hlen], by rw [hlen]; exact hl, ?_⟩, by rw [hlen]; exact Nat.le_trans hl hm, ?_⟩
   ·refine ⟨rfl, by rw [hlen]; simp only [maxLen] at hm; omega, fun _ => ⟨a, rfl, ?_⟩⟩;intro j p hj;rw [List.getElem?_map] at hj;by_cases hjl : j < len
    ·rw [List.getElem?_range hjl] at hj;(obtain rfl : V j = p := by simpa using hj);obtain ⟨⟨c, h1, h2⟩, _⟩ := hV j hjl;obtain ⟨_, h3, h4⟩ := World.cells?_some h1;refine ⟨c, by rw [h3, hc], h2, fun i u hi => ?_⟩
     have hi2 : i < P.cellsOf e := by
      rw [← h3];apply Decidable.byContradiction;intro hn;rw [List.getElem?_eq_none (by omega)] at hi;cases hi
     have h5 := h4 i hi2;rw [hi, Addr.add_add, hc] at h5;exact h5
    ·rw [List.getElem?_eq_none (by simp; omega)] at hj;cases hj
   ·intro x hx;rw [List.mem_map] at hx;obtain ⟨i, hi, rfl⟩ := hx;exact (hV i (List.mem_range.mp hi)).2
theorem opened_slice {α : Type} {d : Kd α} {G : α → Prop} {a : Option Addr} {len cap : Nat} {D : DataW H} {ps : List MemPlace} (h : DataW.Trod enc P w base (fun _ => true) held t (.slice a len cap) D ps)
  (ho : Opens enc P w base held t (Kd.slice e d) (fun xs => xs.length ≤ maxLen ∧ ∀ x, x ∈ xs → G x)) : ∃ xs : List α, xs.length = len ∧ len ≤ cap ∧ Kd.C d w a len xs ∧ xs.length ≤ maxLen ∧ ∀ x, x ∈ xs → G x := by
 obtain ⟨fuel, hf⟩ := h;obtain ⟨xs, ⟨A, c, h1, h2, h3⟩, h4, h5⟩ := ho _ _ _ hf;simp [Value.cells] at h1;obtain ⟨rfl, rfl, rfl⟩ := h1;exact ⟨xs, rfl, h2, h3, h4, h5⟩
end
end Go.Proofs.YtnpoeeliaolbaaaGreatDoorV.PrintWords
