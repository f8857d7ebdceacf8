/- Rows of the call's own, cut at their beginning and laid into new memory: they are rows of the call's own again. No conditions. -/
import Derived.Test.YtnpoeeliaolbaaaGreatDoorUPop
import Derived.Test.YtnpoeeliaolbaaaGreatDoorUClip
namespace Go.Proofs.YtnpoeeliaolbaaaGreatDoorV.PrintWords
open Go.RowKit
set_option linter.unusedVariables false
theorem ReadsRow.drop_ {α : Type} {R : α → List Value → Prop} {size n c m : Nat} {w : World} {A : Option Addr} {ps : List α} (h : ReadsRow R size w A n ps) (hm : m < n) (hc : n ≤ c) :
  ∃ ad, (if c = m then A else A.map (·.add (m * size))) = some ad ∧ ReadsRow R size w (some ad) (n - m) (ps.drop m) := by
 obtain ⟨ad, rfl, hcell⟩ := h.2.2 (by omega);rw [if_neg (by omega)];refine ⟨ad.add (m * size), rfl, by rw [List.length_drop, h.1], by have := h.2.1; omega, fun _ => ⟨_, rfl, fun j p hj => ?_⟩⟩;rw [List.getElem?_drop] at hj;obtain ⟨cs, h1, h2, h3⟩ := hcell (m + j) p hj;refine ⟨cs, h1, h2, fun i u hu => ?_⟩;rw [add_add, show m * size + (j * size + i) = (m + j) * size + i by rw [Nat.add_mul]; omega];exact h3 i u hu
theorem below_grown_new {w w1 w2 : World} {row : Option Nat} (h : Below w.heap.size w w1) (hg : w1.grownBy w2 row) (hv : ∃ b, row = some b ∧ w.heap.size ≤ b) : Below w.heap.size w w2 := by
 obtain ⟨b, rfl, hb⟩ := hv;refine ⟨hg.os.trans h.os, hg.tape.trans h.tape, hg.output.trans h.output, Nat.le_trans h.size hg.size, fun k hk => (hg.block k (Nat.lt_of_lt_of_le hk h.size) ?_).trans (h.block k hk)⟩;intro e;have := Option.some.inj e;omega
theorem below_less {B B' : Nat} {w w1 : World} (h : Below B w w1) (hB : B' ≤ B) : Below B' w w1 := ⟨h.os, h.tape, h.output, h.size, fun k hk => h.block k (Nat.lt_of_lt_of_le hk hB)⟩
namespace Kd
variable {α : Type} {d : Kd α} {e base n c m : Nat} {ok : Nat → Prop} {w : World} {A : Option Addr} {v : Value} {xs : List α}
theorem S_tail (h : Kd.S d e w base ok (.slice A n c) xs) (hm : m < n) :
  ∃ f, ∃ ad, (if c = m then A else A.map (·.add (m * d.sz))) = some ad ∧ ReadsRow (fun p cs => (tag f d).M w base (fun k => ok k ∧ k < w.heap.size) p cs) d.sz w (some ad) (n - m) (xs.zipIdx.drop m) := by
 obtain ⟨f, h0, hO⟩ := S_bound h;obtain ⟨A', c', e1, hle, hr⟩ := hO.reads;injection e1 with e1 e2 e3;subst e1 e2 e3;obtain ⟨ad, e4, h4⟩ := hr.drop_ (m := m) (by omega) hle;refine ⟨f, ad, e4, h4.1, h4.2.1, fun hn => ?_⟩;obtain ⟨ad2, e5, hcell⟩ := h4.2.2 hn;refine ⟨ad2, e5, fun j p hj => ?_⟩;obtain ⟨cs, g1, g2, g3⟩ := hcell j p hj;exact ⟨cs, g1, (tag f d).M_mono (fun k hk => ⟨hk.1.1, hk.1.2.2.1⟩) g2, g3⟩
theorem S_untail {f : Nat → Nat} (h : (tag f d).R e w base ok v (xs.zipIdx.drop m)) : Kd.S d e w base ok v (xs.drop m) := by
 (have hl : (xs.zipIdx.drop m).length = ((xs.drop m).zipIdx).length := by simp);refine ⟨fun k => f k - m, h.1, ?_⟩;obtain ⟨inner, ho, hr⟩ := h.2;refine ⟨inner, by rw [← hl]; exact ho, by rw [← hl]; exact hr.1, fun j p hj => ?_⟩;rw [List.getElem?_zipIdx, List.getElem?_drop, Nat.zero_add] at hj;obtain ⟨x, hx, rfl⟩ := Option.map_eq_some_iff.1 hj
 have h1 : (xs.zipIdx.drop m)[j]? = some (x, m + j) := by
  rw [List.getElem?_drop, List.getElem?_zipIdx, hx];simp
 have h2 := hr.2 j _ h1;refine d.M_mono (fun k hk => ?_) h2;have h3 : f k = m + j := hk.2;exact ⟨hk.1, show f k - m = j by omega⟩
theorem S_clipn (h : Kd.S d e w base ok (.slice A n c) xs) : Kd.S d e w base ok (.slice A n n) xs := by
 have h1 := (S_reads' h).1;subst h1;exact S_clip h
end Kd
end Go.Proofs.YtnpoeeliaolbaaaGreatDoorV.PrintWords
