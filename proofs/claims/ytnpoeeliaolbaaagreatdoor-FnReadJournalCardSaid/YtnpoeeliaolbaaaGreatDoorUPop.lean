/- The last row of a row of rows of the call's own is taken out: it is a row of its own, apart from all that stay. No conditions. -/
import Derived.Test.YtnpoeeliaolbaaaGreatDoorUMore
namespace Go.Proofs.YtnpoeeliaolbaaaGreatDoorV.PrintWords
open Go.RowKit
set_option linter.unusedVariables false
namespace Kd
theorem S_pop {α : Type} {d : Kd α} {e0 e base n c : Nat} {ok : Nat → Prop} {W : World} {ad : Addr} {xs : List (List α)}
  (h : Kd.S (Kd.slice e0 d) e W base ok (.slice (some ad) n c) xs) (i : Int) (h0 : 0 ≤ i) (hi : i + 1 = n) {v : Value} (hc : W.cell? (ad.add i.toNat) = some v) :
  d.R e0 W base (fun k => ok k ∧ some k ≠ (Value.slice (some ad) n c).ownBlock) v (xs.getD i.toNat []) ∧
   Kd.S (Kd.slice e0 d) e W base (fun k => ok k ∧ some k ≠ v.ownBlock) (.slice (some ad) (n - 1) c) (xs.take (n - 1)) := by
 have hn := (S_reads' h).1;obtain ⟨f, hR⟩ := h;obtain ⟨cs, hcl, hM, hcc⟩ := R_getA hR ([], 0) i h0 (by omega)
 have hz : xs.zipIdx.getD i.toNat ([], 0) = (xs.getD i.toNat [], i.toNat) := by
  (have hlt : i.toNat < xs.length := by omega);rw [List.getD_eq_getElem?_getD, List.getD_eq_getElem?_getD, List.getElem?_zipIdx, List.getElem?_eq_getElem hlt, Nat.zero_add];rfl
 rw [hz] at hM;obtain ⟨v', rfl, hv⟩ := hM;have hc1 := hcc 0 v' rfl;rw [show (tag f (Kd.slice e0 d)).sz = 1 from rfl, Nat.mul_one, Nat.add_zero] at hc1;obtain rfl : v' = v := Option.some.inj (hc1.symm.trans hc);have hb : ∀ x y : Nat, (Value.slice (some ad) x c).ownBlock = (Value.slice (some ad) y c).ownBlock := fun x y => rfl;refine ⟨Rm hv (fun k hk => hk.1), ?_⟩;have h2 := R_take hR (m := n - 1) (by rw [List.length_zipIdx]; omega)
 have he : (xs.take (n - 1)).zipIdx = xs.zipIdx.take (n - 1) := by
  apply List.ext_getElem?;intro j;simp only [List.getElem?_zipIdx, List.getElem?_take, Nat.zero_add];(split <;> simp)
 refine ⟨f, ?_⟩;rw [he];obtain ⟨g0, inner, ho, hr⟩ := h2;refine ⟨fun k hk => ⟨g0 k hk, fun e => ?_⟩, inner, ho, hr.1, fun j p hj => ?_⟩
 ·exact (hv.1 k e.symm).1.2 (by rw [hb n (n - 1)]; exact hk.symm)
 ·have hp : j < n - 1 ∧ p.2 = j := by
   rw [List.getElem?_take] at hj;split at hj
   ·rw [List.getElem?_zipIdx, Nat.zero_add] at hj;obtain ⟨x, _, rfl⟩ := Option.map_eq_some_iff.1 hj;exact ⟨by assumption, rfl⟩
   ·cases hj
  refine (Kd.slice e0 d).M_mono (fun k hk => ?_) (hr.2 j p hj);refine ⟨⟨⟨hk.1.1, fun e => ?_⟩, hk.1.2⟩, hk.2⟩;have h1 : f k = i.toNat := (hv.1 k e.symm).2;have h2 : f k = p.2 := hk.2;omega
theorem V_drop1 {α : Type} {d : Kd α} {e base base' n c : Nat} {ok : Nat → Prop} {W : World} {A : Option Addr} {xs : List α} (h : Kd.V d e W base ok (.slice A n c) xs) (hp : 1 ≤ xs.length) :
  Kd.V d e W base' ok (.slice (if c = 1 then A else A.map (·.add (1 * d.sz))) (n - 1) (c - 1)) (xs.drop 1) := by
 obtain ⟨h1, h2, h3⟩ := V_at h;subst h1;refine ⟨_, c - 1, by rw [List.length_drop], by rw [List.length_drop]; omega, fun W' hW => C_drop (h3 W' hW) hp h2⟩
theorem V_cut1 {α : Type} {d : Kd α} {e base base' n nz c cz s : Nat} {ok : Nat → Prop} {W : World} {A Az : Option Addr} {xs : List α} (hA : Az = if c = 1 then A else A.map (·.add (1 * s))) (hn : nz = n - 1) (hc : cz = c - 1) (hs : d.sz = s) (h : Kd.V d e W base ok (.slice A n c) xs) (hp : 1 ≤ xs.length) :
  Kd.V d e W base' ok (.slice Az nz cz) (xs.drop 1) := by
 subst hA hn hc hs;exact V_drop1 h hp
end Kd
end Go.Proofs.YtnpoeeliaolbaaaGreatDoorV.PrintWords
