/- A row of the call's own, clipped, is a row of the call's own. No conditions. -/
import Derived.Test.YtnpoeeliaolbaaaGreatDoorUMore
namespace Go.Proofs.YtnpoeeliaolbaaaGreatDoorV.PrintWords
open Go.RowKit
theorem rowOf_clip {w : World} {base : Nat} {e : TypeId} {size n c : Nat} {A : Option Addr} {xs : List Value} (h : w.rowOf base e size (.slice A n c) n xs) : w.rowOf base e size (.slice A n n) n xs := by
 obtain ⟨h0, ⟨h1, h2⟩ | ⟨g, cap, cur, h1, a1, a2, a3, a4, a5, a6⟩⟩ := h
 ·cases h1;exact ⟨h0, .inl ⟨rfl, rfl⟩⟩
 ·cases h1;exact ⟨h0, .inr ⟨g, n, cur, rfl, a1, a2, Nat.le_refl _, Nat.le_trans a3 a4, Nat.le_trans (Nat.mul_le_mul_right _ a3) a5, a6⟩⟩
theorem ownBlock_clip {A : Option Addr} {n c m : Nat} : (Value.slice A n c).ownBlock = (Value.slice A n m).ownBlock := by cases A <;> rfl
theorem Kd.R_clip {α : Type} {d : Kd α} {e : Nat} {w : World} {base : Nat} {ok : Nat → Prop} {A : Option Addr} {c : Nat} {xs : List α} (h : d.R e w base ok (.slice A xs.length c) xs) : d.R e w base ok (.slice A xs.length xs.length) xs := by
 obtain ⟨h0, inner, h1, h2⟩ := h;refine ⟨fun k hk => h0 k (ownBlock_clip.trans hk), inner, rowOf_clip h1, ?_⟩;rw [ownBlock_clip (m := c)];exact h2
theorem Kd.S_clip {α : Type} {d : Kd α} {e : Nat} {w : World} {base : Nat} {ok : Nat → Prop} {A : Option Addr} {c : Nat} {xs : List α} (h : Kd.S d e w base ok (.slice A xs.length c) xs) : Kd.S d e w base ok (.slice A xs.length xs.length) xs := by
 obtain ⟨f, h⟩ := h;refine ⟨f, ?_⟩;have hl : xs.zipIdx.length = xs.length := List.length_zipIdx;rw [← hl] at h ⊢;exact Kd.R_clip h
end Go.Proofs.YtnpoeeliaolbaaaGreatDoorV.PrintWords
