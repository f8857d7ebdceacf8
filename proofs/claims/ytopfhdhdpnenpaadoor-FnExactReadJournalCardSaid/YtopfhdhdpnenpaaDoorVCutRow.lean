/- The first row of a row of rows of the call's own is cut: what it reads as behind the store. No conditions. -/
import Derived.Test.YtopfhdhdpnenpaaDoorVMore
namespace Go.Proofs.YtopfhdhdpnenpaaDoorV.PrintWords
open Go.RowKit
set_option linter.unusedVariables false
theorem grown_set (W : World) (g j : Nat) (u : Value) : W.grownBy (W.setCell ⟨g, j, none⟩ u) (some g) :=
  ⟨rfl, rfl, rfl, by simp, fun k _ hk => heap_setCell_other W ⟨g, j, none⟩ k u (fun e => hk (congrArg some e))⟩
namespace Kd
theorem V_cut_first {α : Type} {d : Kd α} {e0 e base base' g n cap c : Nat} {ok : Nat → Prop} {W : World} {xs : List (List α)} {A : Option Addr}
    (h : Kd.S (Kd.slice e0 d) e W base ok (.slice (some ⟨g, 0, none⟩) n cap) xs) (h1 : 0 < n) (hb : base ≤ g) (hcell : W.cell? ⟨g, 0, none⟩ = some (.slice A (xs.getD 0 []).length c)) (hc : (xs.getD 0 []).length ≤ c) (hp : 1 ≤ (xs.getD 0 []).length) :
    Kd.V (Kd.slice e0 d) e (W.setCell ⟨g, 0, none⟩ (.slice (if c = 1 then A else A.map (·.add (1 * d.sz))) ((xs.getD 0 []).length - 1) (c - 1))) base' (fun k => base ≤ k) (.slice (some ⟨g, 0, none⟩) n cap) (xs.set 0 ((xs.getD 0 []).drop 1)) := by
  have hn := (S_reads' h).1
  have hcap := (S_reads' h).2.1
  have hmax := (S_reads' h).2.2.2.1
  have hblk : g < W.heap.size := World.block_lt_of_cell? W _ hcell
  obtain ⟨nv, hnv⟩ : ∃ nv, nv = Value.slice (if c = 1 then A else A.map (·.add (1 * d.sz))) ((xs.getD 0 []).length - 1) (c - 1) := ⟨_, rfl⟩
  rw [← hnv]
  have hlen : (xs.set 0 ((xs.getD 0 []).drop 1)).length = xs.length := List.length_set ..
  refine ⟨some ⟨g, 0, none⟩, cap, by rw [hlen, hn], by rw [hlen]; omega, fun W' hW => ⟨rfl, by rw [hlen]; omega, fun _ => ⟨⟨g, 0, none⟩, rfl, fun j p hj => ?_⟩⟩⟩
  have hj0 := (List.getElem?_eq_some_iff.1 hj).1
  rw [hlen] at hj0
  obtain ⟨cs, hcl, hM, hcc⟩ := S_get h [] (j : Int) (by omega) (by omega)
  rw [show ((j : Int)).toNat = j by omega] at hM hcc
  -- what an element leads to stays
  have hM2 := (Kd.slice e0 d).M_bound hM
  have hK : (Kd.slice e0 d).M W' base (fun k => base ≤ k) (xs.getD j []) cs := by
    refine (Kd.slice e0 d).M_mono (fun k hk => hk.2.1) ((Kd.slice e0 d).M_move (fun k hk => ?_) hM2)
    have hne : k ≠ g := fun he => hk.1.2 (by rw [he]; rfl)
    have hlt : k < W.heap.size := hk.2.2.1
    rw [hW k hk.2.1 (by simpa [World.setCell] using hlt)]
    exact Below.heap_setCell W ⟨g, 0, none⟩ nv k hne
  have hheap : W'.heap[g]? = (W.setCell ⟨g, 0, none⟩ nv).heap[g]? := hW g hb (by simpa [World.setCell] using hblk)
  have hcell' : ∀ i, W'.cell? ⟨g, i, none⟩ = (W.setCell ⟨g, 0, none⟩ nv).cell? ⟨g, i, none⟩ := fun i => by simp [World.cell?, hheap]
  obtain ⟨v, rfl, hR⟩ := hK
  have hsz : (Kd.slice e0 d).sz = 1 := rfl
  have hc0 := hcc 0 v rfl
  rw [hsz, Nat.mul_one, Nat.add_zero] at hc0
  have ha : ∀ i, (⟨g, 0, none⟩ : Addr).add i = ⟨g, i, none⟩ := fun i => by unfold Addr.add; split <;> simp_all
  rw [ha] at hc0
  by_cases e0j : j = 0
  · subst e0j
    rw [List.getElem?_set_self (by omega)] at hj
    obtain rfl := Option.some.inj hj
    obtain rfl : v = .slice A (xs.getD 0 []).length c := Option.some.inj (hc0.symm.trans hcell)
    refine ⟨[nv], rfl, ⟨if c = 1 then A else A.map (·.add (1 * d.sz)), c - 1, ?_, ?_, C_drop (R_reads' hR).2.2 hp hc⟩, fun i u hi => ?_⟩
    · rw [hnv, List.length_drop]
    · rw [List.length_drop]; omega
    · cases i with
      | zero =>
        obtain rfl : nv = u := Option.some.inj hi
        rw [hsz, ha, hcell']; exact World.cell?_setCell_same _ _ _ hcell
      | succ i => cases hi
  · rw [List.getElem?_set_ne (Ne.symm e0j)] at hj
    have hp2 : xs.getD j [] = p := by rw [List.getD_eq_getElem?_getD, hj]; rfl
    rw [hp2] at hR
    refine ⟨[v], rfl, (Kd.slice e0 d).K_of_M ⟨v, rfl, hR⟩, fun i u hi => ?_⟩
    cases i with
    | zero =>
      obtain rfl : v = u := Option.some.inj hi
      rw [hsz, Nat.mul_one, Nat.add_zero, ha, hcell', World.cell?_setCell_other _ _ _ _ (by intro he; injection he with _ he; omega)]
      exact hc0
    | succ i => cases hi
theorem M_one {α : Type} {d : Kd α} {W : World} {base : Nat} {ok : Nat → Prop} {x : α} {c : List Value} (hl : c.length = d.sz) (h : d.M W base ok x c) :
    ∀ j y, ([x] : List α)[j]? = some y → d.M W base ((fun (j _ : Nat) => j = 0) j) y ((c.drop (j * d.sz)).take d.sz) := by
  intro j y hj
  cases j with
  | zero =>
    obtain rfl := Option.some.inj hj
    rw [Nat.zero_mul, List.drop_zero, List.take_of_length_le (by omega)]
    exact d.M_mono (fun _ _ => rfl) h
  | succ j => simp at hj
end Kd
end Go.Proofs.YtopfhdhdpnenpaaDoorV.PrintWords
