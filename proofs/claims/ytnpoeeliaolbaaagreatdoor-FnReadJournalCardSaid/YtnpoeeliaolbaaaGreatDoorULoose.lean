/- What a slice of the call's own is, where its capacity may be less than its block: rows that were clipped are rows of the call's own, too. No conditions: definitions and lemmas for the texts that follow. -/
import Derived.Maps.AppendAt
import Derived.Laws.OwnMore
import Derived.Laws.MakeOwn
import Derived.Lib.AppendStr
import Derived.OwnWalk
namespace Go
def World.rowOf (w : World) (base : Nat) (e : TypeId) (size : Nat) (v : Value) (n : Nat) (xs : List Value) : Prop :=
 xs.length = n * size ∧
 ((v = .slice none 0 0 ∧ n = 0) ∨
 ∃ g cap cur, v = .slice (some ⟨g, 0, none⟩) n cap ∧ base ≤ g ∧ w.heap[g]? = some (.cells cur e (0, 0)) ∧ n ≤ cap ∧ cap ≤ maxLen ∧ cap * size ≤ cur.size ∧ cur.toList.take (n * size) = xs)
section
variable {w : World} {base : Nat} {e : TypeId} {size : Nat} {v : Value} {n : Nat} {xs : List Value}
theorem World.ownsRow.loose (h : w.ownsRow base e size v n xs) : w.rowOf base e size v n xs := by
 obtain ⟨h0, h1⟩ := h;refine ⟨h0, h1.imp_right ?_⟩;rintro ⟨g, cap, cur, a1, a2, a3, a4, a5, a6, a7⟩;exact ⟨g, cap, cur, a1, a2, a3, a4, a5, Nat.le_of_eq a6.symm, a7⟩
theorem World.rowOf_lit (w : World) (cs : Array Value) (n : Nat) (hb : base ≤ w.heap.size) (hm : n ≤ maxLen) (hs : cs.size = n * size) :
  (w.alloc (.cells cs e)).rowOf base e size (.slice (some ⟨w.heap.size, 0, none⟩) n n) n cs.toList := (World.ownsRow_lit w cs n hb hm hs).loose
theorem World.rowOf.lt (h : w.rowOf base e size v n xs) : ∀ k, v.ownBlock = some k → base ≤ k ∧ k < w.heap.size := by
 intro k hk;obtain ⟨-, ⟨rfl, -⟩ | ⟨g, cap, cur, rfl, hb, hg, -⟩⟩ := h
 ·cases hk
 ·cases hk;exact ⟨hb, (Array.getElem?_eq_some_iff.1 hg).1⟩
theorem World.rowOf.kept {w' : World} {row : Option Nat} (h : w.rowOf base e size v n xs) (hg : w.grownBy w' row) (hne : v.ownBlock = none ∨ v.ownBlock ≠ row) : w'.rowOf base e size v n xs := by
 obtain ⟨h0, h1⟩ := h;refine ⟨h0, h1.imp_right ?_⟩;rintro ⟨g, cap, cur, rfl, hb, hh, r⟩;have hlt := (Array.getElem?_eq_some_iff.1 hh).1;refine ⟨g, cap, cur, rfl, hb, (hg.block g hlt ?_).trans hh, r⟩;rcases hne with hne | hne
 ·cases hne
 ·exact hne
theorem World.rowOf.alloc (h : w.rowOf base e size v n xs) (o : Obj) : (w.alloc o).rowOf base e size v n xs := by
 refine h.kept (World.grownBy_alloc w o none) ?_;cases v.ownBlock
 ·exact .inl rfl
 ·exact .inr (fun e => by cases e)
theorem World.rowOf.drew (h : w.rowOf base e size v n xs) : w.drew.rowOf base e size v n xs := h
theorem World.rowOf.cells (h : w.rowOf base e size v n xs) {g : Nat} (hg : v.ownBlock = some g) : ∀ j u, xs[j]? = some u → w.cell? ((⟨g, 0, none⟩ : Addr).add j) = some u := by
 intro j u hu;obtain ⟨-, ⟨rfl, -⟩ | ⟨g', cap, cur, rfl, -, hh, -, -, -, ht⟩⟩ := h
 ·cases hg
 ·cases hg;(rw [show (⟨g', 0, none⟩ : Addr).add j = ⟨g', j, none⟩ by unfold Addr.add; split <;> simp_all, cell_of_row w g' j cur e (0, 0) hh]);subst ht;rw [List.getElem?_take] at hu;by_cases hj : j < n * size
  ·rw [if_pos hj] at hu; simpa using hu
  ·rw [if_neg hj] at hu; cases hu
theorem World.rowOf.form (h : w.rowOf base e size v n xs) (hn : 0 < n) : ∃ g cap, v = .slice (some ⟨g, 0, none⟩) n cap ∧ base ≤ g ∧ g < w.heap.size := by
 have hlt := h.lt;obtain ⟨-, ⟨-, h0⟩ | ⟨g, cap, cur, rfl, -⟩⟩ := h
 ·omega
 ·exact ⟨g, cap, rfl, hlt g rfl⟩
variable {g cap : Nat}
theorem rowOf_slice (h : w.rowOf base e size (.slice (some ⟨g, 0, none⟩) n cap) n xs) : ∃ cur, base ≤ g ∧ w.heap[g]? = some (.cells cur e (0, 0)) ∧ n ≤ cap ∧ cap ≤ maxLen ∧ cap * size ≤ cur.size ∧ cur.toList.take (n * size) = xs := by
 obtain ⟨-, ⟨h1, -⟩ | ⟨g', cap', cur, h1, r⟩⟩ := h
 ·cases h1
 ·cases h1;exact ⟨cur, r⟩
theorem World.rowOf.stored (h : w.rowOf base e size (.slice (some ⟨g, 0, none⟩) n cap) n xs) (j : Nat) (u : Value) :
  (w.setCell ⟨g, j, none⟩ u).rowOf base e size (.slice (some ⟨g, 0, none⟩) n cap) n (xs.set j u) ∧ w.grownBy (w.setCell ⟨g, j, none⟩ u) (some g) := by
 obtain ⟨cur, hb, hh, hn, hm, hs, ht⟩ := rowOf_slice h
 constructor
 ·refine ⟨(List.length_set ..).trans h.1, .inr ⟨g, cap, cur.setIfInBounds j u, rfl, hb, heap_setCell_same w g j cur e u hh, hn, hm, by rw [Array.size_setIfInBounds]; exact hs, ?_⟩⟩;rw [Array.toList_setIfInBounds, List.take_set, ht]
 ·exact ⟨rfl, rfl, rfl, by simp, fun k _ hk => heap_setCell_other w ⟨g, j, none⟩ k u (fun e => hk (congrArg some e))⟩
end
section
variable {P : Program} (w : World)
theorem run_append_rowOf (base : Nat) (t ty e : TypeId) (i : TypeInfo) (z : Value) (size bytes : Nat) (ht : P.underlying t = some (.slice e)) (hi : P.info? e = some i) (hz : i.zero = some z)
  (hsize : i.size = size) (hby : i.bytes = bytes) (hzs : z.cells.size = size) (hsz : 0 < size)
  (v : Value) (n : Nat) (xs : List Value) (hown : w.rowOf base e size v n xs)
  (a : Addr) (m c : Nat) (news : List Value) (hl : news.length = m * size) (hnews : ∀ j u, news[j]? = some u → w.cell? (a.add j) = some u) (h1 : ∀ u ∈ news, u.oneCell' = true)
  (h63 : n + m ≤ maxLen) (hbytes : (n + m) * bytes ≤ 140737488355328) (hbase : base ≤ w.heap.size) :
  ∃ v' w', (Builtin.append_ #[t, t] ty #[v, .slice (some a) m c]).run P w = .ok v' w' ∧ w'.rowOf base e size v' (n + m) (xs ++ news) ∧ w.grownBy w' v.ownBlock ∧
   (v' = .slice none 0 0 ↔ v = .slice none 0 0 ∧ m = 0) ∧ (v'.ownBlock = v.ownBlock ∨ v'.ownBlock = some w.heap.size) := by
 have hown' := hown;obtain ⟨hxl, ⟨rfl, rfl⟩ | ⟨g, cap, cur, rfl, hb, hh, hn, hm, hs, htk⟩⟩ := hown
 ·obtain rfl : xs = [] := List.eq_nil_of_length_eq_zero (by rw [hxl, Nat.zero_mul]);obtain ⟨v', w', r1, r2, r3, r4, r5⟩ := run_append_own_at (P := P) w base t ty e i z size bytes ht hi hz hsize hby hzs hsz _ 0 [] (World.ownsRow_nil w base e size) a m c news hl hnews h1 h63 hbytes hbase;exact ⟨v', w', r1, r2.loose, r3, r4, r5⟩
 ·subst hsize hby;by_cases hroom : n + m ≤ cap
  ·have hfit : n * i.size + news.length ≤ cur.size := by
    have := Nat.mul_le_mul_right i.size hroom;rw [Nat.add_mul] at this;omega
   refine ⟨_, _, run_append_room (P := P) w t ty e i ht hi g n cap cur hh a m c news hl hnews h1 hroom hfit, ⟨?_, .inr ⟨g, cap, _, rfl, hb, setRow_heap w g cur _ e _ hh, hroom, hm, ?_, ?_⟩⟩, ⟨rfl, rfl, rfl, by simp, fun k _ hk => setRow_other w g k _ (fun e => hk (congrArg some e))⟩, by simp, .inl rfl⟩
   ·rw [List.length_append, hxl, hl, Nat.add_mul]
   ·simp only [List.size_toArray, List.length_append, List.length_take, List.length_drop, Array.length_toList];omega
   ·rw [htk];show ((xs ++ news) ++ _).take ((n + m) * i.size) = xs ++ news;rw [List.take_append_of_le_length (by rw [List.length_append, hxl, hl, Nat.add_mul]; omega), List.take_of_length_le (by rw [List.length_append, hxl, hl, Nat.add_mul]; omega)]
  ·have hge := grownCap_ge w (n + m) cap e;have hcm := grownCap_le_maxLen w (n + m) cap e h63;simp only [maxLen] at h63;refine ⟨_, _, run_append_grow (P := P) w t ty e i z ht hi hz ⟨g, 0, none⟩ n cap xs hxl (hown'.cells (g := g) rfl) a m c news hl hnews (by omega) (by omega) (growslice_fits (by omega) hbytes), ⟨?_, .inr ⟨w.heap.size, _, _, rfl, hbase, heap_alloc_new w.drew _, hge, hcm, ?_, ?_⟩⟩, ⟨rfl, rfl, rfl, by simp, fun k hk _ => heap_alloc_old w.drew _ k hk⟩, by simp, .inr rfl⟩
   ·rw [List.length_append, hxl, hl, Nat.add_mul]
   ·simp only [Array.size_append, List.size_toArray, size_zeroCells, hzs, hxl, hl, ← Nat.add_mul];exact Nat.mul_le_mul_right _ (by omega)
   ·rw [Array.toList_append, Array.toList_append];show ((xs ++ news) ++ _).take ((n + m) * i.size) = xs ++ news;rw [List.take_append_of_le_length (by rw [List.length_append, hxl, hl, Nat.add_mul]; omega), List.take_of_length_le (by rw [List.length_append, hxl, hl, Nat.add_mul]; omega)]
theorem wpList_append_rowOf {ops : Array Oper} {rest : List Oper} {o : Oper} {a : Act} {Q : Exit → Act → World → Prop} (hgd : o.guard = none) (s x : Operand) (t : TypeId)
  (ho : o.op = .call { callee := .builtin .append, args := #[s, x], argTypes := #[t, t] })
  (base : Nat) (e : TypeId) (i : TypeInfo) (z : Value) (size bytes : Nat) (ht : P.underlying t = some (.slice e)) (hi : P.info? e = some i) (hz : i.zero = some z)
  (hsize : i.size = size) (hby : i.bytes = bytes) (hzs : z.cells.size = size) (hsz : 0 < size)
  (v : Value) (n : Nat) (xs : List Value) (hs : a.eval s = v) (hown : w.rowOf base e size v n xs)
  (ad : Addr) (m c : Nat) (news : List Value) (hx : a.eval x = .slice (some ad) m c) (hl : news.length = m * size) (hnews : ∀ j u, news[j]? = some u → w.cell? (ad.add j) = some u) (h1 : ∀ u ∈ news, u.oneCell' = true)
  (h63 : n + m ≤ maxLen) (hbytes : (n + m) * bytes ≤ 140737488355328) (hbase : base ≤ w.heap.size)
  (h : ∀ v' w', w'.rowOf base e size v' (n + m) (xs ++ news) → w.grownBy w' v.ownBlock → (v' = .slice none 0 0 ↔ v = .slice none 0 0 ∧ m = 0) → (v'.ownBlock = v.ownBlock ∨ v'.ownBlock = some w.heap.size) → wpList P ops Q rest (a.put o.dst v') w') : wpList P ops Q (o :: rest) a w := by
 obtain ⟨v', w', hr, r2, r3, r4, r5⟩ := run_append_rowOf (P := P) w base t o.type e i z size bytes ht hi hz hsize hby hzs hsz v n xs hown ad m c news hl hnews h1 h63 hbytes hbase;refine wpList_plain hgd fun K hK => ?_;unfold Oper.wp execOp;simp only [ho, resolve, invoke, builtin, Sem.run_bind, Sem.run_pure, Result.andThen_ok, List.map_toArray, List.map_cons, List.map_nil, hs, hx, hr];exact hK _ _ (h v' w' r2 r3 r4 r5)
end
end Go
