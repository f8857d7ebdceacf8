/- The plain statement of FnExchangedAt: the printed functions answer true for all arguments within the printed bounds; no other conditions. -/
import Derived.Test.YtghjiacfofeegaaLAx7
import Derived.ChangeSlices
import Derived.SizedLaws
import Derived.Test.YtghjiacfofeegaaVSized
namespace Go.Proofs.Ytghjiacfofeegaa.Pure
open Go.RowKit Go.Proofs.Ytghjiacfofeegaa.LA Go.Proofs.YtghjiacfofeegaaV.PrintWords Go.Proofs.YtghjiacfofeegaaV.PrintLast
set_option linter.unusedVariables false
set_option linter.unusedSimpArgs false

theorem Ev.ret {α : Type} {r r' : α} (h : r = r') : Ev (fun _ => some r) r' := ⟨0, fun _ _ => by rw [h]⟩
theorem Ev.pos {α : Type} {c : Prop} [Decidable c] {g f : Nat → Option α} {r : α} (h : c) (k : Ev g r) : Ev (fun n => if c then g n else f n) r := by
  simpa only [if_pos h] using k
theorem Ev.neg {α : Type} {c : Prop} [Decidable c] {g f : Nat → Option α} {r : α} (h : ¬ c) (k : Ev f r) : Ev (fun n => if c then g n else f n) r := by
  simpa only [if_neg h] using k
theorem Ev.ite {α : Type} {c : Prop} [Decidable c] {g f : Nat → Option α} {r : α} (h : c → Ev g r) (k : ¬ c → Ev f r) : Ev (fun n => if c then g n else f n) r := by
  by_cases hc : c
  · exact Ev.pos hc (h hc)
  · exact Ev.neg hc (k hc)
theorem Ev.bind0 {α β : Type} {o : Option α} {f : Nat → α → Option β} {a : α} {r : β} (h : o = some a) (k : Ev (fun n => f n a) r) : Ev (fun n => o.bind (f n)) r := by
  subst h; simpa only [Option.bind_some] using k
theorem Ev.eq {α : Type} {g : Nat → Option α} {r r' : α} (h : Ev g r) (e : r = r') : Ev g r' := e ▸ h
theorem wrap_id {n : Int} (h0 : -9223372036854775808 ≤ n) (h1 : n < 9223372036854775808) : wrap64 n = n := by
  unfold wrap64; omega
theorem wrap_add1 {n : Nat} (h : n < 1099511627776) : wrap64 ((n : Int) + 1) = ((n + 1 : Nat) : Int) := by
  unfold wrap64; omega
theorem rd_nat (l : List Int) (j : Nat) : rd l (j : Int) = l.getD j 0 := by simp [rd]

open Go.ChangeShapes Go.WideShapes in
/-- the printed row names this lemma so: it is the words' own -/
theorem _root_.Go.Proofs.Ytghjiacfofeegaa.PrintWords.sized_ints {H : Type} {enc : TypeId × Value → H} {P : Program} {W : World} {base : Nat} {spare : Nat → Bool} {held : Bool} {t e : TypeId} {k : IntKind} {a : Option Addr} {len cap : Nat} {d : DataW H} {ps : List MemPlace} {ts : List TypeId} {ds : List (DataW H)} {j : Nat}
    (hsz : (DataW.weightsEach P ts ds).all (· ≤ reachBytes) = true) (ht : ts[j]? = some t) (hd : ds[j]? = some d) (hu : P.underlying t = some (.slice e)) (he : P.underlying e = some (.int k)) (hc : P.cellsOf e = 1) {B : Nat} (hB : P.bytesOf e = B)
    (h : DataW.Trod enc P W base spare held t (.slice a len cap) d ps) : len * B ≤ 140737488351232 :=
  Go.Proofs.YtghjiacfofeegaaV.PrintWords.sized_ints hsz ht hd hu he hc hB h

/-! the reader of codes -/
theorem xor_small (a b : Int) (ha : 0 ≤ a) (ha2 : a < 4294967296) (hb : 0 ≤ b) (hb2 : b < 4294967296) : 0 ≤ Go.bits .xor .i64 a b ∧ Go.bits .xor .i64 a b < 4294967296 := by
  obtain ⟨x, rfl⟩ : ∃ x : Nat, a = x := ⟨a.toNat, by omega⟩
  obtain ⟨y, rfl⟩ : ∃ y : Nat, b = y := ⟨b.toNat, by omega⟩
  have h := Nat.xor_lt_two_pow (n := 32) (show x < 2 ^ 32 by omega) (show y < 2 ^ 32 by omega)
  have e : Go.bits .xor .i64 (x : Int) (y : Int) = ((x ^^^ y : Nat) : Int) := by
    have hx : x % 2 ^ 64 = x := Nat.mod_eq_of_lt (by omega)
    have hy : y % 2 ^ 64 = y := Nat.mod_eq_of_lt (by omega)
    have hv : (BitVec.ofNat 64 x ^^^ BitVec.ofNat 64 y).toNat = x ^^^ y := by rw [BitVec.toNat_xor, BitVec.toNat_ofNat, BitVec.toNat_ofNat, hx, hy]
    simp only [Go.bits, BitVec.ofInt_natCast, IntKind.bits]
    rw [i64_w]
    show wrap64 (((BitVec.ofNat 64 x ^^^ BitVec.ofNat 64 y).toNat : Nat) : Int) = _
    rw [hv]
    exact wrap_id (n := ((x ^^^ y : Nat) : Int)) (by omega) (by omega)
  rw [e]
  omega
structure Bytes (b : List Int) : Prop where
  small : ∀ x ∈ b, 0 ≤ x ∧ x ≤ 255
  len : b.length ≤ 2000
theorem Bytes.rd_le {b : List Int} (h : Bytes b) (i : Int) : 0 ≤ rd b i ∧ rd b i ≤ 255 := by
  unfold rd
  by_cases hi : i.toNat < b.length
  · have e : b.getD i.toNat 0 = b[i.toNat] := by simp [hi]
    rw [e]; exact h.small _ (List.getElem_mem hi)
  · have e : b.getD i.toNat 0 = 0 := by simp [Nat.le_of_not_lt hi]
    rw [e]; omega
theorem pick_ev {b : List Int} (hb : Bytes b) (p n : Int) (h0 : 0 ≤ p) (h1 : p ≤ 1000000) (hn : 1 ≤ n) (hn2 : n ≤ 1000000) :
    ∃ v, 0 ≤ v ∧ v < n ∧ Ev (fun k => spec_l20Rd_pick.f k b p n) (v, p + 1) := by
  unfold spec_l20Rd_pick.f
  have hl := hb.len
  rw [wrap_id (n := p + 1) (by omega) (by omega)]
  by_cases hz : b.length = 0
  · refine ⟨0, by omega, by omega, Ev.neg (by omega) (Ev.step (fun k => spec_l20Rd_pick.j0.eq_2 ..) (Ev.pos (by rw [hz]; rfl) (Ev.ret rfl)))⟩
  · by_cases hp : p < b.length
    · have hr := hb.rd_le p
      refine ⟨Int.tmod (rd b p) n, Int.tmod_nonneg _ hr.1, Int.tmod_lt_of_pos _ (by omega), ?_⟩
      refine Ev.neg (by omega) (Ev.step (fun k => spec_l20Rd_pick.j0.eq_2 ..) (Ev.neg (by simp; intro e; simp [e] at hz) ?_))
      rw [wrap_id (n := p + 1 - 1) (by omega) (by omega), show p + 1 - 1 = p by omega, wrap_id (n := rd b p) (by omega) (by omega)]
      exact Ev.pos hp (Ev.pos h0 (Ev.neg (by omega) (Ev.ret rfl)))
    · have e0 : wrap64 (p + 1 - 1) = p := by rw [wrap_id (by omega) (by omega)]; omega
      have hm1 : 0 ≤ Int.tmod p (b.length : Int) ∧ Int.tmod p (b.length : Int) < b.length := ⟨Int.tmod_nonneg _ h0, Int.tmod_lt_of_pos _ (by omega)⟩
      have e1 : wrap64 (wrap64 (p * 7) + 3) = p * 7 + 3 := by rw [wrap_id (n := p * 7) (by omega) (by omega), wrap_id (by omega) (by omega)]
      have hm2 : 0 ≤ Int.tmod (p * 7 + 3) (b.length : Int) ∧ Int.tmod (p * 7 + 3) (b.length : Int) < b.length := ⟨Int.tmod_nonneg _ (by omega), Int.tmod_lt_of_pos _ (by omega)⟩
      have hr1 := hb.rd_le (Int.tmod p (b.length : Int))
      have hr2 := hb.rd_le (Int.tmod (p * 7 + 3) (b.length : Int))
      have hd : 0 ≤ Int.tdiv p (b.length : Int) ∧ Int.tdiv p (b.length : Int) ≤ p := by
        rw [Int.tdiv_eq_ediv_of_nonneg h0]
        exact ⟨Int.ediv_nonneg h0 (by omega), Int.ediv_le_self _ h0⟩
      obtain ⟨u1, hu1⟩ : ∃ u, u = rd b (Int.tmod p (b.length : Int)) := ⟨_, rfl⟩
      obtain ⟨u2, hu2⟩ : ∃ u, u = rd b (Int.tmod (p * 7 + 3) (b.length : Int)) := ⟨_, rfl⟩
      obtain ⟨q, hq⟩ : ∃ u, u = Int.tdiv p (b.length : Int) := ⟨_, rfl⟩
      rw [← hu1] at hr1
      rw [← hu2] at hr2
      rw [← hq] at hd
      obtain ⟨x, hx⟩ : ∃ x, x = wrap64 (wrap64 (wrap64 (wrap64 (wrap64 u1 * 131) + wrap64 (wrap64 u2 * 1117)) + wrap64 (p * 29)) + wrap64 (wrap64 q * 53)) := ⟨_, rfl⟩
      have hxb : 0 ≤ x ∧ x < 4294967296 := by
        rw [hx, wrap_id (n := u1) (by omega) (by omega), wrap_id (n := u2) (by omega) (by omega), wrap_id (n := u1 * 131) (by omega) (by omega), wrap_id (n := u2 * 1117) (by omega) (by omega), wrap_id (n := u1 * 131 + _) (by omega) (by omega), wrap_id (n := p * 29) (by omega) (by omega), wrap_id (n := q) (by omega) (by omega), wrap_id (n := q * 53) (by omega) (by omega), wrap_id (n := u1 * 131 + u2 * 1117 + p * 29) (by omega) (by omega), wrap_id (by omega) (by omega)]
        omega
      have hy : 0 ≤ wrap64 (Int.tdiv x 64) ∧ wrap64 (Int.tdiv x 64) < 4294967296 := by
        rw [Int.tdiv_eq_ediv_of_nonneg hxb.1, wrap_id (by omega) (by omega)]
        omega
      have hz2 := xor_small x (wrap64 (Int.tdiv x 64)) hxb.1 hxb.2 hy.1 hy.2
      refine ⟨Int.tmod (Go.bits .xor .i64 x (wrap64 (Int.tdiv x 64))) n, Int.tmod_nonneg _ hz2.1, Int.tmod_lt_of_pos _ (by omega), ?_⟩
      refine Ev.neg (by omega) (Ev.step (fun k => spec_l20Rd_pick.j0.eq_2 ..) (Ev.neg (by simp; intro e; simp [e] at hz) ?_))
      rw [e0, e1, ← hu1, ← hu2, ← hq, ← hx]
      exact Ev.neg hp (Ev.neg (by omega) (Ev.pos hm1.1 (Ev.pos hm1.2 (Ev.pos hm2.1 (Ev.pos hm2.2 (Ev.neg (by omega) (Ev.ret rfl)))))))
theorem l20Open_ev (l : List Int) (hb : ∀ x ∈ l, (Lit.int .u8 x).wf = true) : ∃ b, Bytes b ∧ spec_l20Open.f l = some (b, 0) := by
  have hs : ∀ x ∈ l, 0 ≤ x ∧ x ≤ 255 := by
    intro x hx
    have := hb x hx
    simp [Lit.wf, IntKind.min, IntKind.max, IntKind.signed, IntKind.bits] at this
    omega
  unfold spec_l20Open.f
  by_cases h : (l.length : Int) > 2000
  · rw [if_pos h, if_pos (by omega)]
    exact ⟨l.take 2000, ⟨fun x hx => hs x (List.mem_of_mem_take hx), by simp; omega⟩, rfl⟩
  · rw [if_neg h]
    exact ⟨l, ⟨hs, by omega⟩, rfl⟩

theorem odd_ev {b : List Int} (hb : Bytes b) (p n : Int) (h0 : 0 ≤ p) (h1 : p ≤ 1000000) (hn : 1 ≤ n) (hn2 : n ≤ 1000000) :
    ∃ v, Ev (fun k => spec_l20Rd_odd.f k b p n) (v, p + 1) := by
  obtain ⟨v, _, _, hv⟩ := pick_ev hb p n h0 h1 hn hn2
  unfold spec_l20Rd_odd.f
  exact ⟨_, Ev.pos (by omega) (Ev.bind hv (Ev.ret rfl))⟩

/-- each entry is the number of a word -/
def Within (n : Int) (l : List Int) : Prop := ∀ x ∈ l, 1 ≤ x ∧ x ≤ n
theorem Within.get {n : Int} {l : List Int} (h : Within n l) {i : Int} (h0 : 0 ≤ i) (h1 : i < l.length) : 1 ≤ rd l i ∧ rd l i ≤ n := by
  have e : rd l i = l[i.toNat]'(by omega) := by unfold rd; simp [show i.toNat < l.length by omega]
  rw [e]; exact h _ (List.getElem_mem _)
theorem order_next (x5 : List Int) (m x7 : Int) (h7 : 1 ≤ x7) (hw : Within (x7 - 1) x5) (h0 : 0 ≤ m) (h1 : m ≤ x5.length) :
    Within x7 (([] ++ x5.take m.toNat ++ [x7]) ++ x5.drop m.toNat) ∧ (([] ++ x5.take m.toNat ++ [x7]) ++ x5.drop m.toNat).length = x5.length + 1 := by
  constructor
  · intro x hx
    simp only [List.nil_append, List.append_assoc, List.mem_append, List.mem_singleton] at hx
    rcases hx with hx | hx | hx
    · have := hw x (List.mem_of_mem_take hx); omega
    · omega
    · have := hw x (List.mem_of_mem_drop hx); omega
  · simp; omega
theorem order_l0 {b : List Int} (hb : Bytes b) (n keep : Int) (hn : n ≤ 100) (d : Nat) : ∀ (x5 : List Int) (x7 p : Int), x7 + d = n + 1 → 1 ≤ x7 → (x5.length : Int) = x7 - 1 → Within (x7 - 1) x5 → 0 ≤ p → p ≤ 1000 + 2 * x7 →
    ∃ r p', Ev (fun k => spec_l20Order.l0 k n x5 keep x7 b p) (r, p') ∧ (r.length : Int) = n ∧ Within n r ∧ p ≤ p' ∧ p' ≤ p + 2 * d := by
  induction d with
  | zero =>
    intro x5 x7 p h7 h1 hl hw hp hp2
    refine ⟨x5, p, Ev.step (fun k => spec_l20Order.l0.eq_2 ..) (Ev.neg (by omega) (Ev.ret rfl)), by omega, ?_, by omega, by omega⟩
    intro x hx
    have := hw x hx
    omega
  | succ d ih =>
    intro x5 x7 p h7 h1 hl hw hp hp2
    have put : ∀ (m p' : Int), 0 ≤ m → m ≤ x5.length → p ≤ p' → p' ≤ p + 2 → ∃ r p'', Ev (fun k => spec_l20Order.l0 k n (([] ++ x5.take m.toNat ++ [x7]) ++ x5.drop m.toNat) keep (x7 + 1) b p') (r, p'') ∧ (r.length : Int) = n ∧ Within n r ∧ p ≤ p'' ∧ p'' ≤ p + 2 * ((d + 1 : Nat) : Int) := by
      intro m p' hm0 hm1 hpp hpp2
      obtain ⟨hw', hl'⟩ := order_next x5 m x7 h1 hw hm0 hm1
      obtain ⟨r, p'', h1, h2, h3, h4, h5⟩ := ih (([] ++ x5.take m.toNat ++ [x7]) ++ x5.drop m.toNat) (x7 + 1) p' (by omega) (by omega) (by omega) (by rw [show x7 + 1 - 1 = x7 by omega]; exact hw') (by omega) (by omega)
      exact ⟨r, p'', h1, h2, h3, by omega, by omega⟩
    have hlen : ∀ m : Int, 0 ≤ m → m ≤ x5.length → (x5.take m.toNat).length ≤ 200 ∧ (x5.drop m.toNat).length ≤ 200 := by
      intro m _ _; simp; omega
    by_cases hk : keep = 0
    · obtain ⟨v, hv0, hv1, hv⟩ := pick_ev hb p x7 hp (by omega) h1 (by omega)
      obtain ⟨r, p'', h, hrest⟩ := put v (p + 1) hv0 (by omega) (by omega) (by omega)
      have hlen' := hlen v hv0 (by omega)
      refine ⟨r, p'', Ev.step (fun k => spec_l20Order.l0.eq_2 ..) (Ev.pos (by omega) (Ev.pos hk (Ev.bind hv ?_))), hrest⟩
      simp only [Option.bind_some]
      rw [wrap_id (n := x7 + 1) (by omega) (by omega)]
      refine Ev.pos hv0 (Ev.pos (show v ≤ x5.length by omega) (Ev.pos ?_ (Ev.pos ?_ (Ev.pos ?_ h))))
      · simp only [List.length_nil]; omega
      · simp only [List.length_append, List.length_nil]; omega
      · simp only [List.length_append, List.length_nil, List.length_singleton]; omega
    · obtain ⟨u, hu0, hu1, hu⟩ := pick_ev hb p 3 hp (by omega) (by omega) (by omega)
      by_cases hu3 : u = 0
      · obtain ⟨v, hv0, hv1, hv⟩ := pick_ev hb (p + 1) x7 (by omega) (by omega) h1 (by omega)
        obtain ⟨r, p'', h, hrest⟩ := put v (p + 1 + 1) hv0 (by omega) (by omega) (by omega)
        have hlen' := hlen v hv0 (by omega)
        refine ⟨r, p'', Ev.step (fun k => spec_l20Order.l0.eq_2 ..) (Ev.pos (by omega) (Ev.neg hk (Ev.bind hu (Ev.pos hu3 (Ev.bind hv ?_))))), hrest⟩
        simp only [Option.bind_some]
        rw [wrap_id (n := x7 + 1) (by omega) (by omega)]
        refine Ev.pos hv0 (Ev.pos (show v ≤ x5.length by omega) (Ev.pos ?_ (Ev.pos ?_ (Ev.pos ?_ h))))
        · simp only [List.length_nil]; omega
        · simp only [List.length_append, List.length_nil]; omega
        · simp only [List.length_append, List.length_nil, List.length_singleton]; omega
      · obtain ⟨r, p'', h, hrest⟩ := put (x5.length : Int) (p + 1) (by omega) (by omega) (by omega) (by omega)
        have hlen' := hlen (x5.length : Int) (by omega) (by omega)
        refine ⟨r, p'', Ev.step (fun k => spec_l20Order.l0.eq_2 ..) (Ev.pos (by omega) (Ev.neg hk (Ev.bind hu (Ev.neg hu3 ?_)))), hrest⟩
        simp only [Option.bind_some]
        rw [wrap_id (n := x7 + 1) (by omega) (by omega)]
        refine Ev.pos (by omega) (Ev.pos (by omega) (Ev.pos ?_ (Ev.pos ?_ (Ev.pos ?_ h))))
        · simp only [List.length_nil]; omega
        · simp only [List.length_append, List.length_nil]; omega
        · simp only [List.length_append, List.length_nil, List.length_singleton]; omega
theorem order_ev {b : List Int} (hb : Bytes b) (p n : Int) (hp : 0 ≤ p) (hp2 : p ≤ 1000) (h0 : 0 ≤ n) (hn : n ≤ 100) :
    ∃ r p', Ev (fun k => spec_l20Order.f k b p n) (r, p') ∧ (r.length : Int) = n ∧ Within n r ∧ p ≤ p' ∧ p' ≤ p + 1 + 2 * n := by
  obtain ⟨v, hv0, hv1, hv⟩ := pick_ev hb p 2 hp (by omega) (by omega) (by omega)
  obtain ⟨r, p', h, h1, h2, h3, h4⟩ := order_l0 hb n v hn n.toNat [] 1 (p + 1) (by omega) (by omega) (by simp) (by intro x hx; simp at hx) (by omega) (by omega)
  unfold spec_l20Order.f
  exact ⟨r, p', Ev.bind hv h, h1, h2, by omega, by omega⟩

/-! orders -/
@[reducible] def goodAt (o : List Int) (many : Int) (i : Nat) : Prop := (1 ≤ rd o i ∧ rd o i ≤ many) ∧ ∀ j : Nat, j < i → rd o j ≠ rd o i
def orderOk (o : List Int) (many : Int) : Bool := decide ((1 ≤ many ∧ many ≤ 8) ∧ (o.length : Int) = many ∧ ∀ i : Nat, i < o.length → goodAt o many i)
theorem orderOk_bad {o : List Int} {many : Int} {i : Nat} (hi : i < o.length) (h : ¬ goodAt o many i) : orderOk o many = false := by
  unfold orderOk
  rw [decide_eq_false_iff_not]
  exact fun h2 => h (h2.2.2 i hi)
theorem orderOk_iff {o : List Int} {many : Int} : orderOk o many = true ↔ ((1 ≤ many ∧ many ≤ 8) ∧ (o.length : Int) = many ∧ ∀ i : Nat, i < o.length → goodAt o many i) := by
  unfold orderOk
  rw [decide_eq_true_iff]

/-! numbers from 1 to n, none twice -/
theorem nodup_le : ∀ (n : Nat) (L : List Int), L.Nodup → (∀ x, x ∈ L → 1 ≤ x ∧ x ≤ n) → L.length ≤ n
  | 0, L, _, h => by
    cases L with
    | nil => simp
    | cons a r => have := h a (by simp); omega
  | n + 1, L, hn, h => by
    by_cases hm : ((n + 1 : Nat) : Int) ∈ L
    · have h1 := nodup_le n (L.erase ((n + 1 : Nat) : Int)) (hn.erase _) (fun x hx => by
        rw [hn.mem_erase_iff] at hx
        have := h x hx.2
        omega)
      rw [List.length_erase_of_mem hm] at h1
      omega
    · have := nodup_le n L hn (fun x hx => by
        have h2 := h x hx
        have : x ≠ ((n + 1 : Nat) : Int) := fun e => hm (e ▸ hx)
        omega)
      omega
theorem nodup_all : ∀ (n : Nat) (L : List Int), L.Nodup → (∀ x, x ∈ L → 1 ≤ x ∧ x ≤ n) → L.length = n → ∀ v : Int, 1 ≤ v → v ≤ n → v ∈ L
  | 0, L, _, h, hl, v, h0, h1 => by omega
  | n + 1, L, hn, h, hl, v, h0, h1 => by
    have hm : ((n + 1 : Nat) : Int) ∈ L := by
      apply Decidable.byContradiction
      intro hm
      have := nodup_le n L hn (fun x hx => by
        have h2 := h x hx
        have : x ≠ ((n + 1 : Nat) : Int) := fun e => hm (e ▸ hx)
        omega)
      omega
    by_cases e : v = ((n + 1 : Nat) : Int)
    · rw [e]; exact hm
    · have := nodup_all n (L.erase ((n + 1 : Nat) : Int)) (hn.erase _) (fun x hx => by
        rw [hn.mem_erase_iff] at hx
        have := h x hx.2
        omega) (by rw [List.length_erase_of_mem hm]; omega) v h0 (by omega)
      exact List.mem_of_mem_erase this

theorem rd_get (l : List Int) {i : Nat} (h : i < l.length) : rd l i = l[i] := by simp [rd_nat, h]
theorem nodup_iff_rd (l : List Int) : l.Nodup ↔ ∀ i j : Nat, i < j → j < l.length → rd l i ≠ rd l j := by
  rw [List.nodup_iff_pairwise_ne, List.pairwise_iff_getElem]
  constructor
  · intro h i j hij hj
    rw [rd_get l (by omega), rd_get l hj]
    exact h i j (by omega) hj hij
  · intro h i j hi hj hij
    have := h i j hij hj
    rwa [rd_get l hi, rd_get l hj] at this
theorem orderOk_nodup {o : List Int} {many : Int} : orderOk o many = true ↔ (1 ≤ many ∧ many ≤ 8) ∧ (o.length : Int) = many ∧ o.Nodup ∧ ∀ x, x ∈ o → 1 ≤ x ∧ x ≤ many := by
  rw [orderOk_iff, nodup_iff_rd]
  constructor
  · rintro ⟨h1, h2, h3⟩
    refine ⟨h1, h2, fun i j hij hj => (h3 j hj).2 i hij, fun x hx => ?_⟩
    obtain ⟨i, hi, rfl⟩ := List.getElem_of_mem hx
    have := (h3 i hi).1
    rwa [rd_get o hi] at this
  · rintro ⟨h1, h2, h3, h4⟩
    refine ⟨h1, h2, fun i hi => ⟨?_, fun j hj => h3 j i hj hi⟩⟩
    rw [rd_get o hi]
    exact h4 _ (List.getElem_mem hi)

def exchangedAt (l : List Int) (a : Int) : List Int × Bool := if orderOk l l.length = true ∧ 0 ≤ a ∧ a ≤ l.length - 2 then ((l.set a.toNat (rd l (a + 1))).set (a + 1).toNat (rd l a), true) else ([], false)
theorem exchangedAt_small (l : List Int) (a : Int) : (exchangedAt l a).1.length ≤ 8 := by
  unfold exchangedAt
  split
  · rename_i h
    have := orderOk_iff.mp h.1
    show ((l.set a.toNat (rd l (a + 1))).set (a + 1).toNat (rd l a)).length ≤ 8
    simp; omega
  · simp

theorem l1In_eq (a b c : Int) : spec_l1In.f a b c = some (decide (b ≤ a ∧ a ≤ c)) := by
  unfold spec_l1In.f
  split
  · rename_i h; congr 1; rw [decide_eq_decide]; omega
  · rename_i h; congr 1; symm; rw [decide_eq_false_iff_not]; omega

/-- the reference's look at an order, as it goes -/
theorem spec_OrderOk_l1 (o : List Int) (many : Int) (hl : o.length ≤ 1048576) (i : Nat) (hi : i < o.length) (hin : 1 ≤ rd o i ∧ rd o i ≤ many) (next : goodAt o many i → Ev (fun k => spec_OrderOk.l0 k o many ((i + 1 : Nat) : Int)) (orderOk o many)) (d : Nat) :
    ∀ j : Nat, j + d = i → (∀ j' : Nat, j' < j → rd o j' ≠ rd o i) → Ev (fun k => spec_OrderOk.l1 k o many (i : Int) (j : Int)) (orderOk o many) := by
  induction d with
  | zero =>
    intro j hj h
    refine Ev.step (fun k => spec_OrderOk.l1.eq_2 ..) (Ev.neg (by omega) ?_)
    rw [wrap_add1 (by omega)]
    exact next ⟨hin, fun j' hj' => h j' (by omega)⟩
  | succ d ih =>
    intro j hj h
    refine Ev.step (fun k => spec_OrderOk.l1.eq_2 ..) (Ev.pos (by omega) (Ev.pos (by omega) (Ev.pos (by omega) (Ev.pos (by omega) (Ev.pos (by omega) (Ev.ite (fun e => ?_) (fun e => ?_)))))))
    · exact Ev.ret (orderOk_bad hi (fun h2 => h2.2 j (by omega) e)).symm
    · rw [wrap_add1 (by omega)]
      refine ih (j + 1) (by omega) (fun j' hj' => ?_)
      by_cases e2 : j' = j
      · subst e2; exact e
      · exact h j' (by omega)
theorem spec_OrderOk_l0 (o : List Int) (many : Int) (hl : o.length ≤ 1048576) (d : Nat) : ∀ i : Nat, i + d = o.length → (∀ j : Nat, j < i → goodAt o many j) → Ev (fun k => spec_OrderOk.l0 k o many (i : Int)) (orderOk o many) := by
  induction d with
  | zero =>
    intro i hi h
    refine Ev.step (fun k => spec_OrderOk.l0.eq_2 ..) (Ev.neg (by omega) (Ev.bind0 (l1In_eq ..) (Ev.ite (fun e => ?_) (fun e => ?_))))
    · refine Ev.ret ?_
      have e' := of_decide_eq_true e
      rw [Bool.eq_iff_iff, orderOk_iff, beq_iff_eq]
      exact ⟨fun h2 => ⟨e', h2, fun j hj => h j (by omega)⟩, fun h2 => h2.2.1⟩
    · refine Ev.ret ?_
      symm
      unfold orderOk
      rw [decide_eq_false_iff_not]
      intro h2
      exact e (decide_eq_true h2.1)
  | succ d ih =>
    intro i hi h
    refine Ev.step (fun k => spec_OrderOk.l0.eq_2 ..) (Ev.pos (by omega) (Ev.pos (by omega) (Ev.bind0 (l1In_eq ..) (Ev.ite (fun e => ?_) (fun e => ?_)))))
    · have e' := of_decide_eq_true e
      refine spec_OrderOk_l1 o many hl i (by omega) e' (fun hg => ?_) i 0 (by omega) (fun j' hj' => by omega)
      refine ih (i + 1) (by omega) (fun j hj => ?_)
      by_cases e2 : j = i
      · subst e2; exact hg
      · exact h j (by omega)
    · refine Ev.ret ?_
      exact (orderOk_bad (by omega) (fun h2 => e (decide_eq_true h2.1))).symm
theorem spec_OrderOk_ev (o : List Int) (many : Int) (hl : o.length ≤ 1048576) : Ev (fun k => spec_OrderOk.f k o many) (orderOk o many) := by
  unfold spec_OrderOk.f
  exact spec_OrderOk_l0 o many hl o.length 0 (by omega) (fun j hj => by omega)

theorem spec_ExchangedAt_ev (l : List Int) (a : Int) (hl : l.length ≤ 1048576) : Ev (fun k => spec_ExchangedAt.f k l a) (exchangedAt l a) := by
  unfold spec_ExchangedAt.f exchangedAt
  refine Ev.bind (spec_OrderOk_ev l _ hl) (Ev.ite (fun h => ?_) (fun h => ?_))
  · have h1 := orderOk_iff.mp h
    rw [wrap_id (n := (l.length : Int) - 2) (by omega) (by omega)]
    refine Ev.bind0 (l1In_eq ..) (Ev.ite (fun e => ?_) (fun e => ?_))
    · have e' := of_decide_eq_true e
      rw [if_pos ⟨h, e'.1, e'.2⟩]
      simp only [Option.bind_some, List.nil_append]
      rw [wrap_id (n := a + 1) (by omega) (by omega)]
      exact Ev.pos (by simp only [List.length_nil]; omega) (Ev.pos e'.1 (Ev.pos (by omega) (Ev.pos (by omega) (Ev.pos (by omega) (Ev.ret rfl)))))
    · rw [if_neg (fun h2 => e (decide_eq_true ⟨h2.2.1, h2.2.2⟩))]; exact Ev.ret rfl
  · rw [if_neg (fun h2 => h h2.1)]; exact Ev.ret rfl

/-! a sorted row with the same numbers -/
def SortedTo (x : List Int) (i : Nat) : Prop := ∀ a b : Nat, a < b → b < i → rd x a ≤ rd x b
def SameCount (x l : List Int) : Prop := x.length = l.length ∧ ∀ v : Int, x.count v = l.count v
/-- sorted up to place i, but that what stands at j may be less than what is ahead of it -/
def SortedBut (x : List Int) (i j : Nat) : Prop := ∀ a b : Nat, a < b → b ≤ i → b ≠ j → rd x a ≤ rd x b
theorem rd_set (x : List Int) (i : Nat) (v : Int) (j : Nat) (h : i < x.length) : rd (x.set i v) j = if j = i then v else rd x j := by
  rw [rd_nat, rd_nat, List.getD_eq_getElem?_getD, List.getD_eq_getElem?_getD]
  by_cases e : j = i
  · subst e; simp [h]
  · rw [List.getElem?_set_ne (by omega), if_neg e]
theorem swap_same {x l : List Int} (h : SameCount x l) {j : Nat} (hj : j + 1 < x.length) : SameCount ((x.set (j + 1) (rd x j)).set j (rd x ((j + 1 : Nat) : Int))) l := by
  refine ⟨by simp [h.1], fun v => ?_⟩
  have hj2 : j < (x.set (j + 1) (rd x j)).length := by simp; omega
  rw [List.count_set hj2, List.count_set hj, List.getElem_set_ne (by omega), ← rd_get x (i := j) (by omega), ← rd_get x (i := j + 1) hj, ← h.2 v]
  have h1 : 0 < x.count (rd x j) := List.count_pos_iff.mpr (by rw [rd_get x (by omega)]; exact List.getElem_mem _)
  have h2 : 0 < x.count (rd x ((j + 1 : Nat) : Int)) := List.count_pos_iff.mpr (by rw [rd_get x hj]; exact List.getElem_mem _)
  by_cases e1 : rd x j = v
  · by_cases e2 : rd x ((j + 1 : Nat) : Int) = v
    · simp only [e1, e2, beq_self_eq_true, if_true]; rw [e1] at h1; omega
    · have : (rd x ((j + 1 : Nat) : Int) == v) = false := by simpa using e2
      simp only [e1, this, beq_self_eq_true, if_true, Bool.false_eq_true, if_false]; omega
  · have e1' : (rd x j == v) = false := by simpa using e1
    by_cases e2 : rd x ((j + 1 : Nat) : Int) = v
    · simp only [e2, e1', beq_self_eq_true, if_true, Bool.false_eq_true, if_false]; rw [e2] at h2; omega
    · have : (rd x ((j + 1 : Nat) : Int) == v) = false := by simpa using e2
      simp only [this, e1', Bool.false_eq_true, if_false]; omega
theorem swap_sorted {x : List Int} {i j : Nat} (h : SortedBut x i (j + 1)) (hj : j + 1 ≤ i) (hi : i < x.length) (hlt : rd x ((j + 1 : Nat) : Int) < rd x j) : SortedBut ((x.set (j + 1) (rd x j)).set j (rd x ((j + 1 : Nat) : Int))) i j := by
  intro a b hab hb hne
  have hj2 : j < (x.set (j + 1) (rd x j)).length := by simp; omega
  rw [rd_set _ _ _ _ hj2, rd_set _ _ _ _ hj2, rd_set _ _ _ _ (by omega), rd_set _ _ _ _ (by omega), if_neg hne]
  by_cases e1 : b = j + 1
  · subst e1
    rw [if_pos rfl]
    by_cases e2 : a = j
    · rw [if_pos e2]; omega
    · rw [if_neg e2, if_neg (by omega)]
      exact h a j (by omega) (by omega) (by omega)
  · rw [if_neg e1]
    by_cases e2 : a = j
    · rw [if_pos e2]
      exact h (j + 1) b (by omega) hb e1
    · rw [if_neg e2]
      by_cases e3 : a = j + 1
      · rw [if_pos e3]
        exact h j b (by omega) hb e1
      · rw [if_neg e3]
        exact h a b hab hb e1
theorem sorted_of_but {x : List Int} {i j : Nat} (h : SortedBut x i j) (hj : j = 0 ∨ ∃ p : Nat, j = p + 1 ∧ rd x p ≤ rd x j) : SortedTo x (i + 1) := by
  intro a b hab hb
  by_cases e : b = j
  · rcases hj with h0 | ⟨p, hp, hle⟩
    · omega
    · by_cases e2 : a = p
      · subst e2; rw [e]; exact hle
      · have := h a p (by omega) (by omega) (by omega)
        rw [e]; omega
  · exact h a b hab (by omega) e
theorem order_of_sorted {s l : List Int} (hs : SortedTo s s.length) (hc : SameCount s l) (h1 : 1 ≤ l.length) (h8 : l.length ≤ 8) : decide (∀ i : Nat, i < s.length → rd s i = (i : Int) + 1) = orderOk l l.length := by
  rw [Bool.eq_iff_iff, decide_eq_true_iff, orderOk_nodup]
  constructor
  · intro h
    have hnd : s.Nodup := by
      rw [nodup_iff_rd]
      intro i j hij hj
      rw [h i (by omega), h j hj]; omega
    have hnl : l.Nodup := by
      rw [List.nodup_iff_count]
      intro a
      rw [← hc.2 a]
      exact List.nodup_iff_count.mp hnd a
    refine ⟨by omega, rfl, hnl, fun x hx => ?_⟩
    have hx2 : x ∈ s := by rw [← List.count_pos_iff, hc.2 x, List.count_pos_iff]; exact hx
    obtain ⟨i, hi, e⟩ := List.getElem_of_mem hx2
    have := h i hi
    rw [rd_get s hi, e] at this
    have := hc.1
    omega
  · rintro ⟨_, _, hnl, hr⟩
    have hnd : s.Nodup := by
      rw [List.nodup_iff_count]
      intro a
      rw [hc.2 a]
      exact List.nodup_iff_count.mp hnl a
    have hrs : ∀ i : Nat, i < s.length → 1 ≤ rd s i ∧ rd s i ≤ l.length := by
      intro i hi
      refine hr _ ?_
      rw [← List.count_pos_iff, ← hc.2, List.count_pos_iff, rd_get s hi]
      exact List.getElem_mem _
    have hst : ∀ i : Nat, i + 1 < s.length → rd s i < rd s ((i + 1 : Nat) : Int) := by
      intro i hi
      have a1 := hs i (i + 1) (by omega) hi
      have a2 := (nodup_iff_rd s).mp hnd i (i + 1) (by omega) hi
      omega
    have hlow : ∀ i : Nat, i < s.length → (i : Int) + 1 ≤ rd s i := by
      intro i
      induction i with
      | zero => intro hi; have := hrs 0 hi; omega
      | succ i ih =>
        intro hi
        have := ih (by omega)
        have := hst i hi
        omega
    have hhigh : ∀ d i : Nat, i + d + 1 = s.length → rd s i + d ≤ l.length := by
      intro d
      induction d with
      | zero => intro i hi; have := hrs i (by omega); omega
      | succ d ih =>
        intro i hi
        have h1 := ih (i + 1) (by omega)
        have h2 := hst i (by omega)
        omega
    intro i hi
    have a1 := hlow i hi
    have a2 := hhigh (s.length - i - 1) i (by omega)
    have a3 := hc.1
    omega

theorem less_int (a b : Int) : cmp_Less_int.f a b = some (decide (a < b)) := by
  unfold cmp_Less_int.f cmp_isNaN_int.f
  simp
theorem insertion_l1 (n : Nat) (hn : n ≤ 8) (i : Nat) (hi : i < n) (l r : List Int) (next : ∀ x : List Int, x.length = n → SameCount x l → SortedTo x (i + 1) → ∃ s, Ev (fun k => slices_insertionSortOrdered_int.l0 k x 0 (n : Int) ((i + 1 : Nat) : Int)) s ∧ SameCount s l ∧ SortedTo s n) :
    ∀ (j : Nat) (x : List Int), j ≤ i → x.length = n → SameCount x l → SortedBut x i j → ∃ s, Ev (fun k => slices_insertionSortOrdered_int.l1 k x 0 (n : Int) (i : Int) (j : Int)) s ∧ SameCount s l ∧ SortedTo s n
  | 0, x, hj, hx, hc, hs => by
    obtain ⟨s, h1, h2, h3⟩ := next x hx hc (sorted_of_but hs (.inl rfl))
    refine ⟨s, Ev.step (fun k => slices_insertionSortOrdered_int.l1.eq_2 ..) (Ev.neg (by omega) ?_), h2, h3⟩
    rw [wrap_add1 (by omega)]
    exact h1
  | j + 1, x, hj, hx, hc, hs => by
    have e1 : wrap64 (((j + 1 : Nat) : Int) - 1) = (j : Int) := by rw [wrap_id (by omega) (by omega)]; omega
    have hless : cmp_Less_int.f (rd x ((j + 1 : Nat) : Int)) (rd x j) = some (decide (rd x ((j + 1 : Nat) : Int) < rd x j)) := less_int _ _
    by_cases h : rd x ((j + 1 : Nat) : Int) < rd x j
    · obtain ⟨s, h1, h2, h3⟩ := insertion_l1 n hn i hi l r next j _ (by omega) (by simpa using hx) (swap_same hc (by omega)) (swap_sorted hs hj (by omega) h)
      refine ⟨s, Ev.step (fun k => slices_insertionSortOrdered_int.l1.eq_2 ..) ?_, h2, h3⟩
      rw [e1]
      refine Ev.pos (by omega) (Ev.pos (by omega) (Ev.pos (by omega) (Ev.pos (by omega) (Ev.pos (by omega) (Ev.bind0 hless (Ev.pos (decide_eq_true h) ?_))))))
      rw [Int.toNat_natCast, Int.toNat_natCast]
      exact h1
    · obtain ⟨s, h1, h2, h3⟩ := next x hx hc (sorted_of_but hs (.inr ⟨j, rfl, by omega⟩))
      refine ⟨s, Ev.step (fun k => slices_insertionSortOrdered_int.l1.eq_2 ..) ?_, h2, h3⟩
      rw [e1, wrap_add1 (by omega)]
      exact Ev.pos (by omega) (Ev.pos (by omega) (Ev.pos (by omega) (Ev.pos (by omega) (Ev.pos (by omega) (Ev.bind0 hless (Ev.neg (by simpa using h) h1))))))
theorem insertion_l0 (n : Nat) (hn : n ≤ 8) (l : List Int) (d : Nat) : ∀ (i : Nat) (x : List Int), i + d = n → x.length = n → SameCount x l → SortedTo x i → ∃ s, Ev (fun k => slices_insertionSortOrdered_int.l0 k x 0 (n : Int) (i : Int)) s ∧ SameCount s l ∧ SortedTo s n := by
  induction d with
  | zero =>
    intro i x hi hx hc hs
    refine ⟨x, Ev.step (fun k => slices_insertionSortOrdered_int.l0.eq_2 ..) (Ev.neg (by omega) (Ev.ret rfl)), hc, ?_⟩
    rw [show n = i by omega]; exact hs
  | succ d ih =>
    intro i x hi hx hc hs
    obtain ⟨s, h1, h2, h3⟩ := insertion_l1 n hn i (by omega) l [] (fun x' hx' hc' hs' => ih (i + 1) x' (by omega) hx' hc' hs') i x (Nat.le_refl _) hx hc (fun a b hab hb hne => hs a b hab (by omega))
    exact ⟨s, Ev.step (fun k => slices_insertionSortOrdered_int.l0.eq_2 ..) (Ev.pos (by omega) h1), h2, h3⟩
theorem sort_ev (l : List Int) (h1 : 1 ≤ l.length) (h8 : l.length ≤ 8) : ∃ s, Ev (fun k => slices_Sort_int_int.f k l) s ∧ SameCount s l ∧ SortedTo s l.length := by
  obtain ⟨s, hs, h2, h3⟩ := insertion_l0 l.length h8 l (l.length - 1) 1 l (by omega) rfl ⟨rfl, fun _ => rfl⟩ (fun a b hab hb => by omega)
  refine ⟨s, ?_, h2, h3⟩
  unfold slices_Sort_int_int.f
  have hw : IntKind.u64.wrap (l.length : Int) = (l.length : Int) := by
    simp [IntKind.wrap, IntKind.bits, IntKind.signed]; omega
  rw [hw]
  refine Ev.bind0 (a := (Lib.bitLen (l.length : Int).toNat : Int)) (by unfold bits_Len.f; rw [if_pos (by omega)]) ?_
  unfold slices_pdqsortOrdered_int.f slices_insertionSortOrdered_int.f
  rw [show wrap64 (0 + 1) = ((1 : Nat) : Int) by decide +kernel]
  exact Ev.bind (Ev.pos (by omega) hs) (Ev.ret rfl)
theorem impl_OrderOk_ev (o : List Int) (many : Int) : Ev (fun k => impl_OrderOk.f k o many) (orderOk o many) := by
  unfold impl_OrderOk.f
  by_cases h : 1 ≤ many ∧ many ≤ 8 ∧ (o.length : Int) = many
  · obtain ⟨h1, h2, rfl⟩ := h
    obtain ⟨s, hs, hc, hst⟩ := sort_ev o (by omega) (by omega)
    refine Ev.pos ⟨h1, h2, rfl⟩ (Ev.bind hs (Ev.pos (by have := hc.1; omega) (Ev.ret ?_)))
    exact order_of_sorted (by rw [hc.1]; exact hst) hc (by omega) (by omega)
  · refine Ev.neg h (Ev.ret ?_)
    symm
    unfold orderOk
    rw [decide_eq_false_iff_not]
    exact fun h2 => h ⟨h2.1.1, h2.1.2, h2.2.1⟩

theorem impl_ExchangedAt_ev (l : List Int) (a : Int) (ha : -9223372036854775808 ≤ a ∧ a < 9223372036854775807) : Ev (fun k => impl_ExchangedAt.f k l a) (exchangedAt l a) := by
  unfold impl_ExchangedAt.f exchangedAt
  have bad : Ev (fun k => impl_ExchangedAt.j0 k l a true) (([] : List Int), false) := Ev.step (fun k => impl_ExchangedAt.j0.eq_2 ..) (Ev.pos rfl (Ev.ret rfl))
  refine Ev.bind (impl_OrderOk_ev l _) (Ev.ite (fun h => ?_) (fun h => ?_))
  · have h1 := orderOk_iff.mp h
    rw [wrap_id (n := (l.length : Int) - 1) (by omega) (by omega)]
    refine Ev.ite (fun e => ?_) (fun e => ?_)
    · rw [if_neg (by omega)]; exact bad
    · by_cases e2 : a ≥ (l.length : Int) - 1
      · rw [if_neg (by omega), decide_eq_true e2]; exact bad
      · rw [if_pos ⟨h, by omega, by omega⟩, decide_eq_false e2]
        refine Ev.step (fun k => impl_ExchangedAt.j0.eq_2 ..) (Ev.neg (by simp) (Ev.bind0 (a := l) ?_ (Ev.bind0 rfl ?_)))
        · unfold slices_Clone_int_int.f; rw [if_pos (by omega)]
        · rw [wrap_id (n := a + 1) (by omega) (by omega)]
          exact Ev.pos (by omega) (Ev.pos (by omega) (Ev.pos (by omega) (Ev.pos (by omega) (Ev.ret rfl))))
  · rw [if_neg (fun h2 => h h2.1)]; exact bad

/-! turned pairs -/
def turned : List Int → Nat
  | [] => 0
  | a :: r => (r.filter (fun m => decide (m < a))).length + turned r
theorem turned_snoc (x : Int) : ∀ l : List Int, turned (l ++ [x]) = turned l + (l.filter (fun a => decide (x < a))).length
  | [] => by simp [turned]
  | a :: r => by
    have h := turned_snoc x r
    simp only [List.cons_append, turned, List.filter_append, List.length_append, h]
    by_cases e : x < a <;> simp [e, List.filter_cons] <;> omega
theorem turned_le : ∀ l : List Int, turned l ≤ l.length * l.length
  | [] => by simp [turned]
  | a :: r => by
    have h := turned_le r
    have h2 := List.length_filter_le (fun m => decide (m < a)) r
    simp only [turned, List.length_cons]
    rw [Nat.add_mul, Nat.mul_add]
    omega
theorem turned_drop (l : List Int) {i : Nat} (h : i < l.length) : turned (l.drop i) = ((l.drop (i + 1)).filter (fun m => decide (m < rd l i))).length + turned (l.drop (i + 1)) := by
  rw [List.drop_eq_getElem_cons h, rd_get l h]; rfl
theorem turned_take (l : List Int) {k : Nat} (h : k < l.length) : turned (l.take (k + 1)) = turned (l.take k) + ((l.take k).filter (fun a => decide (rd l k < a))).length := by
  rw [List.take_succ_eq_append_getElem h, turned_snoc, rd_get l h]
theorem filter_take (l : List Int) (p : Int → Bool) {j : Nat} (h : j < l.length) : ((l.take (j + 1)).filter p).length = ((l.take j).filter p).length + if p (rd l j) then 1 else 0 := by
  rw [List.take_succ_eq_append_getElem h, List.filter_append, List.length_append, rd_get l h]
  by_cases e : p l[j] = true <;> simp [e]
def countTurned (l : List Int) : Int := if orderOk l l.length then turned l else -1

theorem less_eq (n : Int) : ∀ (r : List Int), impl_CountTurned.less r n r.length = ((r.filter (fun m => decide (m < n))).length : Int) := by
  have key : ∀ (r : List Int) (p : Nat), p ≤ r.length → impl_CountTurned.less r n p = (((r.take p).filter (fun m => decide (m < n))).length : Int) := by
    intro r p
    induction p with
    | zero => intro _; rfl
    | succ p ih =>
      intro hp
      rw [impl_CountTurned.less_succ, ih (by omega), filter_take r _ (by omega)]
      by_cases e : rd r p < n <;> simp [e]
  intro r
  rw [key r r.length (Nat.le_refl _), List.take_length]
theorem upTo_turned (l : List Int) : ∀ i : Nat, i ≤ l.length → impl_CountTurned.upTo l i + turned (l.drop i) = turned l
  | 0, _ => by simp [impl_CountTurned.upTo]
  | i + 1, hi => by
    have h1 := upTo_turned l i (by omega)
    have h2 := turned_drop l (i := i) (by omega)
    have h3 : impl_CountTurned.row l i = (((l.drop (i + 1)).filter (fun m => decide (m < rd l i))).length : Int) := by
      unfold impl_CountTurned.row
      have h4 := less_eq (rd l i) (l.drop i)
      rw [List.length_drop] at h4
      rw [h4, List.drop_eq_getElem_cons (by omega), List.filter_cons_of_neg (by rw [rd_get l (by omega)]; simp)]
    show impl_CountTurned.upTo l i + impl_CountTurned.row l i + turned (l.drop (i + 1)) = turned l
    omega
theorem impl_CountTurned_ev (l : List Int) : Ev (fun k => impl_CountTurned.f k l) (countTurned l) := by
  unfold impl_CountTurned.f countTurned
  refine Ev.bind (impl_OrderOk_ev l _) (Ev.ite (fun h => ?_) (fun h => ?_))
  · have h1 := orderOk_iff.mp h
    have h2 := upTo_turned l l.length (Nat.le_refl _)
    rw [List.drop_length] at h2
    rw [if_pos h]
    exact Ev.pos (by omega) (Ev.ret (by simpa [turned] using h2))
  · rw [if_neg h]; exact Ev.ret rfl

/-- whether one comes from a word to 0 within so many steps, over numbers of words or 0 alone -/
def walkOk (l : List Int) : Nat → Int → Bool
  | 0, a => decide (a ≤ 0)
  | m + 1, a => if a ≤ 0 then true else decide (0 ≤ rd l (a - 1) ∧ rd l (a - 1) ≤ l.length) && walkOk l m (rd l (a - 1))
def okAt (l : List Int) (i : Nat) : Bool := decide (0 ≤ rd l i ∧ rd l i ≤ l.length) && walkOk l l.length ((i : Int) + 1)
def zerosFrom (l : List Int) (j : Nat) : Nat := (l.drop j).count 0
def treeOk (l : List Int) : Bool := decide (1 ≤ l.length ∧ l.length ≤ 8) && (List.range l.length).all (okAt l) && decide (l.count 0 = 1)

theorem walkOk_self (l : List Int) (a : Int) (ha : 0 < a) (h : rd l (a - 1) = a) : ∀ m, walkOk l m a = false
  | 0 => by simp [walkOk]; omega
  | m + 1 => by
    unfold walkOk
    rw [if_neg (by omega), h, walkOk_self l a ha h m, Bool.and_false]

theorem zerosFrom_succ (l : List Int) (j : Nat) (h : j < l.length) : zerosFrom l j = (if rd l j = 0 then 1 else 0) + zerosFrom l (j + 1) := by
  unfold zerosFrom
  rw [List.drop_eq_getElem_cons h, List.count_cons]
  have e : rd l j = l[j] := by simp [rd_nat, h]
  rw [e]
  by_cases e : l[j] = 0 <;> simp [e, Nat.add_comm]
theorem zerosFrom_le (l : List Int) (j : Nat) : zerosFrom l j ≤ l.length := by
  unfold zerosFrom
  exact Nat.le_trans List.count_le_length (by simp)

theorem all_from (p : Nat → Bool) (n j : Nat) (h : j < n) : ((List.range' j (n - j)).all p) = (p j && (List.range' (j + 1) (n - (j + 1))).all p) := by
  obtain ⟨d, hd⟩ : ∃ d, n - j = d + 1 := ⟨n - j - 1, by omega⟩
  rw [hd, List.range'_succ, List.all_cons, show n - (j + 1) = d by omega]

def restOk (l : List Int) (r : Nat) (j : Nat) : Bool := (List.range' j (l.length - j)).all (okAt l) && decide (r + zerosFrom l j = 1)
theorem restOk_end (l : List Int) (r : Nat) (j : Nat) (h : j = l.length) : restOk l r j = ((r : Int) == 1) := by
  subst h
  unfold restOk zerosFrom
  simp
  rw [Bool.eq_iff_iff]; simp; omega
theorem restOk_bad (l : List Int) (r : Nat) (j : Nat) (h : j < l.length) (hb : okAt l j = false) : restOk l r j = false := by
  unfold restOk
  rw [all_from _ _ _ h, hb]; rfl
theorem restOk_good (l : List Int) (r : Nat) (j : Nat) (h : j < l.length) (hb : okAt l j = true) : restOk l r j = restOk l (r + if rd l j = 0 then 1 else 0) (j + 1) := by
  unfold restOk
  rw [all_from _ _ _ h, hb, Bool.true_and, zerosFrom_succ l j h, Nat.add_assoc]
theorem restOk_zero (l : List Int) (h : 1 ≤ l.length ∧ l.length ≤ 8) : restOk l 0 0 = treeOk l := by
  unfold restOk treeOk zerosFrom
  rw [decide_eq_true h]
  simp [List.range_eq_range']

def inRange (l : List Int) (i : Nat) : Bool := decide (0 ≤ rd l i ∧ rd l i ≤ l.length)
theorem mem_rd {l : List Int} {a : Int} (h0 : 0 ≤ a) (h1 : a < l.length) (h : (List.range l.length).all (inRange l) = true) : 0 ≤ rd l a ∧ rd l a ≤ l.length := by
  rw [List.all_eq_true] at h
  have := h a.toNat (by simp; omega)
  unfold inRange at this
  rw [show ((a.toNat : Nat) : Int) = a by omega] at this
  exact of_decide_eq_true this
/-- how many steps lead to 0, as the program counts them -/
def stepsOf (l : List Int) : Nat → Int → Nat → Int
  | 0, _, _ => -1
  | m + 1, w, i => if rd l (w - 1) = 0 then i else stepsOf l m (rd l (w - 1)) (i + 1)
theorem stepsOf_neg (l : List Int) (h : (List.range l.length).all (inRange l) = true) : ∀ (m : Nat) (w : Int) (i : Nat), 0 < w → w ≤ l.length → (decide (stepsOf l m w i < 0) = !walkOk l m w)
  | 0, w, i, h0, h1 => by simp [stepsOf, walkOk]; omega
  | m + 1, w, i, h0, h1 => by
    have hr := mem_rd (a := w - 1) (by omega) (by omega) h
    unfold stepsOf walkOk
    rw [if_neg (show ¬ w ≤ 0 by omega), decide_eq_true hr, Bool.true_and]
    by_cases e : rd l (w - 1) = 0
    · rw [if_pos e, e, decide_eq_false (by omega)]
      cases m <;> simp [walkOk]
    · rw [if_neg e]
      exact stepsOf_neg l h m _ _ (by omega) (by omega)

theorem impl_steps_l0 (l : List Int) (hl : l.length ≤ 8) (h : (List.range l.length).all (inRange l) = true) (d : Nat) : ∀ (w : Int) (j : Nat), j + d = l.length → 0 < w → w ≤ l.length →
    Ev (fun k => impl_steps.l0 k l w (l.length : Int) (j : Int)) (stepsOf l d w j) := by
  induction d with
  | zero =>
    intro w j hj h0 h1
    refine Ev.step (fun k => impl_steps.l0.eq_2 ..) ?_
    exact Ev.neg (by omega) (Ev.ret rfl)
  | succ d ih =>
    intro w j hj h0 h1
    have hr := mem_rd (a := w - 1) (by omega) (by omega) h
    refine Ev.step (fun k => impl_steps.l0.eq_2 ..) ?_
    rw [wrap_id (n := w - 1) (by omega) (by omega), wrap_add1 (by omega)]
    refine Ev.pos (by omega) (Ev.pos (by omega) (Ev.pos (by omega) (Ev.ite (fun e => ?_) (fun e => ?_))))
    · exact Ev.ret (by unfold stepsOf; rw [if_pos e])
    · exact Ev.eq (ih (rd l (w - 1)) (j + 1) (by omega) (by omega) (by omega)) (by rw [stepsOf, if_neg e])

theorem impl_steps_ev (l : List Int) (hl : l.length ≤ 8) (h : (List.range l.length).all (inRange l) = true) (w : Int) (h0 : 0 < w) (h1 : w ≤ l.length) :
    Ev (fun k => impl_steps.f k l w) (stepsOf l l.length w 0) := by
  unfold impl_steps.f
  exact impl_steps_l0 l hl h l.length w 0 (by omega) h0 h1

theorem impl_TreeOk_l1 (l : List Int) (hl : l.length ≤ 8) (h : (List.range l.length).all (inRange l) = true) (r : Nat) (d : Nat) : ∀ (j : Nat), j + d = l.length →
    Ev (fun k => impl_TreeOk.l1 k l (r : Int) (l.length : Int) (j : Int)) ((List.range' j (l.length - j)).all (fun i => walkOk l l.length ((i : Int) + 1)) && ((r : Int) == 1)) := by
  induction d with
  | zero =>
    intro j hj
    refine Ev.step (fun k => impl_TreeOk.l1.eq_2 ..) ?_
    exact Ev.neg (by omega) (Ev.ret (by rw [show l.length - j = 0 by omega]; rfl))
  | succ d ih =>
    intro j hj
    refine Ev.step (fun k => impl_TreeOk.l1.eq_2 ..) ?_
    rw [wrap_add1 (by omega)]
    refine Ev.pos (by omega) (Ev.bind (impl_steps_ev l hl h _ (by omega) (by omega)) ?_)
    have hs := stepsOf_neg l h l.length ((j + 1 : Nat) : Int) 0 (by omega) (by omega)
    refine Ev.ite (fun e => ?_) (fun e => ?_)
    · rw [decide_eq_true e] at hs
      refine Ev.ret ?_
      rw [all_from _ _ _ (by omega), show walkOk l l.length ((j : Int) + 1) = false by simpa using hs.symm]; rfl
    · rw [decide_eq_false e] at hs
      refine Ev.eq (ih (j + 1) (by omega)) ?_
      rw [all_from _ l.length j (by omega), show walkOk l l.length ((j : Int) + 1) = true by simpa using hs.symm, Bool.true_and]

theorem impl_TreeOk_l0 (l : List Int) (h1 : 1 ≤ l.length) (hl : l.length ≤ 8) (d : Nat) : ∀ (r j : Nat), j + d = l.length → r ≤ j → (∀ i, i < j → inRange l i = true) → r + zerosFrom l j = l.count 0 →
    Ev (fun k => impl_TreeOk.l0 k l (r : Int) l (l.length : Int) (j : Int)) (treeOk l) := by
  induction d with
  | zero =>
    intro r j hj hr hin hz
    have hall : (List.range l.length).all (inRange l) = true := by
      rw [List.all_eq_true]; intro i hi; exact hin i (by have := List.mem_range.mp hi; omega)
    refine Ev.step (fun k => impl_TreeOk.l0.eq_2 ..) ?_
    refine Ev.neg (by omega) (Ev.eq (impl_TreeOk_l1 l hl hall r l.length 0 (by omega)) ?_)
    have hz0 : zerosFrom l j = 0 := by unfold zerosFrom; rw [List.drop_eq_nil_of_le (by omega)]; rfl
    have hrc : r = l.count 0 := by omega
    unfold treeOk
    rw [decide_eq_true (show 1 ≤ l.length ∧ l.length ≤ 8 from ⟨h1, hl⟩), Bool.true_and, Nat.sub_zero, ← List.range_eq_range', hrc]
    congr 1
    · rw [Bool.eq_iff_iff, List.all_eq_true, List.all_eq_true]
      rw [List.all_eq_true] at hall
      constructor
      · intro hw i hi
        have := hall i hi
        unfold inRange at this
        unfold okAt; rw [this, hw i hi]; rfl
      · intro hw i hi
        have := hw i hi
        unfold okAt at this
        exact (Bool.and_eq_true_iff.mp this).2
    · rw [Bool.eq_iff_iff]; simp; omega
  | succ d ih =>
    intro r j hj hr hin hz
    refine Ev.step (fun k => impl_TreeOk.l0.eq_2 ..) ?_
    have hbad : ¬ (0 ≤ rd l (j : Int) ∧ rd l (j : Int) ≤ (l.length : Int)) → treeOk l = false := by
      intro hb
      unfold treeOk
      have : (List.range l.length).all (okAt l) = false := by
        rw [List.all_eq_false]
        exact ⟨j, by simp; omega, by unfold okAt; rw [decide_eq_false hb]; simp⟩
      rw [this]; simp
    refine Ev.pos (by omega) (Ev.pos (by omega) (Ev.pos (by omega) (Ev.ite (fun e => ?_) (fun e => ?_))))
    · refine Ev.step (fun k => impl_TreeOk.j2.eq_2 ..) (Ev.pos rfl (Ev.ret ?_))
      exact (hbad (by omega)).symm
    · refine Ev.step (fun k => impl_TreeOk.j2.eq_2 ..) (Ev.ite (fun e2 => ?_) (fun e2 => ?_))
      · have e2' := of_decide_eq_true e2
        exact Ev.ret (hbad (by omega)).symm
      · have e2' : ¬ rd l (j : Int) > (l.length : Int) := by simpa using e2
        have hin' : ∀ i, i < j + 1 → inRange l i = true := by
          intro i hi
          by_cases e' : i = j
          · subst e'; unfold inRange; exact decide_eq_true (by omega)
          · exact hin i (by omega)
        have hzs := zerosFrom_succ l j (by omega)
        rw [wrap_add1 (n := j) (by omega)]
        refine Ev.ite (fun e3 => ?_) (fun e3 => ?_)
        · rw [wrap_add1 (by omega)]
          rw [if_pos e3] at hzs
          exact ih (r + 1) (j + 1) (by omega) (by omega) hin' (by omega)
        · rw [if_neg e3] at hzs
          exact ih r (j + 1) (by omega) (by omega) hin' (by omega)

theorem impl_TreeOk_ev (l : List Int) : Ev (fun k => impl_TreeOk.f k l) (treeOk l) := by
  unfold impl_TreeOk.f
  have hbad : ¬ (1 ≤ l.length ∧ l.length ≤ 8) → treeOk l = false := by
    intro hb; unfold treeOk; rw [decide_eq_false hb]; rfl
  refine Ev.ite (fun e => ?_) (fun e => ?_)
  · refine Ev.step (fun k => impl_TreeOk.j0.eq_2 ..) (Ev.pos rfl (Ev.ret ?_))
    exact (hbad (by omega)).symm
  · refine Ev.step (fun k => impl_TreeOk.j0.eq_2 ..) (Ev.ite (fun e2 => ?_) (fun e2 => ?_))
    · have e2' := of_decide_eq_true e2
      exact Ev.ret (hbad (by omega)).symm
    · have e2' : ¬ (l.length : Int) > 8 := by simpa using e2
      exact impl_TreeOk_l0 l (by omega) (by omega) l.length 0 0 (by omega) (by omega) (fun i h => by omega) (by simp [zerosFrom])

theorem alive_ev : Ev (fun k => laws_alive.f k) true := by
  unfold laws_alive.f
  refine Ev.bind (impl_TreeOk_ev _) (Ev.pos (by decide +kernel) (Ev.bind (impl_TreeOk_ev _) (Ev.ret (by decide +kernel))))

/-! turned pairs of an order read backwards, of an order with neighbours exchanged -/
theorem turned_reverse : ∀ l : List Int, l.Nodup → 2 * (turned l + turned l.reverse) = l.length * (l.length - 1)
  | [], _ => rfl
  | x :: r, h => by
    have hx := (List.nodup_cons.mp h).1
    have ih := turned_reverse r (List.nodup_cons.mp h).2
    rw [List.reverse_cons, turned_snoc, turned, List.filter_reverse, List.length_reverse]
    have key : ∀ q : List Int, x ∉ q → (q.filter (fun m => decide (m < x))).length + (q.filter (fun a => decide (x < a))).length = q.length := by
      intro q
      induction q with
      | nil => intro _; rfl
      | cons y q ihq =>
        intro hq
        have h1 : x ≠ y := fun e => hq (by rw [e]; exact List.mem_cons_self ..)
        have h2 := ihq (fun e => hq (List.mem_cons_of_mem _ e))
        by_cases e : y < x
        · simp only [List.filter_cons, List.length_cons, decide_eq_true e, decide_eq_false (show ¬ x < y by omega), if_true]
          simp; omega
        · simp only [List.filter_cons, List.length_cons, decide_eq_false e, decide_eq_true (show x < y by omega), if_true]
          simp; omega
    have hk := key r hx
    simp only [List.length_cons]
    have e1 : (r.length + 1) * (r.length + 1 - 1) = r.length * (r.length - 1) + 2 * r.length := by
      cases hr : r.length with
      | zero => rfl
      | succ n => simp only [Nat.add_sub_cancel]; rw [Nat.mul_add, Nat.add_mul, Nat.add_mul]; omega
    omega
theorem turned_zero_iff : ∀ l : List Int, turned l = 0 ↔ l.Pairwise (fun a b => ¬ b < a)
  | [] => by simp [turned]
  | x :: r => by
    rw [turned, List.pairwise_cons, ← turned_zero_iff r]
    constructor
    · intro h
      refine ⟨fun y hy hlt => ?_, by omega⟩
      have : 0 < (r.filter (fun m => decide (m < x))).length := List.length_pos_of_mem (List.mem_filter.mpr ⟨hy, decide_eq_true hlt⟩)
      omega
    · intro h
      have : r.filter (fun m => decide (m < x)) = [] := List.filter_eq_nil_iff.mpr (fun y hy hlt => h.1 y hy (of_decide_eq_true hlt))
      rw [this, h.2]; rfl
/-- each entry is less than the next one -/
def ascB (l : List Int) : Bool := decide (∀ i : Nat, i < l.length - 1 → rd l (i : Int) < rd l ((i + 1 : Nat) : Int))
theorem asc_lt {l : List Int} (h : ∀ i : Nat, i + 1 < l.length → rd l (i : Int) < rd l ((i + 1 : Nat) : Int)) (i : Nat) : ∀ d : Nat, i + d + 1 < l.length → rd l (i : Int) < rd l ((i + d + 1 : Nat) : Int)
  | 0, hd => h i hd
  | d + 1, hd => Int.lt_trans (asc_lt h i d (by omega)) (h (i + d + 1) (by omega))
theorem turned_asc {l : List Int} (hn : l.Nodup) : turned l = 0 ↔ ascB l = true := by
  rw [turned_zero_iff, List.pairwise_iff_getElem]
  unfold ascB
  rw [decide_eq_true_iff]
  constructor
  · intro h i hi
    have hi' : i + 1 < l.length := by omega
    have h1 := h i (i + 1) (by omega) hi' (by omega)
    have h2 := (nodup_iff_rd l).mp hn i (i + 1) (by omega) hi'
    rw [rd_get l hi', rd_get l (show i < l.length by omega)] at h2 ⊢
    omega
  · intro h i j hi hj hij
    have := asc_lt (fun i hi => h i (by omega)) i (j - i - 1) (by omega)
    rw [show i + (j - i - 1) + 1 = j by omega, rd_get l hi, rd_get l hj] at this
    omega
theorem turned_swap (u v : Int) (h : u ≠ v) (s : List Int) : ∀ p : List Int, (turned (p ++ v :: u :: s) : Int) = turned (p ++ u :: v :: s) + (if u > v then -1 else 1)
  | [] => by
    simp only [List.nil_append, turned, List.filter_cons]
    by_cases e : u > v
    · simp only [decide_eq_true (show v < u from e), decide_eq_false (show ¬ u < v by omega), if_pos e, if_true]
      simp; omega
    · simp only [decide_eq_false (show ¬ v < u from e), decide_eq_true (show u < v by omega), if_neg e, if_true]
      simp; omega
  | x :: p => by
    have ih := turned_swap u v h s p
    simp only [List.cons_append, turned]
    have e : ((p ++ v :: u :: s).filter (fun m => decide (m < x))).length = ((p ++ u :: v :: s).filter (fun m => decide (m < x))).length := by
      simp only [List.filter_append, List.length_append, List.filter_cons]
      by_cases h1 : u < x <;> by_cases h2 : v < x <;> simp [h1, h2]
    rw [e]; omega
theorem split_at (l : List Int) {a : Nat} (h : a + 1 < l.length) : l = l.take a ++ rd l (a : Int) :: rd l ((a + 1 : Nat) : Int) :: l.drop (a + 2) := by
  rw [rd_get l (show a < l.length by omega), rd_get l h, ← List.drop_eq_getElem_cons h, ← List.drop_eq_getElem_cons (by omega), List.take_append_drop]
theorem swap_at (l : List Int) {a : Nat} (h : a + 1 < l.length) : (l.set a (rd l ((a + 1 : Nat) : Int))).set (a + 1) (rd l (a : Int)) = l.take a ++ rd l ((a + 1 : Nat) : Int) :: rd l (a : Int) :: l.drop (a + 2) := by
  have key : ∀ (p s : List Int) (u v u' v' : Int), p.length = a → ((p ++ u :: v :: s).set a u').set (a + 1) v' = p ++ u' :: v' :: s := by
    intro p s u v u' v' hp
    subst hp
    rw [List.set_append_right _ _ (Nat.le_refl _), Nat.sub_self, List.set_cons_zero, List.set_append_right _ _ (by omega), show p.length + 1 - p.length = 1 by omega]
    rfl
  have := key (l.take a) (l.drop (a + 2)) (rd l (a : Int)) (rd l ((a + 1 : Nat) : Int)) (rd l ((a + 1 : Nat) : Int)) (rd l (a : Int)) (by rw [List.length_take]; omega)
  rwa [← split_at l h] at this

theorem sameInts_l0 (l m : List Int) (hl : l.length ≤ 1099511627776) (hm : l.length = m.length) (d : Nat) : ∀ (j : Nat), j + d = l.length → (∀ i, i < j → l[i]? = m[i]?) → Ev (fun k => laws_sameInts.l0 k l m (j : Int)) (decide (l = m)) := by
  induction d with
  | zero =>
    intro j hj h
    refine Ev.step (fun k => laws_sameInts.l0.eq_2 ..) ?_
    refine Ev.neg (by omega) (Ev.ret ?_)
    symm
    rw [decide_eq_true_iff]
    apply List.ext_getElem?
    intro i
    by_cases hi : i < j
    · exact h i hi
    · rw [List.getElem?_eq_none (by omega), List.getElem?_eq_none (by omega)]
  | succ d ih =>
    intro j hj h
    refine Ev.step (fun k => laws_sameInts.l0.eq_2 ..) ?_
    refine Ev.pos (by omega) (Ev.pos (by omega) (Ev.pos (by omega) (Ev.ite ?_ ?_)))
    · intro e
      rw [wrap_add1 (by omega)]
      refine ih (j + 1) (by omega) ?_
      intro i hi
      by_cases e' : i = j
      · subst e'
        rw [rd_nat, rd_nat] at e
        rw [List.getElem?_eq_getElem (by omega), List.getElem?_eq_getElem (by omega)]
        simpa [List.getD_eq_getElem?_getD, show i < l.length by omega, show i < m.length by omega] using e
      · exact h i (by omega)
    · intro e
      refine Ev.ret ?_
      symm
      rw [decide_eq_false_iff_not]
      intro e'; subst e'; exact e rfl

theorem sameInts_ev (l m : List Int) (hl : l.length ≤ 1048576) : Ev (fun k => laws_sameInts.f k l m) (decide (l = m)) := by
  unfold laws_sameInts.f
  refine Ev.ite (fun h => ?_) (fun h => ?_)
  · exact sameInts_l0 l m (by omega) (by omega) l.length 0 (by omega) (fun i h => by omega)
  · refine Ev.ret ?_
    symm
    rw [decide_eq_false_iff_not]
    intro e; subst e; exact h rfl

theorem set_back (p s : List Int) (u v : Int) : ((p ++ v :: u :: s).take p.length ++ u :: v :: (p ++ v :: u :: s).drop (p.length + 2)) = p ++ u :: v :: s := by
  rw [List.take_left, show p.length + 2 = p.length + 2 from rfl, List.drop_append]
  simp
theorem exchanged_spec {o : List Int} {a : Nat} (ho : orderOk o o.length = true) (ha : a + 1 < o.length) :
    ∃ x, exchangedAt o (a : Int) = (x, true) ∧ x.length = o.length ∧ orderOk x o.length = true ∧ countTurned x = countTurned o + (if rd o (a : Int) > rd o ((a + 1 : Nat) : Int) then -1 else 1) ∧ exchangedAt x (a : Int) = (o, true) := by
  have h1 := orderOk_nodup.mp ho
  have hs := split_at o ha
  have hw := swap_at o ha
  have hne := (nodup_iff_rd o).mp h1.2.2.1 a (a + 1) (by omega) ha
  have hx : exchangedAt o (a : Int) = (o.take a ++ rd o ((a + 1 : Nat) : Int) :: rd o (a : Int) :: o.drop (a + 2), true) := by
    unfold exchangedAt
    rw [if_pos ⟨ho, by omega, by omega⟩, ← hw, Int.toNat_natCast, show ((a : Int) + 1) = ((a + 1 : Nat) : Int) by omega, Int.toNat_natCast]
  have hlen : (o.take a ++ rd o ((a + 1 : Nat) : Int) :: rd o (a : Int) :: o.drop (a + 2)).length = o.length := by rw [← hw]; simp
  have hp : (o.take a ++ rd o ((a + 1 : Nat) : Int) :: rd o (a : Int) :: o.drop (a + 2)).Perm o := by
    conv => rhs; rw [hs]
    exact List.Perm.append_left _ (List.Perm.swap _ _ _)
  have hox : orderOk (o.take a ++ rd o ((a + 1 : Nat) : Int) :: rd o (a : Int) :: o.drop (a + 2)) o.length = true :=
    orderOk_nodup.mpr ⟨h1.1, by rw [hlen], hp.nodup_iff.mpr h1.2.2.1, fun y hy => h1.2.2.2 y (hp.mem_iff.mp hy)⟩
  refine ⟨_, hx, hlen, hox, ?_, ?_⟩
  · unfold countTurned
    rw [hlen, if_pos hox, if_pos ho, turned_swap _ _ hne, ← hs]
  · have hta : (o.take a).length = a := by rw [List.length_take]; omega
    have r1 : rd (o.take a ++ rd o ((a + 1 : Nat) : Int) :: rd o (a : Int) :: o.drop (a + 2)) (a : Int) = rd o ((a + 1 : Nat) : Int) := by
      rw [rd_get _ (by omega), List.getElem_append_right (by omega)]
      simp [hta]
    have r2 : rd (o.take a ++ rd o ((a + 1 : Nat) : Int) :: rd o (a : Int) :: o.drop (a + 2)) ((a + 1 : Nat) : Int) = rd o (a : Int) := by
      rw [rd_get _ (by omega), List.getElem_append_right (by omega)]
      simp [hta, show a + 1 - a = 1 by omega]
    have hw2 := swap_at (o.take a ++ rd o ((a + 1 : Nat) : Int) :: rd o (a : Int) :: o.drop (a + 2)) (a := a) (by omega)
    rw [r1, r2] at hw2
    have hb := set_back (o.take a) (o.drop (a + 2)) (rd o (a : Int)) (rd o ((a + 1 : Nat) : Int))
    rw [hta, ← hs] at hb
    unfold exchangedAt
    rw [hlen, if_pos ⟨hox, by omega, by omega⟩, Int.toNat_natCast, show ((a : Int) + 1) = ((a + 1 : Nat) : Int) by omega, Int.toNat_natCast, r1, r2, hw2, hb]
theorem FnExchangedAt : laws_FnExchangedAt.Pure := by
  intro l _ _ hb
  refine Ev.rounds (g := fun k => laws_FnExchangedAt.f k l) ?_
  obtain ⟨b, hB, hopen⟩ := l20Open_ev l hb
  unfold laws_FnExchangedAt.f
  refine Ev.ite (fun h => Ev.ret rfl) (fun h => ?_)
  obtain ⟨o, a, hd, hlen, ha0, ha1⟩ : ∃ r a, Ev (fun k => spec_DrawExchangedAt.f k l) (r, a) ∧ r.length ≤ 8 ∧ -10 ≤ a ∧ a ≤ 10 := by
    obtain ⟨v, hv0, hv1, hv⟩ := pick_ev hB 0 8 (by omega) (by omega) (by omega) (by omega)
    have e : wrap64 (1 + v) = 1 + v := wrap_id (by omega) (by omega)
    obtain ⟨o, p', ho, hol, _, hp0, hp1⟩ := order_ev hB (0 + 1) (1 + v) (by omega) (by omega) (by omega) (by omega)
    obtain ⟨c, hc⟩ := odd_ev hB p' 9 (by omega) (by omega) (by omega) (by omega)
    have e2 : wrap64 ((o.length : Int) + 1) = (o.length : Int) + 1 := wrap_id (by omega) (by omega)
    obtain ⟨x, hx0, hx1, hx⟩ := pick_ev hB (p' + 1) ((o.length : Int) + 1) (by omega) (by omega) (by omega) (by omega)
    obtain ⟨y, hy0, hy1, hy⟩ := pick_ev hB (p' + 1 + 1) 20 (by omega) (by omega) (by omega) (by omega)
    have e3 : wrap64 (Int.tdiv y 19) = y / 19 := by rw [Int.tdiv_eq_ediv_of_nonneg hy0, wrap_id (by omega) (by omega)]
    have e4 : wrap64 (x - y / 19) = x - y / 19 := wrap_id (by omega) (by omega)
    unfold spec_DrawExchangedAt.f
    by_cases hc1 : c = true
    · refine ⟨o.set (0 : Int).toNat 0, x - y / 19, Ev.bind0 hopen (Ev.bind hv ?_), by rw [List.length_set]; omega, by omega, by omega⟩
      rw [e]
      refine Ev.bind ho (Ev.bind hc (Ev.pos hc1 (Ev.pos (show (0 : Int) < (o.length : Int) by omega) ?_)))
      simp only []
      rw [e2]
      refine Ev.bind hx (Ev.bind hy (Ev.ret ?_))
      simp only []
      rw [e3, e4]
    · refine ⟨o, x - y / 19, Ev.bind0 hopen (Ev.bind hv ?_), by omega, by omega, by omega⟩
      rw [e]
      refine Ev.bind ho (Ev.bind hc (Ev.neg hc1 ?_))
      simp only []
      rw [e2]
      refine Ev.bind hx (Ev.bind hy (Ev.ret ?_))
      simp only []
      rw [e3, e4]
  refine Ev.bind hd (Ev.bind (impl_ExchangedAt_ev o a (by omega)) (Ev.bind (spec_ExchangedAt_ev o a (by omega)) (Ev.bind (sameInts_ev _ _ (Nat.le_trans (exchangedAt_small o a) (by omega))) (Ev.pos (by simp) ?_))))
  refine Ev.step (fun k => laws_FnExchangedAt.j0.eq_2 ..) (Ev.neg (by simp) ?_)
  by_cases h : orderOk o o.length = true ∧ 0 ≤ a ∧ a ≤ o.length - 2
  · obtain ⟨a', rfl⟩ : ∃ n : Nat, a = n := ⟨a.toNat, by omega⟩
    obtain ⟨x, h1, h2, h3, h4, h5⟩ := exchanged_spec h.1 (a := a') (by omega)
    have e1 : wrap64 ((a' : Int) + 1) = ((a' + 1 : Nat) : Int) := wrap_add1 (by omega)
    have hc1 : 0 ≤ countTurned o ∧ countTurned o ≤ 64 := by
      unfold countTurned; rw [if_pos h.1]
      have := turned_le o
      have := Nat.mul_le_mul hlen hlen
      omega
    have fin : ∀ c : Int, countTurned x = countTurned o + c → (c = 1 ∨ c = -1) → Ev (fun k => laws_FnExchangedAt.j1 k o (a' : Int) x c) true := by
      intro c hc hcc
      refine Ev.step (fun k => laws_FnExchangedAt.j1.eq_2 ..) (Ev.bind (impl_ExchangedAt_ev x (a' : Int) (by omega)) (Ev.bind (impl_OrderOk_ev x _) (Ev.pos h3 (Ev.bind (impl_CountTurned_ev x) (Ev.bind (impl_CountTurned_ev o) (Ev.pos ?_ ?_))))))
      · rw [hc, wrap_id (by omega) (by omega)]
      · rw [h5]
        exact Ev.pos rfl (Ev.bind (sameInts_ev o o (by omega)) (Ev.ret (by simp)))
    dsimp only
    rw [h1, e1]
    refine Ev.pos rfl (Ev.pos (by omega) (Ev.pos (by omega) (Ev.pos (by omega) (Ev.pos (by omega) (Ev.ite (fun c => fin (-1) (by rw [h4, if_pos c]) (.inr rfl)) (fun c => fin 1 (by rw [h4, if_neg c]) (.inl rfl)))))))
  · have e : exchangedAt o a = ([], false) := by unfold exchangedAt; rw [if_neg h]
    rw [e]
    exact Ev.neg (by simp) (Ev.pos rfl (Ev.bind alive_ev (Ev.ret rfl)))

end Go.Proofs.Ytghjiacfofeegaa.Pure
