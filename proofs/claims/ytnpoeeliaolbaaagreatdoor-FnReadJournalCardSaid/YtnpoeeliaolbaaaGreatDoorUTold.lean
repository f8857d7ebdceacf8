/- The table of words of deeds, as it lies in memory: what a function that reads it asks of the world; plain words for texts that read a package-level table. -/
import Derived.Below
import Derived.RowKit
import Derived.ProofKit
import Derived.SliceStrings
import Derived.ChangeVars
import Derived.LaidMore
import Derived.Carry
import Derived.Stop.LaidErr
import Derived.Handed
import Derived.SizedLaws
import Derived.LaidLaws
open Go.ChangeShapes Go.WideShapes Go.ChangeAt Go.WideElems
namespace Go.RowKit
def TabW (w : World) : Prop := ∃ b off cap, 6 ≤ cap ∧ w.cell? ⟨0, 0, none⟩ = some (.slice (some ⟨b, off, none⟩) 6 cap) ∧
 w.cell? ⟨b, off, none⟩ = some (.string ⟨#[104, 101, 97, 100]⟩) ∧ w.cell? ⟨b, off + 1, none⟩ = some (.string ⟨#[97, 100, 100]⟩) ∧
 w.cell? ⟨b, off + 2, none⟩ = some (.string ⟨#[100, 114, 111, 112]⟩) ∧ w.cell? ⟨b, off + 3, none⟩ = some (.string ⟨#[116, 117, 114, 110]⟩) ∧
 w.cell? ⟨b, off + 4, none⟩ = some (.string ⟨#[102, 108, 97, 116]⟩) ∧ w.cell? ⟨b, off + 5, none⟩ = some (.string ⟨#[98, 97, 99, 107]⟩)
theorem TabW.below {w w' : World} (h : TabW w) (hb : Below w.heap.size w w') : TabW w' := by
 obtain ⟨b, off, cap, hc, h0, h1, h2, h3, h4, h5, h6⟩ := h;have go : ∀ {a : Addr} {v : Value}, w.cell? a = some v → w'.cell? a = some v := fun {a v} e => (hb.cell (World.block_lt_of_cell? w _ e)).trans e;exact ⟨b, off, cap, hc, go h0, go h1, go h2, go h3, go h4, go h5, go h6⟩
def TabR (w : World) : Prop := TabW w ∧ (∃ m, w.cell? ⟨1, 0, none⟩ = some (.int .i64 m)) ∧ (∃ t p, w.cell? ⟨2, 0, none⟩ = some (.iface t p)) ∧ (∃ t p, w.cell? ⟨3, 0, none⟩ = some (.iface t p))
theorem TabR.below {w w' : World} (h : TabR w) (hb : Below w.heap.size w w') : TabR w' := by
 obtain ⟨h0, ⟨m, h1⟩, ⟨t, p, h2⟩, ⟨t', p', h3⟩⟩ := h;have go : ∀ {a : Addr} {v : Value}, w.cell? a = some v → w'.cell? a = some v := fun {a v} e => (hb.cell (World.block_lt_of_cell? w _ e)).trans e;exact ⟨h0.below hb, ⟨m, go h1⟩, ⟨t, p, go h2⟩, ⟨t', p', go h3⟩⟩
def wordsL : List ByteArray := [⟨#[104, 101, 97, 100]⟩, ⟨#[97, 100, 100]⟩, ⟨#[100, 114, 111, 112]⟩, ⟨#[116, 117, 114, 110]⟩, ⟨#[102, 108, 97, 116]⟩, ⟨#[98, 97, 99, 107]⟩]
def wordOf (x : Int) : Option ByteArray :=
 if x = 2 then some ⟨#[100, 114, 111, 112]⟩ else if x = 3 then some ⟨#[116, 117, 114, 110]⟩ else if x = 4 then some ⟨#[102, 108, 97, 116]⟩ else if x = 5 then some ⟨#[98, 97, 99, 107]⟩ else none
theorem wordOf_cases {x : Int} {r : ByteArray} (h : wordOf x = some r) :
  (x = 2 ∧ r = ⟨#[100, 114, 111, 112]⟩) ∨ (x = 3 ∧ r = ⟨#[116, 117, 114, 110]⟩) ∨ (x = 4 ∧ r = ⟨#[102, 108, 97, 116]⟩) ∨ (x = 5 ∧ r = ⟨#[98, 97, 99, 107]⟩) := by
 unfold wordOf at h;split at h
 ·exact Or.inl ⟨by assumption, (Option.some.inj h).symm⟩
 ·split at h
  ·exact Or.inr (Or.inl ⟨by assumption, (Option.some.inj h).symm⟩)
  ·split at h
   ·exact Or.inr (Or.inr (Or.inl ⟨by assumption, (Option.some.inj h).symm⟩))
   ·split at h
    ·exact Or.inr (Or.inr (Or.inr ⟨by assumption, (Option.some.inj h).symm⟩))
    ·cases h
theorem var_below {P : Program} {B g : Nat} {W W' : World} {n : String} {cs : Array Value} (h : Below B W W') (hg : P.globalNamed n = some g) (hgB : g < B) (hv : W.var? P n = some cs) : W'.var? P n = some cs := by
 unfold World.var? at hv ⊢;simp only [hg, Option.bind_some] at hv ⊢;rw [h.block g hgB];exact hv
theorem told_vars {H : Type} {enc : TypeId × Value → H} {P : Program} {W W' : World} {n : String} {g : Nat} {t e : TypeId} {gs : List (DataW H)} {q : List MemPlace} (hl : laidOutB P = true) (hr : P.readableRec t = true) (hrow : t < P.types.size)
  (ht : P.underlying t = some (.slice e)) (he : P.underlying e = some .string) (hc : P.cellsOf e = 1) (hn : P.globalNamed n = some g) (hty : (P.globals[g]?).map (·.type) = some t)
  (h : DataW.TrodVars enc P W (fun _ => true) [n] gs q) (hb : Below W.heap.size W W') :
  ∃ d pv, gs = [d] ∧ DataW.TrodVars enc P W' (fun b => decide (b < W.heap.size)) [n] [d] pv := by
 obtain ⟨g', t', cs, fuel, d, p, rfl, hg', ht', hv, hd, rfl⟩ := trodVars_one h;obtain rfl := Option.some.inj (hn.symm.trans hg');obtain rfl := Option.some.inj (hty.symm.trans ht')
 have one : ∃ v : Value, cs.toList = [v] ∧ v.cells = #[v] := by
  rcases open_strings ht he hc hd with ⟨hcs, _⟩ | ⟨a, len, cap, ss, hcs, _⟩
  ·exact ⟨_, hcs, rfl⟩
  ·exact ⟨_, hcs, rfl⟩
 obtain ⟨v, hcs, hvc⟩ := one;have hlt : ∀ x ∈ p, x.block < W.heap.size := DataW.trod_lt fuel _ _ _ hd;have hcs' : cs = #[v] := Array.eq_one_of_toList hcs
 have hcell : W.cell? ⟨g, 0, none⟩ = some v := by
  have := World.var?_cell hn hv 0;rw [hcs'] at this;simpa using this
 have hgl : g < W.heap.size := World.block_lt_of_cell? W _ hcell;obtain ⟨fuel', hd'⟩ := Below.trod hl hr hrow (v := v) (⟨fuel, by rw [hvc]; rw [hcs] at hd; exact hd⟩ : DataW.Trod enc P W 0 (fun _ => true) true t v d p) hb hlt;exact ⟨d, _, rfl, trodVars_mk1 hn hty (var_below hb hn hgl hv) (by rw [hcs]; rw [hvc] at hd'; exact hd')⟩
theorem tab_of_laid {P : Program} {W : World} {n : String} {t e : TypeId} {r : List (String × DataW Unit)} (ht : P.underlying t = some (.slice e)) (he : P.underlying e = some .string) (hc : P.cellsOf e = 1) (hn : P.globalNamed n = some 0) (hty : (P.globals[0]?).map (·.type) = some t)
  (h : laidMet P ((n, .slice [.lit (.string [104, 101, 97, 100]), .lit (.string [97, 100, 100]), .lit (.string [100, 114, 111, 112]), .lit (.string [116, 117, 114, 110]), .lit (.string [102, 108, 97, 116]), .lit (.string [98, 97, 99, 107])] []) :: r) W) : TabW W := by
 obtain ⟨ps, ⟨g', t', cs, fuel, p, q, hg', ht', hv, hd, _, _⟩, _, _⟩ := h;obtain rfl := Option.some.inj (hn.symm.trans hg');obtain rfl := Option.some.inj (hty.symm.trans ht');obtain ⟨a, cap, hcs, hcap, hel⟩ := open_row ht hc hd
 have str : ∀ i bs, ([.lit (.string [104, 101, 97, 100]), .lit (.string [97, 100, 100]), .lit (.string [100, 114, 111, 112]), .lit (.string [116, 117, 114, 110]), .lit (.string [102, 108, 97, 116]), .lit (.string [98, 97, 99, 107])] : List (DataW Unit))[i]? = some (.lit (.string bs)) → W.cell? (a.add i) = some (.string ⟨bs.toArray⟩) := by
  intro i bs hi;obtain ⟨v, m, q1, hv1, ht1⟩ := hel i _ hi;obtain ⟨s, hs, hx, _⟩ := DataW.trod_string he ht1;obtain rfl := (List.cons.inj hs).1;simp only [Prod.mk.injEq, DataW.lit.injEq, Lit.string.injEq] at hx;rw [hv1, hx.1]
 have c0 := str 0 _ rfl; have c1 := str 1 _ rfl; have c2 := str 2 _ rfl; have c3 := str 3 _ rfl; have c4 := str 4 _ rfl; have c5 := str 5 _ rfl;obtain ⟨b, off, spot⟩ := a;(have hspot : spot = none := by simpa [Addr.add] using World.cell?_spot c0);subst hspot;refine ⟨b, off, cap, hcap, ?_, by simpa [Addr.add] using c0, by simpa [Addr.add] using c1, by simpa [Addr.add] using c2, by simpa [Addr.add] using c3, by simpa [Addr.add] using c4, by simpa [Addr.add] using c5⟩;have := World.var?_cell hn hv 0;rw [Array.eq_one_of_toList hcs] at this;simpa using this
theorem err_of_laid {P : Program} {W : World} {n nm : String} {d : DataW Unit} {g : Nat} {t : TypeId} {ms : Array (String × TypeId)} {r : List (String × DataW Unit)} (hg : P.globalNamed n = some g) (hty : (P.globals[g]?).map (·.type) = some t) (hi : P.underlying t = some (.interface ms))
  (h : laidMet P ((n, .iface nm d) :: r) W) : ∃ u v, W.cell? ⟨g, 0, none⟩ = some (.iface u v) := by
 obtain ⟨ps, ⟨g', t', cs, fuel, p, q, hg', ht', hv, hd, _, _⟩, _, _⟩ := h;obtain rfl := Option.some.inj (hg.symm.trans hg');obtain rfl := Option.some.inj (hty.symm.trans ht');obtain ⟨f1, u, v, hcs, _⟩ := iface_of_trod hi hd;have := World.var?_cell hg hv 0;rw [Array.eq_one_of_toList hcs] at this;exact ⟨u, v, by simpa using this⟩
theorem returns_told {H : Type} {enc : TypeId × Value → H} {a : Assume} {C : Checked} {os : Os} {f : FuncId} {fn : Func} {s : ChangeSpec} {conds : List PathCond} {apart fresh handsOn again : Bool} {X : World → Array Value → Prop}
  (hX : ∀ (w w' : World) (args : Array Value), w.heap = w'.heap → X w args → X w' args)
  (own : ownKnob C.prog.godebug = none) (started : os.Started) (noInit : C.prog.inits.idxOf? f = none) (hfn : C.prog.funcs[f]? = some fn)
  (witness : ∃ (w : World) (tape : Tape) (i : Input), w.os = os ∧ (w.forCall tape i).Shaped C.prog ∧ i.vars = [] ∧ Input.okWide C.prog (w.forCall tape i) .any w.heap.size f i ∧
   ((s.pre enc C.prog fn conds apart (w.forCall tape i).memory i.args ∧ X (w.forCall tape i).memory i.args) ∧ sizedMet enc C.prog fn (OpenSpec.ofChange s) apart (w.forCall tape i).memory i.args) ∧ a.holds C.prog (lone (Frame.enter C.prog f i.args .normal) [] (w.forCall tape i)))
  (contract : ∀ (W : World) (base : Nat) (args : Array Value) (ds gs : List (DataW H)) (before : List MemPlace),
   (∀ (j : Nat) t v, fn.params[j]? = some t → args[j]? = some v → Value.okWide C.prog W .any base t v) →
   DataW.Whole enc C.prog fn.params.toList s.vars apart W args.toList ds gs before →
   conds.all (PathCond.test C.prog ⟨fn.params.toList, ds, s.plain.varTypes C.prog, gs⟩) = true →
   (DataW.weightsEach C.prog (fn.params.toList ++ s.plain.varTypes C.prog) (ds ++ gs)).all (· ≤ reachBytes) = true → X W args → W.ShapedOpen C.prog →
   a.holds C.prog (lone (Frame.enter C.prog f args .normal) [] W) →
   Calls C.prog f args W fun e W' => ∃ v, e = .returned v ∧ s.post enc C.prog fn apart fresh handsOn again W args v W') :
  ReturnsInHanded a C os f .any (fun w args => (s.pre enc C.prog fn conds apart w args ∧ X w args) ∧ sizedMet enc C.prog fn (OpenSpec.ofChange s) apart w args) (s.post enc C.prog fn apart fresh handsOn again) := by
 refine returnsInHanded_of_calls own started noInit witness ?_;intro w tape i _ hsh _ hok hpre hholds;obtain ⟨_, _, _, fn', hfn', _, _, _, _, hval⟩ := hok;have e : fn' = fn := Option.some.inj (hfn'.symm.trans hfn);subst e;obtain ⟨⟨⟨ds, gs, before, hw, hc⟩, hx⟩, hz⟩ := hpre;have hw' := DataW.Whole.of_heap (w' := w.forCall tape i) (by rfl) hw;refine (contract (w.forCall tape i) w.heap.size i.args ds gs before hval hw' hc (hz.weights hw) (hX _ _ _ (by rfl) hx) hsh hholds).mono fun e W' ⟨v, he, hp⟩ => ?_;subst he;exact ChangeSpec.post_blind hp
end Go.RowKit
