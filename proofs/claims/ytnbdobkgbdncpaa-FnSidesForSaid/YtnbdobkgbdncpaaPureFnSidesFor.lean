/- The plain statement of FnSidesFor: the printed functions answer true for all arguments within the printed bounds; no other conditions. -/
import Derived.Test.YtnbdobkgbdncpaaLAx10
import Derived.ChangeSlices
import Derived.SizedLaws
import Derived.Test.YtnbdobkgbdncpaaUSized
namespace Go.Proofs.Ytnbdobkgbdncpaa.Pure
open Go.RowKit Go.Proofs.Ytnbdobkgbdncpaa.LA Go.Proofs.YtnbdobkgbdncpaaV.PrintWords Go.Proofs.YtnbdobkgbdncpaaV.PrintLast
set_option linter.unusedVariables false
set_option linter.unusedSimpArgs false
theorem Ev.ret {α : Type} {r r' : α} (h : r=r') : Ev (fun _=>some r) r' := ⟨0, fun _ _ => by rw [h]⟩
theorem Ev.pos {α : Type} {c : Prop} [Decidable c] {g f : Nat→Option α} {r : α} (h : c) (k : Ev g r) : Ev (fun n=>if c then g n else f n) r:=by
 simpa only [if_pos h] using k
theorem Ev.neg {α : Type} {c : Prop} [Decidable c] {g f : Nat→Option α} {r : α} (h : ¬ c) (k : Ev f r) : Ev (fun n=>if c then g n else f n) r:=by
 simpa only [if_neg h] using k
theorem Ev.ite {α : Type} {c : Prop} [Decidable c] {g f : Nat→Option α} {r : α} (h : c→Ev g r) (k : ¬ c→Ev f r) : Ev (fun n=>if c then g n else f n) r:=by
 by_cases hc : c
 ·exact Ev.pos hc (h hc)
 ·exact Ev.neg hc (k hc)
theorem Ev.bind0 {α β : Type} {o : Option α} {f : Nat→α→Option β} {a : α} {r : β} (h : o=some a) (k : Ev (fun n=>f n a) r) : Ev (fun n=>o.bind (f n)) r:=by
 subst h; simpa only [Option.bind_some] using k
theorem Ev.eq {α : Type} {g : Nat→Option α} {r r' : α} (h : Ev g r) (e : r=r') : Ev g r' := e ▸ h
theorem wrap_id {n : Int} (h0 : -9223372036854775808≤n) (h1 : n<9223372036854775808) : wrap64 n=n:=by
 unfold wrap64; omega
theorem wrap_add1 {n : Nat} (h : n<1099511627776) : wrap64 ((n:Int)+1)=((n+1:Nat):Int):=by
 unfold wrap64; omega
theorem rd_nat (l : List Int) (j:Nat) : rd l (j:Int)=l.getD j 0 := by simp [rd]
open Go.ChangeShapes Go.WideShapes in
theorem _root_.Go.Proofs.Ytnbdobkgbdncpaa.PrintWords.sized_ints {H : Type} {enc : TypeId × Value→H} {P : Program} {W : World} {base : Nat} {spare : Nat→Bool} {held : Bool} {t e : TypeId} {k : IntKind} {a : Option Addr} {len cap : Nat} {d : DataW H} {ps : List MemPlace} {ts : List TypeId} {ds : List (DataW H)} {j : Nat}
  (hsz : (DataW.weightsEach P ts ds).all (·≤reachBytes)=true) (ht : ts[j]?=some t) (hd : ds[j]?=some d) (hu : P.underlying t=some (.slice e)) (he : P.underlying e=some (.int k)) (hc : P.cellsOf e=1) {B : Nat} (hB : P.bytesOf e=B)
  (h : DataW.Trod enc P W base spare held t (.slice a len cap) d ps) : len * B≤140737488351232 :=
 Go.Proofs.YtnbdobkgbdncpaaV.PrintWords.sized_ints hsz ht hd hu he hc hB h
theorem xor_small (a b:Int) (ha : 0≤a) (ha2 : a<4294967296) (hb : 0≤b) (hb2 : b<4294967296) : 0≤Go.bits .xor .i64 a b∧Go.bits .xor .i64 a b<4294967296:=by
 obtain ⟨x, rfl⟩ : ∃ x : Nat, a=x := ⟨a.toNat,by omega⟩
 obtain ⟨y, rfl⟩ : ∃ y : Nat, b=y := ⟨b.toNat,by omega⟩
 have h := Nat.xor_lt_two_pow (n := 32) (show x<2 ^ 32 by omega) (show y<2 ^ 32 by omega)
 have e : Go.bits .xor .i64 (x:Int) (y:Int)=((x ^^^ y:Nat):Int):=by
  have hx : x % 2 ^ 64=x := Nat.mod_eq_of_lt (by omega)
  have hy : y % 2 ^ 64=y := Nat.mod_eq_of_lt (by omega)
  have hv : (BitVec.ofNat 64 x ^^^ BitVec.ofNat 64 y).toNat=x ^^^ y := by rw [BitVec.toNat_xor, BitVec.toNat_ofNat, BitVec.toNat_ofNat, hx, hy]
  simp only [Go.bits, BitVec.ofInt_natCast, IntKind.bits]
  rw [i64_w]
  show wrap64 (((BitVec.ofNat 64 x ^^^ BitVec.ofNat 64 y).toNat:Nat):Int)=_
  rw [hv]
  exact wrap_id (n := ((x ^^^ y:Nat):Int)) (by omega) (by omega)
 rw [e]
 omega
structure Bytes (b : List Int) : Prop where
 small : ∀ x ∈ b, 0≤x∧x≤255
 len : b.length≤2000
theorem Bytes.rd_le {b : List Int} (h : Bytes b) (i:Int) : 0≤rd b i∧rd b i≤255:=by
 unfold rd
 by_cases hi : i.toNat<b.length
 ·have e : b.getD i.toNat 0=b[i.toNat] := by simp [hi]
  rw [e]; exact h.small _ (List.getElem_mem hi)
 ·have e : b.getD i.toNat 0=0 := by simp [Nat.le_of_not_lt hi]
  rw [e]; omega
theorem pick_ev {b : List Int} (hb : Bytes b) (p n:Int) (h0 : 0≤p) (h1 : p≤1000000) (hn : 1≤n) (hn2 : n≤1000000) :
  ∃ v, 0≤v∧v<n∧Ev (fun k=>spec_l20Rd_pick.f k b p n) (v, p+1):=by
 unfold spec_l20Rd_pick.f
 have hl := hb.len
 rw [wrap_id (n := p+1) (by omega) (by omega)]
 by_cases hz : b.length=0
 ·refine ⟨0,by omega,by omega, Ev.neg (by omega) (Ev.step (fun k=>spec_l20Rd_pick.j0.eq_2 ..) (Ev.pos (by rw [hz]; rfl) (Ev.ret rfl)))⟩
 ·by_cases hp : p<b.length
  ·have hr := hb.rd_le p
   refine ⟨Int.tmod (rd b p) n, Int.tmod_nonneg _ hr.1, Int.tmod_lt_of_pos _ (by omega), ?_⟩
   refine Ev.neg (by omega) (Ev.step (fun k=>spec_l20Rd_pick.j0.eq_2 ..) (Ev.neg (by simp; intro e; simp [e] at hz) ?_))
   rw [wrap_id (n := p+1 - 1) (by omega) (by omega), show p+1 - 1=p by omega, wrap_id (n := rd b p) (by omega) (by omega)]
   exact Ev.pos hp (Ev.pos h0 (Ev.neg (by omega) (Ev.ret rfl)))
  ·have e0 : wrap64 (p+1 - 1)=p := by rw [wrap_id (by omega) (by omega)]; omega
   have hm1 : 0≤Int.tmod p (b.length:Int)∧Int.tmod p (b.length:Int)<b.length := ⟨Int.tmod_nonneg _ h0, Int.tmod_lt_of_pos _ (by omega)⟩
   have e1 : wrap64 (wrap64 (p * 7)+3)=p * 7+3 := by rw [wrap_id (n := p * 7) (by omega) (by omega), wrap_id (by omega) (by omega)]
   have hm2 : 0≤Int.tmod (p * 7+3) (b.length:Int)∧Int.tmod (p * 7+3) (b.length:Int)<b.length := ⟨Int.tmod_nonneg _ (by omega), Int.tmod_lt_of_pos _ (by omega)⟩
   have hr1 := hb.rd_le (Int.tmod p (b.length:Int))
   have hr2 := hb.rd_le (Int.tmod (p * 7+3) (b.length:Int))
   have hd : 0≤Int.tdiv p (b.length:Int)∧Int.tdiv p (b.length:Int)≤p:=by
    rw [Int.tdiv_eq_ediv_of_nonneg h0]
    exact ⟨Int.ediv_nonneg h0 (by omega), Int.ediv_le_self _ h0⟩
   obtain ⟨u1, hu1⟩ : ∃ u, u=rd b (Int.tmod p (b.length:Int)) := ⟨_, rfl⟩
   obtain ⟨u2, hu2⟩ : ∃ u, u=rd b (Int.tmod (p * 7+3) (b.length:Int)) := ⟨_, rfl⟩
   obtain ⟨q, hq⟩ : ∃ u, u=Int.tdiv p (b.length:Int) := ⟨_, rfl⟩
   rw [← hu1] at hr1
   rw [← hu2] at hr2
   rw [← hq] at hd
   obtain ⟨x, hx⟩ : ∃ x, x=wrap64 (wrap64 (wrap64 (wrap64 (wrap64 u1 * 131)+wrap64 (wrap64 u2 * 1117))+wrap64 (p * 29))+wrap64 (wrap64 q * 53)) := ⟨_, rfl⟩
   have hxb : 0≤x∧x<4294967296:=by
    rw [hx, wrap_id (n := u1) (by omega) (by omega), wrap_id (n := u2) (by omega) (by omega), wrap_id (n := u1 * 131) (by omega) (by omega), wrap_id (n := u2 * 1117) (by omega) (by omega), wrap_id (n := u1 * 131+_) (by omega) (by omega), wrap_id (n := p * 29) (by omega) (by omega), wrap_id (n := q) (by omega) (by omega), wrap_id (n := q * 53) (by omega) (by omega), wrap_id (n := u1 * 131+u2 * 1117+p * 29) (by omega) (by omega), wrap_id (by omega) (by omega)]
    omega
   have hy : 0≤wrap64 (Int.tdiv x 64)∧wrap64 (Int.tdiv x 64)<4294967296:=by
    rw [Int.tdiv_eq_ediv_of_nonneg hxb.1, wrap_id (by omega) (by omega)]
    omega
   have hz2 := xor_small x (wrap64 (Int.tdiv x 64)) hxb.1 hxb.2 hy.1 hy.2
   refine ⟨Int.tmod (Go.bits .xor .i64 x (wrap64 (Int.tdiv x 64))) n, Int.tmod_nonneg _ hz2.1, Int.tmod_lt_of_pos _ (by omega), ?_⟩
   refine Ev.neg (by omega) (Ev.step (fun k=>spec_l20Rd_pick.j0.eq_2 ..) (Ev.neg (by simp; intro e; simp [e] at hz) ?_))
   rw [e0, e1, ← hu1, ← hu2, ← hq, ← hx]
   exact Ev.neg hp (Ev.neg (by omega) (Ev.pos hm1.1 (Ev.pos hm1.2 (Ev.pos hm2.1 (Ev.pos hm2.2 (Ev.neg (by omega) (Ev.ret rfl)))))))
theorem l20Open_ev (l : List Int) (hb : ∀ x ∈ l, (Lit.int .u8 x).wf=true) : ∃ b, Bytes b∧spec_l20Open.f l=some (b, 0):=by
 have hs : ∀ x ∈ l, 0≤x∧x≤255:=by
  intro x hx
  have := hb x hx
  simp [Lit.wf, IntKind.min, IntKind.max, IntKind.signed, IntKind.bits] at this
  omega
 unfold spec_l20Open.f
 by_cases h : (l.length:Int) > 2000
 ·rw [if_pos h, if_pos (by omega)]
  exact ⟨l.take 2000, ⟨fun x hx => hs x (List.mem_of_mem_take hx), by simp; omega⟩, rfl⟩
 ·rw [if_neg h]
  exact ⟨l, ⟨hs,by omega⟩, rfl⟩
theorem odd_ev {b : List Int} (hb : Bytes b) (p n:Int) (h0 : 0≤p) (h1 : p≤1000000) (hn : 1≤n) (hn2 : n≤1000000) :
  ∃ v, Ev (fun k=>spec_l20Rd_odd.f k b p n) (v, p+1):=by
 obtain ⟨v, _, _, hv⟩:=pick_ev hb p n h0 h1 hn hn2
 unfold spec_l20Rd_odd.f
 exact ⟨_, Ev.pos (by omega) (Ev.bind hv (Ev.ret rfl))⟩
theorem odd_evG {b : List Int} (hb : Bytes b) (p n:Int) (h0 : 0≤p) (h1 : p≤1000000) (hn : 0≤n) (hn2 : n≤1000000) :
  ∃ v q, Ev (fun k=>spec_l20Rd_odd.f k b p n) (v, q)∧p≤q∧q≤p+1:=by
 by_cases h : 1≤n
 ·obtain ⟨v, hv⟩:=odd_ev hb p n h0 h1 h hn2
  exact ⟨v, p+1, hv,by omega,by omega⟩
 ·unfold spec_l20Rd_odd.f
  exact ⟨false, p, Ev.neg (by omega) (Ev.ret rfl),by omega,by omega⟩
def Within (n:Int) (l : List Int) : Prop := ∀ x ∈ l, 1≤x∧x≤n
theorem Within.get {n : Int} {l : List Int} (h : Within n l) {i : Int} (h0 : 0≤i) (h1 : i<l.length) : 1≤rd l i∧rd l i≤n:=by
 have e : rd l i=l[i.toNat]'(by omega) := by unfold rd; simp [show i.toNat<l.length by omega]
 rw [e]; exact h _ (List.getElem_mem _)
theorem order_next (x5 : List Int) (m x7:Int) (h7 : 1≤x7) (hw : Within (x7 - 1) x5) (h0 : 0≤m) (h1 : m≤x5.length) :
  Within x7 (([] ++ x5.take m.toNat ++ [x7]) ++ x5.drop m.toNat)∧(([] ++ x5.take m.toNat ++ [x7]) ++ x5.drop m.toNat).length=x5.length+1:=by
 constructor
 ·intro x hx
  simp only [List.nil_append, List.append_assoc, List.mem_append, List.mem_singleton] at hx
  rcases hx with hx | hx | hx
  ·have := hw x (List.mem_of_mem_take hx); omega
  ·omega
  ·have := hw x (List.mem_of_mem_drop hx); omega
 ·simp; omega
theorem order_l0 {b : List Int} (hb : Bytes b) (n keep:Int) (hn : n≤100) (d:Nat) : ∀ (x5 : List Int) (x7 p:Int), x7+d=n+1→1≤x7→(x5.length:Int)=x7 - 1→Within (x7 - 1) x5→0≤p→p≤1000+2 * x7 →
  ∃ r p', Ev (fun k=>spec_l20Order.l0 k n x5 keep x7 b p) (r, p')∧(r.length:Int)=n∧Within n r∧p≤p'∧p'≤p+2 * d:=by
 induction d with
 | zero =>
  intro x5 x7 p h7 h1 hl hw hp hp2
  refine ⟨x5, p, Ev.step (fun k=>spec_l20Order.l0.eq_2 ..) (Ev.neg (by omega) (Ev.ret rfl)),by omega, ?_,by omega,by omega⟩
  intro x hx
  have := hw x hx
  omega
 | succ d ih =>
  intro x5 x7 p h7 h1 hl hw hp hp2
  have put : ∀ (m p':Int), 0≤m→m≤x5.length→p≤p'→p'≤p+2→∃ r p'', Ev (fun k=>spec_l20Order.l0 k n (([] ++ x5.take m.toNat ++ [x7]) ++ x5.drop m.toNat) keep (x7+1) b p') (r, p'')∧(r.length:Int)=n∧Within n r∧p≤p''∧p''≤p+2 * ((d+1:Nat):Int):=by
   intro m p' hm0 hm1 hpp hpp2
   obtain ⟨hw', hl'⟩:=order_next x5 m x7 h1 hw hm0 hm1
   obtain ⟨r, p'', h1, h2, h3, h4, h5⟩:=ih (([] ++ x5.take m.toNat ++ [x7]) ++ x5.drop m.toNat) (x7+1) p' (by omega) (by omega) (by omega) (by rw [show x7+1 - 1=x7 by omega]; exact hw') (by omega) (by omega)
   exact ⟨r, p'', h1, h2, h3,by omega,by omega⟩
  have hlen : ∀ m : Int, 0≤m→m≤x5.length→(x5.take m.toNat).length≤200∧(x5.drop m.toNat).length≤200:=by
   intro m _ _; simp; omega
  by_cases hk : keep=0
  ·obtain ⟨v, hv0, hv1, hv⟩:=pick_ev hb p x7 hp (by omega) h1 (by omega)
   obtain ⟨r, p'', h, hrest⟩:=put v (p+1) hv0 (by omega) (by omega) (by omega)
   have hlen' := hlen v hv0 (by omega)
   refine ⟨r, p'', Ev.step (fun k=>spec_l20Order.l0.eq_2 ..) (Ev.pos (by omega) (Ev.pos hk (Ev.bind hv ?_))), hrest⟩
   simp only [Option.bind_some]
   rw [wrap_id (n := x7+1) (by omega) (by omega)]
   refine Ev.pos hv0 (Ev.pos (show v≤x5.length by omega) (Ev.pos ?_ (Ev.pos ?_ (Ev.pos ?_ h))))
   ·simp only [List.length_nil]; omega
   ·simp only [List.length_append, List.length_nil]; omega
   ·simp only [List.length_append, List.length_nil, List.length_singleton]; omega
  ·obtain ⟨u, hu0, hu1, hu⟩:=pick_ev hb p 3 hp (by omega) (by omega) (by omega)
   by_cases hu3 : u=0
   ·obtain ⟨v, hv0, hv1, hv⟩:=pick_ev hb (p+1) x7 (by omega) (by omega) h1 (by omega)
    obtain ⟨r, p'', h, hrest⟩:=put v (p+1+1) hv0 (by omega) (by omega) (by omega)
    have hlen' := hlen v hv0 (by omega)
    refine ⟨r, p'', Ev.step (fun k=>spec_l20Order.l0.eq_2 ..) (Ev.pos (by omega) (Ev.neg hk (Ev.bind hu (Ev.pos hu3 (Ev.bind hv ?_))))), hrest⟩
    simp only [Option.bind_some]
    rw [wrap_id (n := x7+1) (by omega) (by omega)]
    refine Ev.pos hv0 (Ev.pos (show v≤x5.length by omega) (Ev.pos ?_ (Ev.pos ?_ (Ev.pos ?_ h))))
    ·simp only [List.length_nil]; omega
    ·simp only [List.length_append, List.length_nil]; omega
    ·simp only [List.length_append, List.length_nil, List.length_singleton]; omega
   ·obtain ⟨r, p'', h, hrest⟩:=put (x5.length:Int) (p+1) (by omega) (by omega) (by omega) (by omega)
    have hlen' := hlen (x5.length:Int) (by omega) (by omega)
    refine ⟨r, p'', Ev.step (fun k=>spec_l20Order.l0.eq_2 ..) (Ev.pos (by omega) (Ev.neg hk (Ev.bind hu (Ev.neg hu3 ?_)))), hrest⟩
    simp only [Option.bind_some]
    rw [wrap_id (n := x7+1) (by omega) (by omega)]
    refine Ev.pos (by omega) (Ev.pos (by omega) (Ev.pos ?_ (Ev.pos ?_ (Ev.pos ?_ h))))
    ·simp only [List.length_nil]; omega
    ·simp only [List.length_append, List.length_nil]; omega
    ·simp only [List.length_append, List.length_nil, List.length_singleton]; omega
theorem order_ev {b : List Int} (hb : Bytes b) (p n:Int) (hp : 0≤p) (hp2 : p≤1000) (h0 : 0≤n) (hn : n≤100) :
  ∃ r p', Ev (fun k=>spec_l20Order.f k b p n) (r, p')∧(r.length:Int)=n∧Within n r∧p≤p'∧p'≤p+1+2 * n:=by
 obtain ⟨v, hv0, hv1, hv⟩:=pick_ev hb p 2 hp (by omega) (by omega) (by omega)
 obtain ⟨r, p', h, h1, h2, h3, h4⟩:=order_l0 hb n v hn n.toNat [] 1 (p+1) (by omega) (by omega) (by simp) (by intro x hx; simp at hx) (by omega) (by omega)
 unfold spec_l20Order.f
 exact ⟨r, p', Ev.bind hv h, h1, h2,by omega,by omega⟩
theorem tree_l0 {b : List Int} (hb : Bytes b) (n many near:Int) (ord : List Int) (hm : 1≤many) (hm2 : many≤8) (hn : 0≤n) (hn2 : n≤1000) (hol : (ord.length:Int)=many) (how : Within many ord) (d:Nat) :
  ∀ (heads : List Int) (x9 p:Int), x9+d=many→1≤x9→(heads.length:Int)=many→0≤p→p≤1500+2 * x9 →
  ∃ r p', Ev (fun k=>spec_l20Tree.l0 k n many ord heads near x9 b p) (r, p')∧r.length≤9∧p≤p'∧p'≤p+2 * d+3:=by
 induction d with
 | zero =>
  intro heads x9 p h9 h1 hl hp hp2
  obtain ⟨o, q, ho, hq1, hq2⟩:=odd_evG hb p n hp (by omega) hn (by omega)
  by_cases ho1 : o=true
  ·obtain ⟨u, hu0, hu1, hu⟩:=pick_ev hb (q) 4 (by omega) (by omega) (by omega) (by omega)
   by_cases e0 : u=0
   ·exact ⟨[], q+1, Ev.step (fun k=>spec_l20Tree.l0.eq_2 ..) (Ev.neg (by omega) (Ev.bind ho (Ev.pos ho1 (Ev.bind hu (Ev.pos e0 (Ev.ret rfl)))))), by simp,by omega,by omega⟩
   ·by_cases e1 : u=1
    ·exact ⟨[2, 1, 0], q+1, Ev.step (fun k=>spec_l20Tree.l0.eq_2 ..) (Ev.neg (by omega) (Ev.bind ho (Ev.pos ho1 (Ev.bind hu (Ev.neg e0 (Ev.pos e1 (Ev.ret rfl))))))), by simp,by omega,by omega⟩
    ·by_cases e2 : u=2
     ·obtain ⟨v, hv0, hv1, hv⟩:=pick_ev hb (q+1) many (by omega) (by omega) (by omega) (by omega)
      refine ⟨heads.set v.toNat 0 ++ [0], q+1+1, Ev.step (fun k=>spec_l20Tree.l0.eq_2 ..) (Ev.neg (by omega) (Ev.bind ho (Ev.pos ho1 (Ev.bind hu (Ev.neg e0 (Ev.neg e1 (Ev.pos e2 (Ev.bind hv (Ev.pos hv0 (Ev.pos (by omega) ?_)))))))))), by simp; omega,by omega,by omega⟩
      simp only [Option.bind_some]
      exact Ev.pos (by rw [List.length_set]; omega) (Ev.ret rfl)
     ·obtain ⟨v, hv0, hv1, hv⟩:=pick_ev hb (q+1) 3 (by omega) (by omega) (by omega) (by omega)
      refine ⟨heads.set 0 (rd [1, wrap64 (many+1), -1] v), q+1+1, Ev.step (fun k=>spec_l20Tree.l0.eq_2 ..) (Ev.neg (by omega) (Ev.bind ho (Ev.pos ho1 (Ev.bind hu (Ev.neg e0 (Ev.neg e1 (Ev.neg e2 ?_))))))), by simp; omega,by omega,by omega⟩
      simp only [Option.bind_some]
      exact Ev.bind hv (Ev.pos hv0 (Ev.pos (show v<(3:Int) by omega) (Ev.pos (by omega) (Ev.ret rfl))))
  ·exact ⟨heads, q, Ev.step (fun k=>spec_l20Tree.l0.eq_2 ..) (Ev.neg (by omega) (Ev.bind ho (Ev.neg ho1 (Ev.ret rfl)))),by omega,by omega,by omega⟩
 | succ d ih =>
  intro heads x9 p h9 h1 hl hp hp2
  obtain ⟨v, hv0, hv1, hv⟩:=pick_ev hb p x9 hp (by omega) h1 (by omega)
  have hr9 := how.get (i := x9) (by omega) (by omega)
  have next : ∀ (y p':Int), p≤p'→p'≤p+2→∃ r p'', Ev (fun k=>spec_l20Tree.l0 k n many ord (heads.set (rd ord x9 - 1).toNat y) near (x9+1) b p') (r, p'')∧r.length≤9∧p≤p''∧p''≤p+2 * ((d+1:Nat):Int)+3:=by
   intro y p' hpp hpp2
   obtain ⟨r, p'', h1, h2, h3, h4⟩:=ih (heads.set (rd ord x9 - 1).toNat y) (x9+1) p' (by omega) (by omega) (by simpa using hl) (by omega) (by omega)
   exact ⟨r, p'', h1, h2,by omega,by omega⟩
  have e1 : wrap64 (x9+1)=x9+1 := wrap_id (by omega) (by omega)
  have e2 : wrap64 (x9 - 1)=x9 - 1 := wrap_id (by omega) (by omega)
  have e3 : wrap64 (rd ord x9 - 1)=rd ord x9 - 1 := wrap_id (by omega) (by omega)
  by_cases hnr : near=1
  ·obtain ⟨u, hu0, hu1, hu⟩:=pick_ev hb (p+1) 2 (by omega) (by omega) (by omega) (by omega)
   by_cases hu2 : u=0
   ·obtain ⟨r, p'', h, hrest⟩:=next (rd ord (x9 - 1)) (p+1+1) (by omega) (by omega)
    refine ⟨r, p'', Ev.step (fun k=>spec_l20Tree.l0.eq_2 ..) ?_, hrest⟩
    rw [e1, e2, e3]
    exact Ev.pos (by omega) (Ev.bind hv (Ev.pos hnr (Ev.bind hu (Ev.pos hu2 (Ev.pos (by omega) (Ev.pos (by omega) (Ev.pos (by omega) (Ev.pos (by omega) (Ev.pos (by omega) (Ev.pos (by omega) h))))))))))
   ·obtain ⟨r, p'', h, hrest⟩:=next (rd ord v) (p+1+1) (by omega) (by omega)
    refine ⟨r, p'', Ev.step (fun k=>spec_l20Tree.l0.eq_2 ..) ?_, hrest⟩
    rw [e1, e2, e3]
    exact Ev.pos (by omega) (Ev.bind hv (Ev.pos hnr (Ev.bind hu (Ev.neg hu2 (Ev.pos (by omega) (Ev.pos (by omega) (Ev.pos (by omega) (Ev.pos (by omega) (Ev.pos (by omega) (Ev.pos (by omega) h))))))))))
  ·obtain ⟨r, p'', h, hrest⟩:=next (rd ord v) (p+1) (by omega) (by omega)
   refine ⟨r, p'', Ev.step (fun k=>spec_l20Tree.l0.eq_2 ..) ?_, hrest⟩
   rw [e1, e2, e3]
   exact Ev.pos (by omega) (Ev.bind hv (Ev.neg hnr (Ev.pos (by omega) (Ev.pos (by omega) (Ev.pos (by omega) (Ev.pos (by omega) (Ev.pos (by omega) (Ev.pos (by omega) h))))))))
theorem tree_ev {b : List Int} (hb : Bytes b) (p n:Int) (hp : 0≤p) (hp2 : p≤500) (hn : 0≤n) (hn2 : n≤1000) :
  ∃ r p', Ev (fun k=>spec_l20Tree.f k b p n) (r, p')∧r.length≤9∧p≤p'∧p'≤p+60:=by
 obtain ⟨v, hv0, hv1, hv⟩:=pick_ev hb p 7 hp (by omega) (by omega) (by omega)
 have e : wrap64 (1+v)=1+v := wrap_id (by omega) (by omega)
 obtain ⟨o, p1, ho, hol, how,hp1,hp1'⟩:=order_ev hb (p+1) (1+v) (by omega) (by omega) (by omega) (by omega)
 obtain ⟨u, hu0, hu1, hu⟩:=pick_ev hb p1 2 (by omega) (by omega) (by omega) (by omega)
 obtain ⟨r, p', h, h1, h2, h3⟩:=tree_l0 hb n (1+v) u o (by omega) (by omega) hn hn2 hol how v.toNat (List.replicate (1+v).toNat 0) 1 (p1+1) (by omega) (by omega) (by simp; omega) (by omega) (by omega)
 unfold spec_l20Tree.f
 refine ⟨r, p', Ev.bind hv ?_, h1,by omega,by omega⟩
 rw [e]
 exact Ev.bind ho (Ev.pos (by omega) (Ev.pos (by omega) (Ev.bind hu h)))
theorem fill_ev {b : List Int} (hb : Bytes b) (n:Nat) (hn : n≤8) (s:Nat) : ∀ (heads : List Int) (lo hi hd p:Int), heads.length=n→1≤lo→lo≤hi→hi≤n→hi - lo+1≤s→0≤p→p+2 * (hi - lo+1)≤5001 →
  ∃ r p', Ev (fun k=>spec_l20Fill.f k b p heads lo hi hd) (p', r)∧r.length=n∧p≤p'∧p'≤p+2 * (hi - lo+1) - 1:=by
 induction s with
 | zero => intro heads lo hi hd p hl h1 h2 h3 h4; omega
 | succ s ih =>
  intro heads lo hi hd p hl h1 h2 h3 h4 hp hp2
  have right : ∀ (d:Nat) (root:Int), lo≤root→∀ (hs : List Int) (from_ q:Int), from_+d=hi+1→root<from_→hs.length=n→0≤q→q+2 * (hi+1 - from_)≤5000 →
    ∃ r p', Ev (fun k=>spec_l20Fill.l1 k hs hi root from_ b q) (p', r)∧r.length=n∧q≤p'∧p'≤q+2 * (hi+1 - from_):=by
   intro d
   induction d using Nat.strongRecOn with
   | _ d ihd =>
    intro root hroot hs from_ q hd2 hrf hhl hq hq2
    by_cases hf : from_≤hi
    ·have e1 : wrap64 (wrap64 (hi - from_)+1)=hi - from_+1 := by rw [wrap_id (n := hi - from_) (by omega) (by omega), wrap_id (by omega) (by omega)]
     obtain ⟨v, hv0, hv1, hv⟩:=pick_ev hb q (hi - from_+1) hq (by omega) (by omega) (by omega)
     have e2 : wrap64 (from_+v)=from_+v := wrap_id (by omega) (by omega)
     have e3 : wrap64 (from_+v+1)=from_+v+1 := wrap_id (by omega) (by omega)
     obtain ⟨r1, p1, hr1, hl1,hp1,hp1'⟩:=ih hs from_ (from_+v) root (q+1) hhl (by omega) (by omega) (by omega) (by omega) (by omega) (by omega)
     obtain ⟨r2, p2, hr2, hl2,hp2,hp2'⟩:=ihd (d - v.toNat - 1) (by omega) root hroot r1 (from_+v+1) p1 (by omega) (by omega) hl1 (by omega) (by omega)
     refine ⟨r2, p2, Ev.step (fun k=>spec_l20Fill.l1.eq_2 ..) (Ev.pos hf ?_), hl2,by omega,by omega⟩
     rw [e1]
     exact Ev.bind hv (by simp only []; rw [e2, e3]; exact Ev.bind hr1 hr2)
    ·exact ⟨hs, q, Ev.step (fun k=>spec_l20Fill.l1.eq_2 ..) (Ev.neg hf (Ev.ret rfl)), hhl,by omega,by omega⟩
  have left : ∀ (d:Nat) (root:Int), lo≤root→root≤hi→∀ (hs : List Int) (from_ q:Int), from_+d=root→lo≤from_→hs.length=n→0≤q→q+2 * (hi - from_)≤5000 →
    ∃ r p', Ev (fun k=>spec_l20Fill.l0 k hs hi root from_ b q) (p', r)∧r.length=n∧q≤p'∧p'≤q+2 * (hi - from_):=by
   intro d
   induction d using Nat.strongRecOn with
   | _ d ihd =>
    intro root hroot hroot2 hs from_ q hd2 hlf hhl hq hq2
    by_cases hf : from_<root
    ·have e1 : wrap64 (root - from_)=root - from_ := wrap_id (by omega) (by omega)
     obtain ⟨v, hv0, hv1, hv⟩:=pick_ev hb q (root - from_) hq (by omega) (by omega) (by omega)
     have e2 : wrap64 (from_+v)=from_+v := wrap_id (by omega) (by omega)
     have e3 : wrap64 (from_+v+1)=from_+v+1 := wrap_id (by omega) (by omega)
     obtain ⟨r1, p1, hr1, hl1,hp1,hp1'⟩:=ih hs from_ (from_+v) root (q+1) hhl (by omega) (by omega) (by omega) (by omega) (by omega) (by omega)
     obtain ⟨r2, p2, hr2, hl2,hp2,hp2'⟩:=ihd (d - v.toNat - 1) (by omega) root hroot hroot2 r1 (from_+v+1) p1 (by omega) (by omega) hl1 (by omega) (by omega)
     refine ⟨r2, p2, Ev.step (fun k=>spec_l20Fill.l0.eq_2 ..) (Ev.pos hf ?_), hl2,by omega,by omega⟩
     rw [e1]
     exact Ev.bind hv (by simp only []; rw [e2, e3]; exact Ev.bind hr1 hr2)
    ·obtain ⟨r1, p1, hr1, hl1,hp1,hp1'⟩:=right (hi - root).toNat root hroot hs (root+1) q (by omega) (by omega) hhl hq (by omega)
     refine ⟨r1, p1, Ev.step (fun k=>spec_l20Fill.l0.eq_2 ..) (Ev.neg hf ?_), hl1,by omega,by omega⟩
     rw [wrap_id (n := root+1) (by omega) (by omega)]
     exact hr1
  have e1 : wrap64 (wrap64 (hi - lo)+1)=hi - lo+1 := by rw [wrap_id (n := hi - lo) (by omega) (by omega), wrap_id (by omega) (by omega)]
  obtain ⟨v, hv0, hv1, hv⟩:=pick_ev hb p (hi - lo+1) hp (by omega) (by omega) (by omega)
  have e2 : wrap64 (lo+v)=lo+v := wrap_id (by omega) (by omega)
  have e3 : wrap64 (lo+v - 1)=lo+v - 1 := wrap_id (by omega) (by omega)
  obtain ⟨r1, p1, hr1, hl1,hp1,hp1'⟩:=left v.toNat (lo+v) (by omega) (by omega) (heads.set (lo+v - 1).toNat hd) lo (p+1) (by omega) (by omega) (by simpa using hl) (by omega) (by omega)
  refine ⟨r1, p1, Ev.step (fun k=>spec_l20Fill.f.eq_2 ..) (Ev.neg (by omega) ?_), hl1,by omega,by omega⟩
  rw [e1]
  exact Ev.bind hv (by simp only []; rw [e2, e3]; exact Ev.pos (by omega) (Ev.pos (by omega) hr1))
theorem flat_ev {b : List Int} (hb : Bytes b) (p n:Int) (hp : 0≤p) (hp2 : p≤200) (hn : 0≤n) (hn2 : n≤1000) :
  ∃ r p', Ev (fun k=>spec_l20Flat.f k b p n) (r, p')∧r.length≤9∧p≤p'∧p'≤p+100:=by
 obtain ⟨v, hv0, hv1, hv⟩:=pick_ev hb p 3 hp (by omega) (by omega) (by omega)
 unfold spec_l20Flat.f
 by_cases e : v=0
 ·obtain ⟨r, p', h, h1, h2, h3⟩:=tree_ev hb (p+1) n (by omega) (by omega) hn hn2
  exact ⟨r, p', Ev.bind hv (Ev.pos e (Ev.bind h (Ev.ret rfl))), h1,by omega,by omega⟩
 ·obtain ⟨u, hu0, hu1, hu⟩:=pick_ev hb (p+1) 7 (by omega) (by omega) (by omega) (by omega)
  have e1 : wrap64 (1+u)=1+u := wrap_id (by omega) (by omega)
  obtain ⟨r, p', h, h1, h2, h3⟩:=fill_ev hb (1+u).toNat (by omega) 8 (List.replicate (1+u).toNat 0) 1 (1+u) 0 (p+1+1) (by simp) (by omega) (by omega) (by omega) (by omega) (by omega) (by omega)
  refine ⟨r, p', Ev.bind hv (Ev.neg e (Ev.bind hu ?_)),by omega,by omega,by omega⟩
  simp only []
  rw [e1]
  exact Ev.pos (by omega) (Ev.pos (by omega) (Ev.bind h (Ev.ret rfl)))
@[reducible] def goodAt (o : List Int) (many:Int) (i:Nat) : Prop := (1≤rd o i∧rd o i≤many)∧∀ j : Nat, j<i→rd o j≠rd o i
def orderOk (o : List Int) (many:Int) : Bool := decide ((1≤many∧many≤8)∧(o.length:Int)=many∧∀ i : Nat, i<o.length→goodAt o many i)
theorem orderOk_bad {o : List Int} {many : Int} {i : Nat} (hi : i<o.length) (h : ¬ goodAt o many i) : orderOk o many=false:=by
 unfold orderOk
 rw [decide_eq_false_iff_not]
 exact fun h2=>h (h2.2.2 i hi)
theorem orderOk_iff {o : List Int} {many : Int} : orderOk o many=true ↔ ((1≤many∧many≤8)∧(o.length:Int)=many∧∀ i : Nat, i<o.length→goodAt o many i):=by
 unfold orderOk
 rw [decide_eq_true_iff]
def walkOk (l : List Int) : Nat→Int→Bool
 | 0, a => decide (a≤0)
 | m+1, a => if a≤0 then true else decide (0≤rd l (a - 1)∧rd l (a - 1)≤l.length) && walkOk l m (rd l (a - 1))
def okAt (l : List Int) (i:Nat) : Bool := decide (0≤rd l i∧rd l i≤l.length) && walkOk l l.length ((i:Int)+1)
def zerosFrom (l : List Int) (j:Nat) : Nat := (l.drop j).count 0
def treeOk (l : List Int) : Bool := decide (1≤l.length∧l.length≤8) && (List.range l.length).all (okAt l) && decide (l.count 0=1)
theorem walkOk_self (l : List Int) (a:Int) (ha : 0<a) (h : rd l (a - 1)=a) : ∀ m, walkOk l m a=false
 | 0 => by simp [walkOk]; omega
 | m+1 => by
  unfold walkOk
  rw [if_neg (by omega), h, walkOk_self l a ha h m, Bool.and_false]
theorem zerosFrom_succ (l : List Int) (j:Nat) (h : j<l.length) : zerosFrom l j=(if rd l j=0 then 1 else 0)+zerosFrom l (j+1):=by
 unfold zerosFrom
 rw [List.drop_eq_getElem_cons h, List.count_cons]
 have e : rd l j=l[j] := by simp [rd_nat, h]
 rw [e]
 by_cases e : l[j]=0 <;> simp [e, Nat.add_comm]
theorem all_from (p : Nat→Bool) (n j:Nat) (h : j<n) : ((List.range' j (n - j)).all p)=(p j && (List.range' (j+1) (n - (j+1))).all p):=by
 obtain ⟨d, hd⟩ : ∃ d, n - j=d+1 := ⟨n - j - 1,by omega⟩
 rw [hd, List.range'_succ, List.all_cons, show n - (j+1)=d by omega]
def restOk (l : List Int) (r:Nat) (j:Nat) : Bool := (List.range' j (l.length - j)).all (okAt l) && decide (r+zerosFrom l j=1)
theorem restOk_end (l : List Int) (r:Nat) (j:Nat) (h : j=l.length) : restOk l r j=((r:Int) == 1):=by
 subst h
 unfold restOk zerosFrom
 simp
 rw [Bool.eq_iff_iff]; simp; omega
theorem restOk_bad (l : List Int) (r:Nat) (j:Nat) (h : j<l.length) (hb : okAt l j=false) : restOk l r j=false:=by
 unfold restOk
 rw [all_from _ _ _ h, hb]; rfl
theorem restOk_good (l : List Int) (r:Nat) (j:Nat) (h : j<l.length) (hb : okAt l j=true) : restOk l r j=restOk l (r+if rd l j=0 then 1 else 0) (j+1):=by
 unfold restOk
 rw [all_from _ _ _ h, hb, Bool.true_and, zerosFrom_succ l j h, Nat.add_assoc]
theorem restOk_zero (l : List Int) (h : 1≤l.length∧l.length≤8) : restOk l 0 0=treeOk l:=by
 unfold restOk treeOk zerosFrom
 rw [decide_eq_true h]
 simp [List.range_eq_range']
theorem mx_max (a b:Int) : mx a b=max a b := by unfold mx; split <;> omega
theorem mn_min (a b:Int) : mn a b=min a b := by unfold mn; split <;> omega
theorem treeOk_len {l : List Int} (h : treeOk l=true) : 1≤l.length∧l.length≤8:=by
 unfold treeOk at h
 rw [Bool.and_eq_true, Bool.and_eq_true] at h
 exact of_decide_eq_true h.1.1
theorem treeOk_rd {l : List Int} (h : treeOk l=true) {j : Nat} (hj : j<l.length) : 0≤rd l j∧rd l j≤l.length:=by
 unfold treeOk at h
 rw [Bool.and_eq_true, Bool.and_eq_true] at h
 have := List.all_eq_true.mp h.1.2 j (List.mem_range.mpr hj)
 unfold okAt at this
 rw [Bool.and_eq_true] at this
 exact of_decide_eq_true this.1
theorem treeOk_walk {l : List Int} (h : treeOk l=true) {j : Nat} (hj : j<l.length) : walkOk l l.length ((j:Int)+1)=true:=by
 unfold treeOk at h
 rw [Bool.and_eq_true, Bool.and_eq_true] at h
 have := List.all_eq_true.mp h.1.2 j (List.mem_range.mpr hj)
 unfold okAt at this
 rw [Bool.and_eq_true] at this
 exact this.2
theorem treeOk_ne {l : List Int} (h : treeOk l=true) {j : Nat} (hj : j<l.length) : rd l j≠(j:Int)+1:=by
 intro e
 have := treeOk_walk h hj
 rw [walkOk_self l _ (by omega) (by rw [show (j:Int)+1 - 1=(j:Int) by omega]; exact e)] at this
 cases this
theorem treeOk_zero {l : List Int} (h : treeOk l=true) : l.count 0=1:=by
 unfold treeOk at h
 rw [Bool.and_eq_true] at h
 exact of_decide_eq_true h.2
def placeOf (o : List Int) (v:Int) : Int := match (List.range o.length).find? (fun i : Nat => decide (rd o i=v)) with | some i => (i:Int)+1 | none => 0
def putOf (l o : List Int) : List Int := o.map (fun w=>placeOf o (rd l (w - 1)))
def PlacesTo (o : List Int) (j:Nat) (y : List Int) : Prop := ∀ v : Nat, v<y.length→y[v]?=some (match (List.range j).find? (fun i : Nat => decide (rd o i=(v:Int))) with | some i => (i:Int)+1 | none => 0)
theorem find_range_succ (p : Nat→Bool) (j:Nat) : (List.range (j+1)).find? p=((List.range j).find? p).or (if p j then some j else none):=by
 rw [List.range_succ, List.find?_append]
 congr 1
 by_cases h : p j=true
 ·rw [if_pos h, List.find?_cons_of_pos h]
 ·rw [if_neg h, List.find?_cons_of_neg h]; rfl
theorem PlacesTo.set {o : List Int} {many : Int} (h : orderOk o many=true) {j : Nat} (hj : j<o.length) {y : List Int} (hy : PlacesTo o j y) : PlacesTo o (j+1) (y.set (rd o j).toNat ((j:Int)+1)):=by
 have hg := (orderOk_iff.mp h).2.2 j hj
 intro v hv
 rw [List.length_set] at hv
 rw [find_range_succ]
 by_cases e : v=(rd o j).toNat
 ·subst e
  rw [List.getElem?_set_self hv]
  have e2 : ((rd o j).toNat:Int)=rd o j := by omega
  rw [e2]
  have hn : (List.range j).find? (fun i : Nat => decide (rd o i=rd o j))=none:=by
   rw [List.find?_eq_none]
   intro i hi
   simp [hg.2 i (List.mem_range.mp hi)]
  rw [hn]
  simp
 ·rw [List.getElem?_set_ne (by omega), hy v hv]
  have e2 : ¬ (rd o j=(v:Int)) := by omega
  simp [e2]
theorem PlacesTo.whole {o : List Int} {y : List Int} (hy : PlacesTo o o.length y) {v : Int} (h0 : 0≤v) (h1 : v<y.length) : rd y v=placeOf o v:=by
 have := hy v.toNat (by omega)
 rw [show ((v.toNat:Nat):Int)=v by omega] at this
 unfold rd placeOf
 rw [List.getD_eq_getElem?_getD, this]
 rfl
theorem PlacesTo.zero (o : List Int) (n:Nat) : PlacesTo o 0 (List.replicate n 0):=by
 intro v hv
 simp at hv
 simp [hv]
def putInOrder (l o : List Int) : List Int × Bool := if treeOk l=true∧orderOk o l.length=true then (putOf l o, true) else ([], false)
theorem putInOrder_len (l o : List Int) : (putInOrder l o).1.length≤8:=by
 unfold putInOrder
 split
 ·rename_i h
  have hl := treeOk_len h.1
  obtain ⟨_, h2, _⟩:=orderOk_iff.mp h.2
  show (putOf l o).length≤8
  simp [putOf]; omega
 ·simp
theorem l1In_eq (a b c:Int) : spec_l1In.f a b c=some (decide (b≤a∧a≤c)):=by
 unfold spec_l1In.f
 split
 ·rename_i h; congr 1; rw [decide_eq_decide]; omega
 ·rename_i h; congr 1; symm; rw [decide_eq_false_iff_not]; omega
theorem spec_OrderOk_l1 (o : List Int) (many:Int) (hl : o.length≤1048576) (i:Nat) (hi : i<o.length) (hin : 1≤rd o i∧rd o i≤many) (next : goodAt o many i→Ev (fun k=>spec_OrderOk.l0 k o many ((i+1:Nat):Int)) (orderOk o many)) (d:Nat) :
  ∀ j : Nat, j+d=i→(∀ j' : Nat, j'<j→rd o j'≠rd o i)→Ev (fun k=>spec_OrderOk.l1 k o many (i:Int) (j:Int)) (orderOk o many):=by
 induction d with
 | zero =>
  intro j hj h
  refine Ev.step (fun k=>spec_OrderOk.l1.eq_2 ..) (Ev.neg (by omega) ?_)
  rw [wrap_add1 (by omega)]
  exact next ⟨hin, fun j' hj' => h j' (by omega)⟩
 | succ d ih =>
  intro j hj h
  refine Ev.step (fun k=>spec_OrderOk.l1.eq_2 ..) (Ev.pos (by omega) (Ev.pos (by omega) (Ev.pos (by omega) (Ev.pos (by omega) (Ev.pos (by omega) (Ev.ite (fun e=>?_) (fun e=>?_)))))))
  ·exact Ev.ret (orderOk_bad hi (fun h2=>h2.2 j (by omega) e)).symm
  ·rw [wrap_add1 (by omega)]
   refine ih (j+1) (by omega) (fun j' hj' => ?_)
   by_cases e2 : j'=j
   ·subst e2; exact e
   ·exact h j' (by omega)
theorem spec_OrderOk_l0 (o : List Int) (many:Int) (hl : o.length≤1048576) (d:Nat) : ∀ i : Nat, i+d=o.length→(∀ j : Nat, j<i→goodAt o many j)→Ev (fun k=>spec_OrderOk.l0 k o many (i:Int)) (orderOk o many):=by
 induction d with
 | zero =>
  intro i hi h
  refine Ev.step (fun k=>spec_OrderOk.l0.eq_2 ..) (Ev.neg (by omega) (Ev.bind0 (l1In_eq ..) (Ev.ite (fun e=>?_) (fun e=>?_))))
  ·refine Ev.ret ?_
   have e' := of_decide_eq_true e
   rw [Bool.eq_iff_iff, orderOk_iff, beq_iff_eq]
   exact ⟨fun h2=>⟨e', h2, fun j hj => h j (by omega)⟩, fun h2=>h2.2.1⟩
  ·refine Ev.ret ?_
   symm
   unfold orderOk
   rw [decide_eq_false_iff_not]
   intro h2
   exact e (decide_eq_true h2.1)
 | succ d ih =>
  intro i hi h
  refine Ev.step (fun k=>spec_OrderOk.l0.eq_2 ..) (Ev.pos (by omega) (Ev.pos (by omega) (Ev.bind0 (l1In_eq ..) (Ev.ite (fun e=>?_) (fun e=>?_)))))
  ·have e' := of_decide_eq_true e
   refine spec_OrderOk_l1 o many hl i (by omega) e' (fun hg=>?_) i 0 (by omega) (fun j' hj' => by omega)
   refine ih (i+1) (by omega) (fun j hj => ?_)
   by_cases e2 : j=i
   ·subst e2; exact hg
   ·exact h j (by omega)
  ·refine Ev.ret ?_
   exact (orderOk_bad (by omega) (fun h2=>e (decide_eq_true h2.1))).symm
theorem spec_OrderOk_ev (o : List Int) (many:Int) (hl : o.length≤1048576) : Ev (fun k=>spec_OrderOk.f k o many) (orderOk o many):=by
 unfold spec_OrderOk.f
 exact spec_OrderOk_l0 o many hl o.length 0 (by omega) (fun j hj => by omega)
theorem spec_walk (l : List Int) (r j:Nat) (hl : l.length≤8) (hj : j<l.length) (_ : r≤8)
  (next : Ev (fun k=>spec_TreeOk.l0 k l (l.length:Int) (r:Int) ((j+1:Nat):Int)) (restOk l r (j+1)))
  (d:Nat) : ∀ (s:Nat) (a:Int), s+d=l.length→0≤a→a≤l.length →
  Ev (fun k=>spec_TreeOk.l1 k l (l.length:Int) (r:Int) (j:Int) a (s:Int)) (walkOk l d a && restOk l r (j+1)):=by
 induction d with
 | zero =>
  intro s a hs h0 h1
  refine Ev.step (fun k=>spec_TreeOk.l1.eq_2 ..) ?_
  refine Ev.ite (fun ha=>?_) (fun ha=>?_)
  ·rw [decide_eq_false (by omega)]
   refine Ev.step (fun k=>spec_TreeOk.j4.eq_2 ..) ?_
   refine Ev.neg (by simp) (Ev.pos ha (Ev.ret ?_))
   simp [walkOk, show ¬ a≤0 by omega]
  ·refine Ev.step (fun k=>spec_TreeOk.j4.eq_2 ..) ?_
   refine Ev.neg (by simp) (Ev.neg ha ?_)
   rw [wrap_add1 (by omega)]
   exact Ev.eq next (by simp [walkOk, show a≤0 by omega])
 | succ d ih =>
  intro s a hs h0 h1
  refine Ev.step (fun k=>spec_TreeOk.l1.eq_2 ..) ?_
  refine Ev.ite (fun ha=>?_) (fun ha=>?_)
  ·rw [decide_eq_true (by omega)]
   refine Ev.step (fun k=>spec_TreeOk.j4.eq_2 ..) ?_
   refine Ev.pos rfl ?_
   rw [wrap_id (by omega) (by omega)]
   refine Ev.pos (by omega) (Ev.pos (by omega) (Ev.bind0 (l1In_eq ..) ?_))
   refine Ev.ite (fun hc=>?_) (fun hc=>?_)
   ·have hc' := of_decide_eq_true hc
    rw [wrap_add1 (by omega)]
    refine Ev.eq (ih (s+1) (rd l (a - 1)) (by omega) hc'.1 hc'.2) ?_
    simp [walkOk, show ¬ a≤0 by omega, hc'.1, hc'.2]
   ·refine Ev.ret ?_
    have hc' : ¬ (0≤rd l (a - 1)∧rd l (a - 1)≤(l.length:Int)) := by simpa using hc
    simp [walkOk, show ¬ a≤0 by omega, decide_eq_false hc']
  ·refine Ev.step (fun k=>spec_TreeOk.j4.eq_2 ..) ?_
   refine Ev.neg (by simp) (Ev.neg ha ?_)
   rw [wrap_add1 (by omega)]
   exact Ev.eq next (by simp [walkOk, show a≤0 by omega])
theorem spec_TreeOk_l0 (l : List Int) (hl : l.length≤8) (d:Nat) : ∀ (r j:Nat), j+d=l.length→r≤j →
  Ev (fun k=>spec_TreeOk.l0 k l (l.length:Int) (r:Int) (j:Int)) (restOk l r j):=by
 induction d with
 | zero =>
  intro r j hj hr
  refine Ev.step (fun k=>spec_TreeOk.l0.eq_2 ..) ?_
  exact Ev.neg (by omega) (Ev.ret (restOk_end l r j (by omega)).symm)
 | succ d ih =>
  intro r j hj hr
  refine Ev.step (fun k=>spec_TreeOk.l0.eq_2 ..) ?_
  refine Ev.pos (by omega) (Ev.pos (by omega) (Ev.pos (by omega) (Ev.bind0 (l1In_eq ..) ?_)))
  refine Ev.ite (fun hc=>?_) (fun hc=>?_)
  ·have hc' := of_decide_eq_true hc
   refine Ev.step (fun k=>spec_TreeOk.j1.eq_2 ..) ?_
   rw [wrap_add1 (by omega)]
   refine Ev.ite (fun he=>?_) (fun he=>?_)
   ·refine Ev.ret (restOk_bad l r j (by omega) ?_).symm
    have he' : rd l (j:Int)=((j+1:Nat):Int) := by simpa using he
    unfold okAt
    rw [walkOk_self l ((j:Int)+1) (by omega) (by rw [show (j:Int)+1 - 1=(j:Int) by omega, he']; omega), Bool.and_false]
   ·have hfin : ∀ (r':Nat), r'=r+(if rd l j=0 then 1 else 0)→Ev (fun k=>spec_TreeOk.l1 k l (l.length:Int) (r':Int) (j:Int) ((j+1:Nat):Int) 0) (restOk l r j):=by
     intro r' hr'
     have hr8 : r'≤j+1 := by subst hr'; split <;> omega
     refine Ev.eq (spec_walk l r' j hl (by omega) (by omega) (ih r' (j+1) (by omega) hr8) l.length 0 ((j+1:Nat):Int) (by omega) (by omega) (by omega)) ?_
     by_cases hw : walkOk l l.length ((j:Int)+1)=true
     ·rw [restOk_good l r j (by omega) (by unfold okAt; rw [hw, decide_eq_true hc']; rfl), ← hr', show ((j+1:Nat):Int)=(j:Int)+1 by omega, hw]; rfl
     ·have hw' : walkOk l l.length ((j:Int)+1)=false := by simpa using hw
      rw [restOk_bad l r j (by omega) (by unfold okAt; rw [hw']; simp), show ((j+1:Nat):Int)=(j:Int)+1 by omega, hw']; rfl
    refine Ev.pos (by omega) (Ev.pos (by omega) (Ev.ite (fun hz=>?_) (fun hz=>?_)))
    ·rw [wrap_add1 (by omega)]
     refine Ev.step (fun k=>spec_TreeOk.j2.eq_2 ..) ?_
     rw [wrap_add1 (by omega)]
     exact hfin (r+1) (by rw [if_pos hz])
    ·refine Ev.step (fun k=>spec_TreeOk.j2.eq_2 ..) ?_
     rw [wrap_add1 (by omega)]
     exact hfin r (by rw [if_neg hz]; rfl)
  ·refine Ev.step (fun k=>spec_TreeOk.j1.eq_2 ..) ?_
   refine Ev.pos rfl (Ev.ret (restOk_bad l r j (by omega) ?_).symm)
   have hc' : ¬ (0≤rd l (j:Int)∧rd l (j:Int)≤(l.length:Int)) := by simpa using hc
   unfold okAt
   rw [decide_eq_false hc']; rfl
theorem spec_TreeOk_ev (l : List Int) : Ev (fun k=>spec_TreeOk.f k l) (treeOk l):=by
 unfold spec_TreeOk.f
 refine Ev.bind0 (l1In_eq ..) ?_
 refine Ev.ite (fun hc=>?_) (fun hc=>?_)
 ·have hc' := of_decide_eq_true hc
  exact Ev.eq (spec_TreeOk_l0 l (by omega) l.length 0 0 (by omega) (by omega)) (restOk_zero l (by omega))
 ·refine Ev.ret ?_
  have hc' : ¬ (1≤(l.length:Int)∧(l.length:Int)≤8) := by simpa using hc
  unfold treeOk
  rw [decide_eq_false (by omega)]; rfl
theorem spec_Put_l1 (l o y : List Int) (h : treeOk l=true) (ho : orderOk o l.length=true) (hy : PlacesTo o o.length y) (hyl : y.length=l.length+1) (d:Nat) : ∀ j : Nat, j+d=o.length →
  Ev (fun k=>spec_PutInOrder.l1 k l o y ((putOf l o).take j) (j:Int)) (putOf l o, true):=by
 have hl := treeOk_len h
 obtain ⟨_, h2, h3⟩:=orderOk_iff.mp ho
 have hlen : (putOf l o).length=o.length := by simp [putOf]
 induction d with
 | zero =>
  intro j hj
  refine Ev.step (fun k=>spec_PutInOrder.l1.eq_2 ..) (Ev.neg (by omega) (Ev.ret ?_))
  rw [List.take_of_length_le (by omega)]
 | succ d ih =>
  intro j hj
  have hg := h3 j (by omega)
  have hr := treeOk_rd h (j := (rd o j - 1).toNat) (by omega)
  rw [show (((rd o j - 1).toNat:Nat):Int)=rd o j - 1 by omega] at hr
  refine Ev.step (fun k=>spec_PutInOrder.l1.eq_2 ..) ?_
  rw [wrap_id (n := rd o j - 1) (by omega) (by omega), wrap_add1 (by omega)]
  refine Ev.pos (by omega) (Ev.pos (by omega) (Ev.pos (by omega) (Ev.pos (by omega) (Ev.pos (by omega) (Ev.pos (by omega) (Ev.pos (by rw [List.length_take]; omega) ?_))))))
  have e : (putOf l o).take j ++ [rd y (rd l (rd o j - 1))]=(putOf l o).take (j+1):=by
   rw [List.take_succ_eq_append_getElem (by omega), hy.whole hr.1 (by omega)]
   congr 2
   have e3 : rd o j=o[j]'(by omega) := by simp [rd_nat, show j<o.length by omega]
   simp [putOf, e3]
  rw [e]
  exact ih (j+1) (by omega)
theorem spec_Put_l0 (l o : List Int) (h : treeOk l=true) (ho : orderOk o l.length=true) (d:Nat) : ∀ (j:Nat) (y : List Int), j+d=o.length→PlacesTo o j y→y.length=l.length+1 →
  Ev (fun k=>spec_PutInOrder.l0 k l o y (j:Int)) (putOf l o, true):=by
 have hl := treeOk_len h
 obtain ⟨_, h2, h3⟩:=orderOk_iff.mp ho
 induction d with
 | zero =>
  intro j y hj hy hyl
  refine Ev.step (fun k=>spec_PutInOrder.l0.eq_2 ..) (Ev.neg (by omega) ?_)
  rw [show j=o.length by omega] at hy
  exact spec_Put_l1 l o y h ho hy hyl o.length 0 (by omega)
 | succ d ih =>
  intro j y hj hy hyl
  have hg := h3 j (by omega)
  refine Ev.step (fun k=>spec_PutInOrder.l0.eq_2 ..) ?_
  rw [wrap_id (n := (j:Int)+1) (by omega) (by omega)]
  refine Ev.pos (by omega) (Ev.pos (by omega) (Ev.pos (by omega) (Ev.pos (by omega) ?_)))
  exact ih (j+1) _ (by omega) (hy.set ho (by omega)) (by simpa using hyl)
theorem spec_PutInOrder_ev (l o : List Int) (hol : o.length≤1048576) : Ev (fun k=>spec_PutInOrder.f k l o) (putInOrder l o):=by
 unfold spec_PutInOrder.f putInOrder
 refine Ev.bind (spec_TreeOk_ev l) (Ev.ite (fun h=>?_) (fun h=>?_))
 ·refine Ev.bind (spec_OrderOk_ev o _ hol) (Ev.step (fun k=>spec_PutInOrder.j0.eq_2 ..) (Ev.ite (fun e=>?_) (fun e=>?_)))
  ·refine Ev.ret ?_
   rw [if_neg]
   intro h2; rw [h2.2] at e; cases e
  ·have ho : orderOk o l.length=true := by simpa using e
   have hl := treeOk_len h
   rw [if_pos ⟨h, ho⟩, wrap_id (n := (l.length:Int)+1) (by omega) (by omega)]
   refine Ev.pos (by omega) (Ev.pos (by omega) ?_)
   exact spec_Put_l0 l o h ho o.length 0 _ (by omega) (PlacesTo.zero o _) (by simp)
 ·refine Ev.step (fun k=>spec_PutInOrder.j0.eq_2 ..) (Ev.pos rfl (Ev.ret ?_))
  rw [if_neg (fun h2=>h h2.1)]
theorem wild_evP {b : List Int} (hb : Bytes b) (p n:Int) (hp : 0≤p) (hp2 : p≤50) (hn : 0≤n) (hn2 : n≤1000) :
  ∃ r p', Ev (fun k=>spec_l20Wild.f k b p n) (r, p')∧r.length≤9∧0≤p'∧p'≤p+200:=by
 obtain ⟨t, p1, ht, htl,hp1,hp1'⟩:=tree_ev hb p n (by omega) (by omega) hn hn2
 obtain ⟨v, hv0, hv1, hv⟩:=pick_ev hb p1 2 (by omega) (by omega) (by omega) (by omega)
 unfold spec_l20Wild.f
 have other : ∃ r p', Ev (fun k=>spec_l20Wild.j0 k n t false b (p1+1)) (r, p')∧r.length≤9∧0≤p'∧p'≤p+200:=by
  obtain ⟨u, hu0, hu1, hu⟩:=pick_ev hb (p1+1) 3 (by omega) (by omega) (by omega) (by omega)
  by_cases e : u=0
  ·obtain ⟨r, p', h, h1, h2, h3⟩:=flat_ev hb (p1+1+1) n (by omega) (by omega) hn hn2
   exact ⟨r, p', Ev.step (fun k=>spec_l20Wild.j0.eq_2 ..) (Ev.neg (by simp) (Ev.bind hu (Ev.pos e (Ev.bind h (Ev.ret rfl))))), h1,by omega,by omega⟩
  ·exact ⟨t, p1+1+1, Ev.step (fun k=>spec_l20Wild.j0.eq_2 ..) (Ev.neg (by simp) (Ev.bind hu (Ev.neg e (Ev.ret rfl)))), htl,by omega,by omega⟩
 by_cases e : v=0
 ·by_cases h : treeOk t=true
  ·obtain ⟨o, p2, ho, hol, how,hp2,hp2'⟩:=order_ev hb (p1+1) (t.length:Int) (by omega) (by omega) (by omega) (by omega)
   refine ⟨(putInOrder t o).1, p2, Ev.bind ht (Ev.bind hv (Ev.pos e (Ev.bind (spec_TreeOk_ev t) ?_))), Nat.le_trans (putInOrder_len t o) (by omega),by omega,by omega⟩
   rw [h]
   exact Ev.step (fun k=>spec_l20Wild.j0.eq_2 ..) (Ev.pos rfl (Ev.bind ho (Ev.bind (spec_PutInOrder_ev t o (by omega)) (Ev.ret rfl))))
  ·obtain ⟨r, p', hr, h1, h2⟩:=other
   refine ⟨r, p', Ev.bind ht (Ev.bind hv (Ev.pos e (Ev.bind (spec_TreeOk_ev t) ?_))), h1, h2⟩
   rw [show treeOk t=false by simpa using h]
   exact hr
 ·obtain ⟨r, p', hr, h1, h2⟩:=other
  exact ⟨r, p', Ev.bind ht (Ev.bind hv (Ev.neg e hr)), h1, h2⟩
theorem wild_ev {b : List Int} (hb : Bytes b) (n:Int) (hn : 0≤n) (hn2 : n≤1000) :
  ∃ r p', Ev (fun k=>spec_l20Wild.f k b 0 n) (r, p')∧r.length≤9∧0≤p':=by
 obtain ⟨r, p', h1, h2, h3, _⟩:=wild_evP hb 0 n (by omega) (by omega) hn hn2
 exact ⟨r, p', h1, h2, h3⟩
def TwoSides (V : Nat→Prop) (E : Nat→Nat→Prop) (c : Nat→Int) : Prop := (∀ i, V i→c i=0 ∨ c i=1)∧∀ i j, V i→V j→E i j→c i+c j=1
def Tied (V : Nat→Prop) (E : Nat→Nat→Prop) (r v:Nat) (b:Int) : Prop := ∀ c, TwoSides V E c→(b=0→c v=c r)∧(b=1→c v+c r=1)
def FirstUp (V : Nat→Prop) (E : Nat→Nat→Prop) (s : Nat→Int) : Prop := TwoSides V E s∧∀ v, V v→∃ r, V r∧r≤v∧s r=0∧Tied V E r v (s v)
theorem firstUp_unique {V : Nat→Prop} {E : Nat→Nat→Prop} {s t : Nat→Int} (hs : FirstUp V E s) (ht : FirstUp V E t) : ∀ v, V v→s v=t v:=by
 intro v
 induction v using Nat.strongRecOn with
 | ind v ih =>
  intro hv
  obtain ⟨r, hrV, hr, h0, h1⟩:=hs.2 v hv
  obtain ⟨q, hqV, hq, g0, g1⟩:=ht.2 v hv
  have a := h1 t ht.1
  have b := g1 s hs.1
  have c1 := hs.1.1 v hv
  have c2 := ht.1.1 v hv
  by_cases e : r<v
  ·have e1 := ih r e hrV
   rcases c1 with z | z
   ·have := a.1 z; omega
   ·have := a.2 z; omega
  ·by_cases e2 : q<v
   ·have e1 := ih q e2 hqV
    rcases c2 with z | z
    ·have := b.1 z; omega
    ·have := b.2 z; omega
   ·obtain rfl : r=v := by omega
    obtain rfl : q=r := by omega
    omega
theorem tied_link {V : Nat→Prop} {E : Nat→Nat→Prop} {r v u : Nat} {b : Int} (h : Tied V E r v b) (hv : V v) (hu : V u) (hr : V r) (hb : b=0 ∨ b=1) (e : E v u) : Tied V E r u (1 - b):=by
 intro c hc
 have h1 := h c hc
 have h2 := hc.2 v u hv hu e
 have h3 := hc.1 r hr
 rcases hb with z | z
 ·have := h1.1 z
  exact ⟨fun _=>by omega, fun _=>by omega⟩
 ·have := h1.2 z
  exact ⟨fun _=>by omega, fun _=>by omega⟩
theorem tied_clash {V : Nat→Prop} {E : Nat→Nat→Prop} {r v : Nat} {b b' : Int} (hv : V v) (h : Tied V E r v b) (h' : Tied V E r v b') (hb : b=0 ∨ b=1) (hb' : b'=0 ∨ b'=1) (hn : b≠b') : ¬ ∃ c, TwoSides V E c:=by
 rintro ⟨c, hc⟩
 have h1 := h c hc
 have h2 := h' c hc
 have h3 := hc.1 v hv
 rcases hb with z | z <;> rcases hb' with y | y
 ·omega
 ·have := h1.1 z; have := h2.2 y; omega
 ·have := h1.2 z; have := h2.1 y; omega
 ·omega
def sd (s : List Int) (i:Nat) : Int := s.getD i (-1)
theorem sd_set_eq {s : List Int} {i : Nat} (h : i<s.length) (a:Int) : sd (s.set i a) i=a:=by
 unfold sd; rw [List.getD_eq_getElem?_getD, List.getElem?_set_self h]; rfl
theorem sd_set_ne {s : List Int} {i j : Nat} (h : j≠i) (a:Int) : sd (s.set i a) j=sd s j:=by
 unfold sd; rw [List.getD_eq_getElem?_getD, List.getD_eq_getElem?_getD, List.getElem?_set_ne (by omega)]
def Grew (s t : List Int) : Prop := t.length=s.length∧∀ i, 0≤sd s i→sd t i=sd s i
theorem Grew.refl (s : List Int) : Grew s s := ⟨rfl, fun _ _ => rfl⟩
theorem Grew.trans {s t u : List Int} (h : Grew s t) (k : Grew t u) : Grew s u :=
 ⟨k.1.trans h.1, fun i hi => by rw [k.2 i (by rw [h.2 i hi]; exact hi), h.2 i hi]⟩
theorem Grew.set {s : List Int} {i : Nat} (hi : i<s.length) (h : sd s i<0) (a:Int) : Grew s (s.set i a) :=
 ⟨by simp, fun j hj => sd_set_ne (fun e=>by subst e; omega) a⟩
def bare : List Int→Nat
 | [] => 0
 | a :: l => (if a<0 then 1 else 0)+bare l
theorem bare_set : ∀ {s : List Int} {i : Nat} {a : Int}, i<s.length→sd s i<0→0≤a→bare (s.set i a)+1=bare s
 | b :: s, 0, a, _, h, ha => by
  have h : b<0 := h
  show (if a<0 then 1 else 0)+bare s+1=(if b<0 then 1 else 0)+bare s
  rw [if_neg (by omega), if_pos h]; omega
 | b :: s, i+1, a, hi, h, ha => by
  have := bare_set (s := s) (i := i) (a := a) (by simpa using hi) h ha
  show (if b<0 then 1 else 0)+bare (s.set i a)+1=(if b<0 then 1 else 0)+bare s
  omega
theorem bare_grew : ∀ {s t : List Int}, Grew s t→bare t≤bare s
 | [], t, h => by
  have : t=[] := List.length_eq_zero_iff.1 h.1
  subst this; exact Nat.le_refl _
 | a :: s, [], h => by have := h.1; simp at this
 | a :: s, b :: t, h => by
  have h1 := bare_grew (s := s) (t := t) ⟨by simpa using h.1, fun i hi => h.2 (i+1) hi⟩
  have h2 : 0≤a→b=a := fun hi=>h.2 0 hi
  show (if b<0 then 1 else 0)+bare t≤(if a<0 then 1 else 0)+bare s
  by_cases z : a<0
  ·rw [if_pos z]; split <;> omega
  ·rw [if_neg z, if_neg (by have := h2 (by omega); omega)]; omega
theorem bare_le : ∀ (s : List Int), bare s≤s.length
 | [] => Nat.le_refl _
 | a :: s => by
  have := bare_le s
  show (if a<0 then 1 else 0)+bare s≤s.length+1
  split <;> omega
def Sided (V : Nat→Prop) (E : Nat→Nat→Prop) (n:Nat) (s0 : List Int) (r:Nat) (s : List Int) : Prop :=
 s.length=n∧(∀ i, 0≤sd s i→V i∧(sd s i=0 ∨ sd s i=1))∧∀ i, 0≤sd s i→0≤sd s0 i ∨ (sd s0 i<0∧Tied V E r i (sd s i))
def Shut (V : Nat→Prop) (E : Nat→Nat→Prop) (s t : List Int) : Prop := ∀ i, sd s i<0→0≤sd t i→∀ j, V j→E i j→sd t i+sd t j=1
theorem Shut.grew {V : Nat→Prop} {E : Nat→Nat→Prop} {s t u : List Int} (hv : ∀ i, 0≤sd t i→sd t i=0 ∨ sd t i=1) (h : Shut V E s t) (h2 : Shut V E t u) (hg : Grew t u) : Shut V E s u:=by
 intro i h0 h1 j hj e
 by_cases z : 0≤sd t i
 ·have a := h i h0 z j hj e
  have b := hv i z
  rw [hg.2 i z, hg.2 j (by omega)]
  exact a
 ·exact h2 i (by omega) h1 j hj e
theorem Sided.val {V : Nat→Prop} {E : Nat→Nat→Prop} {n : Nat} {s0 s : List Int} {r : Nat} (h : Sided V E n s0 r s) {i : Nat} (hi : 0≤sd s i) : sd s i=0 ∨ sd s i=1 := (h.2.1 i hi).2
structure Reached (V : Nat→Prop) (E : Nat→Nat→Prop) (n:Nat) (s0 : List Int) (r:Nat) (s t : List Int) (b : Bool) : Prop where
 sided : Sided V E n s0 r t
 grew : Grew s t
 shut : b=true→Shut V E s t
 none : b=false→¬ ∃ c, TwoSides V E c
theorem Sided.set {V : Nat→Prop} {E : Nat→Nat→Prop} {n : Nat} {s0 s : List Int} {r i : Nat} {on : Int} (h : Sided V E n s0 r s) (hi : i<n) (hV : V i) (h0 : sd s0 i<0) (hon : on=0 ∨ on=1) (ht : Tied V E r i on) : Sided V E n s0 r (s.set i on):=by
 have hl : i<s.length := by rw [h.1]; exact hi
 refine ⟨by simp [h.1], fun j hj => ?_, fun j hj => ?_⟩
 ·by_cases e : j=i
  ·subst e; rw [sd_set_eq hl]; exact ⟨hV, hon⟩
  ·rw [sd_set_ne e] at hj ⊢; exact h.2.1 j hj
 ·by_cases e : j=i
  ·subst e; rw [sd_set_eq hl]; exact .inr ⟨h0, ht⟩
  ·rw [sd_set_ne e] at hj ⊢; exact h.2.2 j hj
theorem reached_seen {V : Nat→Prop} {E : Nat→Nat→Prop} {n : Nat} {s0 s : List Int} {r i : Nat} {on : Int} (h : Sided V E n s0 r s) (hV : V i) (h0 : sd s0 i<0) (hon : on=0 ∨ on=1) (ht : Tied V E r i on) (hi : 0≤sd s i) :
  Reached V E n s0 r s s (decide (sd s i=on)) where
 sided := h
 grew := Grew.refl s
 shut := fun _ j h1 h2 => by omega
 none := fun hb=>by
  have hb := of_decide_eq_false hb
  rcases h.2.2 i hi with h1 | ⟨_, h1⟩
  ·omega
  ·exact tied_clash hV h1 ht (h.val hi) hon hb
theorem not_tied_two {V : Nat→Prop} {E : Nat→Nat→Prop} {r : Nat} : Tied V E r r 0 := fun c _ => ⟨fun _=>rfl, fun h=>absurd h (by decide)⟩
structure Heads (V : Nat→Prop) (E : Nat→Nat→Prop) (n:Nat) (s : List Int) (j:Nat) : Prop where
 len : s.length=n
 val : ∀ i, 0≤sd s i→V i∧(sd s i=0 ∨ sd s i=1)
 shut : ∀ i x, 0≤sd s i→V x→E i x→sd s i+sd s x=1
 first : ∀ i, 0≤sd s i→∃ r, V r∧r≤i∧sd s r=0∧Tied V E r i (sd s i)
 all : ∀ i, i<j→V i→0≤sd s i
theorem sd_bare (n i:Nat) : ¬ 0≤sd (List.replicate n (-1)) i:=by
 unfold sd
 rw [List.getD_eq_getElem?_getD, List.getElem?_replicate]
 split <;> simp
section
variable {V : Nat→Prop} {E : Nat→Nat→Prop} {n : Nat}
theorem Heads.start (V : Nat→Prop) (E : Nat→Nat→Prop) (n:Nat) : Heads V E n (List.replicate n (-1)) 0 :=
 ⟨by simp, fun i hi => absurd hi (sd_bare n i), fun i _ hi => absurd hi (sd_bare n i), fun i hi => absurd hi (sd_bare n i), fun i hi => absurd hi (Nat.not_lt_zero i)⟩
theorem Heads.step {s t : List Int} {j : Nat} (h : Heads V E n s j) (hj : V j) (h0 : sd s j<0) (r : Reached V E n s j s t true) (ht : sd t j=0) : Heads V E n t (j+1) where
 len := r.sided.1
 val := r.sided.2.1
 shut:=by
  intro i x hi hx hE
  by_cases e : 0≤sd s i
  ·have h1 := h.shut i x e hx hE
   have h2 := (h.val i e).2
   rw [r.grew.2 i e, r.grew.2 x (by omega)]
   exact h1
  ·exact r.shut rfl i (by omega) hi x hx hE
 first:=by
  intro i hi
  by_cases e : 0≤sd s i
  ·obtain ⟨q, h1, h2, h3, h4⟩:=h.first i e
   exact ⟨q, h1, h2, by rw [r.grew.2 q (by omega)]; exact h3, by rw [r.grew.2 i e]; exact h4⟩
  ·rcases r.sided.2.2 i hi with h1 | ⟨_, h1⟩
   ·omega
   ·refine ⟨j, hj, ?_, ht, h1⟩
    apply Decidable.byContradiction
    intro hlt
    exact e (h.all i (by omega) (r.sided.2.1 i hi).1)
 all:=by
  intro i hi hV
  by_cases e : i=j
  ·subst e; omega
  ·have := h.all i (by omega) hV
   rw [r.grew.2 i this]; exact this
theorem Heads.next {s : List Int} {j : Nat} (h : Heads V E n s j) (hj : V j→0≤sd s j) : Heads V E n s (j+1) where
 len := h.len
 val := h.val
 shut := h.shut
 first := h.first
 all := fun i hi hV => by
  by_cases e : i=j
  ·subst e; exact hj hV
  ·exact h.all i (by omega) hV
theorem Heads.done {s : List Int} (h : Heads V E n s n) (hV : ∀ i, V i→i<n) : FirstUp V E (sd s) :=
 ⟨⟨fun i h1 => (h.val i (h.all i (hV i h1) h1)).2, fun i x h1 hx hE => h.shut i x (h.all i (hV i h1) h1) hx hE⟩, fun v h1 => h.first v (h.all v (hV v h1) h1)⟩
end
theorem rd_sd' {s : List Int} {i : Nat} (h : i<s.length) : rd s (i:Int)=sd s i:=by
 rw [rd_nat]; unfold sd
 rw [List.getD_eq_getElem?_getD, List.getD_eq_getElem?_getD, List.getElem?_eq_getElem h]; rfl
def sumTo (f : Nat→Int) : Nat→Int
 | 0 => 0
 | n+1 => sumTo f n+f n
theorem sumTo_congr {f g : Nat→Int} : ∀ (n:Nat), (∀ i, i<n→f i=g i)→sumTo f n=sumTo g n
 | 0, _ => rfl
 | n+1, h => by rw [sumTo, sumTo, sumTo_congr n (fun i hi => h i (by omega)), h n (by omega)]
theorem sumTo_add (f g : Nat→Int) : ∀ n : Nat, sumTo (fun i=>f i+g i) n=sumTo f n+sumTo g n
 | 0 => rfl
 | n+1 => by rw [sumTo, sumTo, sumTo, sumTo_add f g n]; omega
theorem sumTo_zero : ∀ n : Nat, sumTo (fun _=>0) n=0
 | 0 => rfl
 | n+1 => by rw [sumTo, sumTo_zero n]; rfl
theorem sumTo_le {f g : Nat→Int} : ∀ (n:Nat), (∀ i, i<n→f i≤g i)→sumTo f n≤sumTo g n
 | 0, _ => by simp [sumTo]
 | n+1, h => by
  have := sumTo_le n (fun i hi => h i (by omega))
  have := h n (by omega)
  simp only [sumTo]; omega
theorem sumTo_bound {f : Nat→Int} (c:Int) : ∀ (n:Nat), (∀ i, i<n→0≤f i∧f i≤c)→0≤sumTo f n∧sumTo f n≤c * n
 | 0, _ => by simp [sumTo]
 | n+1, h => by
  have h1 := sumTo_bound c n (fun i hi => h i (by omega))
  have h2 := h n (by omega)
  have h3 : c * ((n+1:Nat):Int)=c * n+c := by rw [Int.natCast_succ, Int.mul_add, Int.mul_one]
  rw [h3]
  simp only [sumTo]; omega
@[reducible] def incP (l : List Int) (i v:Nat) : Prop := rd l (i:Int)≠0∧(i=v ∨ rd l (i:Int)=(v:Int)+1)
@[reducible] def meetP (l : List Int) (i k:Nat) : Prop := rd l (i:Int)=rd l (k:Int) ∨ rd l (i:Int)=(k:Int)+1 ∨ rd l (k:Int)=(i:Int)+1
@[reducible] def apartP (l : List Int) (i k:Nat) : Prop := i≠k∧rd l (i:Int)≠0∧rd l (k:Int)≠0∧¬ meetP l i k
def apart (l : List Int) (i k:Nat) : Int := if apartP l i k then 1 else 0
@[reducible] def crossP (a b c d:Int) : Prop := ((1≤a∧1≤b)∧(1≤c∧1≤d))∧(a≠b∧c≠d)∧(((min a b<c∧c<max a b)∧(d<min a b ∨ max a b<d)) ∨ ((min a b<d∧d<max a b)∧(c<min a b ∨ max a b<c)))
@[reducible] def crossAt (l : List Int) (i k:Nat) : Prop := crossP ((i:Int)+1) (rd l (i:Int)) ((k:Int)+1) (rd l (k:Int))
def crossN (l : List Int) (i k:Nat) : Int := if crossAt l i k then 1 else 0
theorem crossP_symm {a b c d : Int} (h : crossP a b c d) : crossP c d a b:=by
 obtain ⟨⟨⟨h1, h2⟩, h3, h4⟩, ⟨h5, h6⟩, h7⟩:=h
 refine ⟨⟨⟨h3, h4⟩, h1, h2⟩, ⟨h6, h5⟩, ?_⟩
 omega
theorem cross_apart {l : List Int} {i k : Nat} (h : crossAt l i k) : apartP l i k:=by
 obtain ⟨⟨⟨h1, h2⟩, h3, h4⟩, ⟨h5, h6⟩, h7⟩:=h
 refine ⟨?_,by omega,by omega, ?_⟩
 ·intro e; subst e; omega
 ·intro h8; rcases h8 with e | e | e <;> omega
theorem crossN_le (l : List Int) (i k:Nat) : 0≤crossN l i k∧crossN l i k≤1∧crossN l i k≤apart l i k:=by
 unfold crossN apart
 by_cases h : crossAt l i k
 ·rw [if_pos h, if_pos (cross_apart h)]; omega
 ·rw [if_neg h]; split <;> omega
def crossings (l : List Int) : Int := if treeOk l then sumTo (fun i=>sumTo (fun k=>crossN l i k) i) l.length else -1
def inRange (l : List Int) (i:Nat) : Bool := decide (0≤rd l i∧rd l i≤l.length)
theorem mem_rd {l : List Int} {a : Int} (h0 : 0≤a) (h1 : a<l.length) (h : (List.range l.length).all (inRange l)=true) : 0≤rd l a∧rd l a≤l.length:=by
 rw [List.all_eq_true] at h
 have := h a.toNat (by simp; omega)
 unfold inRange at this
 rw [show ((a.toNat:Nat):Int)=a by omega] at this
 exact of_decide_eq_true this
def stepsOf (l : List Int) : Nat→Int→Nat→Int
 | 0, _, _ => -1
 | m+1, w, i => if rd l (w - 1)=0 then i else stepsOf l m (rd l (w - 1)) (i+1)
theorem stepsOf_neg (l : List Int) (h : (List.range l.length).all (inRange l)=true) : ∀ (m:Nat) (w:Int) (i:Nat), 0<w→w≤l.length→(decide (stepsOf l m w i<0)=!walkOk l m w)
 | 0, w, i, h0, h1 => by simp [stepsOf, walkOk]; omega
 | m+1, w, i, h0, h1 => by
  have hr := mem_rd (a := w - 1) (by omega) (by omega) h
  unfold stepsOf walkOk
  rw [if_neg (show ¬ w≤0 by omega), decide_eq_true hr, Bool.true_and]
  by_cases e : rd l (w - 1)=0
  ·rw [if_pos e, e, decide_eq_false (by omega)]
   cases m <;> simp [walkOk]
  ·rw [if_neg e]
   exact stepsOf_neg l h m _ _ (by omega) (by omega)
theorem impl_steps_l0 (l : List Int) (hl : l.length≤8) (h : (List.range l.length).all (inRange l)=true) (d:Nat) : ∀ (w:Int) (j:Nat), j+d=l.length→0<w→w≤l.length →
  Ev (fun k=>impl_steps.l0 k l w (l.length:Int) (j:Int)) (stepsOf l d w j):=by
 induction d with
 | zero =>
  intro w j hj h0 h1
  refine Ev.step (fun k=>impl_steps.l0.eq_2 ..) ?_
  exact Ev.neg (by omega) (Ev.ret rfl)
 | succ d ih =>
  intro w j hj h0 h1
  have hr := mem_rd (a := w - 1) (by omega) (by omega) h
  refine Ev.step (fun k=>impl_steps.l0.eq_2 ..) ?_
  rw [wrap_id (n := w - 1) (by omega) (by omega), wrap_add1 (by omega)]
  refine Ev.pos (by omega) (Ev.pos (by omega) (Ev.pos (by omega) (Ev.ite (fun e=>?_) (fun e=>?_))))
  ·exact Ev.ret (by unfold stepsOf; rw [if_pos e])
  ·exact Ev.eq (ih (rd l (w - 1)) (j+1) (by omega) (by omega) (by omega)) (by rw [stepsOf, if_neg e])
theorem impl_steps_ev (l : List Int) (hl : l.length≤8) (h : (List.range l.length).all (inRange l)=true) (w:Int) (h0 : 0<w) (h1 : w≤l.length) :
  Ev (fun k=>impl_steps.f k l w) (stepsOf l l.length w 0):=by
 unfold impl_steps.f
 exact impl_steps_l0 l hl h l.length w 0 (by omega) h0 h1
theorem impl_TreeOk_l1 (l : List Int) (hl : l.length≤8) (h : (List.range l.length).all (inRange l)=true) (r:Nat) (d:Nat) : ∀ (j:Nat), j+d=l.length →
  Ev (fun k=>impl_TreeOk.l1 k l (r:Int) (l.length:Int) (j:Int)) ((List.range' j (l.length - j)).all (fun i=>walkOk l l.length ((i:Int)+1)) && ((r:Int) == 1)):=by
 induction d with
 | zero =>
  intro j hj
  refine Ev.step (fun k=>impl_TreeOk.l1.eq_2 ..) ?_
  exact Ev.neg (by omega) (Ev.ret (by rw [show l.length - j=0 by omega]; rfl))
 | succ d ih =>
  intro j hj
  refine Ev.step (fun k=>impl_TreeOk.l1.eq_2 ..) ?_
  rw [wrap_add1 (by omega)]
  refine Ev.pos (by omega) (Ev.bind (impl_steps_ev l hl h _ (by omega) (by omega)) ?_)
  have hs := stepsOf_neg l h l.length ((j+1:Nat):Int) 0 (by omega) (by omega)
  refine Ev.ite (fun e=>?_) (fun e=>?_)
  ·rw [decide_eq_true e] at hs
   refine Ev.ret ?_
   rw [all_from _ _ _ (by omega), show walkOk l l.length ((j:Int)+1)=false by simpa using hs.symm]; rfl
  ·rw [decide_eq_false e] at hs
   refine Ev.eq (ih (j+1) (by omega)) ?_
   rw [all_from _ l.length j (by omega), show walkOk l l.length ((j:Int)+1)=true by simpa using hs.symm, Bool.true_and]
theorem impl_TreeOk_l0 (l : List Int) (h1 : 1≤l.length) (hl : l.length≤8) (d:Nat) : ∀ (r j:Nat), j+d=l.length→r≤j→(∀ i, i<j→inRange l i=true)→r+zerosFrom l j=l.count 0 →
  Ev (fun k=>impl_TreeOk.l0 k l (r:Int) l (l.length:Int) (j:Int)) (treeOk l):=by
 induction d with
 | zero =>
  intro r j hj hr hin hz
  have hall : (List.range l.length).all (inRange l)=true:=by
   rw [List.all_eq_true]; intro i hi; exact hin i (by have := List.mem_range.mp hi; omega)
  refine Ev.step (fun k=>impl_TreeOk.l0.eq_2 ..) ?_
  refine Ev.neg (by omega) (Ev.eq (impl_TreeOk_l1 l hl hall r l.length 0 (by omega)) ?_)
  have hz0 : zerosFrom l j=0 := by unfold zerosFrom; rw [List.drop_eq_nil_of_le (by omega)]; rfl
  have hrc : r=l.count 0 := by omega
  unfold treeOk
  rw [decide_eq_true (show 1≤l.length∧l.length≤8 from ⟨h1, hl⟩), Bool.true_and, Nat.sub_zero, ← List.range_eq_range', hrc]
  congr 1
  ·rw [Bool.eq_iff_iff, List.all_eq_true, List.all_eq_true]
   rw [List.all_eq_true] at hall
   constructor
   ·intro hw i hi
    have := hall i hi
    unfold inRange at this
    unfold okAt; rw [this, hw i hi]; rfl
   ·intro hw i hi
    have := hw i hi
    unfold okAt at this
    exact (Bool.and_eq_true_iff.mp this).2
  ·rw [Bool.eq_iff_iff]; simp; omega
 | succ d ih =>
  intro r j hj hr hin hz
  refine Ev.step (fun k=>impl_TreeOk.l0.eq_2 ..) ?_
  have hbad : ¬ (0≤rd l (j:Int)∧rd l (j:Int)≤(l.length:Int))→treeOk l=false:=by
   intro hb
   unfold treeOk
   have : (List.range l.length).all (okAt l)=false:=by
    rw [List.all_eq_false]
    exact ⟨j, by simp; omega, by unfold okAt; rw [decide_eq_false hb]; simp⟩
   rw [this]; simp
  refine Ev.pos (by omega) (Ev.pos (by omega) (Ev.pos (by omega) (Ev.ite (fun e=>?_) (fun e=>?_))))
  ·refine Ev.step (fun k=>impl_TreeOk.j2.eq_2 ..) (Ev.pos rfl (Ev.ret ?_))
   exact (hbad (by omega)).symm
  ·refine Ev.step (fun k=>impl_TreeOk.j2.eq_2 ..) (Ev.ite (fun e2=>?_) (fun e2=>?_))
   ·have e2' := of_decide_eq_true e2
    exact Ev.ret (hbad (by omega)).symm
   ·have e2' : ¬ rd l (j:Int) > (l.length:Int) := by simpa using e2
    have hin' : ∀ i, i<j+1→inRange l i=true:=by
     intro i hi
     by_cases e' : i=j
     ·subst e'; unfold inRange; exact decide_eq_true (by omega)
     ·exact hin i (by omega)
    have hzs := zerosFrom_succ l j (by omega)
    rw [wrap_add1 (n := j) (by omega)]
    refine Ev.ite (fun e3=>?_) (fun e3=>?_)
    ·rw [wrap_add1 (by omega)]
     rw [if_pos e3] at hzs
     exact ih (r+1) (j+1) (by omega) (by omega) hin' (by omega)
    ·rw [if_neg e3] at hzs
     exact ih r (j+1) (by omega) (by omega) hin' (by omega)
theorem impl_TreeOk_ev (l : List Int) : Ev (fun k=>impl_TreeOk.f k l) (treeOk l):=by
 unfold impl_TreeOk.f
 have hbad : ¬ (1≤l.length∧l.length≤8)→treeOk l=false:=by
  intro hb; unfold treeOk; rw [decide_eq_false hb]; rfl
 refine Ev.ite (fun e=>?_) (fun e=>?_)
 ·refine Ev.step (fun k=>impl_TreeOk.j0.eq_2 ..) (Ev.pos rfl (Ev.ret ?_))
  exact (hbad (by omega)).symm
 ·refine Ev.step (fun k=>impl_TreeOk.j0.eq_2 ..) (Ev.ite (fun e2=>?_) (fun e2=>?_))
  ·have e2' := of_decide_eq_true e2
   exact Ev.ret (hbad (by omega)).symm
  ·have e2' : ¬ (l.length:Int) > 8 := by simpa using e2
   exact impl_TreeOk_l0 l (by omega) (by omega) l.length 0 0 (by omega) (by omega) (fun i h => by omega) (by simp [zerosFrom])
theorem impl_between_ev (x a b:Int) : impl_between.f x a b=some (decide (min a b<x∧x<max a b)):=by
 unfold impl_between.f
 rw [mn_min, mx_max]
 split
 ·rename_i h; congr 1; rw [decide_eq_decide]; omega
 ·rename_i h; congr 1; symm; rw [decide_eq_false_iff_not]; omega
theorem impl_outside_ev (x a b:Int) : impl_outside.f x a b=some (decide (x<min a b ∨ max a b<x)):=by
 unfold impl_outside.f
 rw [mn_min, mx_max]
 split
 ·rename_i h; congr 1; symm; rw [decide_eq_true_iff]; exact .inl h
 ·rename_i h; congr 1; rw [decide_eq_decide]; omega
theorem impl_CrossOk_ev (a b c d:Int) : Ev (fun k=>impl_CrossOk.f k a b c d) (decide (crossP a b c d)):=by
 unfold impl_CrossOk.f
 have bad : ¬ ((1≤a∧1≤b)∧(1≤c∧1≤d)) ∨ ¬ (a≠b∧c≠d)→Ev (fun k=>impl_CrossOk.j0 k a b c d true) (decide (crossP a b c d)):=by
  intro h
  refine Ev.step (fun k=>impl_CrossOk.j0.eq_2 ..) (Ev.pos rfl (Ev.ret ?_))
  symm; rw [decide_eq_false_iff_not]
  intro h2
  rcases h with h | h
  ·exact h h2.1
  ·exact h h2.2.1
 refine Ev.ite (fun h1=>bad (.inl (by omega))) (fun h1=>Ev.ite (fun h2=>bad (.inl (by omega))) (fun h2=>Ev.ite (fun h3=>bad (.inl (by omega))) (fun h3=>Ev.ite (fun h4=>bad (.inl (by omega))) (fun h4=>Ev.ite (fun h5=>bad (.inr (by omega))) (fun h5=>?_)))))
 by_cases h6 : c=d
 ·rw [show (c == d)=true by simpa using h6]
  exact bad (.inr (by omega))
 ·rw [show (c == d)=false by simpa using h6]
  have hp : crossP a b c d ↔ (((min a b<c∧c<max a b)∧(d<min a b ∨ max a b<d)) ∨ ((min a b<d∧d<max a b)∧(c<min a b ∨ max a b<c))) :=
   ⟨fun h=>h.2.2, fun h=>⟨by omega, ⟨h5, h6⟩, h⟩⟩
  refine Ev.step (fun k=>impl_CrossOk.j0.eq_2 ..) (Ev.neg (by simp) (Ev.bind0 (impl_between_ev ..) (Ev.ite (fun c1=>?_) (fun c1=>?_))))
  ·have c1' := of_decide_eq_true c1
   refine Ev.bind0 (impl_outside_ev ..) (Ev.ite (fun c2=>Ev.ret ?_) (fun c2=>Ev.bind0 (impl_between_ev ..) (Ev.ite (fun c3=>Ev.bind0 (impl_outside_ev ..) (Ev.ret ?_)) (fun c3=>Ev.ret ?_))))
   ·have c2' := of_decide_eq_true c2
    symm; rw [decide_eq_true_iff,hp]; exact .inl ⟨c1', c2'⟩
   ·have c2' : ¬ (d<min a b ∨ max a b<d) := by simpa using c2
    have c3' := of_decide_eq_true c3
    rw [decide_eq_decide,hp]; omega
   ·have c2' : ¬ (d<min a b ∨ max a b<d) := by simpa using c2
    have c3' : ¬ (min a b<d∧d<max a b) := by simpa using c3
    symm; rw [decide_eq_false_iff_not,hp]; omega
  ·have c1' : ¬ (min a b<c∧c<max a b) := by simpa using c1
   refine Ev.bind0 (impl_between_ev ..) (Ev.ite (fun c3=>Ev.bind0 (impl_outside_ev ..) (Ev.ret ?_)) (fun c3=>Ev.ret ?_))
   ·have c3' := of_decide_eq_true c3
    rw [decide_eq_decide,hp]; omega
   ·have c3' : ¬ (min a b<d∧d<max a b) := by simpa using c3
    symm; rw [decide_eq_false_iff_not,hp]; omega
theorem impl_crosses_ev (l : List Int) (hl : l.length≤8) {i k : Nat} (hi : i<l.length) (hk : k<l.length) : Ev (fun q=>impl_crosses.f q l (i:Int) (k:Int)) (decide (crossAt l i k)):=by
 unfold impl_crosses.f
 refine Ev.pos (by omega) (Ev.pos (by omega) (Ev.pos (by omega) (Ev.pos (by omega) ?_)))
 rw [wrap_id (n := (i:Int)+1) (by omega) (by omega), wrap_id (n := (k:Int)+1) (by omega) (by omega)]
 exact Ev.bind (impl_CrossOk_ev _ _ _ _) (Ev.ret rfl)
theorem rd1_nat (xs : List (List Int)) (j:Nat) : rd_L2 xs (j:Int)=xs.getD j [] := by simp [rd_L2]
@[reducible] def sideV (l : List Int) (i:Nat) : Prop := i<l.length∧rd l (i:Int)≠0
@[reducible] def sideE (l : List Int) (i j:Nat) : Prop := crossAt l i j
theorem sideE_V {l : List Int} {i j : Nat} (hj : j<l.length) (h : sideE l i j) : sideV l j := ⟨hj, by have := h.1.2.2; omega⟩
theorem sideE_symm {l : List Int} {i j : Nat} (h : sideE l i j) : sideE l j i := crossP_symm h
theorem rd_sd {s : List Int} {i : Nat} (h : i<s.length) : rd s (i:Int)=sd s i:=by
 rw [rd_nat]; unfold sd
 rw [List.getD_eq_getElem?_getD, List.getD_eq_getElem?_getD, List.getElem?_eq_getElem h]; rfl
def OldShut (l : List Int) (s0 : List Int) : Prop := ∀ i j, 0≤sd s0 i→sideV l j→sideE l i j→0≤sd s0 j
theorem draw_ev (l : List Int) (hl : l.length≤8) (s0 : List Int) (r:Nat) (hr : sideV l r) (hold : OldShut l s0) : ∀ (u:Nat),
  (∀ (s : List Int) (i:Nat) (on:Int), bare s≤u→Sided (sideV l) (sideE l) l.length s0 r s→sideV l i→sd s0 i<0→(on=0 ∨ on=1)→Tied (sideV l) (sideE l) r i on →
   ∃ t b, Ev (fun k=>impl_SidesFor.d k l s (i:Int) on) (t, b)∧Reached (sideV l) (sideE l) l.length s0 r s t b∧(b=true→sd t i=on)):=by
 intro u
 induction u using Nat.strongRecOn with
 | ind u ih =>
 intro s i on hu hs hV h0 hon ht
 have hn := hs.1
 have hi : i<s.length := by rw [hn]; exact hV.1
 by_cases hc : 0≤sd s i
 ·refine ⟨s, decide (sd s i=on), ?_, reached_seen hs hV h0 hon ht hc, fun hb=>of_decide_eq_true hb⟩
  refine Ev.step (fun k=>impl_SidesFor.d.eq_2 ..) (Ev.pos (by omega) (Ev.pos (by omega) ?_))
  rw [rd_sd hi]
  exact Ev.pos hc (Ev.ret (by congr 1))
 ·-- the row behind the store, all neighbours from j on
  have key : ∀ (d j:Nat) (s2 : List Int), j+d=l.length→Sided (sideV l) (sideE l) l.length s0 r s2→sd s2 i=on→bare s2<u →
    ∃ t b, Ev (fun k=>impl_SidesFor.q k l s2 (i:Int) on (l.length:Int) (j:Int)) (t, b)∧Reached (sideV l) (sideE l) l.length s0 r s2 t b∧(b=true→∀ x, j≤x→sideV l x→sideE l i x→on+sd t x=1):=by
   intro d
   induction d with
   | zero =>
    intro j s2 hj h2 hon2 _
    refine ⟨s2, true, Ev.step (fun k=>impl_SidesFor.q.eq_2 ..) (Ev.neg (by omega) (Ev.ret rfl)), ⟨h2, Grew.refl _, fun _ x h3 h4 => by omega, fun h=>(by cases h)⟩, fun _ x hx hxV => by have := hxV.1; omega⟩
   | succ d ihd =>
    intro j s2 hj h2 hon2 hb2
    have hjl : j<l.length := by omega
    by_cases hcr : crossAt l i j
    ·have hVj : sideV l j := sideE_V hjl hcr
     have h0j : sd s0 j<0:=by
      apply Decidable.byContradiction
      intro hx
      have := hold j i (by omega) hV (sideE_symm hcr)
      omega
     have htj : Tied (sideV l) (sideE l) r j (1 - on) := tied_link ht hV hVj hr hon hcr
     obtain ⟨t1, b1, e1, r1, v1⟩:=ih (bare s2) hb2 s2 j (1 - on) (Nat.le_refl _) h2 hVj h0j (by omega) htj
     have ew : wrap64 (1 - on)=1 - on := wrap_id (by omega) (by omega)
     cases b1 with
     | false =>
      refine ⟨t1, false, Ev.step (fun k=>impl_SidesFor.q.eq_2 ..) (Ev.pos (by omega) (Ev.bind (impl_crosses_ev l hl hV.1 hjl) (Ev.pos (by simpa using hcr) ?_))), ⟨r1.sided, r1.grew, fun h=>(by cases h), r1.none⟩, fun h=>(by cases h)⟩
      rw [ew]
      exact Ev.bind e1 (Ev.neg (by simp) (Ev.ret rfl))
     | true =>
      have hg1 : sd t1 i=on := by rw [r1.grew.2 i (by omega)]; exact hon2
      obtain ⟨t2, b2, e2, r2, v2⟩:=ihd (j+1) t1 (by omega) r1.sided hg1 (Nat.lt_of_le_of_lt (bare_grew r1.grew) hb2)
      have hv1 := v1 rfl
      refine ⟨t2, b2, Ev.step (fun k=>impl_SidesFor.q.eq_2 ..) (Ev.pos (by omega) (Ev.bind (impl_crosses_ev l hl hV.1 hjl) (Ev.pos (by simpa using hcr) ?_))), ⟨r2.sided, r1.grew.trans r2.grew, fun hb=>Shut.grew (fun i hi => r1.sided.val hi) (r1.shut rfl) (r2.shut hb) r2.grew, r2.none⟩, fun hb x hx hxV hxE => ?_⟩
      ·rw [ew]
       refine Ev.bind e1 (Ev.pos rfl ?_)
       rw [wrap_add1 (by omega)]
       exact e2
      ·by_cases e : x=j
       ·subst e
        rw [r2.grew.2 x (by omega), hv1]; omega
       ·exact v2 hb x (by omega) hxV hxE
    ·obtain ⟨t2, b2, e2, r2, v2⟩:=ihd (j+1) s2 (by omega) h2 hon2 hb2
     refine ⟨t2, b2, Ev.step (fun k=>impl_SidesFor.q.eq_2 ..) (Ev.pos (by omega) (Ev.bind (impl_crosses_ev l hl hV.1 hjl) (Ev.neg (by simpa using hcr) ?_))), r2, fun hb x hx hxV hxE => ?_⟩
     ·rw [wrap_add1 (by omega)]
      exact e2
     ·by_cases e : x=j
      ·subst e; exact absurd hxE hcr
      ·exact v2 hb x (by omega) hxV hxE
  have hset := bare_set (s := s) (i := i) (a := on) hi (by omega) (by omega)
  obtain ⟨t, b, e1, r1, v1⟩:=key l.length 0 (s.set i on) (by omega) (hs.set hV.1 hV h0 hon ht) (sd_set_eq hi on) (by omega)
  have hgs : Grew s (s.set i on) := Grew.set hi (by omega) on
  refine ⟨t, b, ?_, ⟨r1.sided, hgs.trans r1.grew, fun hb=>?_, r1.none⟩, fun _=>?_⟩
  ·refine Ev.step (fun k=>impl_SidesFor.d.eq_2 ..) (Ev.pos (by omega) (Ev.pos (by omega) ?_))
   rw [rd_sd hi]
   refine Ev.neg (by omega) ?_
   rw [Int.toNat_natCast]
   exact e1
  ·intro x h1 h2 y hy hxy
   by_cases e : x=i
   ·subst e
    have e3 : sd t x=on := by rw [r1.grew.2 x (by rw [sd_set_eq hi]; omega), sd_set_eq hi]
    rw [e3]
    exact v1 hb y (Nat.zero_le _) hy hxy
   ·exact r1.shut hb x (by rw [sd_set_ne e]; exact h1) h2 y hy hxy
  ·rw [r1.grew.2 i (by rw [sd_set_eq hi]; omega), sd_set_eq hi]
def sidesRow (l : List Int) (s : Nat→Int) : Nat→List Int
 | 0 => []
 | j+1 => if rd l (j:Int)=0 then sidesRow l s j else sidesRow l s j ++ [s j]
theorem sidesRow_congr {l : List Int} {s t : Nat→Int} : ∀ {j : Nat}, (∀ i, i<j→rd l (i:Int)≠0→s i=t i)→sidesRow l s j=sidesRow l t j
 | 0, _ => rfl
 | j+1, h => by
  have h1 := sidesRow_congr (j := j) (fun i hi hz => h i (by omega) hz)
  unfold sidesRow
  by_cases z : rd l (j:Int)=0
  ·rw [if_pos z, if_pos z, h1]
  ·rw [if_neg z, if_neg z, h1, h j (by omega) z]
theorem sidesRow_len (l : List Int) (s : Nat→Int) : ∀ j, (sidesRow l s j).length≤j
 | 0 => Nat.le_refl _
 | j+1 => by
  have := sidesRow_len l s j
  unfold sidesRow
  split
  ·omega
  ·rw [List.length_append, List.length_singleton]; omega
theorem impl_Sides_m (l : List Int) (hl : l.length≤8) (d:Nat) : ∀ (j:Nat) (s : List Int), j+d=l.length→Heads (sideV l) (sideE l) l.length s j →
  (∃ t, Ev (fun k=>impl_SidesFor.m k l s (sidesRow l (sd s) j) (l.length:Int) (j:Int)) (sidesRow l t l.length, true)∧FirstUp (sideV l) (sideE l) t) ∨
  (Ev (fun k=>impl_SidesFor.m k l s (sidesRow l (sd s) j) (l.length:Int) (j:Int)) ([], false)∧¬ ∃ c, TwoSides (sideV l) (sideE l) c):=by
 induction d with
 | zero =>
  intro j s hj h
  obtain rfl : j=l.length := by omega
  exact .inl ⟨sd s, Ev.step (fun k=>impl_SidesFor.m.eq_2 ..) (Ev.neg (by omega) (Ev.ret rfl)), h.done (fun i hi => hi.1)⟩
 | succ d ih =>
  intro j s hj h
  have hjl : j<l.length := by omega
  have hsl : j<s.length := by rw [h.len]; exact hjl
  have hrow := sidesRow_len l (sd s) j
  by_cases z : rd l (j:Int)=0
  ·have hn := h.next (fun hV=>absurd z hV.2)
   have e : sidesRow l (sd s) (j+1)=sidesRow l (sd s) j:=by
    show (if rd l (j:Int)=0 then _ else _)=_
    rw [if_pos z]
   have := ih (j+1) s (by omega) hn
   rw [e] at this
   have go : ∀ out, Ev (fun k=>impl_SidesFor.m k l s (sidesRow l (sd s) j) (l.length:Int) ((j+1:Nat):Int)) out→Ev (fun k=>impl_SidesFor.m k l s (sidesRow l (sd s) j) (l.length:Int) (j:Int)) out:=by
    intro out h1
    refine Ev.step (fun k=>impl_SidesFor.m.eq_2 ..) ?_
    refine Ev.pos (by omega) ?_
    refine Ev.pos (by omega) ?_
    refine Ev.pos (by omega) ?_
    refine Ev.pos z ?_
    rw [wrap_add1 (by omega)]
    exact h1
   exact this.imp (fun ⟨t2, h1, h2⟩ => ⟨t2, go _ h1, h2⟩) (fun ⟨h1, h2⟩ => ⟨go _ h1, h2⟩)
  ·have hV : sideV l j := ⟨hjl, z⟩
   by_cases hc : sd s j<0
   ·have hold : OldShut l s := fun i x hi hx hE => by
     have h1 := h.shut i x hi hx hE
     have h2 := (h.val i hi).2
     omega
    have hs : Sided (sideV l) (sideE l) l.length s j s := ⟨h.len, h.val, fun i hi => .inl hi⟩
    obtain ⟨t, b, e1, r1, v1⟩:=draw_ev l hl s j hV hold (bare s) s j 0 (Nat.le_refl _) hs hV hc (.inl rfl) not_tied_two
    cases b with
    | false =>
     refine .inr ⟨Ev.step (fun k=>impl_SidesFor.m.eq_2 ..) (Ev.pos (by omega) (Ev.pos (by omega) (Ev.pos (by omega) (Ev.neg z (Ev.pos (by omega) (Ev.pos (by rw [rd_sd hsl]; exact hc) (Ev.bind e1 (Ev.neg (by simp) (Ev.ret rfl))))))))), r1.none rfl⟩
    | true =>
     have hv := v1 rfl
     have hn := h.step hV hc r1 hv
     have htl : j<t.length := by rw [r1.sided.1]; exact hjl
     have e : sidesRow l (sd t) (j+1)=sidesRow l (sd s) j ++ [rd t (j:Int)]:=by
      show (if rd l (j:Int)=0 then _ else sidesRow l (sd t) j ++ [sd t j])=_
      rw [if_neg z, rd_sd htl, sidesRow_congr (s := sd t) (t := sd s) (fun i hi hz => r1.grew.2 i (h.all i hi ⟨by omega, hz⟩))]
     have := ih (j+1) t (by omega) hn
     rw [e] at this
     have go : ∀ out, Ev (fun k=>impl_SidesFor.m k l t (sidesRow l (sd s) j ++ [rd t (j:Int)]) (l.length:Int) ((j+1:Nat):Int)) out→Ev (fun k=>impl_SidesFor.m k l s (sidesRow l (sd s) j) (l.length:Int) (j:Int)) out:=by
      intro out h1
      refine Ev.step (fun k=>impl_SidesFor.m.eq_2 ..) ?_
      refine Ev.pos (by omega) ?_
      refine Ev.pos (by omega) ?_
      refine Ev.pos (by omega) ?_
      refine Ev.neg z ?_
      refine Ev.pos (by omega) ?_
      refine Ev.pos (by rw [rd_sd hsl]; exact hc) ?_
      refine Ev.bind e1 ?_
      refine Ev.pos rfl ?_
      refine Ev.pos (show (j:Int)<(t.length:Int) by omega) ?_
      refine Ev.pos (by omega) ?_
      rw [wrap_add1 (by omega)]
      exact h1
     exact this.imp (fun ⟨t2, h1, h2⟩ => ⟨t2, go _ h1, h2⟩) (fun ⟨h1, h2⟩ => ⟨go _ h1, h2⟩)
   ·have hn := h.next (fun _=>by omega)
    have e : sidesRow l (sd s) (j+1)=sidesRow l (sd s) j ++ [rd s (j:Int)]:=by
     show (if rd l (j:Int)=0 then _ else sidesRow l (sd s) j ++ [sd s j])=_
     rw [if_neg z, rd_sd hsl]
    have := ih (j+1) s (by omega) hn
    rw [e] at this
    have go : ∀ out, Ev (fun k=>impl_SidesFor.m k l s (sidesRow l (sd s) j ++ [rd s (j:Int)]) (l.length:Int) ((j+1:Nat):Int)) out→Ev (fun k=>impl_SidesFor.m k l s (sidesRow l (sd s) j) (l.length:Int) (j:Int)) out:=by
     intro out h1
     refine Ev.step (fun k=>impl_SidesFor.m.eq_2 ..) ?_
     refine Ev.pos (by omega) ?_
     refine Ev.pos (by omega) ?_
     refine Ev.pos (by omega) ?_
     refine Ev.neg z ?_
     refine Ev.pos (by omega) ?_
     refine Ev.neg (by rw [rd_sd hsl]; exact hc) ?_
     refine Ev.pos (by omega) ?_
     rw [wrap_add1 (by omega)]
     exact h1
    exact this.imp (fun ⟨t2, h1, h2⟩ => ⟨t2, go _ h1, h2⟩) (fun ⟨h1, h2⟩ => ⟨go _ h1, h2⟩)
theorem impl_Sides_z (l : List Int) (hl : l.length≤8) (n:Nat) (out : List Int × Bool) (hout : Ev (fun k=>impl_SidesFor.m k l (List.replicate n (-1)) [] (l.length:Int) 0) out) (d:Nat) : ∀ (j:Nat) (s : List Int), j+d=n→n≤8→s.length=n→(∀ i, i<j→s[i]?=some (-1))→Ev (fun k=>impl_SidesFor.z k l s (n:Int) (j:Int)) out:=by
 induction d with
 | zero =>
  intro j s hj h8 hs h
  have e : s=List.replicate n (-1):=by
   apply List.ext_getElem?
   intro i
   by_cases hi : i<n
   ·rw [h i (by omega), List.getElem?_replicate, if_pos hi]
   ·rw [List.getElem?_eq_none (by omega), List.getElem?_eq_none (by simp; omega)]
  rw [e]
  exact Ev.step (fun k=>impl_SidesFor.z.eq_2 ..) (Ev.neg (by omega) hout)
 | succ d ih =>
  intro j s hj h8 hs h
  refine Ev.step (fun k=>impl_SidesFor.z.eq_2 ..) (Ev.pos (by omega) (Ev.pos (by omega) (Ev.pos (by omega) ?_)))
  rw [wrap_add1 (by omega), Int.toNat_natCast]
  refine ih (j+1) _ (by omega) h8 (by simpa using hs) (fun i hi => ?_)
  by_cases e : i=j
  ·subst e; rw [List.getElem?_set_self (by omega)]
  ·rw [List.getElem?_set_ne (by omega)]; exact h i (by omega)
theorem impl_SidesFor_out (l : List Int) (ht : treeOk l=true) : (∃ t, Ev (fun k=>impl_SidesFor.f k l) (sidesRow l t l.length, true)∧FirstUp (sideV l) (sideE l) t) ∨ (Ev (fun k=>impl_SidesFor.f k l) ([], false)∧¬ ∃ c, TwoSides (sideV l) (sideE l) c):=by
 have hl := (treeOk_len ht).2
 have go : ∀ out, Ev (fun k=>impl_SidesFor.m k l (List.replicate l.length (-1)) [] (l.length:Int) 0) out→Ev (fun k=>impl_SidesFor.f k l) out:=by
  intro out hout
  unfold impl_SidesFor.f
  refine Ev.bind (impl_TreeOk_ev l) (Ev.pos ht (Ev.pos (by omega) ?_))
  rw [Int.toNat_natCast, List.length_replicate]
  exact impl_Sides_z l hl l.length out hout l.length 0 _ (by omega) hl (by simp) (fun i hi => by omega)
 exact (impl_Sides_m l hl l.length 0 _ (by omega) (Heads.start ..)).imp (fun ⟨t, h1, h2⟩ => ⟨t, go _ h1, h2⟩) (fun ⟨h1, h2⟩ => ⟨go _ h1, h2⟩)
theorem impl_SidesFor_not (l : List Int) (ht : treeOk l=false) : Ev (fun k=>impl_SidesFor.f k l) ([], false):=by
 unfold impl_SidesFor.f
 exact Ev.bind (impl_TreeOk_ev l) (Ev.neg (by simp [ht]) (Ev.ret rfl))
theorem cross_sorted {a b c d : Int} (h1 : 1≤a) (h2 : a<b) (h3 : 1≤c) (h4 : c<d) : spec_CrossOk.f a b c d=some (decide ((a<c∧c<b∧b<d) ∨ (c<a∧a<d∧d<b))):=by
 have e1 : mn a b=a := by unfold mn; split <;> omega
 have e2 : mx a b=b := by unfold mx; split <;> omega
 have e3 : mn c d=c := by unfold mn; split <;> omega
 have e4 : mx c d=d := by unfold mx; split <;> omega
 unfold spec_CrossOk.f
 rw [e1, e2, e3, e4, if_neg (by omega), if_neg (by omega), if_neg (by omega), if_neg (by omega), if_neg (by omega), if_neg (by omega)]
 by_cases c1 : a<c∧c<b∧b<d
 ·rw [if_pos c1.1, if_pos c1.2.1, if_pos c1.2.2, decide_eq_true (.inl c1)]
 ·have r2 : (if c<a then (if a<d then (some (decide (d<b))) else (some false)) else (some false))=some (decide ((a<c∧c<b∧b<d) ∨ (c<a∧a<d∧d<b))):=by
   by_cases c2 : c<a
   ·rw [if_pos c2]
    by_cases c3 : a<d
    ·rw [if_pos c3]; congr 1; rw [decide_eq_decide]; omega
    ·rw [if_neg c3, decide_eq_false (by omega)]
   ·rw [if_neg c2, decide_eq_false (by omega)]
  by_cases c2 : a<c
  ·rw [if_pos c2]
   by_cases c3 : c<b
   ·rw [if_pos c3, if_neg (by omega)]; exact r2
   ·rw [if_neg c3]; exact r2
  ·rw [if_neg c2]; exact r2
def Out (V : Nat→Prop) (E : Nat→Nat→Prop) (m:Nat) (g : Nat→Option (List Int × Bool)) : Prop :=
 (∃ t : List Int, t.length=m∧Ev g (t, true)∧FirstUp V E (sd t)) ∨ (Ev g ([], false)∧¬ ∃ c, TwoSides V E c)
theorem Out.map {V : Nat→Prop} {E : Nat→Nat→Prop} {m : Nat} {g g' : Nat→Option (List Int × Bool)} (h : Out V E m g) (k : ∀ r, Ev g r→Ev g' r) : Out V E m g' :=
 h.imp (fun ⟨t, h1, h2, h3⟩ => ⟨t, h1, k _ h2, h3⟩) (fun ⟨h1, h2⟩ => ⟨k _ h1, h2⟩)
structure Wait (V : Nat→Prop) (E : Nat→Nat→Prop) (m:Nat) (s0 : List Int) (r:Nat) (s Q : List Int) (hand : Nat→Prop) : Prop where
 sided : Sided V E m s0 r s
 grew : Grew s0 s
 row : ∀ x ∈ Q, ∃ i : Nat, x=(i:Int)∧i<m∧0≤sd s i∧sd s0 i<0
 shut : ∀ i, sd s0 i<0→0≤sd s i→(i:Int) ∈ Q ∨ hand i ∨ ∀ j, V j→E i j→sd s i+sd s j=1
 root : sd s r=0
theorem l0_out {V : Nat→Prop} {E : Nat→Nat→Prop} {m : Nat} (A : List (List Int)) (hA : A.length=m) (hm : m≤8) (d:Nat) : ∀ (j:Nat), j+d=m→Out V E m (fun q=>spec_l11Sides.l1 q A (List.replicate m (-1)) 0)→Out V E m (fun q=>spec_l11Sides.l0 q A (List.replicate j (-1)) (j:Int)):=by
 induction d with
 | zero =>
  intro j hj h
  obtain rfl : j=m := by omega
  exact h.map (fun out h1 => Ev.step (fun k=>spec_l11Sides.l0.eq_2 ..) (Ev.neg (by omega) h1))
 | succ d ih =>
  intro j hj h
  refine (ih (j+1) (by omega) h).map (fun out h1 => ?_)
  refine Ev.step (fun k=>spec_l11Sides.l0.eq_2 ..) (Ev.pos (by omega) (Ev.pos (by rw [List.length_replicate]; omega) ?_))
  rw [wrap_add1 (by omega), ← List.replicate_succ']
  exact h1
section
variable {V : Nat→Prop} {E : Nat→Nat→Prop} [∀ i j, Decidable (E i j)] {m : Nat} (A : List (List Int)) (lo hi : Nat→Int)
variable (hA : A.length=m) (hm : m≤8) (hV : ∀ i, V i ↔ i<m) (hR : ∀ i, i<m→rd_L2 A (i:Int)=[lo i, hi i]) (hC : ∀ i j, i<m→j<m→spec_CrossOk.f (lo i) (hi i) (lo j) (hi j)=some (decide (E i j))) (hS : ∀ i j, E i j→E j i)
include hA hm hV hR hC hS
theorem l3_out {s0 : List Int} {r : Nat} (hr : r<m) (hold : ∀ i j, 0≤sd s0 i→V j→E i j→0≤sd s0 j) (d:Nat) : ∀ (j:Nat) (s Q : List Int) (k:Nat), j+d=m→k<m→0≤sd s k→sd s0 k<0→Wait V E m s0 r s Q (fun i=>i=k)→(∀ x, x<j→V x→E k x→sd s k+sd s x=1)→Q.length≤m →
  (∀ s2 Q2, Wait V E m s0 r s2 Q2 (fun _=>False)→2 * bare s2+Q2.length≤2 * bare s+Q.length→Q2.length+bare s2≤m→Out V E m (fun q=>spec_l11Sides.l2 q A s2 (r:Int) Q2)) →
  Q.length+bare s≤m→Out V E m (fun q=>spec_l11Sides.l3 q A s (r:Int) Q (k:Int) (j:Int)):=by
 induction d with
 | zero =>
  intro j s Q k hj hk hks hk0 hW hall hQ hend hQb
  refine (hend s Q ⟨hW.sided, hW.grew, hW.row, fun i h1 h2 => ?_, hW.root⟩ (Nat.le_refl _) hQb).map (fun r h => Ev.step (fun k=>spec_l11Sides.l3.eq_2 ..) (Ev.neg (by omega) h))
  rcases hW.shut i h1 h2 with h3 | h3 | h3
  ·exact .inl h3
  ·subst h3
   exact .inr (.inr (fun x hx hxE => hall x (by have := (hV x).1 hx; omega) hx hxE))
  ·exact .inr (.inr h3)
 | succ d ih =>
  intro j s Q k hj hk hks hk0 hW hall hQ hend hQb
  have hjm : j<m := by omega
  have hlen := hW.sided.1
  have hkv := hW.sided.val hks
  have hjV : V j := (hV j).2 hjm
  have hkV : V k := (hV k).2 hk
  have hrV : V r := (hV r).2 hr
  have pre : ∀ (g : Nat→Bool→Option (List Int × Bool)) out, Ev (fun q=>g q (decide (E k j))) out→Ev (fun q=>if (0:Int)≤(k:Int) then (if (k:Int)<(A.length:Int) then (if 0<((rd_L2 A (k:Int)).length:Int) then (if 1<((rd_L2 A (k:Int)).length:Int) then (if (0:Int)≤(j:Int) then (if 0<((rd_L2 A (j:Int)).length:Int) then (if 1<((rd_L2 A (j:Int)).length:Int) then ((spec_CrossOk.f (rd (rd_L2 A (k:Int)) 0) (rd (rd_L2 A (k:Int)) 1) (rd (rd_L2 A (j:Int)) 0) (rd (rd_L2 A (j:Int)) 1)).bind fun t=>g q t) else none) else none) else none) else none) else none) else none) else none) out:=by
   intro g out h
   rw [hR k hk, hR j hjm]
   refine Ev.pos (by omega) (Ev.pos (by omega) (Ev.pos (by simp) (Ev.pos (by simp) (Ev.pos (by omega) (Ev.pos (by simp) (Ev.pos (by simp) ?_))))))
   have e : spec_CrossOk.f (rd [lo k, hi k] 0) (rd [lo k, hi k] 1) (rd [lo j, hi j] 0) (rd [lo j, hi j] 1)=some (decide (E k j)) := hC k j hk hjm
   exact Ev.bind0 e h
  have next : ∀ s2 Q2, (∀ out, Ev (fun q=>spec_l11Sides.l3 q A s2 (r:Int) Q2 (k:Int) ((j+1:Nat):Int)) out→Ev (fun q=>spec_l11Sides.l3 q A s (r:Int) Q (k:Int) (j:Int)) out)→0≤sd s2 k→Wait V E m s0 r s2 Q2 (fun i=>i=k)→(∀ x, x<j+1→V x→E k x→sd s2 k+sd s2 x=1)→Q2.length≤m→2 * bare s2+Q2.length≤2 * bare s+Q.length→Q2.length+bare s2≤m→Out V E m (fun q=>spec_l11Sides.l3 q A s (r:Int) Q (k:Int) (j:Int)):=by
   intro s2 Q2 hmap h1 h2 h3 h4 h5 h6
   exact (ih (j+1) s2 Q2 k (by omega) hk h1 hk0 h2 h3 h4 (fun s3 Q3 h7 h8 h9 => hend s3 Q3 h7 (by omega) h9) h6).map hmap
  by_cases hE : E k j
  ·have hj0 : sd s0 j<0:=by
    apply Decidable.byContradiction
    intro hx
    have := hold j k (by omega) hkV (hS _ _ hE)
    omega
   have tk : Tied V E r k (sd s k):=by
    rcases hW.sided.2.2 k hks with h1 | h1
    ·omega
    ·exact h1.2
   have tj : Tied V E r j (1 - sd s k) := tied_link tk hkV hjV hrV hkv hE
   by_cases hjs : 0≤sd s j
   ·have hjv := hW.sided.val hjs
    have tj2 : Tied V E r j (sd s j):=by
     rcases hW.sided.2.2 j hjs with h1 | h1
     ·omega
     ·exact h1.2
    by_cases heq : sd s j=sd s k
    ·refine .inr ⟨?_, tied_clash hjV tj2 tj hjv (by omega) (by omega)⟩
     refine Ev.step (fun k=>spec_l11Sides.l3.eq_2 ..) (Ev.pos (by omega) ?_)
     refine pre (fun q t => if t=true then (if (j:Int)<(s.length:Int) then (if (k:Int)<(s.length:Int) then (if (rd s (j:Int))=(rd s (k:Int)) then (some ((([] : List Int)), false)) else (if (rd s (j:Int))<0 then (if Q.length<17592186044416 then (spec_l11Sides.l3 q A (s.set (j:Int).toNat (wrap64 (1 - (rd s (k:Int))))) (r:Int) (Q ++ [(j:Int)]) (k:Int) (wrap64 ((j:Int)+1))) else (none)) else (spec_l11Sides.l3 q A s (r:Int) Q (k:Int) (wrap64 ((j:Int)+1))))) else (none)) else (none)) else (spec_l11Sides.l3 q A s (r:Int) Q (k:Int) (wrap64 ((j:Int)+1)))) _ ?_
     refine Ev.pos (decide_eq_true hE) (Ev.pos (by omega) (Ev.pos (by omega) ?_))
     rw [rd_sd' (by omega), rd_sd' (by omega)]
     exact Ev.pos heq (Ev.ret rfl)
    ·refine next s Q (fun out h => ?_) hks hW (fun x hx hxV hxE => ?_) hQ (Nat.le_refl _) hQb
     ·refine Ev.step (fun k=>spec_l11Sides.l3.eq_2 ..) (Ev.pos (by omega) ?_)
      refine pre (fun q t => if t=true then (if (j:Int)<(s.length:Int) then (if (k:Int)<(s.length:Int) then (if (rd s (j:Int))=(rd s (k:Int)) then (some ((([] : List Int)), false)) else (if (rd s (j:Int))<0 then (if Q.length<17592186044416 then (spec_l11Sides.l3 q A (s.set (j:Int).toNat (wrap64 (1 - (rd s (k:Int))))) (r:Int) (Q ++ [(j:Int)]) (k:Int) (wrap64 ((j:Int)+1))) else (none)) else (spec_l11Sides.l3 q A s (r:Int) Q (k:Int) (wrap64 ((j:Int)+1))))) else (none)) else (none)) else (spec_l11Sides.l3 q A s (r:Int) Q (k:Int) (wrap64 ((j:Int)+1)))) _ ?_
      refine Ev.pos (decide_eq_true hE) (Ev.pos (by omega) (Ev.pos (by omega) ?_))
      rw [rd_sd' (by omega), rd_sd' (by omega)]
      refine Ev.neg heq (Ev.neg (by omega) ?_)
      rw [wrap_add1 (by omega)]
      exact h
     ·by_cases e : x=j
      ·subst e; omega
      ·exact hall x (by omega) hxV hxE
   ·have hset := bare_set (s := s) (i := j) (a := 1 - sd s k) (by omega) (by omega) (by omega)
    have hgs : Grew s (s.set j (1 - sd s k)) := Grew.set (by omega) (by omega) _
    have ek : sd (s.set j (1 - sd s k)) k=sd s k := hgs.2 k hks
    have ej : sd (s.set j (1 - sd s k)) j=1 - sd s k := sd_set_eq (by omega) _
    refine next (s.set j (1 - sd s k)) (Q ++ [(j:Int)]) (fun out h => ?_) (by omega) ⟨hW.sided.set hjm hjV hj0 (by omega) tj, hW.grew.trans hgs, ?_, ?_, by rw [hgs.2 r (by rw [hW.root]; exact Int.le_refl 0)]; exact hW.root⟩ (fun x hx hxV hxE => ?_) (by rw [List.length_append, List.length_singleton]; omega) (by rw [List.length_append, List.length_singleton]; omega) (by rw [List.length_append, List.length_singleton]; omega)
    ·refine Ev.step (fun k=>spec_l11Sides.l3.eq_2 ..) (Ev.pos (by omega) ?_)
     refine pre (fun q t => if t=true then (if (j:Int)<(s.length:Int) then (if (k:Int)<(s.length:Int) then (if (rd s (j:Int))=(rd s (k:Int)) then (some ((([] : List Int)), false)) else (if (rd s (j:Int))<0 then (if Q.length<17592186044416 then (spec_l11Sides.l3 q A (s.set (j:Int).toNat (wrap64 (1 - (rd s (k:Int))))) (r:Int) (Q ++ [(j:Int)]) (k:Int) (wrap64 ((j:Int)+1))) else (none)) else (spec_l11Sides.l3 q A s (r:Int) Q (k:Int) (wrap64 ((j:Int)+1))))) else (none)) else (none)) else (spec_l11Sides.l3 q A s (r:Int) Q (k:Int) (wrap64 ((j:Int)+1)))) _ ?_
     refine Ev.pos (decide_eq_true hE) (Ev.pos (by omega) (Ev.pos (by omega) ?_))
     rw [rd_sd' (by omega), rd_sd' (by omega)]
     refine Ev.neg (by omega) (Ev.pos (by omega) (Ev.pos (by omega) ?_))
     rw [wrap_add1 (by omega), Int.toNat_natCast, wrap_id (by omega) (by omega)]
     exact h
    ·intro x hx
     rcases List.mem_append.1 hx with h1 | h1
     ·obtain ⟨i, h2, h3, h4, h5⟩:=hW.row x h1
      exact ⟨i, h2, h3, by rw [hgs.2 i h4]; exact h4, h5⟩
     ·exact ⟨j, List.mem_singleton.1 h1, hjm,by omega, hj0⟩
    ·intro i h1 h2
     by_cases e : i=j
     ·subst e
      exact .inl (List.mem_append.2 (.inr (List.mem_singleton.2 rfl)))
     ·rw [sd_set_ne e] at h2
      rcases hW.shut i h1 h2 with h3 | h3 | h3
      ·exact .inl (List.mem_append.2 (.inl h3))
      ·exact .inr (.inl h3)
      ·refine .inr (.inr (fun x hxV hxE => ?_))
       have h4 := h3 x hxV hxE
       have h5 := hW.sided.val h2
       rw [hgs.2 i h2, hgs.2 x (by omega)]
       exact h4
    ·by_cases e : x=j
     ·subst e; rw [ek, ej]; omega
     ·have h4 := hall x (by omega) hxV hxE
      rw [ek, hgs.2 x (by omega)]
      exact h4
  ·refine next s Q (fun out h => ?_) hks hW (fun x hx hxV hxE => ?_) hQ (Nat.le_refl _) hQb
   ·refine Ev.step (fun k=>spec_l11Sides.l3.eq_2 ..) (Ev.pos (by omega) ?_)
    refine pre (fun q t => if t=true then (if (j:Int)<(s.length:Int) then (if (k:Int)<(s.length:Int) then (if (rd s (j:Int))=(rd s (k:Int)) then (some ((([] : List Int)), false)) else (if (rd s (j:Int))<0 then (if Q.length<17592186044416 then (spec_l11Sides.l3 q A (s.set (j:Int).toNat (wrap64 (1 - (rd s (k:Int))))) (r:Int) (Q ++ [(j:Int)]) (k:Int) (wrap64 ((j:Int)+1))) else (none)) else (spec_l11Sides.l3 q A s (r:Int) Q (k:Int) (wrap64 ((j:Int)+1))))) else (none)) else (none)) else (spec_l11Sides.l3 q A s (r:Int) Q (k:Int) (wrap64 ((j:Int)+1)))) _ ?_
    refine Ev.neg (by simpa using hE) ?_
    rw [wrap_add1 (by omega)]
    exact h
   ·by_cases e : x=j
    ·subst e; exact absurd hxE hE
    ·exact hall x (by omega) hxV hxE
theorem l2_out {s0 : List Int} {r : Nat} (hr : r<m) (hold : ∀ i j, 0≤sd s0 i→V j→E i j→0≤sd s0 j) (hcont : ∀ t, Sided V E m s0 r t→Grew s0 t→Shut V E s0 t→sd t r=0→Out V E m (fun q=>spec_l11Sides.l1 q A t ((r+1:Nat):Int))) (N:Nat) : ∀ (s Q : List Int), 2 * bare s+Q.length≤N→Q.length+bare s≤m→Wait V E m s0 r s Q (fun _=>False)→Out V E m (fun q=>spec_l11Sides.l2 q A s (r:Int) Q):=by
 induction N using Nat.strongRecOn with
 | ind N ih =>
 intro s Q hN hQ hW
 match Q, hN, hQ, hW with
 | [], hN, hQ, hW =>
  refine (hcont s hW.sided hW.grew (fun i h1 h2 x hx hxE => ?_) hW.root).map (fun out h => Ev.step (fun k=>spec_l11Sides.l2.eq_2 ..) (Ev.neg (by simp) ?_))
  ·rcases hW.shut i h1 h2 with h3 | h3 | h3
   ·cases h3
   ·exact h3.elim
   ·exact h3 x hx hxE
  ·rw [wrap_add1 (by omega)]; exact h
 | x :: Q, hN, hQ, hW =>
  obtain ⟨i, rfl, him, hi1, hi0⟩:=hW.row x (List.mem_cons_self ..)
  simp only [List.length_cons] at hN hQ
  refine (l3_out (V := V) (E := E) A lo hi hA hm hV hR hC hS hr hold m 0 s Q i (by omega) him hi1 hi0 ⟨hW.sided, hW.grew, fun y hy => hW.row y (List.mem_cons_of_mem _ hy), fun a h1 h2 => ?_, hW.root⟩ (fun y hy => absurd hy (Nat.not_lt_zero y)) (by omega) (fun s2 Q2 h1 h2 h3 => ih (2 * bare s2+Q2.length) (by omega) s2 Q2 (Nat.le_refl _) h3 h1) (by omega)).map (fun out h => ?_)
  ·rcases hW.shut a h1 h2 with h3 | h3 | h3
   ·rcases List.mem_cons.1 h3 with h4 | h4
    ·exact .inr (.inl (by omega))
    ·exact .inl h4
   ·exact h3.elim
   ·exact .inr (.inr h3)
  ·refine Ev.step (fun k=>spec_l11Sides.l2.eq_2 ..) (Ev.pos (by simp only [List.length_cons]; omega) (Ev.pos (by simp only [List.length_cons]; omega) (Ev.pos (by simp only [List.length_cons]; omega) ?_)))
   exact h
theorem l1_out (d:Nat) : ∀ (j:Nat) (s : List Int), j+d=m→Heads V E m s j→Out V E m (fun q=>spec_l11Sides.l1 q A s (j:Int)):=by
 induction d with
 | zero =>
  intro j s hj h
  obtain rfl : j=m := by omega
  exact .inl ⟨s, h.len, Ev.step (fun k=>spec_l11Sides.l1.eq_2 ..) (Ev.neg (by omega) (Ev.ret rfl)), h.done (fun i hi => (hV i).1 hi)⟩
 | succ d ih =>
  intro j s hj h
  have hjm : j<m := by omega
  have hlen := h.len
  have hjV : V j := (hV j).2 hjm
  by_cases hc : 0≤sd s j
  ·refine (ih (j+1) s (by omega) (h.next (fun _=>hc))).map (fun out h1 => ?_)
   refine Ev.step (fun k=>spec_l11Sides.l1.eq_2 ..) (Ev.pos (by omega) (Ev.pos (by omega) (Ev.pos (by omega) ?_)))
   rw [rd_sd' (by omega)]
   refine Ev.pos hc ?_
   rw [wrap_add1 (by omega)]
   exact h1
  ·have hs : Sided V E m s j s := ⟨h.len, h.val, fun i hi => .inl hi⟩
   have hgs : Grew s (s.set j 0) := Grew.set (by omega) (by omega) 0
   have hb := bare_set (s := s) (i := j) (a := 0) (by omega) (by omega) (by omega)
   have hbl := bare_le s
   have hold : ∀ i x, 0≤sd s i→V x→E i x→0≤sd s x := fun i x h1 h2 h3 => by
    have h4 := h.shut i x h1 h2 h3
    have h5 := (h.val i h1).2
    omega
   refine (l2_out (V := V) (E := E) A lo hi hA hm hV hR hC hS hjm hold (fun t h1 h2 h3 h4 => ih (j+1) t (by omega) (h.step hjV (by omega) ⟨h1, h2, fun _=>h3, fun h=>by cases h⟩ h4)) (2 * bare (s.set j 0)+1) (s.set j 0) [(j:Int)] (Nat.le_refl _) (by simp only [List.length_singleton]; omega) ⟨hs.set hjm hjV (by omega) (.inl rfl) not_tied_two, hgs, fun x hx => ⟨j, List.mem_singleton.1 hx, hjm, by rw [sd_set_eq (by omega)]; exact Int.le_refl 0,by omega⟩, fun i h1 h2 => ?_, sd_set_eq (by omega) 0⟩).map (fun out h1 => ?_)
   ·by_cases e : i=j
    ·subst e; exact .inl (List.mem_singleton.2 rfl)
    ·rw [sd_set_ne e] at h2; omega
   ·refine Ev.step (fun k=>spec_l11Sides.l1.eq_2 ..) (Ev.pos (by omega) (Ev.pos (by omega) (Ev.pos (by omega) ?_)))
    rw [rd_sd' (by omega)]
    refine Ev.neg (by omega) ?_
    rw [Int.toNat_natCast]
    exact h1
theorem l11_out : Out V E m (fun q=>spec_l11Sides.f q A):=by
 unfold spec_l11Sides.f
 exact l0_out A hA hm m 0 (by omega) (l1_out A lo hi hA hm hV hR hC hS m 0 _ (by omega) (Heads.start ..))
end
def wordsTo (l : List Int) : Nat→List Nat
 | 0 => []
 | j+1 => if rd l (j:Int)=0 then wordsTo l j else wordsTo l j ++ [j]
theorem wordsTo_lt (l : List Int) : ∀ {j x : Nat}, x ∈ wordsTo l j→x<j∧rd l (x:Int)≠0
 | 0, x, h => by cases h
 | j+1, x, h => by
  unfold wordsTo at h
  split at h
  ·have := wordsTo_lt l h; exact ⟨by omega, this.2⟩
  ·rename_i z
   rcases List.mem_append.1 h with h | h
   ·have := wordsTo_lt l h; exact ⟨by omega, this.2⟩
   ·have := List.mem_singleton.1 h; subst this; exact ⟨by omega, z⟩
theorem wordsTo_mem (l : List Int) : ∀ {j x : Nat}, x<j→rd l (x:Int)≠0→x ∈ wordsTo l j
 | 0, x, h, _ => absurd h (Nat.not_lt_zero x)
 | j+1, x, h, z => by
  unfold wordsTo
  by_cases e : x=j
  ·subst e; rw [if_neg z]; exact List.mem_append.2 (.inr (List.mem_singleton.2 rfl))
  ·have := wordsTo_mem l (j := j) (x := x) (by omega) z
   split
   ·exact this
   ·exact List.mem_append.2 (.inl this)
theorem wordsTo_len (l : List Int) : ∀ j, (wordsTo l j).length≤j
 | 0 => Nat.le_refl _
 | j+1 => by
  have := wordsTo_len l j
  unfold wordsTo
  split
  ·omega
  ·rw [List.length_append, List.length_singleton]; omega
theorem wordsTo_sorted (l : List Int) : ∀ j, List.Pairwise (·<·) (wordsTo l j)
 | 0 => List.Pairwise.nil
 | j+1 => by
  unfold wordsTo
  split
  ·exact wordsTo_sorted l j
  ·rw [List.pairwise_append]
   refine ⟨wordsTo_sorted l j, List.pairwise_singleton _ _, fun a ha b hb => ?_⟩
   have := (wordsTo_lt l ha).1
   have := List.mem_singleton.1 hb
   omega
theorem sidesRow_map (l : List Int) (s : Nat→Int) : ∀ j, sidesRow l s j=(wordsTo l j).map s
 | 0 => rfl
 | j+1 => by
  have := sidesRow_map l s j
  unfold sidesRow wordsTo
  split
  ·exact this
  ·rw [this, List.map_append]; rfl
def arcOf (l : List Int) (w:Nat) : List Int := [min ((w:Int)+1) (rd l (w:Int)), max ((w:Int)+1) (rd l (w:Int))]
theorem l3Arcs_l0 (l : List Int) (ht : treeOk l=true) (d:Nat) : ∀ (j:Nat), j+d=l.length→Ev (fun k=>spec_l3Arcs.l0 k l ((wordsTo l j).map (arcOf l)) (j:Int)) ((wordsTo l l.length).map (arcOf l)):=by
 have hl := (treeOk_len ht).2
 induction d with
 | zero =>
  intro j hj
  obtain rfl : j=l.length := by omega
  exact Ev.step (fun k=>spec_l3Arcs.l0.eq_2 ..) (Ev.neg (by omega) (Ev.ret rfl))
 | succ d ih =>
  intro j hj
  have hjl : j<l.length := by omega
  have hb := treeOk_rd ht hjl
  have hw := wordsTo_len l j
  refine Ev.step (fun k=>spec_l3Arcs.l0.eq_2 ..) (Ev.pos (by omega) (Ev.pos (by omega) ?_))
  have := ih (j+1) (by omega)
  by_cases z : rd l (j:Int)=0
  ·have e : wordsTo l (j+1)=wordsTo l j := by show (if rd l (j:Int)=0 then _ else _)=_; rw [if_pos z]
   rw [e] at this
   refine Ev.neg (by omega) ?_
   rw [wrap_add1 (by omega)]
   exact this
  ·have e : wordsTo l (j+1)=wordsTo l j ++ [j] := by show (if rd l (j:Int)=0 then _ else _)=_; rw [if_neg z]
   rw [e, List.map_append] at this
   refine Ev.pos (by omega) (Ev.pos (by rw [List.length_map]; omega) ?_)
   rw [wrap_add1 (by omega), mn_min, mx_max]
   exact this
theorem spec_l3Arcs_ev (l : List Int) (ht : treeOk l=true) : Ev (fun k=>spec_l3Arcs.f k l) ((wordsTo l l.length).map (arcOf l)):=by
 unfold spec_l3Arcs.f
 exact l3Arcs_l0 l ht l.length 0 (by omega)
section
variable {l : List Int}
def wordAt (l : List Int) (k:Nat) : Nat := (wordsTo l l.length).getD k 0
@[reducible] def arcV (l : List Int) (k:Nat) : Prop := k<(wordsTo l l.length).length
@[reducible] def arcE (l : List Int) (k j:Nat) : Prop := sideE l (wordAt l k) (wordAt l j)
theorem wordAt_get {k : Nat} (h : arcV l k) : wordAt l k=(wordsTo l l.length)[k]:=by
 unfold wordAt; rw [List.getD_eq_getElem?_getD, List.getElem?_eq_getElem h]; rfl
theorem wordAt_V {k : Nat} (h : arcV l k) : sideV l (wordAt l k):=by
 rw [wordAt_get h]; exact wordsTo_lt l (List.getElem_mem ..)
theorem wordAt_mono {k j : Nat} (hk : arcV l k) (hj : arcV l j) (h : k<j) : wordAt l k<wordAt l j:=by
 rw [wordAt_get hk, wordAt_get hj]
 exact List.pairwise_iff_getElem.1 (wordsTo_sorted l l.length) k j hk hj h
theorem wordAt_inj {k j : Nat} (hk : arcV l k) (hj : arcV l j) (h : wordAt l k=wordAt l j) : k=j:=by
 rcases Nat.lt_trichotomy k j with h1 | h1 | h1
 ·have := wordAt_mono hk hj h1; omega
 ·exact h1
 ·have := wordAt_mono hj hk h1; omega
theorem wordAt_all {w : Nat} (h : sideV l w) : ∃ k, arcV l k∧wordAt l k=w:=by
 obtain ⟨k, hk, e⟩:=List.getElem_of_mem (wordsTo_mem l h.1 h.2)
 exact ⟨k, hk, by rw [wordAt_get hk, e]⟩
theorem two_arcs {c : Nat→Int} (h : TwoSides (sideV l) (sideE l) c) : TwoSides (arcV l) (arcE l) (fun k=>c (wordAt l k)) :=
 ⟨fun i hi => h.1 _ (wordAt_V hi), fun i j hi hj hE => h.2 _ _ (wordAt_V hi) (wordAt_V hj) hE⟩
theorem two_words {c : Nat→Int} (h : TwoSides (arcV l) (arcE l) c) : ∃ c2, TwoSides (sideV l) (sideE l) c2∧∀ k, arcV l k→c2 (wordAt l k)=c k:=by
 obtain ⟨c2, key⟩ : ∃ c2 : Nat→Int, ∀ k, arcV l k→c2 (wordAt l k)=c k:=by
  refine ⟨fun w=>open Classical in if hw : ∃ k, arcV l k∧wordAt l k=w then c hw.choose else 0, fun k hk => ?_⟩
  have hw : ∃ q, arcV l q∧wordAt l q=wordAt l k := ⟨k, hk, rfl⟩
  show (dite _ _ _:Int)=_
  rw [dif_pos hw, wordAt_inj hw.choose_spec.1 hk hw.choose_spec.2]
 refine ⟨c2, ⟨fun w hw => ?_, fun w x hw hx hE => ?_⟩, key⟩
 ·obtain ⟨k, hk, rfl⟩:=wordAt_all hw
  rw [key k hk]; exact h.1 k hk
 ·obtain ⟨k, hk, rfl⟩:=wordAt_all hw
  obtain ⟨j, hj, rfl⟩:=wordAt_all hx
  rw [key k hk, key j hj]; exact h.2 k j hk hj hE
theorem first_arcs {s : Nat→Int} (h : FirstUp (sideV l) (sideE l) s) : FirstUp (arcV l) (arcE l) (fun k=>s (wordAt l k)):=by
 refine ⟨two_arcs h.1, fun v hv => ?_⟩
 obtain ⟨r, hr, hle, h0, ht⟩:=h.2 _ (wordAt_V hv)
 obtain ⟨k, hk, rfl⟩:=wordAt_all hr
 refine ⟨k, hk, ?_, h0, fun c hc => ?_⟩
 ·apply Decidable.byContradiction
  intro hlt
  have := wordAt_mono hv hk (by omega)
  omega
 ·obtain ⟨c2, h1, h2⟩:=two_words hc
  have := ht c2 h1
  rw [h2 v hv, h2 k hk] at this
  exact this
theorem cross_pair {a b x y : Int} (h1 : 1≤a) (h2 : 1≤x) (h3 : a≠x) (h4 : 1≤b) (h5 : 1≤y) (h6 : b≠y) : spec_CrossOk.f (min a x) (max a x) (min b y) (max b y)=some (decide (crossP a x b y)):=by
 rw [cross_sorted (by omega) (by omega) (by omega) (by omega)]
 congr 1
 rw [decide_eq_decide]
 unfold crossP
 omega
theorem arc_cross (ht : treeOk l=true) (i j:Nat) (hi : arcV l i) (hj : arcV l j) : spec_CrossOk.f (min ((wordAt l i:Int)+1) (rd l (wordAt l i:Int))) (max ((wordAt l i:Int)+1) (rd l (wordAt l i:Int))) (min ((wordAt l j:Int)+1) (rd l (wordAt l j:Int))) (max ((wordAt l j:Int)+1) (rd l (wordAt l j:Int)))=some (decide (arcE l i j)):=by
 have h1 := wordAt_V hi
 have h2 := wordAt_V hj
 have b1 := treeOk_rd ht h1.1
 have b2 := treeOk_rd ht h2.1
 have n1 := treeOk_ne ht h1.1
 have n2 := treeOk_ne ht h2.1
 have z1 := h1.2
 have z2 := h2.2
 exact cross_pair (by omega) (by omega) (by omega) (by omega) (by omega) (by omega)
end
theorem sides_same (l : List Int) : ∃ r : List Int × Bool, r.1.length≤8∧Ev (fun k=>spec_SidesFor.f k l) r∧Ev (fun k=>impl_SidesFor.f k l) r∧(treeOk l=false→r=([], false)) ∧
  (treeOk l=true→(∃ s, r=(sidesRow l s l.length, true)∧FirstUp (sideV l) (sideE l) s) ∨ (r=([], false)∧¬ ∃ c, TwoSides (sideV l) (sideE l) c)):=by
 by_cases ht : treeOk l=true
 ·have hl := (treeOk_len ht).2
  have hw := wordsTo_len l l.length
  have hsp : ∀ out, Ev (fun q=>spec_l11Sides.f q ((wordsTo l l.length).map (arcOf l))) out→Ev (fun k=>spec_SidesFor.f k l) out:=by
   intro out h
   unfold spec_SidesFor.f
   exact Ev.bind (spec_TreeOk_ev l) (Ev.pos ht (Ev.bind (spec_l3Arcs_ev l ht) (Ev.bind h (Ev.ret rfl))))
  have ho : Out (arcV l) (arcE l) (wordsTo l l.length).length (fun q=>spec_l11Sides.f q ((wordsTo l l.length).map (arcOf l))):=by
   refine l11_out _ (fun k=>min ((wordAt l k:Int)+1) (rd l (wordAt l k:Int))) (fun k=>max ((wordAt l k:Int)+1) (rd l (wordAt l k:Int))) (by simp) (by omega) (fun i=>Iff.rfl) (fun i hi => ?_) (fun i j hi hj => arc_cross ht i j hi hj) (fun i j h => sideE_symm h)
   rw [rd1_nat, List.getD_eq_getElem?_getD, List.getElem?_map, List.getElem?_eq_getElem hi, wordAt_get hi]
   rfl
  rcases impl_SidesFor_out l ht with ⟨s, h1, h2⟩ | ⟨h1, h2⟩
  ·rcases ho with ⟨t, h3, h4, h5⟩ | ⟨h4, h5⟩
   ·have e : t=sidesRow l s l.length:=by
     rw [sidesRow_map]
     apply List.ext_getElem?
     intro k
     by_cases hk : arcV l k
     ·have h6 := firstUp_unique h5 (first_arcs h2) k hk
      have hkt : k<t.length := by rw [h3]; exact hk
      rw [List.getElem?_map, List.getElem?_eq_getElem hk, List.getElem?_eq_getElem hkt]
      have h7 : sd t k=t[k] := by unfold sd; rw [List.getD_eq_getElem?_getD, List.getElem?_eq_getElem hkt]; rfl
      rw [← h7, h6]
      show some (s (wordAt l k))=some (s _)
      rw [wordAt_get hk]
     ·have hk : (wordsTo l l.length).length≤k := Nat.not_lt.1 hk
      rw [List.getElem?_eq_none (by omega), List.getElem?_eq_none (by rw [List.length_map]; exact hk)]
    refine ⟨(sidesRow l s l.length, true), ?_, hsp _ (e ▸ h4), h1, fun h=>absurd (ht.symm.trans h) (by simp), fun _=>.inl ⟨s, rfl, h2⟩⟩
    have := sidesRow_len l s l.length
    show (sidesRow l s l.length).length≤8
    omega
   ·exact absurd ⟨_, two_arcs h2.1⟩ h5
  ·rcases ho with ⟨t, h3, h4, h5⟩ | ⟨h4, h5⟩
   ·obtain ⟨c, hc, _⟩:=two_words h5.1
    exact absurd ⟨c, hc⟩ h2
   ·exact ⟨([], false), by simp, hsp _ h4, h1, fun _=>rfl, fun _=>.inr ⟨rfl, h2⟩⟩
 ·have ht : treeOk l=false := Bool.eq_false_iff.mpr ht
  refine ⟨([], false), by simp, ?_, impl_SidesFor_not l ht, fun _=>rfl, fun h=>absurd (ht.symm.trans h) (by simp)⟩
  unfold spec_SidesFor.f
  exact Ev.bind (spec_TreeOk_ev l) (Ev.neg (by simp [ht]) (Ev.ret rfl))
theorem wordsTo_count {l : List Int} (ht : treeOk l=true) : (wordsTo l l.length).length=l.length - 1:=by
 have key : ∀ d j, j+d=l.length→(wordsTo l j).length+(l.count 0 - zerosFrom l j)=j∧zerosFrom l j≤l.count 0:=by
  intro d
  have : ∀ j, j≤l.length→(wordsTo l j).length+(l.count 0 - zerosFrom l j)=j∧zerosFrom l j≤l.count 0:=by
   intro j
   induction j with
   | zero => intro _; unfold zerosFrom wordsTo; rw [List.drop_zero]; simp
   | succ j ih =>
    intro hj
    have h1 := ih (by omega)
    have h2 := zerosFrom_succ l j (by omega)
    show (if rd l (j:Int)=0 then wordsTo l j else wordsTo l j ++ [j]).length+_=_∧_
    by_cases z : rd l (j:Int)=0
    ·rw [if_pos z] at h2 ⊢
     omega
    ·rw [if_neg z] at h2 ⊢
     rw [List.length_append, List.length_singleton]
     omega
  exact fun j hj => this j (by omega)
 have h := (key 0 l.length (by omega)).1
 have hz := treeOk_zero ht
 have e : zerosFrom l l.length=0 := by unfold zerosFrom; rw [List.drop_eq_nil_of_le (by omega)]; rfl
 omega
theorem wordsTo_take (l : List Int) : ∀ {j k : Nat}, j≤k→(wordsTo l k).take (wordsTo l j).length=wordsTo l j
 | j, 0, h => by
  obtain rfl : j=0 := by omega
  rfl
 | j, k+1, h => by
  by_cases e : j=k+1
  ·subst e; rw [List.take_length]
  ·have h1 := wordsTo_take l (j := j) (k := k) (by omega)
   have h2 : (wordsTo l j).length≤(wordsTo l k).length:=by
    have := congrArg List.length h1
    rw [List.length_take] at this
    omega
   show (if rd l (k:Int)=0 then wordsTo l k else wordsTo l k ++ [k]).take _=_
   split
   ·exact h1
   ·rw [List.take_append_of_le_length h2]; exact h1
theorem sidesRow_at {l : List Int} (s : Nat→Int) {k : Nat} (hk : k<l.length) (z : rd l (k:Int)≠0) : rd (sidesRow l s l.length) ((wordsTo l k).length:Int)=s k∧(wordsTo l k).length<(sidesRow l s l.length).length:=by
 have h1 := wordsTo_take l (j := k+1) (k := l.length) (by omega)
 have e : wordsTo l (k+1)=wordsTo l k ++ [k] := by show (if rd l (k:Int)=0 then _ else _)=_; rw [if_neg z]
 have h2 : (wordsTo l (k+1)).length≤(wordsTo l l.length).length:=by
  have := congrArg List.length h1
  rw [List.length_take] at this
  omega
 rw [e, List.length_append, List.length_singleton] at h2
 have h3 : (wordsTo l l.length)[(wordsTo l k).length]?=some k:=by
  have h4 : ((wordsTo l l.length).take (wordsTo l (k+1)).length)[(wordsTo l k).length]?=some k:=by
   rw [h1, e, List.getElem?_append_right (Nat.le_refl _), Nat.sub_self]; rfl
  rw [List.getElem?_take] at h4
  split at h4
  ·exact h4
  ·cases h4
 rw [sidesRow_map]
 refine ⟨?_, by rw [List.length_map]; omega⟩
 rw [rd_nat, List.getD_eq_getElem?_getD, List.getElem?_map, h3]
 rfl
theorem sidesRow_length {l : List Int} (ht : treeOk l=true) (s : Nat→Int) : (sidesRow l s l.length).length=l.length - 1 := by rw [sidesRow_map, List.length_map, wordsTo_count ht]
def pairSum (f : Nat→Nat→Int) (n:Nat) : Int := sumTo (fun i=>sumTo (fun k=>f i k) i) n
theorem pairSum_le {f g : Nat→Nat→Int} (n:Nat) (h : ∀ i k, k<i→i<n→f i k≤g i k) : pairSum f n≤pairSum g n :=
 sumTo_le n (fun i hi => sumTo_le i (fun k hk => h i k hk hi))
theorem pairSum_add (f g : Nat→Nat→Int) (n:Nat) : pairSum (fun i k => f i k+g i k) n=pairSum f n+pairSum g n:=by
 unfold pairSum
 rw [← sumTo_add]
 exact sumTo_congr n (fun i _ => sumTo_add _ _ i)
theorem sumTo_at (b:Nat) (c:Int) : ∀ n, sumTo (fun k=>if k=b then c else 0) n=if b<n then c else 0
 | 0 => rfl
 | n+1 => by
  show sumTo (fun k=>if k=b then c else 0) n+(if n=b then c else 0)=_
  rw [sumTo_at b c n]
  by_cases e : n=b
  ·subst e
   rw [if_neg (by omega), if_pos rfl, if_pos (by omega)]; omega
  ·rw [if_neg e]
   by_cases h : b<n
   ·rw [if_pos h, if_pos (by omega)]; omega
   ·rw [if_neg h, if_neg (by omega)]; omega
def onePair (a b i k:Nat) : Int := if i=a∧k=b then 1 else 0
theorem pairSum_one {a b n : Nat} (hb : b<a) (ha : a<n) : pairSum (onePair a b) n=1:=by
 have e : ∀ i, sumTo (fun k=>onePair a b i k) i=if i=a then 1 else 0:=by
  intro i
  by_cases h : i=a
  ·subst h
   rw [if_pos rfl, sumTo_congr i (g := fun k=>if k=b then 1 else 0) (fun k _ => by unfold onePair; simp), sumTo_at, if_pos hb]
  ·rw [if_neg h, sumTo_congr i (g := fun _=>0) (fun k _ => by unfold onePair; rw [if_neg (fun z=>h z.1)]), sumTo_zero]
 unfold pairSum
 rw [sumTo_congr n (fun i _ => e i), sumTo_at, if_pos ha]
theorem onePair_le {l : List Int} {a b : Nat} (h : sideE l a b) (i k:Nat) : onePair a b i k≤crossN l i k:=by
 unfold onePair
 by_cases c : i=a∧k=b
 ·obtain ⟨rfl, rfl⟩:=c
  rw [if_pos ⟨rfl, rfl⟩]
  unfold crossN
  rw [if_pos h]; omega
 ·rw [if_neg c]; exact (crossN_le l i k).1
theorem three_crossings {l : List Int} (ht : treeOk l=true) {a b c d e f : Nat} (h1 : b<a) (h2 : d<c) (h3 : f<e) (ha : a<l.length) (hc : c<l.length) (he : e<l.length) (x1 : sideE l a b) (x2 : sideE l c d) (x3 : sideE l e f)
  (n1 : ¬ (a=c∧b=d)) (n2 : ¬ (a=e∧b=f)) (n3 : ¬ (c=e∧d=f)) : 2<crossings l:=by
 have e0 : crossings l=pairSum (crossN l) l.length := by unfold crossings pairSum; rw [if_pos ht]
 have hs : pairSum (fun i k => (onePair a b i k+onePair c d i k)+onePair e f i k) l.length=3:=by
  rw [pairSum_add (fun i k => onePair a b i k+onePair c d i k), pairSum_add, pairSum_one h1 ha, pairSum_one h2 hc, pairSum_one h3 he]
  rfl
 have hle : pairSum (fun i k => (onePair a b i k+onePair c d i k)+onePair e f i k) l.length≤pairSum (crossN l) l.length:=by
  refine pairSum_le _ (fun i k _ _ => ?_)
  have p1 := onePair_le x1 i k
  have p2 := onePair_le x2 i k
  have p3 := onePair_le x3 i k
  unfold onePair at *
  by_cases q1 : i=a∧k=b
  ·rw [if_pos q1, if_neg (fun z=>n1 ⟨by omega,by omega⟩), if_neg (fun z=>n2 ⟨by omega,by omega⟩)]
   rw [if_pos q1] at p1; omega
  ·rw [if_neg q1]
   by_cases q2 : i=c∧k=d
   ·rw [if_pos q2, if_neg (fun z=>n3 ⟨by omega,by omega⟩)]
    rw [if_pos q2] at p2; omega
   ·rw [if_neg q2]; omega
 omega
theorem two_ways {l : List Int} (ht : treeOk l=true) (h : crossings l≤2) : ∃ c, TwoSides (sideV l) (sideE l) c:=by
 apply Classical.byContradiction
 intro hno
 -- an edge, the greater word first
 have order : ∀ {i j}, sideV l i→sideV l j→sideE l i j→∃ a b, b<a∧a<l.length∧sideE l a b∧((i=a∧j=b) ∨ (i=b∧j=a)):=by
  intro i j hi hj hE
  have hne : i≠j := (cross_apart hE).1
  by_cases hlt : j<i
  ·exact ⟨i, j, hlt, hi.1, hE, .inl ⟨rfl, rfl⟩⟩
  ·exact ⟨j, i,by omega, hj.1, sideE_symm hE, .inr ⟨rfl, rfl⟩⟩
 have bad : ∀ c : Nat→Int, (∀ i, c i=0 ∨ c i=1)→∃ a b, b<a∧a<l.length∧sideE l a b∧c a+c b≠1:=by
  intro c hc
  apply Classical.byContradiction
  intro hn
  refine hno ⟨c, fun i _ => hc i, fun i j hi hj hE => ?_⟩
  obtain ⟨a, b, h1, h2, h3, h4⟩:=order hi hj hE
  apply Classical.byContradiction
  intro hx
  refine hn ⟨a, b, h1, h2, h3, ?_⟩
  rcases h4 with ⟨rfl, rfl⟩ | ⟨rfl, rfl⟩
  ·exact hx
  ·omega
 obtain ⟨a, b, h1, h2, x1, _⟩:=bad (fun _=>0) (fun _=>.inl rfl)
 obtain ⟨c, d, h3, h4, x2, y2⟩:=bad (fun i=>if i=a then 1 else 0) (fun i=>by split <;> simp)
 have n1 : ¬ (a=c∧b=d):=by
  rintro ⟨rfl, rfl⟩
  apply y2
  show (if a=a then (1:Int) else 0)+(if b=a then 1 else 0)=1
  rw [if_pos rfl, if_neg (by omega)]; rfl
 -- a word of each, told apart
 have fin : ∀ c2 : Nat→Int, (∀ i, c2 i=0 ∨ c2 i=1)→c2 a+c2 b=1→c2 c+c2 d=1→False:=by
  intro c2 hc2 e1 e2
  obtain ⟨e, f, h5, h6, x3, y3⟩:=bad c2 hc2
  have := three_crossings ht h1 h3 h5 h2 h4 h6 x1 x2 x3 n1 (by rintro ⟨rfl, rfl⟩; exact y3 e1) (by rintro ⟨rfl, rfl⟩; exact y3 e2)
  omega
 by_cases q1 : c=a
 ·subst q1
  exact fin (fun i=>if i=c then 1 else 0) (fun i=>by split <;> simp) (by show (if c=c then (1:Int) else 0)+(if b=c then 1 else 0)=1; rw [if_pos rfl, if_neg (by omega)]; rfl) (by show (if c=c then (1:Int) else 0)+(if d=c then 1 else 0)=1; rw [if_pos rfl, if_neg (by omega)]; rfl)
 ·by_cases q2 : d=a
  ·subst q2
   exact fin (fun i=>if i=d then 1 else 0) (fun i=>by split <;> simp) (by show (if d=d then (1:Int) else 0)+(if b=d then 1 else 0)=1; rw [if_pos rfl, if_neg (by omega)]; rfl) (by show (if c=d then (1:Int) else 0)+(if d=d then 1 else 0)=1; rw [if_pos rfl, if_neg (by omega)]; rfl)
  ·by_cases q3 : c=b
   ·subst q3
    exact fin (fun i=>if i=c then 1 else 0) (fun i=>by split <;> simp) (by show (if a=c then (1:Int) else 0)+(if c=c then 1 else 0)=1; rw [if_pos rfl, if_neg (by omega)]; rfl) (by show (if c=c then (1:Int) else 0)+(if d=c then 1 else 0)=1; rw [if_pos rfl, if_neg (by omega)]; rfl)
   ·by_cases q4 : d=b
    ·subst q4
     exact fin (fun i=>if i=d then 1 else 0) (fun i=>by split <;> simp) (by show (if a=d then (1:Int) else 0)+(if d=d then 1 else 0)=1; rw [if_pos rfl, if_neg (by omega)]; rfl) (by show (if c=d then (1:Int) else 0)+(if d=d then 1 else 0)=1; rw [if_pos rfl, if_neg (by omega)]; rfl)
    ·refine fin (fun i=>if i=a ∨ i=c then 1 else 0) (fun i=>by split <;> simp) ?_ ?_
     ·show (if a=a ∨ a=c then (1:Int) else 0)+(if b=a ∨ b=c then 1 else 0)=1
      rw [if_pos (.inl rfl), if_neg (by omega)]; rfl
     ·show (if c=a ∨ c=c then (1:Int) else 0)+(if d=a ∨ d=c then 1 else 0)=1
      rw [if_pos (.inr rfl), if_neg (by omega)]; rfl
theorem none_cross {l : List Int} (ht : treeOk l=true) (h : crossings l=0) {s : Nat→Int} (hs : FirstUp (sideV l) (sideE l) s) {v : Nat} (hv : sideV l v) : s v=0:=by
 have hno : ∀ i j, sideV l i→sideV l j→¬ sideE l i j:=by
  intro i j hi hj hE
  have e0 : crossings l=pairSum (crossN l) l.length := by unfold crossings pairSum; rw [if_pos ht]
  have one : ∀ a b, b<a→a<l.length→sideE l a b→False:=by
   intro a b h1 h2 x
   have h3 : pairSum (onePair a b) l.length≤pairSum (crossN l) l.length := pairSum_le _ (fun i k _ _ => onePair_le x i k)
   rw [pairSum_one h1 h2] at h3
   omega
  have hne : i≠j := (cross_apart hE).1
  by_cases hlt : j<i
  ·exact one i j hlt hi.1 hE
  ·exact one j i (by omega) hj.1 (sideE_symm hE)
 rcases hs.1.1 v hv with h0 | h1
 ·exact h0
 ·obtain ⟨r, _, _, _, hT⟩:=hs.2 v hv
  have := (hT (fun _=>0) ⟨fun _ _ => .inl rfl, fun i j hi hj hE => absurd hE (hno i j hi hj)⟩).2 h1
  exact absurd this (by decide)
theorem impl_CrossingsOf_l1 (l : List Int) (hl : l.length≤8) (r:Int) {i : Nat} (hi : i<l.length) (b:Int) (hb : 0≤b∧b≤64)
  (next : Ev (fun q=>impl_CrossingsOf.l0 q l (b+sumTo (fun k=>crossN l i k) i) (l.length:Int) ((i+1:Nat):Int)) r) (d:Nat) : ∀ (k:Nat), k+d=i →
  Ev (fun q=>impl_CrossingsOf.l1 q l (b+sumTo (fun k=>crossN l i k) k) (i:Int) (l.length:Int) (i:Int) (i:Int) (k:Int)) r:=by
 induction d with
 | zero =>
  intro k hk
  refine Ev.step (fun k=>impl_CrossingsOf.l1.eq_2 ..) ?_
  rw [wrap_add1 (n := i) (by omega)]
  refine Ev.neg (by omega) ?_
  rw [show k=i by omega]; exact next
 | succ d ih =>
  intro k hk
  have hs := sumTo_bound (f := fun k=>crossN l i k) 1 k (fun k _ => ⟨(crossN_le l i k).1, (crossN_le l i k).2.1⟩)
  have hi2 := ih (k+1) (by omega)
  rw [sumTo] at hi2
  refine Ev.step (fun k=>impl_CrossingsOf.l1.eq_2 ..) ?_
  rw [wrap_add1 (n := k) (by omega), wrap_id (n := b+sumTo (fun k=>crossN l i k) k+1) (by omega) (by omega)]
  refine Ev.pos (by omega) (Ev.bind (impl_crosses_ev l hl hi (by omega)) (Ev.ite (fun c=>?_) (fun c=>?_)))
  ·have : crossN l i k=1 := by unfold crossN; rw [if_pos (of_decide_eq_true c)]
   rw [this, ← Int.add_assoc] at hi2; exact hi2
  ·have c' : ¬ crossAt l i k := fun h=>c (decide_eq_true h)
   have : crossN l i k=0 := by unfold crossN; rw [if_neg c']
   rw [this, Int.add_zero] at hi2; exact hi2
theorem impl_CrossingsOf_l0 (l : List Int) (hl : l.length≤8) (d:Nat) : ∀ (i:Nat), i+d=l.length →
  Ev (fun q=>impl_CrossingsOf.l0 q l (sumTo (fun i=>sumTo (fun k=>crossN l i k) i) i) (l.length:Int) (i:Int)) (sumTo (fun i=>sumTo (fun k=>crossN l i k) i) l.length):=by
 induction d with
 | zero =>
  intro i hi
  refine Ev.step (fun k=>impl_CrossingsOf.l0.eq_2 ..) ?_
  exact Ev.neg (by omega) (Ev.ret (by rw [show i=l.length by omega]))
 | succ d ih =>
  intro i hi
  have hs := sumTo_bound (f := fun i=>sumTo (fun k=>crossN l i k) i) 8 i (fun i hi => by
   have := sumTo_bound (f := fun k=>crossN l i k) 1 i (fun k _ => ⟨(crossN_le l i k).1, (crossN_le l i k).2.1⟩)
   omega)
  refine Ev.step (fun k=>impl_CrossingsOf.l0.eq_2 ..) ?_
  refine Ev.pos (by omega) ?_
  have := impl_CrossingsOf_l1 l hl _ (i := i) (by omega) (sumTo (fun i=>sumTo (fun k=>crossN l i k) i) i) (by omega) (ih (i+1) (by omega)) i 0 (by omega)
  simpa [sumTo] using this
theorem impl_CrossingsOf_ev (l : List Int) : Ev (fun k=>impl_CrossingsOf.f k l) (crossings l):=by
 unfold impl_CrossingsOf.f crossings
 refine Ev.bind (impl_TreeOk_ev l) (Ev.ite (fun h=>?_) (fun h=>?_))
 ·rw [if_pos h]
  have := impl_CrossingsOf_l0 l (treeOk_len h).2 l.length 0 (by omega)
  simpa [sumTo] using this
 ·rw [if_neg h]; exact Ev.ret rfl
theorem alive_ev : Ev (fun k=>laws_alive.f k) true:=by
 unfold laws_alive.f
 refine Ev.bind (impl_TreeOk_ev _) (Ev.pos (by decide +kernel) (Ev.bind (impl_TreeOk_ev _) (Ev.ret (by decide +kernel))))
theorem sameInts_l0 (l m : List Int) (hl : l.length≤1099511627776) (hm : l.length=m.length) (d:Nat) : ∀ (j:Nat), j+d=l.length→(∀ i, i<j→l[i]?=m[i]?)→Ev (fun k=>laws_sameInts.l0 k l m (j:Int)) (decide (l=m)):=by
 induction d with
 | zero =>
  intro j hj h
  refine Ev.step (fun k=>laws_sameInts.l0.eq_2 ..) ?_
  refine Ev.neg (by omega) (Ev.ret ?_)
  symm
  rw [decide_eq_true_iff]
  apply List.ext_getElem?
  intro i
  by_cases hi : i<j
  ·exact h i hi
  ·rw [List.getElem?_eq_none (by omega), List.getElem?_eq_none (by omega)]
 | succ d ih =>
  intro j hj h
  refine Ev.step (fun k=>laws_sameInts.l0.eq_2 ..) ?_
  refine Ev.pos (by omega) (Ev.pos (by omega) (Ev.pos (by omega) (Ev.ite ?_ ?_)))
  ·intro e
   rw [wrap_add1 (by omega)]
   refine ih (j+1) (by omega) ?_
   intro i hi
   by_cases e' : i=j
   ·subst e'
    rw [rd_nat, rd_nat] at e
    rw [List.getElem?_eq_getElem (by omega), List.getElem?_eq_getElem (by omega)]
    simpa [List.getD_eq_getElem?_getD, show i<l.length by omega, show i<m.length by omega] using e
   ·exact h i (by omega)
  ·intro e
   refine Ev.ret ?_
   symm
   rw [decide_eq_false_iff_not]
   intro e'; subst e'; exact e rfl
theorem sameInts_ev (l m : List Int) (hl : l.length≤1048576) : Ev (fun k=>laws_sameInts.f k l m) (decide (l=m)):=by
 unfold laws_sameInts.f
 refine Ev.ite (fun h=>?_) (fun h=>?_)
 ·exact sameInts_l0 l m (by omega) (by omega) l.length 0 (by omega) (fun i h => by omega)
 ·refine Ev.ret ?_
  symm
  rw [decide_eq_false_iff_not]
  intro e; subst e; exact h rfl
theorem sides_l1 {l : List Int} (ht : treeOk l=true) {s : Nat→Int} (hs : FirstUp (sideV l) (sideE l) s) {k : Nat} (hk : k<l.length) (zk : rd l (k:Int)≠0)
  (next : Ev (fun q=>laws_FnSidesFor.l0 q l (sidesRow l s l.length) (((wordsTo l k).length+1:Nat):Int) ((k+1:Nat):Int)) true) (d:Nat) : ∀ (j:Nat), j+d=k →
  Ev (fun q=>laws_FnSidesFor.l1 q l (sidesRow l s l.length) ((wordsTo l k).length:Int) (k:Int) ((wordsTo l j).length:Int) (j:Int)) true:=by
 have hl := (treeOk_len ht).2
 obtain ⟨ek, lk⟩:=sidesRow_at s hk zk
 have vk := hs.1.1 k ⟨hk, zk⟩
 have hwk := wordsTo_len l k
 induction d with
 | zero =>
  intro j hj
  refine Ev.step (fun q=>laws_FnSidesFor.l1.eq_2 ..) (Ev.neg (by omega) (Ev.pos (by omega) (Ev.pos (by omega) ?_)))
  rw [ek]
  refine Ev.neg (by omega) (Ev.neg (by omega) (Ev.bind (impl_CrossingsOf_ev l) (Ev.ite (fun h0=>Ev.pos (none_cross ht h0 hs ⟨hk, zk⟩) ?_) (fun h0=>?_))))
  ·rw [wrap_add1 (by omega), wrap_add1 (by omega)]; exact next
  ·rw [wrap_add1 (by omega), wrap_add1 (by omega)]; exact next
 | succ d ih =>
  intro j hj
  have hjl : j<l.length := by omega
  have hwj := wordsTo_len l j
  have nx := ih (j+1) (by omega)
  refine Ev.step (fun q=>laws_FnSidesFor.l1.eq_2 ..) (Ev.pos (by omega) (Ev.pos (by omega) (Ev.pos (by omega) (Ev.ite (fun z=>?_) (fun z=>?_)))))
  ·have e : wordsTo l (j+1)=wordsTo l j := by show (if rd l (j:Int)=0 then _ else _)=_; rw [if_pos z]
   rw [e] at nx
   rw [wrap_add1 (by omega)]
   exact nx
  ·have e : wordsTo l (j+1)=wordsTo l j ++ [j] := by show (if rd l (j:Int)=0 then _ else _)=_; rw [if_neg z]
   rw [e, List.length_append, List.length_singleton] at nx
   obtain ⟨ej, lj⟩:=sidesRow_at s hjl z
   refine Ev.pos (by omega) (Ev.pos (by omega) (Ev.pos (by omega) (Ev.pos (by omega) ?_)))
   rw [ek, ej]
   refine Ev.ite (fun heq=>Ev.pos (by omega) (Ev.pos (by omega) ?_)) (fun heq=>?_)
   ·rw [wrap_add1 (by omega), wrap_add1 (by omega), wrap_add1 (by omega)]
    have hx : ¬ crossP ((j:Int)+1) (rd l (j:Int)) ((k:Int)+1) (rd l (k:Int)):=by
     intro hE
     have := hs.1.2 j k ⟨hjl, z⟩ ⟨hk, zk⟩ hE
     omega
    refine Ev.bind (impl_CrossOk_ev ((j+1:Nat):Int) (rd l (j:Int)) ((k+1:Nat):Int) (rd l (k:Int))) (Ev.neg ?_ nx)
    rw [show ((j+1:Nat):Int)=(j:Int)+1 by omega, show ((k+1:Nat):Int)=(k:Int)+1 by omega]
    simpa using hx
   ·rw [wrap_add1 (by omega), wrap_add1 (by omega)]
    exact nx
theorem sides_l0 {l : List Int} (ht : treeOk l=true) {s : Nat→Int} (hs : FirstUp (sideV l) (sideE l) s) (d:Nat) : ∀ (k:Nat), k+d=l.length →
  Ev (fun q=>laws_FnSidesFor.l0 q l (sidesRow l s l.length) ((wordsTo l k).length:Int) (k:Int)) true:=by
 have hl := (treeOk_len ht).2
 induction d with
 | zero =>
  intro k hk
  exact Ev.step (fun q=>laws_FnSidesFor.l0.eq_2 ..) (Ev.neg (by omega) (Ev.ret rfl))
 | succ d ih =>
  intro k hk
  have hkl : k<l.length := by omega
  have nx := ih (k+1) (by omega)
  refine Ev.step (fun q=>laws_FnSidesFor.l0.eq_2 ..) (Ev.pos (by omega) (Ev.pos (by omega) (Ev.ite (fun z=>?_) (fun z=>?_))))
  ·have e : wordsTo l (k+1)=wordsTo l k := by show (if rd l (k:Int)=0 then _ else _)=_; rw [if_pos z]
   rw [e] at nx
   rw [wrap_add1 (by omega)]
   exact nx
  ·have e : wordsTo l (k+1)=wordsTo l k ++ [k] := by show (if rd l (k:Int)=0 then _ else _)=_; rw [if_neg z]
   rw [e, List.length_append, List.length_singleton] at nx
   exact sides_l1 ht hs hkl z nx k 0 (by omega)
theorem FnSidesFor : laws_FnSidesFor.Pure:=by
 intro l _ _ hb
 refine Ev.rounds (g := fun k=>laws_FnSidesFor.f k l) ?_
 obtain ⟨b, hB, hopen⟩:=l20Open_ev l hb
 unfold laws_FnSidesFor.f
 refine Ev.ite (fun h=>Ev.ret rfl) (fun h=>?_)
 obtain ⟨heads, p, hd⟩ : ∃ r p, Ev (fun k=>spec_l20Wild.f k b 0 9) (r, p):=by
  obtain ⟨r, p, h1, _⟩:=wild_ev hB 9 (by omega) (by omega)
  exact ⟨r, p, h1⟩
 have hdraw : Ev (fun k=>spec_DrawSidesFor.f k l) heads:=by
  unfold spec_DrawSidesFor.f
  exact Ev.bind0 hopen (Ev.bind hd (Ev.ret rfl))
 obtain ⟨⟨g, ok⟩, h8, hsp, him, hno, hyes⟩:=sides_same heads
 have h8 : g.length≤8 := h8
 have heq := sameInts_ev g g (by omega)
 rw [decide_eq_true rfl] at heq
 refine Ev.bind hdraw (Ev.bind him (Ev.bind hsp (Ev.bind heq (Ev.pos rfl ?_))))
 rw [show (ok != ok)=false by simp]
 refine Ev.step (fun q=>laws_FnSidesFor.j0.eq_2 ..) (Ev.neg (by simp) ?_)
 by_cases ht : treeOk heads=true
 ·have hl := treeOk_len ht
  rcases hyes ht with ⟨s, h1, h2⟩ | ⟨h1, h2⟩
  ·obtain ⟨rfl, rfl⟩:=Prod.mk.inj h1
   have hlen := sidesRow_length ht s
   refine Ev.pos rfl (Ev.pos ?_ ?_)
   ·show ((sidesRow heads s heads.length).length:Int)=_
    rw [wrap_id (by omega) (by omega)]; omega
   ·exact sides_l0 ht h2 heads.length 0 (by omega)
  ·obtain ⟨rfl, rfl⟩:=Prod.mk.inj h1
   have hc : 2<crossings heads:=by
    apply Decidable.byContradiction
    intro hx
    exact h2 (two_ways ht (by omega))
   exact Ev.neg (by simp) (Ev.pos (by simp) (Ev.bind (impl_TreeOk_ev heads) (Ev.pos ht (Ev.bind (impl_CrossingsOf_ev heads) (Ev.pos hc (Ev.bind alive_ev (Ev.ret rfl)))))))
 ·have ht : treeOk heads=false := Bool.eq_false_iff.mpr ht
  obtain ⟨rfl, rfl⟩:=Prod.mk.inj (hno ht)
  exact Ev.neg (by simp) (Ev.pos (by simp) (Ev.bind (impl_TreeOk_ev heads) (Ev.neg (by simp [ht]) (Ev.bind alive_ev (Ev.ret rfl)))))
end Go.Proofs.Ytnbdobkgbdncpaa.Pure
