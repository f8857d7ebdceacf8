/- The plain statement of FnDeskDo: the printed functions answer true for all arguments within the printed bounds; no other conditions. -/
import Derived.Test.YtbbhdgpiocojaaaLDx21
import Derived.ChangeSlices
import Derived.SizedLaws
import Derived.Test.YtbbhdgpiocojaaaUSized
namespace Go.Proofs.Ytbbhdgpiocojaaa.Pure
open Go.RowKit Go.Proofs.Ytbbhdgpiocojaaa.LD Go.Proofs.YtbbhdgpiocojaaaV.PrintWords Go.Proofs.YtbbhdgpiocojaaaV.PrintLast
set_option linter.unusedVariables false
set_option linter.unusedSimpArgs false
theorem o_ {P : Prop} (h : P := by omega) : P := h
theorem Ev.ret {α : Type} {r r' : α} (h : r=r') : Ev (fun _=>some r) r' := ⟨0, fun _ _ => by rw [h]⟩
theorem Ev.pos {α : Type} {c : Prop} [Decidable c] {g f : Nat→Option α} {r : α} (h : c) (k : Ev g r) : Ev (fun n=>if c then g n else f n) r:=by
 simpa only [if_pos h] using k
theorem Ev.neg {α : Type} {c : Prop} [Decidable c] {g f : Nat→Option α} {r : α} (h : ¬ c) (k : Ev f r) : Ev (fun n=>if c then g n else f n) r:=by
 simpa only [if_neg h] using k
theorem Ev.ite {α : Type} {c : Prop} [Decidable c] {g f : Nat→Option α} {r : α} (h : c→Ev g r) (k : ¬ c→Ev f r) : Ev (fun n=>if c then g n else f n) r:=by
 by_cases hc : c
 ·exact Ev.pos hc (h hc)
 ·exact Ev.neg hc (k hc)
theorem Ev.bind0 {α β : Type} {o : Option α} {f : Nat→α→Option β} {a : α} {r : β} (h : o=some a) (k : Ev (fun n=>f n a) r) : Ev (fun n=>o.bind (f n)) r:=by
 subst h; simpa only [Option.bind_some] using k
theorem Ev.eq {α : Type} {g : Nat→Option α} {r r' : α} (h : Ev g r) (e : r=r') : Ev g r' := e ▸ h
theorem wrap_id {n : Int} (h0 : -9223372036854775808≤n) (h1 : n<9223372036854775808) : wrap64 n=n:=by
 unfold wrap64; omega
theorem wrap_add1 {n : Nat} (h : n<1099511627776) : wrap64 ((n:Int)+1)=((n+1:Nat):Int):=by
 unfold wrap64; omega
theorem rd_nat (l : List Int) (j:Nat) : rd l (j:Int)=l.getD j 0 := by simp [rd]
open Go.ChangeShapes Go.WideShapes in
theorem _root_.Go.Proofs.Ytbbhdgpiocojaaa.PrintWords.sized_ints {H : Type} {enc : TypeId × Value→H} {P : Program} {W : World} {base : Nat} {spare : Nat→Bool} {held : Bool} {t e : TypeId} {k : IntKind} {a : Option Addr} {len cap : Nat} {d : DataW H} {ps : List MemPlace} {ts : List TypeId} {ds : List (DataW H)} {j : Nat}
  (hsz : (DataW.weightsEach P ts ds).all (·≤reachBytes)=true) (ht : ts[j]?=some t) (hd : ds[j]?=some d) (hu : P.underlying t=some (.slice e)) (he : P.underlying e=some (.int k)) (hc : P.cellsOf e=1) {B : Nat} (hB : P.bytesOf e=B)
  (h : DataW.Trod enc P W base spare held t (.slice a len cap) d ps) : len * B≤140737488351232 :=
 Go.Proofs.YtbbhdgpiocojaaaV.PrintWords.sized_ints hsz ht hd hu he hc hB h
theorem xor_small (a b:Int) (ha : 0≤a) (ha2 : a<4294967296) (hb : 0≤b) (hb2 : b<4294967296) : 0≤Go.bits .xor .i64 a b∧Go.bits .xor .i64 a b<4294967296:=by
 obtain ⟨x, rfl⟩ : ∃ x : Nat, a=x := ⟨a.toNat,by omega⟩;obtain ⟨y, rfl⟩ : ∃ y : Nat, b=y := ⟨b.toNat,by omega⟩;have h := Nat.xor_lt_two_pow (n := 32) (show x<2 ^ 32 by omega) (show y<2 ^ 32 by omega);have e : Go.bits .xor .i64 (x:Int) (y:Int)=((x ^^^ y:Nat):Int):=by
  have hx : x % 2 ^ 64=x := Nat.mod_eq_of_lt o_;have hy : y % 2 ^ 64=y := Nat.mod_eq_of_lt o_;(have hv : (BitVec.ofNat 64 x ^^^ BitVec.ofNat 64 y).toNat=x ^^^ y := by rw [BitVec.toNat_xor, BitVec.toNat_ofNat, BitVec.toNat_ofNat, hx, hy]);simp only [Go.bits, BitVec.ofInt_natCast, IntKind.bits];rw [i64_w];show wrap64 (((BitVec.ofNat 64 x ^^^ BitVec.ofNat 64 y).toNat:Nat):Int)=_;rw [hv];exact wrap_id (n := ((x ^^^ y:Nat):Int)) o_ o_
 rw [e];omega
structure Bytes (b : List Int) : Prop where
 small : ∀ x ∈ b, 0≤x∧x≤255
 len : b.length≤2000
theorem Bytes.rd_le {b : List Int} (h : Bytes b) (i:Int) : 0≤rd b i∧rd b i≤255:=by
 unfold rd;by_cases hi : i.toNat<b.length
 ·(have e : b.getD i.toNat 0=b[i.toNat] := by simp [hi]);rw [e]; exact h.small _ (List.getElem_mem hi)
 ·(have e : b.getD i.toNat 0=0 := by simp [Nat.le_of_not_lt hi]);rw [e]; omega
theorem pick_ev {b : List Int} (hb : Bytes b) (p n:Int) (h0 : 0≤p) (h1 : p≤1000000) (hn : 1≤n) (hn2 : n≤1000000) :
  ∃ v, 0≤v∧v<n∧Ev (fun k=>F88.f k b p n) (v, p+1):=by
 unfold F88.f;have hl := hb.len;rw [wrap_id (n := p+1) o_ o_];by_cases hz : b.length=0
 ·refine ⟨0,by omega,by omega, Ev.neg o_ (Ev.step (fun k=>F88.j0.eq_2 ..) (Ev.pos (by rw [hz]; rfl) (Ev.ret rfl)))⟩
 ·by_cases hp : p<b.length
  ·have hr := hb.rd_le p;refine ⟨Int.tmod (rd b p) n, Int.tmod_nonneg _ hr.1, Int.tmod_lt_of_pos _ o_, ?_⟩;refine Ev.neg o_ (Ev.step (fun k=>F88.j0.eq_2 ..) (Ev.neg (by simp; intro e; simp [e] at hz) ?_));rw [wrap_id (n := p+1 - 1) o_ o_, show p+1 - 1=p by omega, wrap_id (n := rd b p) o_ o_];exact Ev.pos hp (Ev.pos h0 (Ev.neg o_ (Ev.ret rfl)))
  ·(have e0 : wrap64 (p+1 - 1)=p := by rw [wrap_id o_ o_]; omega);have hm1 : 0≤Int.tmod p (b.length:Int)∧Int.tmod p (b.length:Int)<b.length := ⟨Int.tmod_nonneg _ h0, Int.tmod_lt_of_pos _ o_⟩;(have e1 : wrap64 (wrap64 (p * 7)+3)=p * 7+3 := by rw [wrap_id (n := p * 7) o_ o_, wrap_id o_ o_]);have hm2 : 0≤Int.tmod (p * 7+3) (b.length:Int)∧Int.tmod (p * 7+3) (b.length:Int)<b.length := ⟨Int.tmod_nonneg _ o_, Int.tmod_lt_of_pos _ o_⟩;have hr1 := hb.rd_le (Int.tmod p (b.length:Int));have hr2 := hb.rd_le (Int.tmod (p * 7+3) (b.length:Int));have hd : 0≤Int.tdiv p (b.length:Int)∧Int.tdiv p (b.length:Int)≤p:=by
    rw [Int.tdiv_eq_ediv_of_nonneg h0];exact ⟨Int.ediv_nonneg h0 o_, Int.ediv_le_self _ h0⟩
   obtain ⟨u1, hu1⟩ : ∃ u, u=rd b (Int.tmod p (b.length:Int)) := ⟨_, rfl⟩;obtain ⟨u2, hu2⟩ : ∃ u, u=rd b (Int.tmod (p * 7+3) (b.length:Int)) := ⟨_, rfl⟩;obtain ⟨q, hq⟩ : ∃ u, u=Int.tdiv p (b.length:Int) := ⟨_, rfl⟩;rw [← hu1] at hr1;rw [← hu2] at hr2;rw [← hq] at hd;obtain ⟨x, hx⟩ : ∃ x, x=wrap64 (wrap64 (wrap64 (wrap64 (wrap64 u1 * 131)+wrap64 (wrap64 u2 * 1117))+wrap64 (p * 29))+wrap64 (wrap64 q * 53)) := ⟨_, rfl⟩;have hxb : 0≤x∧x<4294967296:=by
    rw [hx, wrap_id (n := u1) o_ o_, wrap_id (n := u2) o_ o_, wrap_id (n := u1 * 131) o_ o_, wrap_id (n := u2 * 1117) o_ o_, wrap_id (n := u1 * 131+_) o_ o_, wrap_id (n := p * 29) o_ o_, wrap_id (n := q) o_ o_, wrap_id (n := q * 53) o_ o_, wrap_id (n := u1 * 131+u2 * 1117+p * 29) o_ o_, wrap_id o_ o_];omega
   have hy : 0≤wrap64 (Int.tdiv x 64)∧wrap64 (Int.tdiv x 64)<4294967296:=by
    rw [Int.tdiv_eq_ediv_of_nonneg hxb.1, wrap_id o_ o_];omega
   have hz2 := xor_small x (wrap64 (Int.tdiv x 64)) hxb.1 hxb.2 hy.1 hy.2;refine ⟨Int.tmod (Go.bits .xor .i64 x (wrap64 (Int.tdiv x 64))) n, Int.tmod_nonneg _ hz2.1, Int.tmod_lt_of_pos _ o_, ?_⟩;refine Ev.neg o_ (Ev.step (fun k=>F88.j0.eq_2 ..) (Ev.neg (by simp; intro e; simp [e] at hz) ?_));rw [e0, e1, ← hu1, ← hu2, ← hq, ← hx];exact Ev.neg hp (Ev.neg o_ (Ev.pos hm1.1 (Ev.pos hm1.2 (Ev.pos hm2.1 (Ev.pos hm2.2 (Ev.neg o_ (Ev.ret rfl)))))))
theorem l20Open_ev (l : List Int) (hb : ∀ x ∈ l, (Lit.int .u8 x).wf=true) : ∃ b, Bytes b∧F70.f l=some (b, 0):=by
 have hs : ∀ x ∈ l, 0≤x∧x≤255:=by
  intro x hx;have := hb x hx;simp [Lit.wf, IntKind.min, IntKind.max, IntKind.signed, IntKind.bits] at this;omega
 unfold F70.f;by_cases h : (l.length:Int) > 2000
 ·rw [if_pos h, if_pos o_];exact ⟨l.take 2000, ⟨fun x hx => hs x (List.mem_of_mem_take hx), by simp; omega⟩, rfl⟩
 ·rw [if_neg h];exact ⟨l, ⟨hs,by omega⟩, rfl⟩
theorem odd_ev {b : List Int} (hb : Bytes b) (p n:Int) (h0 : 0≤p) (h1 : p≤1000000) (hn : 1≤n) (hn2 : n≤1000000) :
  ∃ v, Ev (fun k=>F72.f k b p n) (v, p+1):=by
 obtain ⟨v, _, _, hv⟩:=pick_ev hb p n h0 h1 hn hn2;unfold F72.f;exact ⟨_, Ev.pos o_ (Ev.bind hv (Ev.ret rfl))⟩
theorem odd_evG {b : List Int} (hb : Bytes b) (p n:Int) (h0 : 0≤p) (h1 : p≤1000000) (hn : 0≤n) (hn2 : n≤1000000) :
  ∃ v q, Ev (fun k=>F72.f k b p n) (v, q)∧p≤q∧q≤p+1:=by
 by_cases h : 1≤n
 ·obtain ⟨v, hv⟩:=odd_ev hb p n h0 h1 h hn2;exact ⟨v, p+1, hv,by omega,by omega⟩
 ·unfold F72.f;exact ⟨false, p, Ev.neg o_ (Ev.ret rfl),by omega,by omega⟩
def Within (n:Int) (l : List Int) : Prop := ∀ x ∈ l, 1≤x∧x≤n
theorem Within.get {n : Int} {l : List Int} (h : Within n l) {i : Int} (h0 : 0≤i) (h1 : i<l.length) : 1≤rd l i∧rd l i≤n:=by
 (have e : rd l i=l[i.toNat]'o_ := by unfold rd; simp [show i.toNat<l.length by omega]);rw [e]; exact h _ (List.getElem_mem _)
theorem order_next (x5 : List Int) (m x7:Int) (h7 : 1≤x7) (hw : Within (x7 - 1) x5) (h0 : 0≤m) (h1 : m≤x5.length) :
  Within x7 (([] ++ x5.take m.toNat ++ [x7]) ++ x5.drop m.toNat)∧(([] ++ x5.take m.toNat ++ [x7]) ++ x5.drop m.toNat).length=x5.length+1:=by
 constructor
 ·intro x hx;simp only [List.nil_append, List.append_assoc, List.mem_append, List.mem_singleton] at hx;rcases hx with hx | hx | hx
  ·have := hw x (List.mem_of_mem_take hx); omega
  ·omega
  ·have := hw x (List.mem_of_mem_drop hx); omega
 ·simp; omega
theorem order_l0 {b : List Int} (hb : Bytes b) (n keep:Int) (hn : n≤100) (d:Nat) : ∀ (x5 : List Int) (x7 p:Int), x7+d=n+1→1≤x7→(x5.length:Int)=x7 - 1→Within (x7 - 1) x5→0≤p→p≤1000+2 * x7 →
  ∃ r p', Ev (fun k=>F113.l0 k n x5 keep x7 b p) (r, p')∧(r.length:Int)=n∧Within n r∧p≤p'∧p'≤p+2 * d:=by
 induction d with
 | zero =>
  intro x5 x7 p h7 h1 hl hw hp hp2;refine ⟨x5, p, Ev.step (fun k=>F113.l0.eq_2 ..) (Ev.neg o_ (Ev.ret rfl)),by omega, ?_,by omega,by omega⟩;intro x hx;have := hw x hx;omega
 | succ d ih =>
  intro x5 x7 p h7 h1 hl hw hp hp2;have put : ∀ (m p':Int), 0≤m→m≤x5.length→p≤p'→p'≤p+2→∃ r p'', Ev (fun k=>F113.l0 k n (([] ++ x5.take m.toNat ++ [x7]) ++ x5.drop m.toNat) keep (x7+1) b p') (r, p'')∧(r.length:Int)=n∧Within n r∧p≤p''∧p''≤p+2 * ((d+1:Nat):Int):=by
   intro m p' hm0 hm1 hpp hpp2;obtain ⟨hw', hl'⟩:=order_next x5 m x7 h1 hw hm0 hm1;obtain ⟨r, p'', h1, h2, h3, h4, h5⟩:=ih (([] ++ x5.take m.toNat ++ [x7]) ++ x5.drop m.toNat) (x7+1) p' o_ o_ o_ (by rw [show x7+1 - 1=x7 by omega]; exact hw') o_ o_;exact ⟨r, p'', h1, h2, h3,by omega,by omega⟩
  have hlen : ∀ m : Int, 0≤m→m≤x5.length→(x5.take m.toNat).length≤200∧(x5.drop m.toNat).length≤200:=by
   intro m _ _; simp; omega
  by_cases hk : keep=0
  ·obtain ⟨v, hv0, hv1, hv⟩:=pick_ev hb p x7 hp o_ h1 o_;obtain ⟨r, p'', h, hrest⟩:=put v (p+1) hv0 o_ o_ o_;have hlen' := hlen v hv0 o_;refine ⟨r, p'', Ev.step (fun k=>F113.l0.eq_2 ..) (Ev.pos o_ (Ev.pos hk (Ev.bind hv ?_))), hrest⟩;simp only [Option.bind_some];rw [wrap_id (n := x7+1) o_ o_];refine Ev.pos hv0 (Ev.pos (show v≤x5.length by omega) (Ev.pos ?_ (Ev.pos ?_ (Ev.pos ?_ h))))
   ·simp only [List.length_nil]; omega
   ·simp only [List.length_append, List.length_nil]; omega
   ·simp only [List.length_append, List.length_nil, List.length_singleton]; omega
  ·obtain ⟨u, hu0, hu1, hu⟩:=pick_ev hb p 3 hp o_ o_ o_;by_cases hu3 : u=0
   ·obtain ⟨v, hv0, hv1, hv⟩:=pick_ev hb (p+1) x7 o_ o_ h1 o_;obtain ⟨r, p'', h, hrest⟩:=put v (p+1+1) hv0 o_ o_ o_;have hlen' := hlen v hv0 o_;refine ⟨r, p'', Ev.step (fun k=>F113.l0.eq_2 ..) (Ev.pos o_ (Ev.neg hk (Ev.bind hu (Ev.pos hu3 (Ev.bind hv ?_))))), hrest⟩;simp only [Option.bind_some];rw [wrap_id (n := x7+1) o_ o_];refine Ev.pos hv0 (Ev.pos (show v≤x5.length by omega) (Ev.pos ?_ (Ev.pos ?_ (Ev.pos ?_ h))))
    ·simp only [List.length_nil]; omega
    ·simp only [List.length_append, List.length_nil]; omega
    ·simp only [List.length_append, List.length_nil, List.length_singleton]; omega
   ·obtain ⟨r, p'', h, hrest⟩:=put (x5.length:Int) (p+1) o_ o_ o_ o_;have hlen' := hlen (x5.length:Int) o_ o_;refine ⟨r, p'', Ev.step (fun k=>F113.l0.eq_2 ..) (Ev.pos o_ (Ev.neg hk (Ev.bind hu (Ev.neg hu3 ?_)))), hrest⟩;simp only [Option.bind_some];rw [wrap_id (n := x7+1) o_ o_];refine Ev.pos o_ (Ev.pos o_ (Ev.pos ?_ (Ev.pos ?_ (Ev.pos ?_ h))))
    ·simp only [List.length_nil]; omega
    ·simp only [List.length_append, List.length_nil]; omega
    ·simp only [List.length_append, List.length_nil, List.length_singleton]; omega
theorem order_ev {b : List Int} (hb : Bytes b) (p n:Int) (hp : 0≤p) (hp2 : p≤1000) (h0 : 0≤n) (hn : n≤100) :
  ∃ r p', Ev (fun k=>F113.f k b p n) (r, p')∧(r.length:Int)=n∧Within n r∧p≤p'∧p'≤p+1+2 * n:=by
 obtain ⟨v, hv0, hv1, hv⟩:=pick_ev hb p 2 hp o_ o_ o_;obtain ⟨r, p', h, h1, h2, h3, h4⟩:=order_l0 hb n v hn n.toNat [] 1 (p+1) o_ o_ (by simp) (by intro x hx; simp at hx) o_ o_;unfold F113.f;exact ⟨r, p', Ev.bind hv h, h1, h2,by omega,by omega⟩
theorem tree_l0 {b : List Int} (hb : Bytes b) (n many near:Int) (ord : List Int) (hm : 1≤many) (hm2 : many≤8) (hn : 0≤n) (hn2 : n≤1000) (hol : (ord.length:Int)=many) (how : Within many ord) (d:Nat) :
  ∀ (heads : List Int) (x9 p:Int), x9+d=many→1≤x9→(heads.length:Int)=many→0≤p→p≤1500+2 * x9 →
  ∃ r p', Ev (fun k=>F112.l0 k n many ord heads near x9 b p) (r, p')∧r.length≤9∧p≤p'∧p'≤p+2 * d+3:=by
 induction d with
 | zero =>
  intro heads x9 p h9 h1 hl hp hp2;obtain ⟨o, q, ho, hq1, hq2⟩:=odd_evG hb p n hp o_ hn o_;by_cases ho1 : o=true
  ·obtain ⟨u, hu0, hu1, hu⟩:=pick_ev hb (q) 4 o_ o_ o_ o_;by_cases e0 : u=0
   ·exact ⟨[], q+1, Ev.step (fun k=>F112.l0.eq_2 ..) (Ev.neg o_ (Ev.bind ho (Ev.pos ho1 (Ev.bind hu (Ev.pos e0 (Ev.ret rfl)))))), by simp,by omega,by omega⟩
   ·by_cases e1 : u=1
    ·exact ⟨[2, 1, 0], q+1, Ev.step (fun k=>F112.l0.eq_2 ..) (Ev.neg o_ (Ev.bind ho (Ev.pos ho1 (Ev.bind hu (Ev.neg e0 (Ev.pos e1 (Ev.ret rfl))))))), by simp,by omega,by omega⟩
    ·by_cases e2 : u=2
     ·obtain ⟨v, hv0, hv1, hv⟩:=pick_ev hb (q+1) many o_ o_ o_ o_;refine ⟨heads.set v.toNat 0 ++ [0], q+1+1, Ev.step (fun k=>F112.l0.eq_2 ..) (Ev.neg o_ (Ev.bind ho (Ev.pos ho1 (Ev.bind hu (Ev.neg e0 (Ev.neg e1 (Ev.pos e2 (Ev.bind hv (Ev.pos hv0 (Ev.pos o_ ?_)))))))))), by simp; omega,by omega,by omega⟩;simp only [Option.bind_some];exact Ev.pos (by rw [List.length_set]; omega) (Ev.ret rfl)
     ·obtain ⟨v, hv0, hv1, hv⟩:=pick_ev hb (q+1) 3 o_ o_ o_ o_;refine ⟨heads.set 0 (rd [1, wrap64 (many+1), -1] v), q+1+1, Ev.step (fun k=>F112.l0.eq_2 ..) (Ev.neg o_ (Ev.bind ho (Ev.pos ho1 (Ev.bind hu (Ev.neg e0 (Ev.neg e1 (Ev.neg e2 ?_))))))), by simp; omega,by omega,by omega⟩;simp only [Option.bind_some];exact Ev.bind hv (Ev.pos hv0 (Ev.pos (show v<(3:Int) by omega) (Ev.pos o_ (Ev.ret rfl))))
  ·exact ⟨heads, q, Ev.step (fun k=>F112.l0.eq_2 ..) (Ev.neg o_ (Ev.bind ho (Ev.neg ho1 (Ev.ret rfl)))),by omega,by omega,by omega⟩
 | succ d ih =>
  intro heads x9 p h9 h1 hl hp hp2;obtain ⟨v, hv0, hv1, hv⟩:=pick_ev hb p x9 hp o_ h1 o_;have hr9 := how.get (i := x9) o_ o_;have next : ∀ (y p':Int), p≤p'→p'≤p+2→∃ r p'', Ev (fun k=>F112.l0 k n many ord (heads.set (rd ord x9 - 1).toNat y) near (x9+1) b p') (r, p'')∧r.length≤9∧p≤p''∧p''≤p+2 * ((d+1:Nat):Int)+3:=by
   intro y p' hpp hpp2;obtain ⟨r, p'', h1, h2, h3, h4⟩:=ih (heads.set (rd ord x9 - 1).toNat y) (x9+1) p' o_ o_ (by simpa using hl) o_ o_;exact ⟨r, p'', h1, h2,by omega,by omega⟩
  have e1 : wrap64 (x9+1)=x9+1 := wrap_id o_ o_;have e2 : wrap64 (x9 - 1)=x9 - 1 := wrap_id o_ o_;have e3 : wrap64 (rd ord x9 - 1)=rd ord x9 - 1 := wrap_id o_ o_;by_cases hnr : near=1
  ·obtain ⟨u, hu0, hu1, hu⟩:=pick_ev hb (p+1) 2 o_ o_ o_ o_;by_cases hu2 : u=0
   ·obtain ⟨r, p'', h, hrest⟩:=next (rd ord (x9 - 1)) (p+1+1) o_ o_;refine ⟨r, p'', Ev.step (fun k=>F112.l0.eq_2 ..) ?_, hrest⟩;rw [e1, e2, e3];exact Ev.pos o_ (Ev.bind hv (Ev.pos hnr (Ev.bind hu (Ev.pos hu2 (Ev.pos o_ (Ev.pos o_ (Ev.pos o_ (Ev.pos o_ (Ev.pos o_ (Ev.pos o_ h))))))))))
   ·obtain ⟨r, p'', h, hrest⟩:=next (rd ord v) (p+1+1) o_ o_;refine ⟨r, p'', Ev.step (fun k=>F112.l0.eq_2 ..) ?_, hrest⟩;rw [e1, e2, e3];exact Ev.pos o_ (Ev.bind hv (Ev.pos hnr (Ev.bind hu (Ev.neg hu2 (Ev.pos o_ (Ev.pos o_ (Ev.pos o_ (Ev.pos o_ (Ev.pos o_ (Ev.pos o_ h))))))))))
  ·obtain ⟨r, p'', h, hrest⟩:=next (rd ord v) (p+1) o_ o_;refine ⟨r, p'', Ev.step (fun k=>F112.l0.eq_2 ..) ?_, hrest⟩;rw [e1, e2, e3];exact Ev.pos o_ (Ev.bind hv (Ev.neg hnr (Ev.pos o_ (Ev.pos o_ (Ev.pos o_ (Ev.pos o_ (Ev.pos o_ (Ev.pos o_ h))))))))
theorem tree_ev {b : List Int} (hb : Bytes b) (p n:Int) (hp : 0≤p) (hp2 : p≤500) (hn : 0≤n) (hn2 : n≤1000) :
  ∃ r p', Ev (fun k=>F112.f k b p n) (r, p')∧r.length≤9∧p≤p'∧p'≤p+60:=by
 obtain ⟨v, hv0, hv1, hv⟩:=pick_ev hb p 7 hp o_ o_ o_;have e : wrap64 (1+v)=1+v := wrap_id o_ o_;obtain ⟨o, p1, ho, hol, how,hp1,hp1'⟩:=order_ev hb (p+1) (1+v) o_ o_ o_ o_;obtain ⟨u, hu0, hu1, hu⟩:=pick_ev hb p1 2 o_ o_ o_ o_;obtain ⟨r, p', h, h1, h2, h3⟩:=tree_l0 hb n (1+v) u o o_ o_ hn hn2 hol how v.toNat (List.replicate (1+v).toNat 0) 1 (p1+1) o_ o_ (by simp; omega) o_ o_;unfold F112.f;refine ⟨r, p', Ev.bind hv ?_, h1,by omega,by omega⟩;rw [e];exact Ev.bind ho (Ev.pos o_ (Ev.pos o_ (Ev.bind hu h)))
theorem fill_ev {b : List Int} (hb : Bytes b) (n:Nat) (hn : n≤8) (s:Nat) : ∀ (heads : List Int) (lo hi hd p:Int), heads.length=n→1≤lo→lo≤hi→hi≤n→hi - lo+1≤s→0≤p→p+2 * (hi - lo+1)≤5001 →
  ∃ r p', Ev (fun k=>F119.f k b p heads lo hi hd) (p', r)∧r.length=n∧p≤p'∧p'≤p+2 * (hi - lo+1) - 1:=by
 induction s with
 | zero => intro heads lo hi hd p hl h1 h2 h3 h4; omega
 | succ s ih =>
  intro heads lo hi hd p hl h1 h2 h3 h4 hp hp2;have right : ∀ (d:Nat) (root:Int), lo≤root→∀ (hs : List Int) (from_ q:Int), from_+d=hi+1→root<from_→hs.length=n→0≤q→q+2 * (hi+1 - from_)≤5000 →
    ∃ r p', Ev (fun k=>F119.l1 k hs hi root from_ b q) (p', r)∧r.length=n∧q≤p'∧p'≤q+2 * (hi+1 - from_):=by
   intro d
   induction d using Nat.strongRecOn with
   | _ d ihd =>
    intro root hroot hs from_ q hd2 hrf hhl hq hq2;by_cases hf : from_≤hi
    ·(have e1 : wrap64 (wrap64 (hi - from_)+1)=hi - from_+1 := by rw [wrap_id (n := hi - from_) o_ o_, wrap_id o_ o_]);obtain ⟨v, hv0, hv1, hv⟩:=pick_ev hb q (hi - from_+1) hq o_ o_ o_;have e2 : wrap64 (from_+v)=from_+v := wrap_id o_ o_;have e3 : wrap64 (from_+v+1)=from_+v+1 := wrap_id o_ o_;obtain ⟨r1, p1, hr1, hl1,hp1,hp1'⟩:=ih hs from_ (from_+v) root (q+1) hhl o_ o_ o_ o_ o_ o_;obtain ⟨r2, p2, hr2, hl2,hp2,hp2'⟩:=ihd (d - v.toNat - 1) o_ root hroot r1 (from_+v+1) p1 o_ o_ hl1 o_ o_;refine ⟨r2, p2, Ev.step (fun k=>F119.l1.eq_2 ..) (Ev.pos hf ?_), hl2,by omega,by omega⟩;rw [e1];exact Ev.bind hv (by simp only []; rw [e2, e3]; exact Ev.bind hr1 hr2)
    ·exact ⟨hs, q, Ev.step (fun k=>F119.l1.eq_2 ..) (Ev.neg hf (Ev.ret rfl)), hhl,by omega,by omega⟩
  have left : ∀ (d:Nat) (root:Int), lo≤root→root≤hi→∀ (hs : List Int) (from_ q:Int), from_+d=root→lo≤from_→hs.length=n→0≤q→q+2 * (hi - from_)≤5000 →
    ∃ r p', Ev (fun k=>F119.l0 k hs hi root from_ b q) (p', r)∧r.length=n∧q≤p'∧p'≤q+2 * (hi - from_):=by
   intro d
   induction d using Nat.strongRecOn with
   | _ d ihd =>
    intro root hroot hroot2 hs from_ q hd2 hlf hhl hq hq2;by_cases hf : from_<root
    ·have e1 : wrap64 (root - from_)=root - from_ := wrap_id o_ o_;obtain ⟨v, hv0, hv1, hv⟩:=pick_ev hb q (root - from_) hq o_ o_ o_;have e2 : wrap64 (from_+v)=from_+v := wrap_id o_ o_;have e3 : wrap64 (from_+v+1)=from_+v+1 := wrap_id o_ o_;obtain ⟨r1, p1, hr1, hl1,hp1,hp1'⟩:=ih hs from_ (from_+v) root (q+1) hhl o_ o_ o_ o_ o_ o_;obtain ⟨r2, p2, hr2, hl2,hp2,hp2'⟩:=ihd (d - v.toNat - 1) o_ root hroot hroot2 r1 (from_+v+1) p1 o_ o_ hl1 o_ o_;refine ⟨r2, p2, Ev.step (fun k=>F119.l0.eq_2 ..) (Ev.pos hf ?_), hl2,by omega,by omega⟩;rw [e1];exact Ev.bind hv (by simp only []; rw [e2, e3]; exact Ev.bind hr1 hr2)
    ·obtain ⟨r1, p1, hr1, hl1,hp1,hp1'⟩:=right (hi - root).toNat root hroot hs (root+1) q o_ o_ hhl hq o_;refine ⟨r1, p1, Ev.step (fun k=>F119.l0.eq_2 ..) (Ev.neg hf ?_), hl1,by omega,by omega⟩;rw [wrap_id (n := root+1) o_ o_];exact hr1
  (have e1 : wrap64 (wrap64 (hi - lo)+1)=hi - lo+1 := by rw [wrap_id (n := hi - lo) o_ o_, wrap_id o_ o_]);obtain ⟨v, hv0, hv1, hv⟩:=pick_ev hb p (hi - lo+1) hp o_ o_ o_;have e2 : wrap64 (lo+v)=lo+v := wrap_id o_ o_;have e3 : wrap64 (lo+v - 1)=lo+v - 1 := wrap_id o_ o_;obtain ⟨r1, p1, hr1, hl1,hp1,hp1'⟩:=left v.toNat (lo+v) o_ o_ (heads.set (lo+v - 1).toNat hd) lo (p+1) o_ o_ (by simpa using hl) o_ o_;refine ⟨r1, p1, Ev.step (fun k=>F119.f.eq_2 ..) (Ev.neg o_ ?_), hl1,by omega,by omega⟩;rw [e1];exact Ev.bind hv (by simp only []; rw [e2, e3]; exact Ev.pos o_ (Ev.pos o_ hr1))
theorem flat_ev {b : List Int} (hb : Bytes b) (p n:Int) (hp : 0≤p) (hp2 : p≤200) (hn : 0≤n) (hn2 : n≤1000) :
  ∃ r p', Ev (fun k=>F89.f k b p n) (r, p')∧r.length≤9∧p≤p'∧p'≤p+100:=by
 obtain ⟨v, hv0, hv1, hv⟩:=pick_ev hb p 3 hp o_ o_ o_;unfold F89.f;by_cases e : v=0
 ·obtain ⟨r, p', h, h1, h2, h3⟩:=tree_ev hb (p+1) n o_ o_ hn hn2;exact ⟨r, p', Ev.bind hv (Ev.pos e (Ev.bind h (Ev.ret rfl))), h1,by omega,by omega⟩
 ·obtain ⟨u, hu0, hu1, hu⟩:=pick_ev hb (p+1) 7 o_ o_ o_ o_;have e1 : wrap64 (1+u)=1+u := wrap_id o_ o_;obtain ⟨r, p', h, h1, h2, h3⟩:=fill_ev hb (1+u).toNat o_ 8 (List.replicate (1+u).toNat 0) 1 (1+u) 0 (p+1+1) (by simp) o_ o_ o_ o_ o_ o_;refine ⟨r, p', Ev.bind hv (Ev.neg e (Ev.bind hu ?_)),by omega,by omega,by omega⟩;simp only [];rw [e1];exact Ev.pos o_ (Ev.pos o_ (Ev.bind h (Ev.ret rfl)))
@[reducible] def goodAt (o : List Int) (many:Int) (i:Nat) : Prop := (1≤rd o i∧rd o i≤many)∧∀ j : Nat, j<i→rd o j≠rd o i
def orderOk (o : List Int) (many:Int) : Bool := decide ((1≤many∧many≤8)∧(o.length:Int)=many∧∀ i : Nat, i<o.length→goodAt o many i)
theorem orderOk_bad {o : List Int} {many : Int} {i : Nat} (hi : i<o.length) (h : ¬ goodAt o many i) : orderOk o many=false:=by
 unfold orderOk;rw [decide_eq_false_iff_not];exact fun h2=>h (h2.2.2 i hi)
theorem orderOk_iff {o : List Int} {many : Int} : orderOk o many=true ↔ ((1≤many∧many≤8)∧(o.length:Int)=many∧∀ i : Nat, i<o.length→goodAt o many i):=by
 unfold orderOk;rw [decide_eq_true_iff]
def walkOk (l : List Int) : Nat→Int→Bool
 | 0, a => decide (a≤0)
 | m+1, a => if a≤0 then true else decide (0≤rd l (a - 1)∧rd l (a - 1)≤l.length) && walkOk l m (rd l (a - 1))
def okAt (l : List Int) (i:Nat) : Bool := decide (0≤rd l i∧rd l i≤l.length) && walkOk l l.length ((i:Int)+1)
def zerosFrom (l : List Int) (j:Nat) : Nat := (l.drop j).count 0
def treeOk (l : List Int) : Bool := decide (1≤l.length∧l.length≤8) && (List.range l.length).all (okAt l) && decide (l.count 0=1)
theorem walkOk_self (l : List Int) (a:Int) (ha : 0<a) (h : rd l (a - 1)=a) : ∀ m, walkOk l m a=false
 | 0 => by simp [walkOk]; omega
 | m+1 => by
  unfold walkOk
  rw [if_neg o_, h, walkOk_self l a ha h m, Bool.and_false]
theorem zerosFrom_succ (l : List Int) (j:Nat) (h : j<l.length) : zerosFrom l j=(if rd l j=0 then 1 else 0)+zerosFrom l (j+1):=by
 unfold zerosFrom;rw [List.drop_eq_getElem_cons h, List.count_cons];(have e : rd l j=l[j] := by simp [rd_nat, h]);rw [e];(by_cases e : l[j]=0 <;> simp [e, Nat.add_comm])
theorem all_from (p : Nat→Bool) (n j:Nat) (h : j<n) : ((List.range' j (n - j)).all p)=(p j && (List.range' (j+1) (n - (j+1))).all p):=by
 obtain ⟨d, hd⟩ : ∃ d, n - j=d+1 := ⟨n - j - 1,by omega⟩;rw [hd, List.range'_succ, List.all_cons, show n - (j+1)=d by omega]
def restOk (l : List Int) (r:Nat) (j:Nat) : Bool := (List.range' j (l.length - j)).all (okAt l) && decide (r+zerosFrom l j=1)
theorem restOk_end (l : List Int) (r:Nat) (j:Nat) (h : j=l.length) : restOk l r j=((r:Int) == 1):=by
 subst h;unfold restOk zerosFrom;simp;rw [Bool.eq_iff_iff]; simp; omega
theorem restOk_bad (l : List Int) (r:Nat) (j:Nat) (h : j<l.length) (hb : okAt l j=false) : restOk l r j=false:=by
 unfold restOk;rw [all_from _ _ _ h, hb]; rfl
theorem restOk_good (l : List Int) (r:Nat) (j:Nat) (h : j<l.length) (hb : okAt l j=true) : restOk l r j=restOk l (r+if rd l j=0 then 1 else 0) (j+1):=by
 unfold restOk;rw [all_from _ _ _ h, hb, Bool.true_and, zerosFrom_succ l j h, Nat.add_assoc]
theorem restOk_zero (l : List Int) (h : 1≤l.length∧l.length≤8) : restOk l 0 0=treeOk l:=by
 unfold restOk treeOk zerosFrom;rw [decide_eq_true h];simp [List.range_eq_range']
theorem mx_max (a b:Int) : mx a b=max a b := by unfold mx; split <;> omega
theorem mn_min (a b:Int) : mn a b=min a b := by unfold mn; split <;> omega
theorem treeOk_len {l : List Int} (h : treeOk l=true) : 1≤l.length∧l.length≤8:=by
 unfold treeOk at h;rw [Bool.and_eq_true, Bool.and_eq_true] at h;exact of_decide_eq_true h.1.1
theorem treeOk_rd {l : List Int} (h : treeOk l=true) {j : Nat} (hj : j<l.length) : 0≤rd l j∧rd l j≤l.length:=by
 unfold treeOk at h;rw [Bool.and_eq_true, Bool.and_eq_true] at h;have := List.all_eq_true.mp h.1.2 j (List.mem_range.mpr hj);unfold okAt at this;rw [Bool.and_eq_true] at this;exact of_decide_eq_true this.1
theorem treeOk_walk {l : List Int} (h : treeOk l=true) {j : Nat} (hj : j<l.length) : walkOk l l.length ((j:Int)+1)=true:=by
 unfold treeOk at h;rw [Bool.and_eq_true, Bool.and_eq_true] at h;have := List.all_eq_true.mp h.1.2 j (List.mem_range.mpr hj);unfold okAt at this;rw [Bool.and_eq_true] at this;exact this.2
theorem treeOk_ne {l : List Int} (h : treeOk l=true) {j : Nat} (hj : j<l.length) : rd l j≠(j:Int)+1:=by
 intro e;have := treeOk_walk h hj;rw [walkOk_self l _ o_ (by rw [show (j:Int)+1 - 1=(j:Int) by omega]; exact e)] at this;cases this
theorem treeOk_zero {l : List Int} (h : treeOk l=true) : l.count 0=1:=by
 unfold treeOk at h;rw [Bool.and_eq_true] at h;exact of_decide_eq_true h.2
def placeOf (o : List Int) (v:Int) : Int := match (List.range o.length).find? (fun i : Nat => decide (rd o i=v)) with | some i => (i:Int)+1 | none => 0
def putOf (l o : List Int) : List Int := o.map (fun w=>placeOf o (rd l (w - 1)))
theorem order_inj {o : List Int} {many : Int} (h : orderOk o many=true) {i j : Nat} (hi : i<o.length) (hj : j<o.length) (e : rd o i=rd o j) : i=j:=by
 obtain ⟨_, _, h3⟩:=orderOk_iff.mp h;rcases Nat.lt_trichotomy i j with h4 | h4 | h4
 ·exact absurd e ((h3 j hj).2 i h4)
 ·exact h4
 ·exact absurd e.symm ((h3 i hi).2 j h4)
theorem placeOf_at {o : List Int} {many : Int} (h : orderOk o many=true) {i : Nat} (hi : i<o.length) : placeOf o (rd o i)=(i:Int)+1:=by
 unfold placeOf;cases hf : (List.range o.length).find? (fun k : Nat => decide (rd o k=rd o i)) with
 | some k =>
  have h1 := List.mem_range.mp (List.mem_of_find?_eq_some hf);(have h2 : rd o k=rd o i := by simpa using List.find?_some hf);rw [order_inj h h1 hi h2]
 | none => exact absurd (decide_eq_true rfl) (List.find?_eq_none.mp hf i (List.mem_range.mpr hi))
theorem placeOf_none {o : List Int} {v : Int} (h : ∀ i : Nat, i<o.length→rd o i≠v) : placeOf o v=0:=by
 unfold placeOf;cases hf : (List.range o.length).find? (fun k : Nat => decide (rd o k=v)) with
 | some k => exact absurd (by simpa using List.find?_some hf) (h k (List.mem_range.mp (List.mem_of_find?_eq_some hf)))
 | none => rfl
def PlacesTo (o : List Int) (j:Nat) (y : List Int) : Prop := ∀ v : Nat, v<y.length→y[v]?=some (match (List.range j).find? (fun i : Nat => decide (rd o i=(v:Int))) with | some i => (i:Int)+1 | none => 0)
theorem find_range_succ (p : Nat→Bool) (j:Nat) : (List.range (j+1)).find? p=((List.range j).find? p).or (if p j then some j else none):=by
 rw [List.range_succ, List.find?_append];congr 1;by_cases h : p j=true
 ·rw [if_pos h, List.find?_cons_of_pos h]
 ·rw [if_neg h, List.find?_cons_of_neg h]; rfl
theorem PlacesTo.set {o : List Int} {many : Int} (h : orderOk o many=true) {j : Nat} (hj : j<o.length) {y : List Int} (hy : PlacesTo o j y) : PlacesTo o (j+1) (y.set (rd o j).toNat ((j:Int)+1)):=by
 have hg := (orderOk_iff.mp h).2.2 j hj;intro v hv;rw [List.length_set] at hv;rw [find_range_succ];by_cases e : v=(rd o j).toNat
 ·subst e;rw [List.getElem?_set_self hv];(have e2 : ((rd o j).toNat:Int)=rd o j := by omega);rw [e2];have hn : (List.range j).find? (fun i : Nat => decide (rd o i=rd o j))=none:=by
   rw [List.find?_eq_none];intro i hi;simp [hg.2 i (List.mem_range.mp hi)]
  rw [hn];simp
 ·rw [List.getElem?_set_ne o_, hy v hv];(have e2 : ¬ (rd o j=(v:Int)) := by omega);simp [e2]
theorem PlacesTo.whole {o : List Int} {y : List Int} (hy : PlacesTo o o.length y) {v : Int} (h0 : 0≤v) (h1 : v<y.length) : rd y v=placeOf o v:=by
 have := hy v.toNat o_;rw [show ((v.toNat:Nat):Int)=v by omega] at this;unfold rd placeOf;rw [List.getD_eq_getElem?_getD, this];rfl
theorem PlacesTo.zero (o : List Int) (n:Nat) : PlacesTo o 0 (List.replicate n 0):=by
 intro v hv;simp at hv;simp [hv]
def putInOrder (l o : List Int) : List Int × Bool := if treeOk l=true∧orderOk o l.length=true then (putOf l o, true) else ([], false)
theorem putInOrder_len (l o : List Int) : (putInOrder l o).1.length≤8:=by
 unfold putInOrder;split
 ·rename_i h;have hl := treeOk_len h.1;obtain ⟨_, h2, _⟩:=orderOk_iff.mp h.2;show (putOf l o).length≤8;simp [putOf]; omega
 ·simp
theorem l1In_eq (a b c:Int) : F93.f a b c=some (decide (b≤a∧a≤c)):=by
 unfold F93.f;split
 ·rename_i h; congr 1; rw [decide_eq_decide]; omega
 ·rename_i h; congr 1; symm; rw [decide_eq_false_iff_not]; omega
theorem spec_OrderOk_l1 (o : List Int) (many:Int) (hl : o.length≤1048576) (i:Nat) (hi : i<o.length) (hin : 1≤rd o i∧rd o i≤many) (next : goodAt o many i→Ev (fun k=>F115.l0 k o many ((i+1:Nat):Int)) (orderOk o many)) (d:Nat) :
  ∀ j : Nat, j+d=i→(∀ j' : Nat, j'<j→rd o j'≠rd o i)→Ev (fun k=>F115.l1 k o many (i:Int) (j:Int)) (orderOk o many):=by
 induction d with
 | zero =>
  intro j hj h;refine Ev.step (fun k=>F115.l1.eq_2 ..) (Ev.neg o_ ?_);rw [wrap_add1 o_];exact next ⟨hin, fun j' hj' => h j' o_⟩
 | succ d ih =>
  intro j hj h;refine Ev.step (fun k=>F115.l1.eq_2 ..) (Ev.pos o_ (Ev.pos o_ (Ev.pos o_ (Ev.pos o_ (Ev.pos o_ (Ev.ite (fun e=>?_) (fun e=>?_)))))))
  ·exact Ev.ret (orderOk_bad hi (fun h2=>h2.2 j o_ e)).symm
  ·rw [wrap_add1 o_];refine ih (j+1) o_ (fun j' hj' => ?_);by_cases e2 : j'=j
   ·subst e2; exact e
   ·exact h j' o_
theorem spec_OrderOk_l0 (o : List Int) (many:Int) (hl : o.length≤1048576) (d:Nat) : ∀ i : Nat, i+d=o.length→(∀ j : Nat, j<i→goodAt o many j)→Ev (fun k=>F115.l0 k o many (i:Int)) (orderOk o many):=by
 induction d with
 | zero =>
  intro i hi h;refine Ev.step (fun k=>F115.l0.eq_2 ..) (Ev.neg o_ (Ev.bind0 (l1In_eq ..) (Ev.ite (fun e=>?_) (fun e=>?_))))
  ·refine Ev.ret ?_;have e' := of_decide_eq_true e;rw [Bool.eq_iff_iff, orderOk_iff, beq_iff_eq];exact ⟨fun h2=>⟨e', h2, fun j hj => h j o_⟩, fun h2=>h2.2.1⟩
  ·refine Ev.ret ?_;symm;unfold orderOk;rw [decide_eq_false_iff_not];intro h2;exact e (decide_eq_true h2.1)
 | succ d ih =>
  intro i hi h;refine Ev.step (fun k=>F115.l0.eq_2 ..) (Ev.pos o_ (Ev.pos o_ (Ev.bind0 (l1In_eq ..) (Ev.ite (fun e=>?_) (fun e=>?_)))))
  ·have e' := of_decide_eq_true e;refine spec_OrderOk_l1 o many hl i o_ e' (fun hg=>?_) i 0 o_ (fun j' hj' => by omega);refine ih (i+1) o_ (fun j hj => ?_);by_cases e2 : j=i
   ·subst e2; exact hg
   ·exact h j o_
  ·refine Ev.ret ?_;exact (orderOk_bad o_ (fun h2=>e (decide_eq_true h2.1))).symm
theorem spec_OrderOk_ev (o : List Int) (many:Int) (hl : o.length≤1048576) : Ev (fun k=>F115.f k o many) (orderOk o many):=by
 unfold F115.f;exact spec_OrderOk_l0 o many hl o.length 0 o_ (fun j hj => by omega)
theorem spec_walk (l : List Int) (r j:Nat) (hl : l.length≤8) (hj : j<l.length) (_ : r≤8)
  (next : Ev (fun k=>F56.l0 k l (l.length:Int) (r:Int) ((j+1:Nat):Int)) (restOk l r (j+1)))
  (d:Nat) : ∀ (s:Nat) (a:Int), s+d=l.length→0≤a→a≤l.length →
  Ev (fun k=>F56.l1 k l (l.length:Int) (r:Int) (j:Int) a (s:Int)) (walkOk l d a && restOk l r (j+1)):=by
 induction d with
 | zero =>
  intro s a hs h0 h1;refine Ev.step (fun k=>F56.l1.eq_2 ..) ?_;refine Ev.ite (fun ha=>?_) (fun ha=>?_)
  ·rw [decide_eq_false o_];refine Ev.step (fun k=>F56.j4.eq_2 ..) ?_;refine Ev.neg (by simp) (Ev.pos ha (Ev.ret ?_));simp [walkOk, show ¬ a≤0 by omega]
  ·refine Ev.step (fun k=>F56.j4.eq_2 ..) ?_;refine Ev.neg (by simp) (Ev.neg ha ?_);rw [wrap_add1 o_];exact Ev.eq next (by simp [walkOk, show a≤0 by omega])
 | succ d ih =>
  intro s a hs h0 h1;refine Ev.step (fun k=>F56.l1.eq_2 ..) ?_;refine Ev.ite (fun ha=>?_) (fun ha=>?_)
  ·rw [decide_eq_true o_];refine Ev.step (fun k=>F56.j4.eq_2 ..) ?_;refine Ev.pos rfl ?_;rw [wrap_id o_ o_];refine Ev.pos o_ (Ev.pos o_ (Ev.bind0 (l1In_eq ..) ?_));refine Ev.ite (fun hc=>?_) (fun hc=>?_)
   ·have hc' := of_decide_eq_true hc;rw [wrap_add1 o_];refine Ev.eq (ih (s+1) (rd l (a - 1)) o_ hc'.1 hc'.2) ?_;simp [walkOk, show ¬ a≤0 by omega, hc'.1, hc'.2]
   ·refine Ev.ret ?_;(have hc' : ¬ (0≤rd l (a - 1)∧rd l (a - 1)≤(l.length:Int)) := by simpa using hc);simp [walkOk, show ¬ a≤0 by omega, decide_eq_false hc']
  ·refine Ev.step (fun k=>F56.j4.eq_2 ..) ?_;refine Ev.neg (by simp) (Ev.neg ha ?_);rw [wrap_add1 o_];exact Ev.eq next (by simp [walkOk, show a≤0 by omega])
theorem spec_TreeOk_l0 (l : List Int) (hl : l.length≤8) (d:Nat) : ∀ (r j:Nat), j+d=l.length→r≤j →
  Ev (fun k=>F56.l0 k l (l.length:Int) (r:Int) (j:Int)) (restOk l r j):=by
 induction d with
 | zero =>
  intro r j hj hr;refine Ev.step (fun k=>F56.l0.eq_2 ..) ?_;exact Ev.neg o_ (Ev.ret (restOk_end l r j o_).symm)
 | succ d ih =>
  intro r j hj hr;refine Ev.step (fun k=>F56.l0.eq_2 ..) ?_;refine Ev.pos o_ (Ev.pos o_ (Ev.pos o_ (Ev.bind0 (l1In_eq ..) ?_)));refine Ev.ite (fun hc=>?_) (fun hc=>?_)
  ·have hc' := of_decide_eq_true hc;refine Ev.step (fun k=>F56.j1.eq_2 ..) ?_;rw [wrap_add1 o_];refine Ev.ite (fun he=>?_) (fun he=>?_)
   ·refine Ev.ret (restOk_bad l r j o_ ?_).symm;(have he' : rd l (j:Int)=((j+1:Nat):Int) := by simpa using he);unfold okAt;rw [walkOk_self l ((j:Int)+1) o_ (by rw [show (j:Int)+1 - 1=(j:Int) by omega, he']; omega), Bool.and_false]
   ·have hfin : ∀ (r':Nat), r'=r+(if rd l j=0 then 1 else 0)→Ev (fun k=>F56.l1 k l (l.length:Int) (r':Int) (j:Int) ((j+1:Nat):Int) 0) (restOk l r j):=by
     intro r' hr';(have hr8 : r'≤j+1 := by subst hr'; split <;> omega);refine Ev.eq (spec_walk l r' j hl o_ o_ (ih r' (j+1) o_ hr8) l.length 0 ((j+1:Nat):Int) o_ o_ o_) ?_;by_cases hw : walkOk l l.length ((j:Int)+1)=true
     ·rw [restOk_good l r j o_ (by unfold okAt; rw [hw, decide_eq_true hc']; rfl), ← hr', show ((j+1:Nat):Int)=(j:Int)+1 by omega, hw]; rfl
     ·(have hw' : walkOk l l.length ((j:Int)+1)=false := by simpa using hw);rw [restOk_bad l r j o_ (by unfold okAt; rw [hw']; simp), show ((j+1:Nat):Int)=(j:Int)+1 by omega, hw']; rfl
    refine Ev.pos o_ (Ev.pos o_ (Ev.ite (fun hz=>?_) (fun hz=>?_)))
    ·rw [wrap_add1 o_];refine Ev.step (fun k=>F56.j2.eq_2 ..) ?_;rw [wrap_add1 o_];exact hfin (r+1) (by rw [if_pos hz])
    ·refine Ev.step (fun k=>F56.j2.eq_2 ..) ?_;rw [wrap_add1 o_];exact hfin r (by rw [if_neg hz]; rfl)
  ·refine Ev.step (fun k=>F56.j1.eq_2 ..) ?_;refine Ev.pos rfl (Ev.ret (restOk_bad l r j o_ ?_).symm);(have hc' : ¬ (0≤rd l (j:Int)∧rd l (j:Int)≤(l.length:Int)) := by simpa using hc);unfold okAt;rw [decide_eq_false hc']; rfl
theorem spec_TreeOk_ev (l : List Int) : Ev (fun k=>F56.f k l) (treeOk l):=by
 unfold F56.f;refine Ev.bind0 (l1In_eq ..) ?_;refine Ev.ite (fun hc=>?_) (fun hc=>?_)
 ·have hc' := of_decide_eq_true hc;exact Ev.eq (spec_TreeOk_l0 l o_ l.length 0 0 o_ o_) (restOk_zero l o_)
 ·refine Ev.ret ?_;(have hc' : ¬ (1≤(l.length:Int)∧(l.length:Int)≤8) := by simpa using hc);unfold treeOk;rw [decide_eq_false o_]; rfl
theorem spec_Put_l1 (l o y : List Int) (h : treeOk l=true) (ho : orderOk o l.length=true) (hy : PlacesTo o o.length y) (hyl : y.length=l.length+1) (d:Nat) : ∀ j : Nat, j+d=o.length →
  Ev (fun k=>F82.l1 k l o y ((putOf l o).take j) (j:Int)) (putOf l o, true):=by
 have hl := treeOk_len h;obtain ⟨_, h2, h3⟩:=orderOk_iff.mp ho;(have hlen : (putOf l o).length=o.length := by simp [putOf])
 induction d with
 | zero =>
  intro j hj;refine Ev.step (fun k=>F82.l1.eq_2 ..) (Ev.neg o_ (Ev.ret ?_));rw [List.take_of_length_le o_]
 | succ d ih =>
  intro j hj;have hg := h3 j o_;have hr := treeOk_rd h (j := (rd o j - 1).toNat) o_;rw [show (((rd o j - 1).toNat:Nat):Int)=rd o j - 1 by omega] at hr;refine Ev.step (fun k=>F82.l1.eq_2 ..) ?_;rw [wrap_id (n := rd o j - 1) o_ o_, wrap_add1 o_];refine Ev.pos o_ (Ev.pos o_ (Ev.pos o_ (Ev.pos o_ (Ev.pos o_ (Ev.pos o_ (Ev.pos (by rw [List.length_take]; omega) ?_))))));have e : (putOf l o).take j ++ [rd y (rd l (rd o j - 1))]=(putOf l o).take (j+1):=by
   rw [List.take_succ_eq_append_getElem o_, hy.whole hr.1 o_];congr 2;(have e3 : rd o j=o[j]'o_ := by simp [rd_nat, show j<o.length by omega]);simp [putOf, e3]
  rw [e];exact ih (j+1) o_
theorem spec_Put_l0 (l o : List Int) (h : treeOk l=true) (ho : orderOk o l.length=true) (d:Nat) : ∀ (j:Nat) (y : List Int), j+d=o.length→PlacesTo o j y→y.length=l.length+1 →
  Ev (fun k=>F82.l0 k l o y (j:Int)) (putOf l o, true):=by
 have hl := treeOk_len h;obtain ⟨_, h2, h3⟩:=orderOk_iff.mp ho
 induction d with
 | zero =>
  intro j y hj hy hyl;refine Ev.step (fun k=>F82.l0.eq_2 ..) (Ev.neg o_ ?_);rw [show j=o.length by omega] at hy;exact spec_Put_l1 l o y h ho hy hyl o.length 0 o_
 | succ d ih =>
  intro j y hj hy hyl;have hg := h3 j o_;refine Ev.step (fun k=>F82.l0.eq_2 ..) ?_;rw [wrap_id (n := (j:Int)+1) o_ o_];refine Ev.pos o_ (Ev.pos o_ (Ev.pos o_ (Ev.pos o_ ?_)));exact ih (j+1) _ o_ (hy.set ho o_) (by simpa using hyl)
theorem spec_PutInOrder_ev (l o : List Int) (hol : o.length≤1048576) : Ev (fun k=>F82.f k l o) (putInOrder l o):=by
 unfold F82.f putInOrder;refine Ev.bind (spec_TreeOk_ev l) (Ev.ite (fun h=>?_) (fun h=>?_))
 ·refine Ev.bind (spec_OrderOk_ev o _ hol) (Ev.step (fun k=>F82.j0.eq_2 ..) (Ev.ite (fun e=>?_) (fun e=>?_)))
  ·refine Ev.ret ?_;rw [if_neg];intro h2; rw [h2.2] at e; cases e
  ·(have ho : orderOk o l.length=true := by simpa using e);have hl := treeOk_len h;rw [if_pos ⟨h, ho⟩, wrap_id (n := (l.length:Int)+1) o_ o_];refine Ev.pos o_ (Ev.pos o_ ?_);exact spec_Put_l0 l o h ho o.length 0 _ o_ (PlacesTo.zero o _) (by simp)
 ·refine Ev.step (fun k=>F82.j0.eq_2 ..) (Ev.pos rfl (Ev.ret ?_));rw [if_neg (fun h2=>h h2.1)]
theorem wild_evP {b : List Int} (hb : Bytes b) (p n:Int) (hp : 0≤p) (hp2 : p≤50) (hn : 0≤n) (hn2 : n≤1000) :
  ∃ r p', Ev (fun k=>F80.f k b p n) (r, p')∧r.length≤9∧0≤p'∧p'≤p+200:=by
 obtain ⟨t, p1, ht, htl,hp1,hp1'⟩:=tree_ev hb p n o_ o_ hn hn2;obtain ⟨v, hv0, hv1, hv⟩:=pick_ev hb p1 2 o_ o_ o_ o_;unfold F80.f;have other : ∃ r p', Ev (fun k=>F80.j0 k n t false b (p1+1)) (r, p')∧r.length≤9∧0≤p'∧p'≤p+200:=by
  obtain ⟨u, hu0, hu1, hu⟩:=pick_ev hb (p1+1) 3 o_ o_ o_ o_;by_cases e : u=0
  ·obtain ⟨r, p', h, h1, h2, h3⟩:=flat_ev hb (p1+1+1) n o_ o_ hn hn2;exact ⟨r, p', Ev.step (fun k=>F80.j0.eq_2 ..) (Ev.neg (by simp) (Ev.bind hu (Ev.pos e (Ev.bind h (Ev.ret rfl))))), h1,by omega,by omega⟩
  ·exact ⟨t, p1+1+1, Ev.step (fun k=>F80.j0.eq_2 ..) (Ev.neg (by simp) (Ev.bind hu (Ev.neg e (Ev.ret rfl)))), htl,by omega,by omega⟩
 by_cases e : v=0
 ·by_cases h : treeOk t=true
  ·obtain ⟨o, p2, ho, hol, how,hp2,hp2'⟩:=order_ev hb (p1+1) (t.length:Int) o_ o_ o_ o_;refine ⟨(putInOrder t o).1, p2, Ev.bind ht (Ev.bind hv (Ev.pos e (Ev.bind (spec_TreeOk_ev t) ?_))), Nat.le_trans (putInOrder_len t o) o_,by omega,by omega⟩;rw [h];exact Ev.step (fun k=>F80.j0.eq_2 ..) (Ev.pos rfl (Ev.bind ho (Ev.bind (spec_PutInOrder_ev t o o_) (Ev.ret rfl))))
  ·obtain ⟨r, p', hr, h1, h2⟩:=other;refine ⟨r, p', Ev.bind ht (Ev.bind hv (Ev.pos e (Ev.bind (spec_TreeOk_ev t) ?_))), h1, h2⟩;rw [show treeOk t=false by simpa using h];exact hr
 ·obtain ⟨r, p', hr, h1, h2⟩:=other;exact ⟨r, p', Ev.bind ht (Ev.bind hv (Ev.neg e hr)), h1, h2⟩
theorem deed_j0 {b : List Int} (hb : Bytes b) (p x y z:Int) (hp : 0≤p) (hp2 : p≤900000) :
  ∃ c p', Ev (fun k=>F77.j0 k b p x y z) (x, y, c, p')∧p≤p'∧p'≤p+2:=by
 obtain ⟨o, ho⟩:=odd_ev hb p 40 hp o_ o_ o_;by_cases h : o=true
 ·obtain ⟨v, hv0, hv1, hv⟩:=pick_ev hb (p+1) 3 o_ o_ o_ o_;refine ⟨rd [-1, 9, 100] v, p+1+1, Ev.step (fun k=>F77.j0.eq_2 ..) (Ev.bind ho (Ev.pos h ?_)),by omega,by omega⟩;simp only [Option.bind_some];exact Ev.bind hv (Ev.pos hv0 (Ev.pos (show v<(3:Int) by omega) (Ev.ret rfl)))
 ·exact ⟨z, p+1, Ev.step (fun k=>F77.j0.eq_2 ..) (Ev.bind ho (Ev.neg h (Ev.ret rfl))),by omega,by omega⟩
theorem deed_ev {b : List Int} (hb : Bytes b) (p:Int) (l : List Int) (hp : 0≤p) (hp2 : p≤800000) (hl : l.length≤1000) :
  ∃ x y z p', Ev (fun k=>F77.f k b p l) (x, y, z, p')∧p≤p'∧p'≤p+6:=by
 obtain ⟨v, hv0, hv1, hv⟩:=pick_ev hb p 8 hp o_ o_ o_;obtain ⟨u, hu0, hu1, hu⟩:=pick_ev hb (p+1) 60 o_ o_ o_ o_;have e : wrap64 ((l.length:Int)+1)=(l.length:Int)+1 := wrap_id o_ o_;unfold F77.f;simp only [Option.bind_some];obtain ⟨K, hK⟩ : ∃ K, wrap64 (rd [0, 0, 1, 1, 2, 3, 4, 5] v+wrap64 (wrap64 (Int.tdiv u 59) * 6))=K := ⟨_, rfl⟩;have go : ∀ (x y z p':Int), Ev (fun k=>if K=0 then ((F88.f k b (p+1+1) (mx (l.length:Int) 1)).bind fun s=>((F88.f k b s.2 (wrap64 ((l.length:Int)+1))).bind fun t=>F77.j0 k b t.2 K (wrap64 (1+s.1)) t.1)) else (if K=1 then ((F88.f k b (p+1+1) (wrap64 ((l.length:Int)+1))).bind fun s=>((F88.f k b s.2 9).bind fun t=>F77.j0 k b t.2 K (wrap64 (s.1+wrap64 (Int.tdiv t.1 8))) 0)) else F77.j0 k b (p+1+1) K 0 0)) (x, y, z, p')→p≤p'→p'≤p+6 →
   ∃ x y z p', Ev (fun k=>(F88.f k b p 8).bind fun bt333=>(if 0≤bt333.1 then (if bt333.1<((([0, 0, 1, 1, 2, 3, 4, 5] : List Int)).length:Int) then ((F88.f k b bt333.2 60).bind fun bt336=>(if (wrap64 ((rd [0, 0, 1, 1, 2, 3, 4, 5] bt333.1)+(wrap64 ((wrap64 (Int.tdiv bt336.1 59)) * 6))))=0 then ((F88.f k b bt336.2 (mx (l.length:Int) 1)).bind fun bt339=>((F88.f k b bt339.2 (wrap64 ((l.length:Int)+1))).bind fun bt341=>(F77.j0 k b bt341.2 (wrap64 ((rd [0, 0, 1, 1, 2, 3, 4, 5] bt333.1)+(wrap64 ((wrap64 (Int.tdiv bt336.1 59)) * 6)))) (wrap64 (1+bt339.1)) bt341.1))) else (if (wrap64 ((rd [0, 0, 1, 1, 2, 3, 4, 5] bt333.1)+(wrap64 ((wrap64 (Int.tdiv bt336.1 59)) * 6))))=1 then ((F88.f k b bt336.2 (wrap64 ((l.length:Int)+1))).bind fun bt343=>((F88.f k b bt343.2 9).bind fun bt345=>(F77.j0 k b bt345.2 (wrap64 ((rd [0, 0, 1, 1, 2, 3, 4, 5] bt333.1)+(wrap64 ((wrap64 (Int.tdiv bt336.1 59)) * 6)))) (wrap64 (bt343.1+(wrap64 (Int.tdiv bt345.1 8)))) 0))) else (F77.j0 k b bt336.2 (wrap64 ((rd [0, 0, 1, 1, 2, 3, 4, 5] bt333.1)+(wrap64 ((wrap64 (Int.tdiv bt336.1 59)) * 6)))) 0 0)))) else (none)) else (none))) (x, y, z, p')∧p≤p'∧p'≤p+6:=by
  intro x y z p' h h1 h2;refine ⟨x, y, z, p', Ev.bind hv (Ev.pos hv0 (Ev.pos (show v<(8:Int) by omega) (Ev.bind hu ?_))), h1, h2⟩;simp only [hK];exact h
 by_cases k0 : K=0
 ·(obtain ⟨s, hs0, hs1, hs⟩:=pick_ev hb (p+1+1) (mx (l.length:Int) 1) o_ o_ (by unfold mx; split <;> omega) (by unfold mx; split <;> omega));obtain ⟨t, ht0, ht1, ht⟩:=pick_ev hb (p+1+1+1) (wrap64 ((l.length:Int)+1)) o_ o_ (by rw [e]; omega) (by rw [e]; omega);obtain ⟨c, p', h, h1, h2⟩:=deed_j0 hb (p+1+1+1+1) K (wrap64 (1+s)) t o_ o_;exact go _ _ _ _ (Ev.pos k0 (Ev.bind hs (Ev.bind ht h))) o_ o_
 ·by_cases k1 : K=1
  ·obtain ⟨s, hs0, hs1, hs⟩:=pick_ev hb (p+1+1) (wrap64 ((l.length:Int)+1)) o_ o_ (by rw [e]; omega) (by rw [e]; omega);obtain ⟨t, ht0, ht1, ht⟩:=pick_ev hb (p+1+1+1) 9 o_ o_ o_ o_;obtain ⟨c, p', h, h1, h2⟩:=deed_j0 hb (p+1+1+1+1) K (wrap64 (s+wrap64 (Int.tdiv t 8))) 0 o_ o_;exact go _ _ _ _ (Ev.neg k0 (Ev.pos k1 (Ev.bind hs (Ev.bind ht h)))) o_ o_
  ·obtain ⟨c, p', h, h1, h2⟩:=deed_j0 hb (p+1+1) K 0 0 o_ o_;exact go _ _ _ _ (Ev.neg k0 (Ev.neg k1 h)) o_ o_
def deskNewOf (l : List Int) : List Int × List (List Int) × Bool := if treeOk l=true then (l, [], true) else ([], [], false)
theorem deskNewOf_len (l : List Int) : (deskNewOf l).1.length≤l.length:=by
 unfold deskNewOf;(split <;> simp)
theorem deskNewOf_rows (l : List Int) : (deskNewOf l).2.1=[]:=by
 unfold deskNewOf;(split <;> rfl)
theorem spec_DeskNew_ev (l : List Int) (hl : l.length≤1048576) : Ev (fun k=>F108.f k l) (deskNewOf l):=by
 unfold F108.f deskNewOf;refine Ev.bind (spec_TreeOk_ev l) (Ev.ite (fun h=>?_) (fun h=>Ev.ret (by rw [if_neg h])));rw [if_pos h];exact Ev.bind0 rfl (Ev.pos (by simp; omega) (Ev.ret (by simp)))
def deskOk (l : List Int) (r : List (List Int)) : Bool := treeOk l && decide (r.length≤8) && r.all treeOk
theorem nodup_le : ∀ (n:Nat) (L : List Int), L.Nodup→(∀ x, x ∈ L→1≤x∧x≤n)→L.length≤n
 | 0, L, _, h => by
  cases L with
  | nil => simp
  | cons a r => have := h a (by simp); omega
 | n+1, L, hn, h => by
  by_cases hm : ((n+1:Nat):Int) ∈ L
  ·have h1 := nodup_le n (L.erase ((n+1:Nat):Int)) (hn.erase _) (fun x hx => by
    rw [hn.mem_erase_iff] at hx
    have := h x hx.2
    omega)
   rw [List.length_erase_of_mem hm] at h1
   omega
  ·have := nodup_le n L hn (fun x hx => by
    have h2 := h x hx
    have : x≠((n+1:Nat):Int) := fun e=>hm (e ▸ hx)
    omega)
   omega
theorem nodup_all : ∀ (n:Nat) (L : List Int), L.Nodup→(∀ x, x ∈ L→1≤x∧x≤n)→L.length=n→∀ v : Int, 1≤v→v≤n→v ∈ L
 | 0, L, _, h, hl, v, h0, h1 => by omega
 | n+1, L, hn, h, hl, v, h0, h1 => by
  have hm : ((n+1:Nat):Int) ∈ L:=by
   apply Decidable.byContradiction;intro hm
   have := nodup_le n L hn (fun x hx => by
    have h2 := h x hx
    have : x≠((n+1:Nat):Int) := fun e=>hm (e ▸ hx)
    omega)
   omega
  by_cases e : v=((n+1:Nat):Int)
  ·rw [e]; exact hm
  ·have := nodup_all n (L.erase ((n+1:Nat):Int)) (hn.erase _) (fun x hx => by
    rw [hn.mem_erase_iff] at hx
    have := h x hx.2
    omega) (by rw [List.length_erase_of_mem hm]; omega) v h0 o_
   exact List.mem_of_mem_erase this
theorem rd_get (l : List Int) {i : Nat} (h : i<l.length) : rd l i=l[i] := by simp [rd_nat, h]
theorem nodup_iff_rd (l : List Int) : l.Nodup ↔ ∀ i j : Nat, i<j→j<l.length→rd l i≠rd l j:=by
 rw [List.nodup_iff_pairwise_ne, List.pairwise_iff_getElem]
 constructor
 ·intro h i j hij hj;rw [rd_get l o_, rd_get l hj];exact h i j o_ hj hij
 ·intro h i j hi hj hij;have := h i j hij hj;rwa [rd_get l hi, rd_get l hj] at this
theorem orderOk_nodup {o : List Int} {many : Int} : orderOk o many=true ↔ (1≤many∧many≤8)∧(o.length:Int)=many∧o.Nodup∧∀ x, x ∈ o→1≤x∧x≤many:=by
 rw [orderOk_iff, nodup_iff_rd]
 constructor
 ·rintro ⟨h1, h2, h3⟩;refine ⟨h1, h2, fun i j hij hj => (h3 j hj).2 i hij, fun x hx => ?_⟩;obtain ⟨i, hi, rfl⟩:=List.getElem_of_mem hx;have := (h3 i hi).1;rwa [rd_get o hi] at this
 ·rintro ⟨h1, h2, h3, h4⟩;refine ⟨h1, h2, fun i hi => ⟨?_, fun j hj => h3 j i hj hi⟩⟩;rw [rd_get o hi];exact h4 _ (List.getElem_mem hi)
def indexFrom (l : List Int) (v:Int) (n j:Nat) : Int := match (List.range' j (n - j)).find? (fun i : Nat => decide (rd l i=v)) with | some i => i | none => -1
def rootOf (l : List Int) : Int := if treeOk l then indexFrom l 0 l.length 0+1 else -1
theorem indexFrom_step (l : List Int) (v:Int) {n j : Nat} (h : j<n) : indexFrom l v n j=if rd l j=v then (j:Int) else indexFrom l v n (j+1):=by
 unfold indexFrom;have hr : List.range' j (n - j)=j :: List.range' (j+1) (n - (j+1)):=by
  rw [show n - j=(n - (j+1))+1 by omega, List.range'_succ]
 rw [hr];by_cases e : rd l j=v
 ·rw [List.find?_cons_of_pos (by simpa using e), if_pos e]
 ·rw [List.find?_cons_of_neg (by simpa using e), if_neg e]
theorem indexFrom_end (l : List Int) (v:Int) {n j : Nat} (h : n≤j) : indexFrom l v n j=-1:=by
 unfold indexFrom;rw [show n - j=0 by omega];rfl
theorem indexFrom_spec (l : List Int) (v:Int) (n:Nat) (d:Nat) : ∀ j, j+d=n→(∃ i : Nat, j≤i∧i<n∧rd l i=v∧indexFrom l v n j=i) ∨ ((∀ i : Nat, j≤i→i<n→rd l i≠v)∧indexFrom l v n j=-1):=by
 induction d with
 | zero => intro j hj; exact .inr ⟨fun i h1 h2 => by omega, indexFrom_end l v o_⟩
 | succ d ih =>
  intro j hj;rw [indexFrom_step l v o_];by_cases e : rd l j=v
  ·rw [if_pos e]; exact .inl ⟨j,by omega,by omega, e, rfl⟩
  ·rw [if_neg e];rcases ih (j+1) o_ with ⟨i, h1, h2, h3, h4⟩ | ⟨h1, h2⟩
   ·exact .inl ⟨i,by omega, h2, h3, h4⟩
   ·refine .inr ⟨fun i h3 h4 => ?_, h2⟩;by_cases e2 : i=j
    ·subst e2; exact e
    ·exact h1 i o_ h4
theorem exists_root {l : List Int} (h : treeOk l=true) : ∃ i : Nat, i<l.length∧rd l i=0:=by
 have hz := treeOk_zero h;have hm : (0:Int) ∈ l:=by
  apply List.count_pos_iff.mp; omega
 obtain ⟨i, hi, e⟩:=List.getElem_of_mem hm;exact ⟨i, hi, by simp [rd_nat, hi, e]⟩
theorem rootOf_spec {l : List Int} (h : treeOk l=true) : ∃ i : Nat, i<l.length∧rd l i=0∧rootOf l=(i:Int)+1:=by
 unfold rootOf;rw [if_pos h];rcases indexFrom_spec l 0 l.length l.length 0 o_ with ⟨i, _, h2, h3, h4⟩ | ⟨h1, _⟩
 ·exact ⟨i, h2, h3, by rw [h4]⟩
 ·obtain ⟨i, hi, e⟩:=exists_root h;exact absurd e (h1 i o_ hi)
def Deep (l : List Int) : Nat→Int→Prop
 | 0, w => rd l (w - 1)=0
 | d+1, w => 1≤rd l (w - 1)∧rd l (w - 1)≤l.length∧Deep l d (rd l (w - 1))
theorem deep_of_walk (l : List Int) : ∀ (m:Nat) (w:Int), 0<w→walkOk l m w=true→∃ d, d<m∧Deep l d w
 | 0, w, h0, h => by simp [walkOk] at h; omega
 | m+1, w, h0, h => by
  unfold walkOk at h
  rw [if_neg o_, Bool.and_eq_true, decide_eq_true_eq] at h
  by_cases e : rd l (w - 1)=0
  ·exact ⟨0,by omega, e⟩
  ·obtain ⟨d, hd, hd2⟩:=deep_of_walk l m _ o_ h.2
   exact ⟨d+1,by omega,by omega, h.1.2, hd2⟩
theorem tree_deep {l : List Int} (h : treeOk l=true) {w : Int} (h0 : 1≤w) (h1 : w≤l.length) : ∃ d, d<l.length∧Deep l d w:=by
 have := treeOk_walk h (j := (w - 1).toNat) o_;rw [show (((w - 1).toNat:Nat):Int)+1=w by omega] at this;exact deep_of_walk l _ w o_ this
theorem deep_unique (l : List Int) : ∀ (d d':Nat) (w:Int), Deep l d w→Deep l d' w→d=d'
 | 0, 0, _, _, _ => rfl
 | 0, d'+1, w, h, h' => by
  have h : rd l (w - 1)=0 := h
  have := h'.1
  omega
 | d+1, 0, w, h, h' => by
  have h' : rd l (w - 1)=0 := h'
  have := h.1
  omega
 | d+1, d'+1, w, h, h' => by rw [deep_unique l d d' _ h.2.2 h'.2.2]
theorem deep_lt {l : List Int} (h : treeOk l=true) {w : Int} (h0 : 1≤w) (h1 : w≤l.length) {d : Nat} (hd : Deep l d w) : d<l.length:=by
 obtain ⟨d', h2, h3⟩:=tree_deep h h0 h1;rw [deep_unique l d d' w hd h3];exact h2
theorem deep_kid {l : List Int} {w : Int} (hw : 1≤w∧w≤l.length) {d : Nat} (hd : Deep l d w) {i : Nat} (e : rd l i=w) : Deep l (d+1) ((i:Int)+1):=by
 (have e' : rd l ((i:Int)+1 - 1)=w := by rw [show (i:Int)+1 - 1=(i:Int) by omega]; exact e);exact ⟨by omega,by omega, by rw [e']; exact hd⟩
def up (l : List Int) : Nat→Int→Int
 | 0, v => v
 | k+1, v => up l k (rd l (v - 1))
theorem up_succ (l : List Int) : ∀ (k:Nat) (v:Int), up l (k+1) v=rd l (up l k v - 1)
 | 0, v => rfl
 | k+1, v => by rw [up, up_succ l k, ← up]
theorem deep_up (l : List Int) : ∀ (k e:Nat) (v:Int), Deep l (e+k) v→Deep l e (up l k v)
 | 0, e, v, h => h
 | k+1, e, v, h => deep_up l k e _ (show Deep l (e+k+1) v from h).2.2
theorem up_range (l : List Int) : ∀ (k e:Nat) (v:Int), Deep l (e+k) v→(1≤v∧v≤l.length)→1≤up l k v∧up l k v≤l.length
 | 0, e, v, h, hv => hv
 | k+1, e, v, h, hv => by
  have h' : Deep l (e+k+1) v := h
  exact up_range l k e _ h'.2.2 ⟨h'.1, h'.2.1⟩
theorem deep_top {l : List Int} : ∀ (d:Nat) (v:Int), Deep l d v→rd l (up l d v - 1)=0
 | 0, v, h => h
 | d+1, v, h => deep_top d _ h.2.2
theorem zero_unique {l : List Int} (h : treeOk l=true) {i j : Nat} (hi : i<l.length) (hj : j<l.length) (e1 : rd l i=0) (e2 : rd l j=0) : i=j:=by
 have hz := treeOk_zero h;have key : ∀ a b : Nat, a<b→b<l.length→rd l a=0→rd l b=0→False:=by
  intro a b hab hb ha0 hb0;have h1 := zerosFrom_succ l a o_;rw [if_pos ha0] at h1;have h2 : ∀ q : Nat, a+1≤q→q≤b→zerosFrom l b≤zerosFrom l q:=by
   intro q hq hqb;obtain ⟨d, hd⟩ : ∃ d, q+d=b := ⟨b - q,by omega⟩;clear hq
   induction d generalizing q with
   | zero => rw [show q=b by omega]; exact Nat.le_refl _
   | succ d ih =>
    have h3 := zerosFrom_succ l q o_;have h4 := ih (q+1) o_ o_;omega
  have h3 := h2 (a+1) o_ o_;have h4 := zerosFrom_succ l b hb;rw [if_pos hb0] at h4;have h5 : zerosFrom l a≤l.count 0:=by
   unfold zerosFrom;exact (List.drop_sublist a l).count_le 0
  omega
 rcases Nat.lt_trichotomy i j with h1 | h1 | h1
 ·exact absurd (key i j h1 hj e1 e2) id
 ·exact h1
 ·exact absurd (key j i h1 hi e2 e1) id
theorem up_root {l : List Int} (h : treeOk l=true) {v : Int} (hv : 1≤v∧v≤l.length) {d : Nat} (hd : Deep l d v) : up l d v=rootOf l:=by
 obtain ⟨i, h1, h2, h3⟩:=rootOf_spec h;have h4 := up_range l d 0 v (by rw [Nat.zero_add]; exact hd) hv;have h5 := deep_top d v hd;have := zero_unique h (i := (up l d v - 1).toNat) (j := i) o_ h1 (by rw [show (((up l d v - 1).toNat:Nat):Int)=up l d v - 1 by omega]; exact h5) h2;omega
theorem orderOk_len {o : List Int} {n : Nat} (h : orderOk o n=true) : o.length=n:=by
 have := (orderOk_iff.mp h).2.1; omega
theorem orderOk_rd {o : List Int} {n : Nat} (h : orderOk o n=true) {i : Nat} (hi : i<n) : 1≤rd o i∧rd o i≤n :=
 ((orderOk_iff.mp h).2.2 i (by rw [orderOk_len h]; exact hi)).1
theorem placeOf_spec {o : List Int} {n : Nat} (h : orderOk o n=true) {v : Int} (h0 : 1≤v) (h1 : v≤n) : ∃ i : Nat, i<n∧rd o i=v∧placeOf o v=(i:Int)+1:=by
 obtain ⟨_, h2, h3, h4⟩:=orderOk_nodup.mp h;have hm := nodup_all n o h3 h4 o_ v h0 h1;obtain ⟨i, hi, e⟩:=List.getElem_of_mem hm;(have e2 : rd o i=v := by rw [rd_get o hi]; exact e);exact ⟨i,by omega, e2, by rw [← e2]; exact placeOf_at h hi⟩
theorem placeOf_zero {o : List Int} {n : Nat} (h : orderOk o n=true) : placeOf o 0=0 :=
 placeOf_none (fun i hi e => by have := orderOk_rd h (i := i) (by rw [← orderOk_len h]; exact hi); omega)
theorem placeOf_range {o : List Int} {n : Nat} (h : orderOk o n=true) {v : Int} (h0 : 0≤v) (h1 : v≤n) : 0≤placeOf o v∧placeOf o v≤n∧(placeOf o v≤0 ↔ v≤0):=by
 by_cases e : v=0
 ·subst e; rw [placeOf_zero h]; omega
 ·obtain ⟨i, h2, _, h3⟩:=placeOf_spec h (v := v) o_ h1;omega
theorem rd_placeOf {o : List Int} {n : Nat} (h : orderOk o n=true) {v : Int} (h0 : 1≤v) (h1 : v≤n) : rd o (placeOf o v - 1)=v:=by
 obtain ⟨i, h2, h3, h4⟩:=placeOf_spec h h0 h1;rw [h4, show (i:Int)+1 - 1=i by omega]; exact h3
theorem putOf_length (l o : List Int) : (putOf l o).length=o.length := by simp [putOf]
theorem putOf_rd {l o : List Int} {n : Nat} (h : orderOk o n=true) {i : Nat} (hi : i<n) : rd (putOf l o) i=placeOf o (rd l (rd o i - 1)):=by
 rw [rd_get _ (by rw [putOf_length, orderOk_len h]; exact hi)];(have hi' : i<o.length := by rw [orderOk_len h]; exact hi);simp only [putOf, List.getElem_map, rd_get o hi']
theorem putOf_at {l o : List Int} {n : Nat} (h : orderOk o n=true) {v : Int} (h0 : 1≤v) (h1 : v≤n) : rd (putOf l o) (placeOf o v - 1)=placeOf o (rd l (v - 1)):=by
 obtain ⟨i, h2, h3, h4⟩:=placeOf_spec h h0 h1;rw [h4, show (i:Int)+1 - 1=i by omega, putOf_rd h h2, h3]
theorem treeOk_rd' {l : List Int} (h : treeOk l=true) {v : Int} (h0 : 1≤v) (h1 : v≤l.length) : 0≤rd l (v - 1)∧rd l (v - 1)≤l.length:=by
 have := treeOk_rd h (j := (v - 1).toNat) o_;rwa [show (((v - 1).toNat:Nat):Int)=v - 1 by omega] at this
theorem walk_put {l o : List Int} (hl : treeOk l=true) (h : orderOk o l.length=true) : ∀ (m:Nat) (v:Int), 0≤v→v≤l.length→walkOk (putOf l o) m (placeOf o v)=walkOk l m v
 | 0, v, h0, h1 => by
  unfold walkOk
  rw [decide_eq_decide]; exact (placeOf_range h h0 h1).2.2
 | m+1, v, h0, h1 => by
  unfold walkOk
  have hr := placeOf_range h h0 h1
  by_cases e : v≤0
  ·rw [if_pos e, if_pos (hr.2.2.mpr e)]
  ·rw [if_neg e, if_neg (fun h2=>e (hr.2.2.mp h2)), putOf_at h o_ h1]
   have h3 := treeOk_rd' hl (v := v) o_ h1
   have h4 := placeOf_range h h3.1 h3.2
   rw [putOf_length, orderOk_len h, decide_eq_true h3, decide_eq_true (show 0≤placeOf o (rd l (v - 1))∧placeOf o (rd l (v - 1))≤(l.length:Int) from ⟨h4.1, h4.2.1⟩), walk_put hl h m _ h3.1 h3.2]
theorem count_zero_one {l : List Int} {i : Nat} (hi : i<l.length) (h0 : rd l i=0) (hu : ∀ j : Nat, j<l.length→rd l j=0→j=i) : l.count 0=1:=by
 have key : ∀ d j, j+d=l.length→zerosFrom l j=if j≤i then 1 else 0:=by
  intro d
  induction d with
  | zero => intro j hj; unfold zerosFrom; rw [List.drop_eq_nil_of_le o_, if_neg o_]; rfl
  | succ d ih =>
   intro j hj;rw [zerosFrom_succ l j o_, ih (j+1) o_];by_cases e : j=i
   ·subst e; rw [if_pos h0, if_neg o_, if_pos o_]
   ·rw [if_neg (fun h=>e (hu j o_ h))];(split <;> split <;> omega)
 have := key l.length 0 o_;rw [if_pos o_] at this;simpa [zerosFrom] using this
theorem treeOk_put {l o : List Int} (hl : treeOk l=true) (h : orderOk o l.length=true) : treeOk (putOf l o)=true:=by
 (have hlen : (putOf l o).length=l.length := by rw [putOf_length, orderOk_len h]);unfold treeOk;rw [hlen, decide_eq_true (treeOk_len hl), Bool.true_and, Bool.and_eq_true]
 constructor
 ·rw [List.all_eq_true];intro i hi;have hi := List.mem_range.mp hi;have h1 := orderOk_rd h hi;have h2 := treeOk_rd' hl h1.1 h1.2;have h3 := placeOf_range h h2.1 h2.2;unfold okAt;rw [putOf_rd h hi, hlen, decide_eq_true ⟨h3.1, h3.2.1⟩, Bool.true_and];have h4 : placeOf o (rd o i)=(i:Int)+1 := placeOf_at h (by rw [orderOk_len h]; exact hi);rw [← h4, walk_put hl h _ _ o_ h1.2];have := treeOk_walk hl (j := (rd o i - 1).toNat) o_;rwa [show (((rd o i - 1).toNat:Nat):Int)+1=rd o i by omega] at this
 ·rw [decide_eq_true_iff];obtain ⟨i, h1, h2⟩:=exists_root hl;obtain ⟨j, h3, h4, h5⟩:=placeOf_spec h (v := (i:Int)+1) o_ o_;refine count_zero_one (i := j) o_ ?_ ?_
  ·rw [putOf_rd h h3, h4, show (i:Int)+1 - 1=i by omega, h2, placeOf_zero h]
  ·intro k hk hk0;(have hk' : k<l.length := by omega);rw [putOf_rd h hk'] at hk0;have h6 := orderOk_rd h hk';have h7 := treeOk_rd' hl h6.1 h6.2;have h8 := (placeOf_range h h7.1 h7.2).2.2.mp o_;have h9 := zero_unique hl (i := (rd o k - 1).toNat) (j := i) o_ h1 (by rw [show (((rd o k - 1).toNat:Nat):Int)=rd o k - 1 by omega]; omega) h2;exact order_inj h (by rw [orderOk_len h]; omega) (by rw [orderOk_len h]; omega) o_
def sumTo (f : Nat→Int) : Nat→Int
 | 0 => 0
 | n+1 => sumTo f n+f n
theorem sumTo_congr {f g : Nat→Int} : ∀ (n:Nat), (∀ i, i<n→f i=g i)→sumTo f n=sumTo g n
 | 0, _ => rfl
 | n+1, h => by rw [sumTo, sumTo, sumTo_congr n (fun i hi => h i o_), h n o_]
theorem sumTo_add (f g : Nat→Int) : ∀ n : Nat, sumTo (fun i=>f i+g i) n=sumTo f n+sumTo g n
 | 0 => rfl
 | n+1 => by rw [sumTo, sumTo, sumTo, sumTo_add f g n]; omega
theorem sumTo_zero : ∀ n : Nat, sumTo (fun _=>0) n=0
 | 0 => rfl
 | n+1 => by rw [sumTo, sumTo_zero n]; rfl
theorem sumTo_one : ∀ n : Nat, sumTo (fun _=>1) n=n
 | 0 => rfl
 | n+1 => by rw [sumTo, sumTo_one n]; omega
theorem sumTo_le {f g : Nat→Int} : ∀ (n:Nat), (∀ i, i<n→f i≤g i)→sumTo f n≤sumTo g n
 | 0, _ => by simp [sumTo]
 | n+1, h => by
  have := sumTo_le n (fun i hi => h i o_)
  have := h n o_
  simp only [sumTo]; omega
theorem sumTo_swap (f : Nat→Nat→Int) (m:Nat) : ∀ n : Nat, sumTo (fun i=>sumTo (fun j=>f i j) m) n=sumTo (fun j=>sumTo (fun i=>f i j) n) m
 | 0 => (sumTo_zero m).symm
 | n+1 => by
  rw [sumTo, sumTo_swap f m n, ← sumTo_add]
  rfl
theorem sumTo_pick (a:Nat) (c:Int) : ∀ n : Nat, sumTo (fun i=>if i=a then c else 0) n=if a<n then c else 0
 | 0 => by simp [sumTo]
 | n+1 => by
  rw [sumTo, sumTo_pick a c n]
  by_cases h1 : a<n
  ·rw [if_pos h1, if_neg o_, if_pos o_]; omega
  ·by_cases h2 : n=a
   ·rw [if_neg h1, if_pos h2, if_pos o_]; omega
   ·rw [if_neg h1, if_neg h2, if_neg o_]; rfl
theorem sumTo_bij (f : Nat→Int) (n:Nat) (s t : Nat→Nat) (hs : ∀ i, i<n→s i<n∧t (s i)=i) (ht : ∀ i, i<n→t i<n∧s (t i)=i) : sumTo (fun i=>f (s i)) n=sumTo f n:=by
 have e1 : sumTo (fun i=>f (s i)) n=sumTo (fun i=>sumTo (fun v=>if v=s i then f v else 0) n) n:=by
  refine sumTo_congr n (fun i hi => ?_);have : sumTo (fun v=>if v=s i then f v else 0) n=sumTo (fun v=>if v=s i then f (s i) else 0) n:=by
   refine sumTo_congr n (fun v _ => ?_);by_cases e : v=s i
   ·rw [if_pos e, if_pos e, e]
   ·rw [if_neg e, if_neg e]
  rw [this, sumTo_pick, if_pos (hs i hi).1]
 rw [e1, sumTo_swap];refine sumTo_congr n (fun v hv => ?_);have : sumTo (fun i=>if v=s i then f v else 0) n=sumTo (fun i=>if i=t v then f v else 0) n:=by
  refine sumTo_congr n (fun i hi => ?_);by_cases e : v=s i
  ·rw [if_pos e, if_pos (by rw [e]; exact ((hs i hi).2).symm)]
  ·rw [if_neg e, if_neg (fun h=>e (by rw [h]; exact ((ht v hv).2).symm))]
 rw [this, sumTo_pick, if_pos (ht v hv).1]
theorem count_sum (v:Int) : ∀ l : List Int, (l.count v:Int)=sumTo (fun i=>if rd l (i:Int)=v then 1 else 0) l.length:=by
 intro l;have key : ∀ j, j≤l.length→((l.take j).count v:Int)=sumTo (fun i=>if rd l (i:Int)=v then 1 else 0) j:=by
  intro j
  induction j with
  | zero => intro _; rfl
  | succ j ih =>
   intro hj;rw [sumTo, ← ih o_, List.take_succ_eq_append_getElem o_, List.count_append];(have e : rd l (j:Int)=l[j] := by simp [rd_nat, show j<l.length by omega]);rw [e];(by_cases h : l[j]=v <;> simp [h])
 have := key l.length (Nat.le_refl _);rwa [List.take_length] at this
theorem sumTo_bound {f : Nat→Int} (c:Int) : ∀ (n:Nat), (∀ i, i<n→0≤f i∧f i≤c)→0≤sumTo f n∧sumTo f n≤c * n
 | 0, _ => by simp [sumTo]
 | n+1, h => by
  have h1 := sumTo_bound c n (fun i hi => h i o_)
  have h2 := h n o_
  have h3 : c * ((n+1:Nat):Int)=c * n+c := by rw [Int.natCast_succ, Int.mul_add, Int.mul_one]
  rw [h3]
  simp only [sumTo]; omega
theorem sumTo_gap (a b:Int) (h0 : 1≤a) (h1 : a≤b) : ∀ m : Nat, sumTo (fun g=>if a≤(g:Int)+1∧b > (g:Int)+1 then 1 else 0) m=max 0 (min (b - 1) m - a+1)
 | 0 => by simp only [sumTo]; omega
 | m+1 => by
  rw [sumTo, sumTo_gap a b h0 h1 m]
  by_cases h : a≤(m:Int)+1∧b > (m:Int)+1
  ·rw [if_pos h]; omega
  ·rw [if_neg h]; omega
def downO (n:Nat) : List Int := (List.range n).map (fun i : Nat => (n:Int) - i)
theorem downO_length (n:Nat) : (downO n).length=n := by simp [downO]
theorem downO_rd {n i : Nat} (h : i<n) : rd (downO n) (i:Int)=(n:Int) - i:=by
 rw [rd_get _ (by rw [downO_length]; exact h)]; simp [downO]
theorem downO_ok {n : Nat} (h1 : 1≤n) (h2 : n≤8) : orderOk (downO n) n=true:=by
 rw [orderOk_iff];refine ⟨by omega, by rw [downO_length], ?_⟩;intro i hi;rw [downO_length] at hi;refine ⟨by rw [downO_rd hi]; omega, fun j hj => ?_⟩;rw [downO_rd hi, downO_rd (show j<n by omega)]; omega
theorem placeOf_down {n : Nat} (h1 : 1≤n) (h2 : n≤8) {v : Int} (h3 : 1≤v) (h4 : v≤n) : placeOf (downO n) v=(n:Int)+1 - v:=by
 obtain ⟨i, h5, h6, h7⟩:=placeOf_spec (downO_ok h1 h2) h3 h4;rw [downO_rd h5] at h6; omega
def backOf (l : List Int) : List Int := if treeOk l then putOf l (downO l.length) else []
theorem backOf_ok {l : List Int} (h : treeOk l=true) : treeOk (backOf l)=true∧(backOf l).length=l.length:=by
 have hn := treeOk_len h;unfold backOf;rw [if_pos h];exact ⟨treeOk_put h (downO_ok hn.1 hn.2), by rw [putOf_length, downO_length]⟩
theorem backOf_rd {l : List Int} (h : treeOk l=true) {i : Nat} (hi : i<l.length) : rd (backOf l) (i:Int)=if rd l (((l.length - 1 - i:Nat)):Int)=0 then 0 else (l.length:Int)+1 - rd l (((l.length - 1 - i:Nat)):Int):=by
 have hn := treeOk_len h;have hr := treeOk_rd h (j := l.length - 1 - i) o_;unfold backOf;rw [if_pos h, putOf_rd (downO_ok hn.1 hn.2) hi, downO_rd hi, show (l.length:Int) - i - 1=((l.length - 1 - i:Nat):Int) by omega];by_cases e : rd l (((l.length - 1 - i:Nat)):Int)=0
 ·rw [if_pos e, e, placeOf_zero (downO_ok hn.1 hn.2)]
 ·rw [if_neg e, placeOf_down hn.1 hn.2 o_ hr.2]
theorem sumTo_rev (f : Nat→Int) (n:Nat) : sumTo (fun i=>f (n - 1 - i)) n=sumTo f n :=
 sumTo_bij f n (fun i=>n - 1 - i) (fun i=>n - 1 - i) (fun i hi => ⟨by omega,by omega⟩) (fun i hi => ⟨by omega,by omega⟩)
def kidsL (l : List Int) (w:Int) (n j:Nat) : List Nat := (List.range' j (n - j)).filter (fun i=>decide (rd l i=w∧(i:Int)+1<w))
def kidsR (l : List Int) (w:Int) (n j:Nat) : List Nat := (List.range' j (n - j)).filter (fun i=>decide (rd l i=w∧¬ (i:Int)+1<w))
def flatF (l : List Int) : Nat→Int→List Int
 | 0, w => [w]
 | m+1, w => (kidsL l w l.length 0).flatMap (fun i : Nat => flatF l m ((i:Int)+1)) ++ ([w] ++ (kidsR l w l.length 0).flatMap (fun i : Nat => flatF l m ((i:Int)+1)))
def flatOrder (l : List Int) : List Int := if treeOk l then flatF l l.length (rootOf l) else []
theorem range'_cons {n j : Nat} (h : j<n) : List.range' j (n - j)=j :: List.range' (j+1) (n - (j+1)):=by
 rw [show n - j=(n - (j+1))+1 by omega, List.range'_succ]
theorem kidsL_end (l : List Int) (w:Int) {n j : Nat} (h : n≤j) : kidsL l w n j=[] := by unfold kidsL; rw [show n - j=0 by omega]; rfl
theorem kidsR_end (l : List Int) (w:Int) {n j : Nat} (h : n≤j) : kidsR l w n j=[] := by unfold kidsR; rw [show n - j=0 by omega]; rfl
theorem kidsL_yes (l : List Int) (w:Int) {n j : Nat} (h : j<n) (e : rd l j=w∧(j:Int)+1<w) : kidsL l w n j=j :: kidsL l w n (j+1):=by
 unfold kidsL; rw [range'_cons h, List.filter_cons_of_pos (by simpa using e)]
theorem kidsL_no (l : List Int) (w:Int) {n j : Nat} (h : j<n) (e : ¬ (rd l j=w∧(j:Int)+1<w)) : kidsL l w n j=kidsL l w n (j+1):=by
 unfold kidsL; rw [range'_cons h, List.filter_cons_of_neg (by simpa using e)]
theorem kidsR_yes (l : List Int) (w:Int) {n j : Nat} (h : j<n) (e : rd l j=w∧¬ (j:Int)+1<w) : kidsR l w n j=j :: kidsR l w n (j+1):=by
 unfold kidsR; rw [range'_cons h, List.filter_cons_of_pos (by simpa using e)]
theorem kidsR_no (l : List Int) (w:Int) {n j : Nat} (h : j<n) (e : ¬ (rd l j=w∧¬ (j:Int)+1<w)) : kidsR l w n j=kidsR l w n (j+1):=by
 unfold kidsR; rw [range'_cons h, List.filter_cons_of_neg (by simpa using e)]
theorem flatMap_small (m b:Nat) (g : Nat→List Int) (hg : ∀ i, (g i).length≤b) : ∀ (ks : List Nat), ks.length≤m→(ks.flatMap g).length≤m * b
 | [], _ => by simp
 | i :: r, h => by
  have h1 := hg i
  obtain ⟨m, rfl⟩ : ∃ q, m=q+1 := ⟨m - 1, by simp at h; omega⟩
  have h2 := flatMap_small m b g hg r (by simpa using h)
  rw [List.flatMap_cons, List.length_append, Nat.add_mul]
  omega
theorem kids_len (l : List Int) (w:Int) (n j:Nat) : (kidsL l w n j).length≤n∧(kidsR l w n j).length≤n:=by
 constructor
 ·exact Nat.le_trans (List.length_filter_le _ _) (by simp)
 ·exact Nat.le_trans (List.length_filter_le _ _) (by simp)
theorem flatF_small (l : List Int) (hl : l.length≤8) : ∀ (m:Nat) (w:Int), (flatF l m w).length≤20 ^ m
 | 0, w => by simp [flatF]
 | m+1, w => by
  have h1 := kids_len l w l.length 0
  have h2 := flatMap_small 8 (20 ^ m) (fun i : Nat => flatF l m ((i:Int)+1)) (fun i=>flatF_small l hl m _) (kidsL l w l.length 0) o_
  have h3 := flatMap_small 8 (20 ^ m) (fun i : Nat => flatF l m ((i:Int)+1)) (fun i=>flatF_small l hl m _) (kidsR l w l.length 0) o_
  have h4 : 1≤20 ^ m := Nat.one_le_pow _ _ o_
  unfold flatF
  simp only [List.length_append, List.length_singleton]
  rw [Nat.pow_succ]
  omega
theorem pow20_le {m : Nat} (h : m≤8) : 20 ^ m≤25600000000 := Nat.le_trans (Nat.pow_le_pow_right o_ h) (by decide)
theorem mem_flatF {l : List Int} : ∀ (m e:Nat) (w v:Int), (1≤w∧w≤l.length)→Deep l e w→v ∈ flatF l m w→(1≤v∧v≤l.length)∧∃ k, up l k v=w∧Deep l (e+k) v
 | 0, e, w, v, hw, hd, hv => by
  rw [flatF, List.mem_singleton] at hv
  subst hv
  exact ⟨hw, 0, rfl, hd⟩
 | m+1, e, w, v, hw, hd, hv => by
  have kid : ∀ i : Nat, i<l.length→rd l i=w→v ∈ flatF l m ((i:Int)+1)→(1≤v∧v≤l.length)∧∃ k, up l k v=w∧Deep l (e+k) v:=by
   intro i hi hr hm;obtain ⟨h1, k, h2, h3⟩:=mem_flatF m (e+1) _ v ⟨by omega,by omega⟩ (deep_kid hw hd hr) hm;refine ⟨h1, k+1, ?_, by rw [show e+(k+1)=e+1+k by omega]; exact h3⟩;rw [up_succ, h2, show (i:Int)+1 - 1=(i:Int) by omega];exact hr
  rw [flatF, List.mem_append, List.mem_append, List.mem_flatMap, List.mem_flatMap, List.mem_singleton] at hv;rcases hv with ⟨i, hi, hv⟩ | rfl | ⟨i, hi, hv⟩
  ·unfold kidsL at hi;rw [List.mem_filter, List.mem_range'_1, decide_eq_true_eq] at hi;exact kid i o_ hi.2.1 hv
  ·exact ⟨hw, 0, rfl, hd⟩
  ·unfold kidsR at hi;rw [List.mem_filter, List.mem_range'_1, decide_eq_true_eq] at hi;exact kid i o_ hi.2.1 hv
theorem self_mem_flatF {l : List Int} (m:Nat) (w:Int) : w ∈ flatF l m w:=by
 cases m <;> simp [flatF]
theorem flatF_mem {l : List Int} (h : treeOk l=true) : ∀ (k m e:Nat) (w v:Int), (1≤v∧v≤l.length)→up l k v=w→Deep l (e+k) v→l.length≤e+m→v ∈ flatF l m w
 | 0, m, e, w, v, hv, hu, hd, hm => by
  have : v=w := hu
  subst this
  exact self_mem_flatF m v
 | k+1, m, e, w, v, hv, hu, hd, hm => by
  have hd' : Deep l ((e+1)+k) v := by rw [show e+1+k=e+(k+1) by omega]; exact hd
  have hc := up_range l k (e+1) v hd' hv
  have hlt := deep_lt h hv.1 hv.2 hd
  obtain ⟨m, rfl⟩ : ∃ q, m=q+1 := ⟨m - 1,by omega⟩
  have ih := flatF_mem h k m (e+1) (up l k v) v hv rfl hd' o_
  rw [up_succ] at hu
  obtain ⟨i, hi⟩ : ∃ i : Nat, up l k v=(i:Int)+1 := ⟨(up l k v - 1).toNat,by omega⟩
  rw [hi] at ih hu hc
  rw [show (i:Int)+1 - 1=(i:Int) by omega] at hu
  rw [flatF, List.mem_append, List.mem_append, List.mem_flatMap, List.mem_flatMap]
  by_cases hlt2 : (i:Int)+1<w
  ·refine .inl ⟨i, ?_, ih⟩
   unfold kidsL
   rw [List.mem_filter, List.mem_range'_1, decide_eq_true_eq]
   exact ⟨by omega, hu, hlt2⟩
  ·refine .inr (.inr ⟨i, ?_, ih⟩)
   unfold kidsR
   rw [List.mem_filter, List.mem_range'_1, decide_eq_true_eq]
   exact ⟨by omega, hu, hlt2⟩
theorem nodup_flatMap' (g : Nat→List Int) : ∀ (ks : List Nat), ks.Nodup→(∀ i, i ∈ ks→(g i).Nodup)→(∀ i j, i ∈ ks→j ∈ ks→i≠j→∀ x, x ∈ g i→x ∉ g j)→(ks.flatMap g).Nodup
 | [], _, _, _ => by simp
 | i :: r, hn, hg, hd => by
  rw [List.nodup_cons] at hn
  rw [List.flatMap_cons, List.nodup_append]
  refine ⟨hg i (by simp), nodup_flatMap' g r hn.2 (fun j hj => hg j (by simp [hj])) (fun a b ha hb => hd a b (by simp [ha]) (by simp [hb])), ?_⟩
  intro x hx y hy e
  subst e
  rw [List.mem_flatMap] at hy
  obtain ⟨j, hj, hy⟩:=hy
  refine hd i j (by simp) (by simp [hj]) ?_ x hx hy
  rintro rfl
  exact hn.1 hj
theorem flatF_nodup {l : List Int} : ∀ (m e:Nat) (w:Int), (1≤w∧w≤l.length)→Deep l e w→(flatF l m w).Nodup
 | 0, e, w, hw, hd => by simp [flatF]
 | m+1, e, w, hw, hd => by
  have kl : ∀ i : Nat, i ∈ kidsL l w l.length 0→i<l.length∧rd l i=w∧(i:Int)+1<w:=by
   intro i hi;unfold kidsL at hi;rw [List.mem_filter, List.mem_range'_1, decide_eq_true_eq] at hi;exact ⟨by omega, hi.2⟩
  have kr : ∀ i : Nat, i ∈ kidsR l w l.length 0→i<l.length∧rd l i=w∧¬ (i:Int)+1<w:=by
   intro i hi;unfold kidsR at hi;rw [List.mem_filter, List.mem_range'_1, decide_eq_true_eq] at hi;exact ⟨by omega, hi.2⟩
  have apart : ∀ i j : Nat, (i<l.length∧rd l i=w)→(j<l.length∧rd l j=w)→i≠j→∀ x, x ∈ flatF l m ((i:Int)+1)→x ∉ flatF l m ((j:Int)+1):=by
   intro i j hi hj hne x hx hy;obtain ⟨_, k, h2, h3⟩:=mem_flatF m (e+1) _ x ⟨by omega,by omega⟩ (deep_kid hw hd hi.2) hx;obtain ⟨_, k', h2', h3'⟩:=mem_flatF m (e+1) _ x ⟨by omega,by omega⟩ (deep_kid hw hd hj.2) hy;have := deep_unique l _ _ x h3 h3';(have hk : k=k' := by omega);subst hk;omega
  have notself : ∀ i : Nat, i<l.length→rd l i=w→w ∉ flatF l m ((i:Int)+1):=by
   intro i hi hr hx;obtain ⟨_, k, h2, h3⟩:=mem_flatF m (e+1) _ w ⟨by omega,by omega⟩ (deep_kid hw hd hr) hx;have := deep_unique l _ _ w hd h3;omega
  have nd : ∀ i : Nat, i<l.length→rd l i=w→(flatF l m ((i:Int)+1)).Nodup := fun i hi hr => flatF_nodup m (e+1) _ ⟨by omega,by omega⟩ (deep_kid hw hd hr);rw [flatF, List.nodup_append, List.nodup_append];refine ⟨?_, ⟨by simp, ?_, ?_⟩, ?_⟩
  ·refine nodup_flatMap' _ _ (List.Pairwise.filter _ List.nodup_range') (fun i hi => nd i (kl i hi).1 (kl i hi).2.1) (fun i j hi hj hne => apart i j ⟨(kl i hi).1, (kl i hi).2.1⟩ ⟨(kl j hj).1, (kl j hj).2.1⟩ hne)
  ·refine nodup_flatMap' _ _ (List.Pairwise.filter _ List.nodup_range') (fun i hi => nd i (kr i hi).1 (kr i hi).2.1) (fun i j hi hj hne => apart i j ⟨(kr i hi).1, (kr i hi).2.1⟩ ⟨(kr j hj).1, (kr j hj).2.1⟩ hne)
  ·intro x hx y hy exy;rw [List.mem_singleton] at hx;subst hx; subst exy;rw [List.mem_flatMap] at hy;obtain ⟨i, hi, hy⟩:=hy;exact notself i (kr i hi).1 (kr i hi).2.1 hy
  ·intro x hx y hy exy;subst exy;rw [List.mem_flatMap] at hx;obtain ⟨i, hi, hx⟩:=hx;rw [List.mem_append, List.mem_singleton, List.mem_flatMap] at hy;rcases hy with rfl | ⟨j, hj, hy⟩
   ·exact notself i (kl i hi).1 (kl i hi).2.1 hx
   ·refine apart i j ⟨(kl i hi).1, (kl i hi).2.1⟩ ⟨(kr j hj).1, (kr j hj).2.1⟩ ?_ x hx hy;rintro rfl;exact (kr _ hj).2.2 (kl _ hi).2.2
theorem flatF_root {l : List Int} (h : treeOk l=true) : (1≤rootOf l∧rootOf l≤l.length)∧Deep l 0 (rootOf l):=by
 obtain ⟨i, h1, h2, h3⟩:=rootOf_spec h;rw [h3];refine ⟨by omega, ?_⟩;show rd l ((i:Int)+1 - 1)=0;rw [show (i:Int)+1 - 1=(i:Int) by omega];exact h2
theorem flatOrder_nodup {l : List Int} (h : treeOk l=true) : (flatOrder l).Nodup:=by
 unfold flatOrder;rw [if_pos h];exact flatF_nodup _ 0 _ (flatF_root h).1 (flatF_root h).2
theorem flatOrder_range {l : List Int} (h : treeOk l=true) : ∀ x, x ∈ flatOrder l→1≤x∧x≤l.length:=by
 unfold flatOrder;rw [if_pos h];exact fun x hx => (mem_flatF _ 0 _ x (flatF_root h).1 (flatF_root h).2 hx).1
theorem flatOrder_mem {l : List Int} (h : treeOk l=true) {v : Int} (hv : 1≤v∧v≤l.length) : v ∈ flatOrder l:=by
 unfold flatOrder;rw [if_pos h];obtain ⟨d, hd, hd2⟩:=tree_deep h hv.1 hv.2;exact flatF_mem h d l.length 0 _ v hv (up_root h hv hd2) (by rw [Nat.zero_add]; exact hd2) o_
theorem flatOrder_le (l : List Int) : (flatOrder l).length≤8:=by
 by_cases h : treeOk l=true
 ·have := nodup_le l.length _ (flatOrder_nodup h) (flatOrder_range h);have hl := treeOk_len h;omega
 ·unfold flatOrder; rw [if_neg h]; simp
theorem flatOrder_small (l : List Int) : (flatOrder l).length≤1048576 := Nat.le_trans (flatOrder_le l) o_
def madeFlat (l : List Int) : List Int := (putInOrder l (flatOrder l)).1
theorem madeFlat_small (l : List Int) : (madeFlat l).length≤1048576 := Nat.le_trans (putInOrder_len l _) o_
def deskMade (l : List Int) (a b c:Int) : List Int :=
 if a=0∧1≤b∧b≤l.length then l.set (b - 1).toNat c
 else if a=1∧c=0 then l ++ [b]
 else if a=2∧b=0∧c=0 then l.take (l.length - 1)
 else if a=3∧b=0∧c=0 then backOf l
 else if a=4∧b=0∧c=0 then madeFlat l
 else []
def deskPut (l m : List Int) (r : List (List Int)) : List Int × List (List Int) × Bool :=
 if m=l ∨ treeOk m=false then (l, r, false) else (m, if r.length+1 > 8 then (r ++ [l]).drop 1 else r ++ [l], true)
def deskDo (l : List Int) (r : List (List Int)) (a b c:Int) : List Int × List (List Int) × Bool :=
 if deskOk l r=true then
  if (a=5∧b=0∧c=0)∧0<r.length then (r.getD (r.length - 1) [], r.take (r.length - 1), true)
  else deskPut l (deskMade l a b c) r
 else ([], [], false)
theorem deskOk_parts {l : List Int} {r : List (List Int)} (h : deskOk l r=true) : treeOk l=true∧r.length≤8∧∀ x ∈ r, treeOk x=true:=by
 unfold deskOk at h;simp only [Bool.and_eq_true, decide_eq_true_eq, List.all_eq_true] at h;exact ⟨h.1.1, h.1.2, h.2⟩
theorem deskOk_mk {l : List Int} {r : List (List Int)} (h1 : treeOk l=true) (h2 : r.length≤8) (h3 : ∀ x ∈ r, treeOk x=true) : deskOk l r=true:=by
 unfold deskOk;simp only [Bool.and_eq_true, decide_eq_true_eq, List.all_eq_true];exact ⟨⟨h1, h2⟩, h3⟩
theorem deskDo_ok {l : List Int} {r : List (List Int)} (a b c:Int) (h : (deskDo l r a b c).2.2=true) : deskOk (deskDo l r a b c).1 (deskDo l r a b c).2.1=true∧(deskDo l r a b c).2.1.length≤r.length+1:=by
 unfold deskDo at h ⊢;by_cases h1 : deskOk l r=true
 ·rw [if_pos h1] at h ⊢;obtain ⟨p1, p2, p3⟩:=deskOk_parts h1;by_cases h2 : (a=5∧b=0∧c=0)∧0<r.length
  ·rw [if_pos h2];(have hl : r.length - 1<r.length := by omega);refine ⟨deskOk_mk (p3 _ ?_) ?_ (fun x hx => p3 x (List.mem_of_mem_take hx)), ?_⟩
   ·show r.getD (r.length - 1) [] ∈ r;rw [List.getD_eq_getElem?_getD, List.getElem?_eq_getElem hl];exact List.getElem_mem ..
   ·show (r.take (r.length - 1)).length≤8;rw [List.length_take]; omega
   ·show (r.take (r.length - 1)).length≤r.length+1;rw [List.length_take]; omega
  ·rw [if_neg h2] at h ⊢;unfold deskPut at h ⊢;by_cases h3 : deskMade l a b c=l ∨ treeOk (deskMade l a b c)=false
   ·rw [if_pos h3] at h;cases h
   ·rw [if_neg h3];have h4 : treeOk (deskMade l a b c)=true:=by
     by_cases z : treeOk (deskMade l a b c)=true
     ·exact z
     ·exact absurd (.inr (Bool.eq_false_iff.mpr z)) h3
    refine ⟨deskOk_mk h4 ?_ ?_, ?_⟩
    ·show (if r.length+1 > 8 then (r ++ [l]).drop 1 else r ++ [l]).length≤8;(split <;> simp <;> omega)
    ·intro x hx;have hx : x ∈ (if r.length+1 > 8 then (r ++ [l]).drop 1 else r ++ [l]) := hx;have hx2 : x ∈ r ++ [l]:=by
      split at hx
      ·exact List.mem_of_mem_drop hx
      ·exact hx
     rcases List.mem_append.1 hx2 with h5 | h5
     ·exact p3 x h5
     ·rw [List.mem_singleton.1 h5]; exact p1
    ·show (if r.length+1 > 8 then (r ++ [l]).drop 1 else r ++ [l]).length≤r.length+1;(split <;> simp)
 ·rw [if_neg h1] at h;cases h
theorem deskMade_len (l : List Int) (a b c:Int) (hl : l.length≤1048575) : (deskMade l a b c).length≤1048576:=by
 unfold deskMade;by_cases h0 : a=0∧1≤b∧b≤l.length
 ·rw [if_pos h0, List.length_set]; omega
 ·rw [if_neg h0];by_cases h1 : a=1∧c=0
  ·rw [if_pos h1]; simp; omega
  ·rw [if_neg h1];by_cases h2 : a=2∧b=0∧c=0
   ·rw [if_pos h2, List.length_take]; omega
   ·rw [if_neg h2];by_cases h3 : a=3∧b=0∧c=0
    ·rw [if_pos h3];by_cases z : treeOk l=true
     ·rw [(backOf_ok z).2]; omega
     ·unfold backOf; rw [if_neg z]; simp
    ·rw [if_neg h3];by_cases h4 : a=4∧b=0∧c=0
     ·rw [if_pos h4]; exact madeFlat_small l
     ·rw [if_neg h4]; simp
theorem spec_BackOf_l0 (l : List Int) (h : treeOk l=true) (d:Nat) : ∀ (j:Nat), j+d=l.length →
  Ev (fun k=>F104.l0 k l ((backOf l).take j) (l.length:Int) ((l.length:Int) - 1 - j)) (backOf l):=by
 have hn := treeOk_len h;have hb := (backOf_ok h).2
 induction d with
 | zero =>
  intro j hj;refine Ev.step (fun k=>F104.l0.eq_2 ..) (Ev.neg o_ ?_);refine Ev.step (fun k=>F104.j1.eq_2 ..) (Ev.neg (by simp) (Ev.ret ?_));rw [List.take_of_length_le o_]
 | succ d ih =>
  intro j hj;have next := ih (j+1) o_;have ht : (backOf l).take (j+1)=(backOf l).take j ++ [rd (backOf l) (j:Int)]:=by
   rw [List.take_succ_eq_append_getElem o_, rd_get _ o_]
  (have e1 : wrap64 ((l.length:Int) - 1 - j - 1)=(l.length:Int) - 1 - ((j+1:Nat):Int) := by rw [wrap_id o_ o_]; omega);(have e2 : ((l.length:Int) - 1 - j)=((l.length - 1 - j:Nat):Int) := by omega);have hr := treeOk_rd h (j := l.length - 1 - j) o_;have hk := backOf_rd h (i := j) o_;refine Ev.step (fun k=>F104.l0.eq_2 ..) (Ev.pos o_ (Ev.bind (spec_TreeOk_ev l) ?_));refine Ev.step (fun k=>F104.j1.eq_2 ..) (Ev.pos h (Ev.pos o_ (Ev.pos o_ ?_)));rw [e1];rw [e2];by_cases e : rd l (((l.length - 1 - j:Nat)):Int)=0
  ·rw [if_pos e] at hk;refine Ev.pos e (Ev.pos (by rw [List.length_take]; omega) ?_);rw [show (backOf l).take j ++ [0]=(backOf l).take (j+1) by rw [ht, hk]];exact next
  ·rw [if_neg e] at hk;refine Ev.neg e (Ev.pos (by rw [List.length_take]; omega) ?_);rw [wrap_id (n := (l.length:Int)+1) o_ o_, wrap_id o_ o_, ← hk, ← ht];exact next
theorem spec_BackOf_ev (l : List Int) (hl : l.length≤1048576) : Ev (fun k=>F104.f k l) (backOf l):=by
 unfold F104.f;rw [wrap_id o_ o_];by_cases h : treeOk l=true
 ·have := spec_BackOf_l0 l h l.length 0 o_;rw [List.take_zero] at this;simpa using this
 ·(have e : backOf l=[] := by unfold backOf; rw [if_neg h]);rw [e];have out : ∀ m : Int, Ev (fun k=>F104.j1 k l [] (l.length:Int) m false) [] := fun m=>Ev.step (fun k=>F104.j1.eq_2 ..) (Ev.neg (by simp) (Ev.ret rfl));refine Ev.step (fun k=>F104.l0.eq_2 ..) (Ev.ite (fun _=>Ev.bind (spec_TreeOk_ev l) ?_) (fun _=>out _));rw [Bool.eq_false_iff.mpr h];exact out _
theorem spec_RootOf_l0 (l : List Int) (h : treeOk l=true) (d:Nat) : ∀ j : Nat, j+d=l.length→(∃ i : Nat, j≤i∧i<l.length∧rd l i=0)→Ev (fun k=>F117.l0 k l (j:Int)) (indexFrom l 0 l.length j+1):=by
 have hl := treeOk_len h
 induction d with
 | zero => intro j hj ⟨i, h1, h2, _⟩; omega
 | succ d ih =>
  intro j hj ⟨i, h1, h2, h3⟩;refine Ev.step (fun k=>F117.l0.eq_2 ..) (Ev.pos o_ (Ev.bind (spec_TreeOk_ev l) ?_));rw [h, indexFrom_step l 0 o_];refine Ev.step (fun k=>F117.j1.eq_2 ..) (Ev.pos rfl (Ev.pos o_ (Ev.pos o_ (Ev.ite (fun e=>?_) (fun e=>?_)))))
  ·rw [if_pos e];exact Ev.ret (wrap_id o_ o_)
  ·rw [if_neg e, wrap_add1 o_];refine ih (j+1) o_ ⟨i, ?_, h2, h3⟩;by_cases e2 : i=j
   ·subst e2; exact absurd h3 e
   ·omega
theorem spec_RootOf_ev (l : List Int) : Ev (fun k=>F117.f k l) (rootOf l):=by
 unfold F117.f rootOf;by_cases h : treeOk l=true
 ·rw [if_pos h];obtain ⟨i, h1, h2⟩:=exists_root h;exact spec_RootOf_l0 l h l.length 0 o_ ⟨i,by omega, h1, h2⟩
 ·rw [if_neg h];refine Ev.step (fun k=>F117.l0.eq_2 ..) (Ev.ite (fun e=>?_) (fun e=>?_))
  ·refine Ev.bind (spec_TreeOk_ev l) ?_;rw [show treeOk l=false by simpa using h];exact Ev.step (fun k=>F117.j1.eq_2 ..) (Ev.neg (by simp) (Ev.ret rfl))
  ·exact Ev.step (fun k=>F117.j1.eq_2 ..) (Ev.neg (by simp) (Ev.ret rfl))
theorem spec_walk_l1 (l : List Int) (w:Int) (hl : l.length≤8) (m:Nat) (hm : m<8) (hw : 1≤w∧w≤l.length) (ih : ∀ i : Nat, i<l.length→rd l i=w→Ev (fun k=>F116.f k l ((i:Int)+1)) (flatF l m ((i:Int)+1))) (d:Nat) :
  ∀ (j:Nat) (x : List Int), j+d=l.length→w≤j→x.length+(d+1) * 20 ^ m≤1000000000000→Ev (fun k=>F116.l1 k l w x ((j:Int)+1)) (x ++ (kidsR l w l.length j).flatMap (fun i : Nat => flatF l m ((i:Int)+1))):=by
 induction d with
 | zero =>
  intro j x hj hwj hx;refine Ev.step (fun k=>F116.l1.eq_2 ..) (Ev.neg o_ (Ev.ret ?_));rw [kidsR_end l w o_]; simp
 | succ d ihd =>
  intro j x hj hwj hx;have hf := flatF_small l hl m ((j:Int)+1);(have hp : (d+1+1) * 20 ^ m=(d+1) * 20 ^ m+20 ^ m := by rw [Nat.add_mul (d+1) 1, Nat.one_mul]);refine Ev.step (fun k=>F116.l1.eq_2 ..) ?_;rw [wrap_id (n := (j:Int)+1 - 1) o_ o_, show (j:Int)+1 - 1=(j:Int) by omega, wrap_id (n := (j:Int)+1+1) o_ o_];refine Ev.pos o_ (Ev.pos o_ (Ev.pos o_ (Ev.ite (fun e=>?_) (fun e=>?_))))
  ·refine Ev.bind (ih j o_ e) (Ev.pos o_ ?_);rw [kidsR_yes l w o_ ⟨e,by omega⟩, List.flatMap_cons, ← List.append_assoc];exact ihd (j+1) _ o_ o_ (by rw [List.length_append]; omega)
  ·rw [kidsR_no l w o_ (fun h=>e h.1)];exact ihd (j+1) _ o_ o_ o_
theorem spec_walk_l0 (l : List Int) (w:Int) (hl : l.length≤8) (m:Nat) (hm : m<8) (hw : 1≤w∧w≤l.length) (hself : rd l (w - 1)≠w) (ih : ∀ i : Nat, i<l.length→rd l i=w→Ev (fun k=>F116.f k l ((i:Int)+1)) (flatF l m ((i:Int)+1))) (d:Nat) :
  ∀ (j:Nat) (x : List Int), j+d+1=w→x.length+(d+10) * 20 ^ m≤1000000000000→Ev (fun k=>F116.l0 k l w x ((j:Int)+1)) (x ++ ((kidsL l w l.length j).flatMap (fun i : Nat => flatF l m ((i:Int)+1)) ++ ([w] ++ (kidsR l w l.length 0).flatMap (fun i : Nat => flatF l m ((i:Int)+1))))):=by
 have h20 : 1≤20 ^ m := Nat.one_le_pow _ _ o_
 induction d with
 | zero =>
  intro j x hj hx;have e0 : kidsL l w l.length j=[]:=by
   unfold kidsL;rw [List.filter_eq_nil_iff];intro i hi;have := List.mem_range'_1.mp hi;simp; intro _; omega
  have e1 : kidsR l w l.length 0=kidsR l w l.length (j+1):=by
   have : ∀ q : Nat, q≤j+1→kidsR l w l.length 0=kidsR l w l.length q:=by
    intro q
    induction q with
    | zero => intro _; rfl
    | succ q ihq =>
     intro hq;rw [ihq o_, kidsR_no l w o_];rintro ⟨h1, h2⟩;(have : q=j := by omega);subst this;exact hself (by rw [show w - 1=(q:Int) by omega]; exact h1)
   exact this (j+1) (Nat.le_refl _)
  refine Ev.step (fun k=>F116.l0.eq_2 ..) (Ev.neg o_ (Ev.pos o_ ?_));rw [e0, e1, List.flatMap_nil, List.nil_append, ← List.append_assoc, wrap_id (n := w+1) o_ o_, show w+1=((j+1:Nat):Int)+1 by omega];refine spec_walk_l1 l w hl m hm hw ih (l.length - (j+1)) (j+1) _ o_ o_ ?_;have : (l.length - (j+1)+1) * 20 ^ m≤8 * 20 ^ m := Nat.mul_le_mul_right _ o_;rw [List.length_append, List.length_singleton];rw [Nat.zero_add] at hx;omega
 | succ d ihd =>
  intro j x hj hx;have hf := flatF_small l hl m ((j:Int)+1);(have hp : (d+1+10) * 20 ^ m=(d+10) * 20 ^ m+20 ^ m := by rw [show d+1+10=(d+10)+1 by omega, Nat.add_mul (d+10) 1, Nat.one_mul]);refine Ev.step (fun k=>F116.l0.eq_2 ..) ?_;rw [wrap_id (n := (j:Int)+1 - 1) o_ o_, show (j:Int)+1 - 1=(j:Int) by omega, wrap_id (n := (j:Int)+1+1) o_ o_];refine Ev.pos o_ (Ev.pos o_ (Ev.pos o_ (Ev.ite (fun e=>?_) (fun e=>?_))))
  ·refine Ev.bind (ih j o_ e) (Ev.pos o_ ?_);rw [kidsL_yes l w o_ ⟨e,by omega⟩, List.flatMap_cons];simp only [List.append_assoc];rw [← List.append_assoc x];exact ihd (j+1) _ o_ (by rw [List.length_append]; omega)
  ·rw [kidsL_no l w o_ (fun h=>e h.1)];exact ihd (j+1) _ o_ o_
theorem spec_l8Walk_ev (l : List Int) (h : treeOk l=true) : ∀ (m d:Nat) (w:Int), 1≤w∧w≤l.length→Deep l d w→l.length≤d+m→m≤8→Ev (fun k=>F116.f k l w) (flatF l m w)
 | 0, d, w, hw, hd, hm, hm8 => by
  have := deep_lt h hw.1 hw.2 hd
  omega
 | m+1, d, w, hw, hd, hm, hm8 => by
  have hl := treeOk_len h
  have hself := treeOk_ne h (j := (w - 1).toNat) o_
  rw [show (((w - 1).toNat:Nat):Int)=w - 1 by omega] at hself
  have hp := pow20_le (m := m) o_
  refine Ev.step (fun k=>F116.f.eq_2 ..) ?_
  have := spec_walk_l0 l w hl.2 m o_ hw o_ (fun i hi e => spec_l8Walk_ev l h m (d+1) _ ⟨by omega,by omega⟩ (deep_kid hw hd e) o_ o_) (w - 1).toNat 0 [] o_ (by
   have : ((w - 1).toNat+10) * 20 ^ m≤18 * 20 ^ m := Nat.mul_le_mul_right _ o_
   simp only [List.length_nil]
   omega)
  exact this
theorem spec_FlatOrder_ev (l : List Int) : Ev (fun k=>F83.f k l) (flatOrder l):=by
 unfold F83.f flatOrder;refine Ev.bind (spec_TreeOk_ev l) (Ev.ite (fun h=>?_) (fun h=>?_))
 ·have hl := treeOk_len h;obtain ⟨i, h1, h2, h3⟩:=rootOf_spec h;rw [if_pos h];refine Ev.bind (spec_RootOf_ev l) (Ev.bind (spec_l8Walk_ev l h l.length 0 _ ⟨by omega,by omega⟩ ?_ o_ o_) (Ev.ret rfl));rw [h3];show rd l ((i:Int)+1 - 1)=0;rw [show (i:Int)+1 - 1=(i:Int) by omega];exact h2
 ·rw [if_neg h]; exact Ev.ret rfl
theorem spec_MadeFlat_ev (l : List Int) : Ev (fun k=>F37.f k l) (madeFlat l):=by
 unfold F37.f;exact Ev.bind (spec_FlatOrder_ev l) (Ev.bind (spec_PutInOrder_ev l _ (flatOrder_small l)) (Ev.ret rfl))
theorem rd1_nat (xs : List (List Int)) (j:Nat) : rd_L1 xs (j:Int)=xs.getD j [] := by simp [rd_L1]
theorem l12Copy_l0 (l : List Int) (r : List (List Int)) (hr : r.length≤1048576) (hx : ∀ x ∈ r, x.length≤1048576) (m : List Int) (d:Nat) : ∀ (j:Nat), j+d=r.length →
  Ev (fun k=>F54.l0 k (j:Int) l r m (r.take j)) (m, r):=by
 induction d with
 | zero =>
  intro j hj;refine Ev.step (fun k=>F54.l0.eq_2 ..) (Ev.neg o_ (Ev.ret ?_));rw [List.take_of_length_le o_]
 | succ d ih =>
  intro j hj;(have hjl : j<r.length := by omega);(have e : rd_L1 r (j:Int)=r[j] := by rw [rd1_nat, List.getD_eq_getElem?_getD, List.getElem?_eq_getElem hjl]; rfl);(have hlen : (rd_L1 r (j:Int)).length≤1048576 := by rw [e]; exact hx _ (List.getElem_mem ..));refine Ev.step (fun k=>F54.l0.eq_2 ..) (Ev.pos o_ ?_);simp only [Option.bind_some, List.nil_append, List.length_nil, Nat.zero_add];refine Ev.pos o_ (Ev.pos o_ (Ev.pos (by rw [List.length_take]; omega) ?_));rw [wrap_add1 o_, e, ← List.take_succ_eq_append_getElem hjl];exact ih (j+1) o_
theorem l12Copy_ev (l : List Int) (r : List (List Int)) (hl : l.length≤1048576) (hr : r.length≤1048576) (hx : ∀ x ∈ r, x.length≤1048576) : Ev (fun k=>F54.f k l r) (l, r):=by
 unfold F54.f;simp only [Option.bind_some, List.nil_append, List.length_nil, Nat.zero_add];refine Ev.pos o_ ?_;have := l12Copy_l0 l r hr hx l r.length 0 o_;rw [List.take_zero] at this;exact this
theorem l12Made_j0 (l : List Int) (hp : 1≤l.length) (hl : l.length≤1048576) (a b c:Int) (t : Bool) (ht : t=decide (a=0∧1≤b∧b≤l.length)) : Ev (fun k=>F55.j0 k l l t a b c) (deskMade l a b c):=by
 refine Ev.step (fun k=>F55.j0.eq_2 ..) ?_;unfold deskMade;by_cases h0 : a=0∧1≤b∧b≤l.length
 ·have e : wrap64 (b - 1)=b - 1 := wrap_id o_ o_;rw [if_pos h0, e];exact Ev.pos (by rw [ht]; exact decide_eq_true h0) (Ev.pos o_ (Ev.pos o_ (Ev.ret rfl)))
 ·rw [if_neg h0];refine Ev.neg (by rw [ht]; simpa using h0) ?_;by_cases h1 : a=1∧c=0
  ·rw [if_pos h1];exact Ev.pos (by simp [h1]) (Ev.pos o_ (Ev.ret rfl))
  ·rw [if_neg h1];refine Ev.neg (by simpa using h1) ?_;by_cases h2 : a=2∧b=0∧c=0
   ·rw [if_pos h2];refine Ev.pos (by simp [h2]) ?_;have e : wrap64 ((l.length:Int) - 1)=(l.length:Int) - 1 := wrap_id o_ o_;rw [e, show l.length - 1=((l.length:Int) - 1).toNat by omega];exact Ev.pos o_ (Ev.pos o_ (Ev.ret rfl))
   ·rw [if_neg h2];refine Ev.neg (by simpa using h2) ?_;by_cases h3 : a=3∧b=0∧c=0
    ·rw [if_pos h3];exact Ev.pos (by simp [h3]) (Ev.bind (spec_BackOf_ev l hl) (Ev.ret rfl))
    ·rw [if_neg h3];refine Ev.neg (by simpa using h3) ?_;by_cases h4 : a=4∧b=0∧c=0
     ·rw [if_pos h4];exact Ev.pos (by simp [h4]) (Ev.bind (spec_MadeFlat_ev l) (Ev.ret rfl))
     ·rw [if_neg h4];exact Ev.neg (by simpa using h4) (Ev.ret rfl)
theorem l12Made_ev (l : List Int) (h1 : 1≤l.length) (hl : l.length≤1048576) (a b c:Int) : Ev (fun k=>F55.f k l a b c) (deskMade l a b c):=by
 unfold F55.f;simp only [Option.bind_some, List.nil_append, List.length_nil, Nat.zero_add];refine Ev.pos o_ (Ev.ite (fun h=>?_) (fun h=>l12Made_j0 l h1 hl a b c _ (by simp [h])));refine Ev.bind0 (l1In_eq b 1 (l.length:Int)) (l12Made_j0 l h1 hl a b c _ ?_);simp [h]
theorem drop_all {α : Type} (p : α→Bool) (l : List α) (z : α) (j:Nat) (h : j<l.length) : (l.drop j).all p=(p (l.getD j z) && (l.drop (j+1)).all p):=by
 rw [List.drop_eq_getElem_cons h, List.all_cons, List.getD_eq_getElem?_getD, List.getElem?_eq_getElem h]; rfl
theorem specDesk_l0 (l : List Int) (r : List (List Int)) (hr : r.length≤1048576) (d:Nat) : ∀ (j:Nat), j+d=r.length→Ev (fun k=>F27.l0 k (j:Int) l r) (treeOk l && decide (r.length≤8) && (r.drop j).all treeOk):=by
 induction d with
 | zero =>
  intro j hj;refine Ev.step (fun k=>F27.l0.eq_2 ..) (Ev.neg o_ (Ev.bind (spec_TreeOk_ev l) (Ev.ite (fun h=>Ev.ret ?_) (fun h=>Ev.ret ?_))))
  ·rw [List.drop_of_length_le o_, h];simp;omega
  ·rw [Bool.eq_false_iff.mpr h]; simp
 | succ d ih =>
  intro j hj;refine Ev.step (fun k=>F27.l0.eq_2 ..) (Ev.pos o_ (Ev.pos o_ (Ev.bind (spec_TreeOk_ev _) (Ev.ite (fun h=>?_) (fun h=>Ev.ret ?_)))))
  ·rw [wrap_add1 o_, drop_all _ _ [] j o_, ← rd1_nat, h, Bool.true_and];exact ih (j+1) o_
  ·rw [drop_all _ _ [] j o_, ← rd1_nat, Bool.eq_false_iff.mpr h]; simp
theorem spec_DeskOk_ev (l : List Int) (r : List (List Int)) (hr : r.length≤1048576) : Ev (fun k=>F27.f k l r) (deskOk l r):=by
 have h := specDesk_l0 l r hr r.length 0 o_;rw [List.drop_zero] at h;exact h
theorem spec_DeskDo_l0 (m l : List Int) (r : List (List Int)) (lo : List Int) (ro : List (List Int)) (hm : m.length≤1048576) (out : Bool→List Int × List (List Int) × Bool)
  (hout : ∀ s, Ev (fun k=>F12.j2 k m s lo ro) (out s)) (heq : m.length=l.length) (d:Nat) : ∀ (j:Nat), j+d=m.length→(∀ i, i<j→m[i]?=l[i]?)→Ev (fun k=>F12.l0 k m true (j:Int) l r lo ro) (out (decide (m=l))):=by
 induction d with
 | zero =>
  intro j hj h;have e : m=l:=by
   apply List.ext_getElem?;intro i;by_cases hi : i<j
   ·exact h i hi
   ·rw [List.getElem?_eq_none o_, List.getElem?_eq_none o_]
  rw [decide_eq_true e];exact Ev.step (fun k=>F12.l0.eq_2 ..) (Ev.neg o_ (hout true))
 | succ d ih =>
  intro j hj h;refine Ev.step (fun k=>F12.l0.eq_2 ..) (Ev.pos o_ (Ev.pos rfl (Ev.pos o_ (Ev.pos o_ ?_))));rw [wrap_add1 o_];by_cases e : rd m (j:Int)=rd l (j:Int)
  ·rw [show (rd m (j:Int) == rd l (j:Int))=true by simpa using e];refine ih (j+1) o_ (fun i hi => ?_);by_cases e2 : i=j
   ·subst e2;rw [rd_nat, rd_nat, List.getD_eq_getElem?_getD, List.getD_eq_getElem?_getD, List.getElem?_eq_getElem o_, List.getElem?_eq_getElem o_] at e;rw [List.getElem?_eq_getElem o_, List.getElem?_eq_getElem o_];simpa using e
   ·exact h i o_
  ·rw [show (rd m (j:Int) == rd l (j:Int))=false by simpa using e, decide_eq_false (fun z=>e (by rw [z]))];by_cases c : ((j+1:Nat):Int)<(m.length:Int)
   ·exact Ev.step (fun k=>F12.l0.eq_2 ..) (Ev.pos c (Ev.neg (by simp) (hout false)))
   ·exact Ev.step (fun k=>F12.l0.eq_2 ..) (Ev.neg c (hout false))
theorem spec_DeskDo_same (m l : List Int) (r : List (List Int)) (lo : List Int) (ro : List (List Int)) (hm : m.length≤1048576) (out : Bool→List Int × List (List Int) × Bool)
  (hout : ∀ s, Ev (fun k=>F12.j2 k m s lo ro) (out s)) : Ev (fun k=>F12.l0 k m ((m.length:Int) == (l.length:Int)) 0 l r lo ro) (out (decide (m=l))):=by
 by_cases heq : m.length=l.length
 ·rw [show ((m.length:Int) == (l.length:Int))=true from beq_iff_eq.mpr o_];exact spec_DeskDo_l0 m l r lo ro hm out hout heq m.length 0 o_ (fun i h => by omega)
 ·rw [show ((m.length:Int) == (l.length:Int))=false from beq_eq_false_iff_ne.mpr o_, decide_eq_false (fun z=>heq (by rw [z]))];by_cases c : (0:Int)<(m.length:Int)
  ·exact Ev.step (fun k=>F12.l0.eq_2 ..) (Ev.pos c (Ev.neg (by simp) (hout false)))
  ·exact Ev.step (fun k=>F12.l0.eq_2 ..) (Ev.neg c (hout false))
def ddOut (l m : List Int) (r : List (List Int)) (s : Bool) : List Int × List (List Int) × Bool := if (s || !treeOk m)=true then (l, r, false) else (m, if r.length+1 > 8 then (r ++ [l]).drop 1 else r ++ [l], true)
theorem ddOut_put (l m : List Int) (r : List (List Int)) : ddOut l m r (decide (m=l))=deskPut l m r:=by
 unfold ddOut deskPut;by_cases c : m=l ∨ treeOk m=false
 ·rw [if_pos c, if_pos (by simpa using c)]
 ·rw [if_neg c, if_neg (by simpa using c)]
theorem spec_DeskDo_j3 (m l : List Int) (r : List (List Int)) (hm : m.length≤1048576) (hr : r.length≤1048576) (s : Bool) :
  Ev (fun k=>F12.j3 k m s l r) (if s=true then (l, r, false) else (m, if r.length+1 > 8 then (r ++ [l]).drop 1 else r ++ [l], true)):=by
 refine Ev.step (fun k=>F12.j3.eq_2 ..) (Ev.ite (fun h=>Ev.ret (by rw [if_pos h])) (fun h=>?_));rw [if_neg h];refine Ev.pos o_ ?_;simp only [Option.bind_some, List.nil_append, List.length_nil, Nat.zero_add];(have hlen : (r ++ [l]).length=r.length+1 := by simp);by_cases c : r.length+1 > 8
 ·rw [if_pos c];exact Ev.pos (by rw [hlen]; omega) (Ev.pos o_ (Ev.ret rfl))
 ·rw [if_neg c];exact Ev.neg (by rw [hlen]; omega) (Ev.pos o_ (Ev.ret rfl))
theorem spec_DeskDo_j2 (m l : List Int) (r : List (List Int)) (hm : m.length≤1048576) (hr : r.length≤1048576) (s : Bool) : Ev (fun k=>F12.j2 k m s l r) (ddOut l m r s):=by
 unfold ddOut;refine Ev.step (fun k=>F12.j2.eq_2 ..) (Ev.ite (fun h=>?_) (fun h=>Ev.bind (spec_TreeOk_ev m) ?_))
 ·rw [h, Bool.true_or]; exact spec_DeskDo_j3 m l r hm hr true
 ·rw [Bool.eq_false_iff.mpr h, Bool.false_or]; exact spec_DeskDo_j3 m l r hm hr _
theorem spec_DeskDo_ev (l : List Int) (r : List (List Int)) (a b c:Int) (hl : l.length≤1048576) (hr : r.length≤1048576) (hx : ∀ x ∈ r, x.length≤1048576) : Ev (fun k=>F12.f k l r a b c) (deskDo l r a b c):=by
 unfold F12.f deskDo;refine Ev.bind (spec_DeskOk_ev l r o_) (Ev.ite (fun h=>?_) (fun h=>Ev.ret (by rw [if_neg h])));rw [if_pos h];obtain ⟨p1, p2, p3⟩:=deskOk_parts h;have hn := treeOk_len p1;refine Ev.bind (l12Copy_ev l r o_ o_ hx) ?_;have go : ∀ t : Bool, t=decide ((a=5∧b=0∧c=0)∧0<r.length)→Ev (fun k=>F12.j0 k t l r a b c l r) (if (a=5∧b=0∧c=0)∧0<r.length then (r.getD (r.length - 1) [], r.take (r.length - 1), true) else deskPut l (deskMade l a b c) r):=by
  intro t ht;refine Ev.step (fun k=>F12.j0.eq_2 ..) (Ev.ite (fun h=>?_) (fun h=>?_))
  ·rw [ht, decide_eq_true_eq] at h;rw [if_pos h];(have e : wrap64 ((r.length:Int) - 1)=((r.length - 1:Nat):Int) := by rw [wrap_id o_ o_]; omega);rw [e];refine Ev.pos o_ (Ev.pos o_ (Ev.ret ?_));rw [rd1_nat, Int.toNat_natCast]
  ·rw [ht, decide_eq_true_eq] at h;rw [if_neg h];have hm : (deskMade l a b c).length≤1048576 := deskMade_len l a b c (by have := hn.2; omega);exact Ev.bind (l12Made_ev l hn.1 o_ a b c) (Ev.eq (spec_DeskDo_same (deskMade l a b c) l r l r hm (ddOut l (deskMade l a b c) r) (fun s=>spec_DeskDo_j2 _ _ _ hm hr s)) (ddOut_put ..))
 refine Ev.ite (fun h5=>go _ ?_) (fun h5=>go _ ?_)
 ·simp at h5;simp [h5]
 ·simp at h5;symm;rw [decide_eq_false_iff_not];rintro ⟨⟨h6, h7, h8⟩, _⟩;exact h5 h6 h7 h8
theorem deskDo_rows (l : List Int) (r : List (List Int)) (a b c:Int) : (deskDo l r a b c).2.1.length≤r.length+1:=by
 by_cases h2 : (deskDo l r a b c).2.2=true
 ·exact (deskDo_ok a b c h2).2
 ·unfold deskDo at h2 ⊢;by_cases h : deskOk l r=true
  ·rw [if_pos h] at h2 ⊢;by_cases h3 : (a=5∧b=0∧c=0)∧0<r.length
   ·rw [if_pos h3] at h2; exact absurd rfl h2
   ·rw [if_neg h3] at h2 ⊢;unfold deskPut at h2 ⊢;by_cases h4 : deskMade l a b c=l ∨ treeOk (deskMade l a b c)=false
    ·rw [if_pos h4]; exact Nat.le_succ _
    ·rw [if_neg h4] at h2; exact absurd rfl h2
  ·rw [if_neg h]; exact Nat.zero_le _
theorem spec_DeskDo_owned_ev (l : List Int) (r : List (List Int)) (a b c:Int) (hl : l.length≤1048575) (hr : r.length<7) (hx : ∀ x ∈ r, x.length≤1048576) : Ev (fun k=>F175.f k l r a b c) (deskDo l r a b c):=by
 unfold F175.f;have hlen := deskDo_rows l r a b c;exact Ev.bind (spec_DeskDo_ev l r a b c o_ o_ hx) (Ev.pos o_ (Ev.ret rfl))
theorem desk_l0 {b : List Int} (hb : Bytes b) (n:Int) (hn : 0≤n) (hn2 : n≤1000) (d:Nat) :
  ∀ (l : List Int) (r : List (List Int)) (p:Int), r.length+d≤5→l.length≤9→(∀ x ∈ r, x.length≤9)→0≤p→p+10 * d≤700000 →
  ∃ l' r' p', Ev (fun k=>F71.l0 k n (d:Int) b p l r) (l', r', p')∧l'.length≤9∧r'.length≤6∧(∀ x ∈ r', x.length≤9)∧0≤p'∧p'≤p+10 * d+3:=by
 induction d with
 | zero =>
  intro l r p hr hl hx hp hp2;obtain ⟨o, q, ho, hq1, hq2⟩:=odd_evG hb p n hp o_ hn o_;by_cases h : o=true
  ·obtain ⟨v, hv0, hv1, hv⟩:=pick_ev hb q 3 o_ o_ o_ o_;by_cases v0 : v=0
   ·exact ⟨[1], r, q+1, Ev.step (fun k=>F71.l0.eq_2 ..) (Ev.neg o_ (Ev.bind ho (Ev.pos h (Ev.bind hv (Ev.pos v0 (Ev.ret rfl)))))), by simp,by omega, hx,by omega,by omega⟩
   ·by_cases v1 : v=1
    ·refine ⟨l, r ++ [[]], q+1, Ev.step (fun k=>F71.l0.eq_2 ..) (Ev.neg o_ (Ev.bind ho (Ev.pos h (Ev.bind hv (Ev.neg v0 (Ev.pos v1 (Ev.pos o_ (Ev.ret rfl)))))))), hl, by simp; omega, ?_,by omega,by omega⟩;intro x hx2;rcases List.mem_append.1 hx2 with h5 | h5
     ·exact hx x h5
     ·rw [List.mem_singleton.1 h5]; simp
    ·exact ⟨[], [], q+1, Ev.step (fun k=>F71.l0.eq_2 ..) (Ev.neg o_ (Ev.bind ho (Ev.pos h (Ev.bind hv (Ev.neg v0 (Ev.neg v1 (Ev.ret rfl))))))), by simp, by simp, by simp,by omega,by omega⟩
  ·exact ⟨l, r, q, Ev.step (fun k=>F71.l0.eq_2 ..) (Ev.neg o_ (Ev.bind ho (Ev.neg h (Ev.ret rfl)))), hl,by omega, hx,by omega,by omega⟩
 | succ d ih =>
  intro l r p hr hl hx hp hp2;obtain ⟨x, y, z, q, hq, hq1, hq2⟩:=deed_ev hb p l hp o_ o_;have hdo := spec_DeskDo_owned_ev l r x y z o_ o_ (fun u hu => by have := hx u hu; omega);(have ed : wrap64 (((d+1:Nat):Int) - 1)=(d:Int) := by rw [wrap_id o_ o_]; omega);by_cases h : (deskDo l r x y z).2.2=true
  ·obtain ⟨h1, h2⟩:=deskDo_ok x y z h;obtain ⟨p1, p2, p3⟩:=deskOk_parts h1;have hn1 := treeOk_len p1;obtain ⟨l', r', p', h3, h4, h5, h6, h7, h8⟩:=ih (deskDo l r x y z).1 (deskDo l r x y z).2.1 q o_ o_ (fun u hu => by have := treeOk_len (p3 u hu); omega) o_ o_;refine ⟨l', r', p', Ev.step (fun k=>F71.l0.eq_2 ..) (Ev.pos o_ (Ev.bind hq (Ev.bind hdo (Ev.pos h ?_)))), h4, h5, h6, h7,by omega⟩;rw [ed];exact h3
  ·obtain ⟨l', r', p', h3, h4, h5, h6, h7, h8⟩:=ih l r q o_ hl hx o_ o_;refine ⟨l', r', p', Ev.step (fun k=>F71.l0.eq_2 ..) (Ev.pos o_ (Ev.bind hq (Ev.bind hdo (Ev.neg h ?_)))), h4, h5, h6, h7,by omega⟩;rw [ed];exact h3
theorem desk_ev {b : List Int} (hb : Bytes b) (n:Int) (hn : 0≤n) (hn2 : n≤1000) :
  ∃ l r p', Ev (fun k=>F71.f k b 0 n) (l, r, p')∧l.length≤9∧r.length≤6∧(∀ x ∈ r, x.length≤9)∧0≤p'∧p'≤400:=by
 obtain ⟨t, q, ht, ht2, hq1, hq2⟩:=wild_evP hb 0 0 o_ o_ o_ o_;obtain ⟨v, hv0, hv1, hv⟩:=pick_ev hb q 6 o_ o_ o_ o_;have h1 := deskNewOf_len t;have h2 := deskNewOf_rows t;obtain ⟨l, r, p', h3, h4, h5, h6, h7, h8⟩:=desk_l0 hb n hn hn2 v.toNat (deskNewOf t).1 (deskNewOf t).2.1 (q+1) (by rw [h2]; simp; omega) o_ (by rw [h2]; simp) o_ o_;unfold F71.f;refine ⟨l, r, p', Ev.bind ht (Ev.bind (spec_DeskNew_ev t o_) (Ev.bind hv ?_)), h4, h5, h6, h7,by omega⟩;rw [show ((v.toNat:Nat):Int)=v by omega] at h3;exact h3
theorem impl_own_some (l : List Int) (hl : l.length≤1048576) : F105.f l=some l:=by
 unfold F105.f;exact (if_pos (show ([] : List Int).length+l.length<17592186044416 by simp only [List.length_nil]; omega)).trans rfl
def inRange (l : List Int) (i:Nat) : Bool := decide (0≤rd l i∧rd l i≤l.length)
theorem mem_rd {l : List Int} {a : Int} (h0 : 0≤a) (h1 : a<l.length) (h : (List.range l.length).all (inRange l)=true) : 0≤rd l a∧rd l a≤l.length:=by
 rw [List.all_eq_true] at h;have := h a.toNat (by simp; omega);unfold inRange at this;rw [show ((a.toNat:Nat):Int)=a by omega] at this;exact of_decide_eq_true this
def stepsOf (l : List Int) : Nat→Int→Nat→Int
 | 0, _, _ => -1
 | m+1, w, i => if rd l (w - 1)=0 then i else stepsOf l m (rd l (w - 1)) (i+1)
theorem stepsOf_neg (l : List Int) (h : (List.range l.length).all (inRange l)=true) : ∀ (m:Nat) (w:Int) (i:Nat), 0<w→w≤l.length→(decide (stepsOf l m w i<0)=!walkOk l m w)
 | 0, w, i, h0, h1 => by simp [stepsOf, walkOk]; omega
 | m+1, w, i, h0, h1 => by
  have hr := mem_rd (a := w - 1) o_ o_ h
  unfold stepsOf walkOk
  rw [if_neg (show ¬ w≤0 by omega), decide_eq_true hr, Bool.true_and]
  by_cases e : rd l (w - 1)=0
  ·rw [if_pos e, e, decide_eq_false o_]
   cases m <;> simp [walkOk]
  ·rw [if_neg e]
   exact stepsOf_neg l h m _ _ o_ o_
theorem impl_steps_l0 (l : List Int) (hl : l.length≤8) (h : (List.range l.length).all (inRange l)=true) (d:Nat) : ∀ (w:Int) (j:Nat), j+d=l.length→0<w→w≤l.length →
  Ev (fun k=>F84.l0 k l w (l.length:Int) (j:Int)) (stepsOf l d w j):=by
 induction d with
 | zero =>
  intro w j hj h0 h1;refine Ev.step (fun k=>F84.l0.eq_2 ..) ?_;exact Ev.neg o_ (Ev.ret rfl)
 | succ d ih =>
  intro w j hj h0 h1;have hr := mem_rd (a := w - 1) o_ o_ h;refine Ev.step (fun k=>F84.l0.eq_2 ..) ?_;rw [wrap_id (n := w - 1) o_ o_, wrap_add1 o_];refine Ev.pos o_ (Ev.pos o_ (Ev.pos o_ (Ev.ite (fun e=>?_) (fun e=>?_))))
  ·exact Ev.ret (by unfold stepsOf; rw [if_pos e])
  ·exact Ev.eq (ih (rd l (w - 1)) (j+1) o_ o_ o_) (by rw [stepsOf, if_neg e])
theorem impl_steps_ev (l : List Int) (hl : l.length≤8) (h : (List.range l.length).all (inRange l)=true) (w:Int) (h0 : 0<w) (h1 : w≤l.length) :
  Ev (fun k=>F84.f k l w) (stepsOf l l.length w 0):=by
 unfold F84.f;exact impl_steps_l0 l hl h l.length w 0 o_ h0 h1
theorem impl_TreeOk_l1 (l : List Int) (hl : l.length≤8) (h : (List.range l.length).all (inRange l)=true) (r:Nat) (d:Nat) : ∀ (j:Nat), j+d=l.length →
  Ev (fun k=>F38.l1 k l (r:Int) (l.length:Int) (j:Int)) ((List.range' j (l.length - j)).all (fun i=>walkOk l l.length ((i:Int)+1)) && ((r:Int) == 1)):=by
 induction d with
 | zero =>
  intro j hj;refine Ev.step (fun k=>F38.l1.eq_2 ..) ?_;exact Ev.neg o_ (Ev.ret (by rw [show l.length - j=0 by omega]; rfl))
 | succ d ih =>
  intro j hj;refine Ev.step (fun k=>F38.l1.eq_2 ..) ?_;rw [wrap_add1 o_];refine Ev.pos o_ (Ev.bind (impl_steps_ev l hl h _ o_ o_) ?_);have hs := stepsOf_neg l h l.length ((j+1:Nat):Int) 0 o_ o_;refine Ev.ite (fun e=>?_) (fun e=>?_)
  ·rw [decide_eq_true e] at hs;refine Ev.ret ?_;rw [all_from _ _ _ o_, show walkOk l l.length ((j:Int)+1)=false by simpa using hs.symm]; rfl
  ·rw [decide_eq_false e] at hs;refine Ev.eq (ih (j+1) o_) ?_;rw [all_from _ l.length j o_, show walkOk l l.length ((j:Int)+1)=true by simpa using hs.symm, Bool.true_and]
theorem impl_TreeOk_l0 (l : List Int) (h1 : 1≤l.length) (hl : l.length≤8) (d:Nat) : ∀ (r j:Nat), j+d=l.length→r≤j→(∀ i, i<j→inRange l i=true)→r+zerosFrom l j=l.count 0 →
  Ev (fun k=>F38.l0 k l (r:Int) l (l.length:Int) (j:Int)) (treeOk l):=by
 induction d with
 | zero =>
  intro r j hj hr hin hz;have hall : (List.range l.length).all (inRange l)=true:=by
   rw [List.all_eq_true]; intro i hi; exact hin i (by have := List.mem_range.mp hi; omega)
  refine Ev.step (fun k=>F38.l0.eq_2 ..) ?_;refine Ev.neg o_ (Ev.eq (impl_TreeOk_l1 l hl hall r l.length 0 o_) ?_);(have hz0 : zerosFrom l j=0 := by unfold zerosFrom; rw [List.drop_eq_nil_of_le o_]; rfl);(have hrc : r=l.count 0 := by omega);unfold treeOk;rw [decide_eq_true (show 1≤l.length∧l.length≤8 from ⟨h1, hl⟩), Bool.true_and, Nat.sub_zero, ← List.range_eq_range', hrc];congr 1
  ·rw [Bool.eq_iff_iff, List.all_eq_true, List.all_eq_true];rw [List.all_eq_true] at hall
   constructor
   ·intro hw i hi;have := hall i hi;unfold inRange at this;unfold okAt; rw [this, hw i hi]; rfl
   ·intro hw i hi;have := hw i hi;unfold okAt at this;exact (Bool.and_eq_true_iff.mp this).2
  ·rw [Bool.eq_iff_iff]; simp; omega
 | succ d ih =>
  intro r j hj hr hin hz;refine Ev.step (fun k=>F38.l0.eq_2 ..) ?_;have hbad : ¬ (0≤rd l (j:Int)∧rd l (j:Int)≤(l.length:Int))→treeOk l=false:=by
   intro hb;unfold treeOk;have : (List.range l.length).all (okAt l)=false:=by
    rw [List.all_eq_false];exact ⟨j, by simp; omega, by unfold okAt; rw [decide_eq_false hb]; simp⟩
   rw [this]; simp
  refine Ev.pos o_ (Ev.pos o_ (Ev.pos o_ (Ev.ite (fun e=>?_) (fun e=>?_))))
  ·refine Ev.step (fun k=>F38.j2.eq_2 ..) (Ev.pos rfl (Ev.ret ?_));exact (hbad o_).symm
  ·refine Ev.step (fun k=>F38.j2.eq_2 ..) (Ev.ite (fun e2=>?_) (fun e2=>?_))
   ·have e2' := of_decide_eq_true e2;exact Ev.ret (hbad o_).symm
   ·(have e2' : ¬ rd l (j:Int) > (l.length:Int) := by simpa using e2);have hin' : ∀ i, i<j+1→inRange l i=true:=by
     intro i hi;by_cases e' : i=j
     ·subst e'; unfold inRange; exact decide_eq_true o_
     ·exact hin i o_
    have hzs := zerosFrom_succ l j o_;rw [wrap_add1 (n := j) o_];refine Ev.ite (fun e3=>?_) (fun e3=>?_)
    ·rw [wrap_add1 o_];rw [if_pos e3] at hzs;exact ih (r+1) (j+1) o_ o_ hin' o_
    ·rw [if_neg e3] at hzs;exact ih r (j+1) o_ o_ hin' o_
theorem impl_TreeOk_ev (l : List Int) : Ev (fun k=>F38.f k l) (treeOk l):=by
 unfold F38.f;have hbad : ¬ (1≤l.length∧l.length≤8)→treeOk l=false:=by
  intro hb; unfold treeOk; rw [decide_eq_false hb]; rfl
 refine Ev.ite (fun e=>?_) (fun e=>?_)
 ·refine Ev.step (fun k=>F38.j0.eq_2 ..) (Ev.pos rfl (Ev.ret ?_));exact (hbad o_).symm
 ·refine Ev.step (fun k=>F38.j0.eq_2 ..) (Ev.ite (fun e2=>?_) (fun e2=>?_))
  ·have e2' := of_decide_eq_true e2;exact Ev.ret (hbad o_).symm
  ·(have e2' : ¬ (l.length:Int) > 8 := by simpa using e2);exact impl_TreeOk_l0 l o_ o_ l.length 0 0 o_ o_ (fun i h => by omega) (by simp [zerosFrom])
theorem deskIdx_l0 (r : List (List Int)) (hr : r.length≤1048576) (d:Nat) : ∀ (j:Nat), j+d=r.length→∃ x, Ev (fun k=>F174.l0 k r (r.length:Int) (j:Int)) x∧decide (x ≥ 0)=!((r.drop j).all treeOk):=by
 induction d with
 | zero =>
  intro j hj;refine ⟨-1, Ev.step (fun k=>F174.l0.eq_2 ..) (Ev.neg o_ (Ev.ret rfl)), ?_⟩;rw [List.drop_of_length_le o_];rfl
 | succ d ih =>
  intro j hj;have ht : Ev (fun k=>F76.f k (rd_L1 r (j:Int))) (!treeOk (rd_L1 r (j:Int))):=by
   unfold F76.f;exact Ev.bind (impl_TreeOk_ev _) (Ev.ret rfl)
  by_cases h : treeOk (rd_L1 r (j:Int))=true
  ·obtain ⟨x, h1, h2⟩:=ih (j+1) o_;refine ⟨x, Ev.step (fun k=>F174.l0.eq_2 ..) (Ev.pos o_ (Ev.pos o_ (Ev.pos o_ (Ev.bind ht (Ev.neg (by simp [h]) ?_))))), ?_⟩
   ·rw [wrap_add1 o_]; exact h1
   ·rw [h2, drop_all _ _ [] j o_, ← rd1_nat, h, Bool.true_and]
  ·refine ⟨(j:Int), Ev.step (fun k=>F174.l0.eq_2 ..) (Ev.pos o_ (Ev.pos o_ (Ev.pos o_ (Ev.bind ht (Ev.pos (by simp [h]) (Ev.ret rfl)))))), ?_⟩;rw [drop_all _ _ [] j o_, ← rd1_nat, Bool.eq_false_iff.mpr h, Bool.false_and];simp
theorem impl_DeskOk_ev (l : List Int) (r : List (List Int)) (hr : r.length≤1048576) : Ev (fun k=>F30.f k l r) (deskOk l r):=by
 unfold F30.f deskOk;refine Ev.bind (impl_TreeOk_ev l) (Ev.ite (fun h=>Ev.ite (fun h2=>?_) (fun h2=>Ev.ret ?_)) (fun h=>Ev.ret ?_))
 ·obtain ⟨x, h3, h4⟩:=deskIdx_l0 r hr r.length 0 o_;unfold F173.f F174.f;refine Ev.bind (Ev.bind h3 (Ev.ret rfl)) (Ev.ret ?_);rw [h4, List.drop_zero, Bool.not_not, h, decide_eq_true (by omega : r.length≤8)];rfl
 ·rw [decide_eq_false (by omega : ¬ r.length≤8)]; simp
 ·rw [Bool.eq_false_iff.mpr h]; simp
theorem impl_put_l1 (l o y : List Int) (h : treeOk l=true) (ho : orderOk o l.length=true) (hy : PlacesTo o o.length y) (hyl : y.length=l.length+1) (d:Nat) : ∀ (j:Nat) (x : List Int), j+d=o.length→x.length=l.length→(∀ i : Nat, i<j→x[i]?=(putOf l o)[i]?) →
  Ev (fun k=>F102.l1 k l y x o (o.length:Int) (j:Int)) (putOf l o):=by
 have hl := treeOk_len h;obtain ⟨_, h2, h3⟩:=orderOk_iff.mp ho;(have hlen : (putOf l o).length=o.length := by simp [putOf])
 induction d with
 | zero =>
  intro j x hj hx hp;refine Ev.step (fun k=>F102.l1.eq_2 ..) (Ev.neg o_ (Ev.ret ?_));apply List.ext_getElem?;intro i;by_cases hi : i<j
  ·exact hp i hi
  ·rw [List.getElem?_eq_none o_, List.getElem?_eq_none o_]
 | succ d ih =>
  intro j x hj hx hp;have hg := h3 j o_;have hr := treeOk_rd h (j := (rd o j - 1).toNat) o_;rw [show (((rd o j - 1).toNat:Nat):Int)=rd o j - 1 by omega] at hr;refine Ev.step (fun k=>F102.l1.eq_2 ..) ?_;rw [wrap_id (n := rd o j - 1) o_ o_, wrap_add1 o_, Int.toNat_natCast];refine Ev.pos o_ (Ev.pos o_ (Ev.pos o_ (Ev.pos o_ (Ev.pos o_ (Ev.pos o_ (Ev.pos o_ (Ev.pos o_ ?_)))))));refine ih (j+1) _ o_ (by simpa using hx) ?_;intro i hi;by_cases e : i=j
  ·subst e;(have e3 : rd o i=o[i]'o_ := by simp [rd_nat, show i<o.length by omega]);rw [List.getElem?_set_self o_, hy.whole hr.1 o_, List.getElem?_eq_getElem o_];congr 1;simp [putOf, e3]
  ·rw [List.getElem?_set_ne o_];exact hp i o_
theorem impl_put_l0 (l o : List Int) (h : treeOk l=true) (ho : orderOk o l.length=true) (d:Nat) : ∀ (j:Nat) (y : List Int), j+d=o.length→PlacesTo o j y→y.length=l.length+1 →
  Ev (fun k=>F102.l0 k l o y o (o.length:Int) (j:Int)) (putOf l o):=by
 have hl := treeOk_len h;obtain ⟨_, h2, h3⟩:=orderOk_iff.mp ho
 induction d with
 | zero =>
  intro j y hj hy hyl;refine Ev.step (fun k=>F102.l0.eq_2 ..) (Ev.neg o_ (Ev.pos o_ (Ev.pos o_ ?_)));rw [show j=o.length by omega] at hy;exact impl_put_l1 l o y h ho hy hyl o.length 0 _ o_ (by simp) (fun i hi => by omega)
 | succ d ih =>
  intro j y hj hy hyl;have hg := h3 j o_;refine Ev.step (fun k=>F102.l0.eq_2 ..) ?_;rw [wrap_id (n := (j:Int)+1) o_ o_];refine Ev.pos o_ (Ev.pos o_ (Ev.pos o_ (Ev.pos o_ (Ev.pos o_ ?_))));exact ih (j+1) _ o_ (hy.set ho o_) (by simpa using hyl)
theorem impl_put_ev (l o : List Int) (h : treeOk l=true) (ho : orderOk o l.length=true) : Ev (fun k=>F102.f k l o) (putOf l o):=by
 have hl := treeOk_len h;unfold F102.f;rw [wrap_id (n := (l.length:Int)+1) o_ o_];exact Ev.pos o_ (Ev.pos o_ (impl_put_l0 l o h ho o.length 0 _ o_ (PlacesTo.zero o _) (by simp)))
theorem take_snoc (l : List Int) {j : Nat} (h : j<l.length) : l.take (j+1)=l.take j ++ [rd l (j:Int)]:=by
 rw [List.take_succ_eq_append_getElem h, rd_get l h]
theorem impl_BackOf_l0 (l : List Int) (h : treeOk l=true) (d:Nat) : ∀ (j:Nat), j+d=l.length →
  Ev (fun k=>F107.l0 k l ((downO l.length).take j) ((l.length:Int) - j)) (putOf l (downO l.length)):=by
 have hn := treeOk_len h
 induction d with
 | zero =>
  intro j hj;refine Ev.step (fun k=>F107.l0.eq_2 ..) ?_;rw [List.take_of_length_le (by rw [downO_length]; omega)];exact Ev.neg o_ (Ev.bind (impl_put_ev l _ h (downO_ok hn.1 hn.2)) (Ev.ret rfl))
 | succ d ih =>
  intro j hj;refine Ev.step (fun k=>F107.l0.eq_2 ..) ?_;have e : (downO l.length).take j ++ [(l.length:Int) - j]=(downO l.length).take (j+1):=by
   rw [take_snoc _ (by rw [downO_length]; omega), downO_rd o_]
  (have e2 : wrap64 ((l.length:Int) - j - 1)=(l.length:Int) - ((j+1:Nat):Int) := by rw [wrap_id o_ o_]; omega);refine Ev.pos o_ (Ev.pos (by rw [List.length_take]; omega) ?_);rw [e, e2];exact ih (j+1) o_
theorem impl_BackOf_ev (l : List Int) : Ev (fun k=>F107.f k l) (backOf l):=by
 unfold F107.f;refine Ev.bind (impl_TreeOk_ev l) (Ev.ite (fun h=>?_) (fun h=>?_))
 ·refine Ev.eq ?_ (show putOf l (downO l.length)=backOf l by unfold backOf; rw [if_pos h]);have := impl_BackOf_l0 l h l.length 0 o_;simpa using this
 ·exact Ev.ret (by unfold backOf; rw [if_neg h])
def SortedTo (x : List Int) (i:Nat) : Prop := ∀ a b : Nat, a<b→b<i→rd x a≤rd x b
def SameCount (x l : List Int) : Prop := x.length=l.length∧∀ v : Int, x.count v=l.count v
def SortedBut (x : List Int) (i j:Nat) : Prop := ∀ a b : Nat, a<b→b≤i→b≠j→rd x a≤rd x b
theorem rd_set (x : List Int) (i:Nat) (v:Int) (j:Nat) (h : i<x.length) : rd (x.set i v) j=if j=i then v else rd x j:=by
 rw [rd_nat, rd_nat, List.getD_eq_getElem?_getD, List.getD_eq_getElem?_getD];by_cases e : j=i
 ·subst e; simp [h]
 ·rw [List.getElem?_set_ne o_, if_neg e]
theorem swap_same {x l : List Int} (h : SameCount x l) {j : Nat} (hj : j+1<x.length) : SameCount ((x.set (j+1) (rd x j)).set j (rd x ((j+1:Nat):Int))) l:=by
 refine ⟨by simp [h.1], fun v=>?_⟩;(have hj2 : j<(x.set (j+1) (rd x j)).length := by simp; omega);rw [List.count_set hj2, List.count_set hj, List.getElem_set_ne o_, ← rd_get x (i := j) o_, ← rd_get x (i := j+1) hj, ← h.2 v];have h1 : 0<x.count (rd x j) := List.count_pos_iff.mpr (by rw [rd_get x o_]; exact List.getElem_mem _);have h2 : 0<x.count (rd x ((j+1:Nat):Int)) := List.count_pos_iff.mpr (by rw [rd_get x hj]; exact List.getElem_mem _);by_cases e1 : rd x j=v
 ·by_cases e2 : rd x ((j+1:Nat):Int)=v
  ·simp only [e1, e2, beq_self_eq_true, if_true]; rw [e1] at h1; omega
  ·(have : (rd x ((j+1:Nat):Int) == v)=false := by simpa using e2);simp only [e1, this, beq_self_eq_true, if_true, Bool.false_eq_true, if_false]; omega
 ·(have e1' : (rd x j == v)=false := by simpa using e1);by_cases e2 : rd x ((j+1:Nat):Int)=v
  ·simp only [e2, e1', beq_self_eq_true, if_true, Bool.false_eq_true, if_false]; rw [e2] at h2; omega
  ·(have : (rd x ((j+1:Nat):Int) == v)=false := by simpa using e2);simp only [this, e1', Bool.false_eq_true, if_false]; omega
theorem swap_sorted {x : List Int} {i j : Nat} (h : SortedBut x i (j+1)) (hj : j+1≤i) (hi : i<x.length) (hlt : rd x ((j+1:Nat):Int)<rd x j) : SortedBut ((x.set (j+1) (rd x j)).set j (rd x ((j+1:Nat):Int))) i j:=by
 intro a b hab hb hne;(have hj2 : j<(x.set (j+1) (rd x j)).length := by simp; omega);rw [rd_set _ _ _ _ hj2, rd_set _ _ _ _ hj2, rd_set _ _ _ _ o_, rd_set _ _ _ _ o_, if_neg hne];by_cases e1 : b=j+1
 ·subst e1;rw [if_pos rfl];by_cases e2 : a=j
  ·rw [if_pos e2]; omega
  ·rw [if_neg e2, if_neg o_];exact h a j o_ o_ o_
 ·rw [if_neg e1];by_cases e2 : a=j
  ·rw [if_pos e2];exact h (j+1) b o_ hb e1
  ·rw [if_neg e2];by_cases e3 : a=j+1
   ·rw [if_pos e3];exact h j b o_ hb e1
   ·rw [if_neg e3];exact h a b hab hb e1
theorem sorted_of_but {x : List Int} {i j : Nat} (h : SortedBut x i j) (hj : j=0 ∨ ∃ p : Nat, j=p+1∧rd x p≤rd x j) : SortedTo x (i+1):=by
 intro a b hab hb;by_cases e : b=j
 ·rcases hj with h0 | ⟨p,hp, hle⟩
  ·omega
  ·by_cases e2 : a=p
   ·subst e2; rw [e]; exact hle
   ·have := h a p o_ o_ o_;rw [e]; omega
 ·exact h a b hab o_ e
theorem order_of_sorted {s l : List Int} (hs : SortedTo s s.length) (hc : SameCount s l) (h1 : 1≤l.length) (h8 : l.length≤8) : decide (∀ i : Nat, i<s.length→rd s i=(i:Int)+1)=orderOk l l.length:=by
 rw [Bool.eq_iff_iff, decide_eq_true_iff, orderOk_nodup]
 constructor
 ·intro h;have hnd : s.Nodup:=by
   rw [nodup_iff_rd];intro i j hij hj;rw [h i o_, h j hj]; omega
  have hnl : l.Nodup:=by
   rw [List.nodup_iff_count];intro a;rw [← hc.2 a];exact List.nodup_iff_count.mp hnd a
  refine ⟨by omega, rfl, hnl, fun x hx => ?_⟩;(have hx2 : x ∈ s := by rw [← List.count_pos_iff, hc.2 x, List.count_pos_iff]; exact hx);obtain ⟨i, hi, e⟩:=List.getElem_of_mem hx2;have := h i hi;rw [rd_get s hi, e] at this;have := hc.1;omega
 ·rintro ⟨_, _, hnl, hr⟩;have hnd : s.Nodup:=by
   rw [List.nodup_iff_count];intro a;rw [hc.2 a];exact List.nodup_iff_count.mp hnl a
  have hrs : ∀ i : Nat, i<s.length→1≤rd s i∧rd s i≤l.length:=by
   intro i hi;refine hr _ ?_;rw [← List.count_pos_iff, ← hc.2, List.count_pos_iff, rd_get s hi];exact List.getElem_mem _
  have hst : ∀ i : Nat, i+1<s.length→rd s i<rd s ((i+1:Nat):Int):=by
   intro i hi;have a1 := hs i (i+1) o_ hi;have a2 := (nodup_iff_rd s).mp hnd i (i+1) o_ hi;omega
  have hlow : ∀ i : Nat, i<s.length→(i:Int)+1≤rd s i:=by
   intro i
   induction i with
   | zero => intro hi; have := hrs 0 hi; omega
   | succ i ih =>
    intro hi;have := ih o_;have := hst i hi;omega
  have hhigh : ∀ d i : Nat, i+d+1=s.length→rd s i+d≤l.length:=by
   intro d
   induction d with
   | zero => intro i hi; have := hrs i o_; omega
   | succ d ih =>
    intro i hi;have h1 := ih (i+1) o_;have h2 := hst i o_;omega
  intro i hi;have a1 := hlow i hi;have a2 := hhigh (s.length - i - 1) i o_;have a3 := hc.1;omega
theorem less_int (a b:Int) : F145.f a b=some (decide (a<b)):=by
 unfold F145.f F155.f;simp
theorem insertion_l1 (n:Nat) (hn : n≤8) (i:Nat) (hi : i<n) (l r : List Int) (next : ∀ x : List Int, x.length=n→SameCount x l→SortedTo x (i+1)→∃ s, Ev (fun k=>F139.l0 k x 0 (n:Int) ((i+1:Nat):Int)) s∧SameCount s l∧SortedTo s n) :
  ∀ (j:Nat) (x : List Int), j≤i→x.length=n→SameCount x l→SortedBut x i j→∃ s, Ev (fun k=>F139.l1 k x 0 (n:Int) (i:Int) (j:Int)) s∧SameCount s l∧SortedTo s n
 | 0, x, hj, hx, hc, hs => by
  obtain ⟨s, h1, h2, h3⟩:=next x hx hc (sorted_of_but hs (.inl rfl))
  refine ⟨s, Ev.step (fun k=>F139.l1.eq_2 ..) (Ev.neg o_ ?_), h2, h3⟩
  rw [wrap_add1 o_]
  exact h1
 | j+1, x, hj, hx, hc, hs => by
  have e1 : wrap64 (((j+1:Nat):Int) - 1)=(j:Int) := by rw [wrap_id o_ o_]; omega
  have hless : F145.f (rd x ((j+1:Nat):Int)) (rd x j)=some (decide (rd x ((j+1:Nat):Int)<rd x j)) := less_int _ _
  by_cases h : rd x ((j+1:Nat):Int)<rd x j
  ·obtain ⟨s, h1, h2, h3⟩:=insertion_l1 n hn i hi l r next j _ o_ (by simpa using hx) (swap_same hc o_) (swap_sorted hs hj o_ h)
   refine ⟨s, Ev.step (fun k=>F139.l1.eq_2 ..) ?_, h2, h3⟩
   rw [e1]
   refine Ev.pos o_ (Ev.pos o_ (Ev.pos o_ (Ev.pos o_ (Ev.pos o_ (Ev.bind0 hless (Ev.pos (decide_eq_true h) ?_))))))
   rw [Int.toNat_natCast, Int.toNat_natCast]
   exact h1
  ·obtain ⟨s, h1, h2, h3⟩:=next x hx hc (sorted_of_but hs (.inr ⟨j, rfl,by omega⟩))
   refine ⟨s, Ev.step (fun k=>F139.l1.eq_2 ..) ?_, h2, h3⟩
   rw [e1, wrap_add1 o_]
   exact Ev.pos o_ (Ev.pos o_ (Ev.pos o_ (Ev.pos o_ (Ev.pos o_ (Ev.bind0 hless (Ev.neg (by simpa using h) h1))))))
theorem insertion_l0 (n:Nat) (hn : n≤8) (l : List Int) (d:Nat) : ∀ (i:Nat) (x : List Int), i+d=n→x.length=n→SameCount x l→SortedTo x i→∃ s, Ev (fun k=>F139.l0 k x 0 (n:Int) (i:Int)) s∧SameCount s l∧SortedTo s n:=by
 induction d with
 | zero =>
  intro i x hi hx hc hs;refine ⟨x, Ev.step (fun k=>F139.l0.eq_2 ..) (Ev.neg o_ (Ev.ret rfl)), hc, ?_⟩;rw [show n=i by omega]; exact hs
 | succ d ih =>
  intro i x hi hx hc hs;obtain ⟨s, h1, h2, h3⟩:=insertion_l1 n hn i o_ l [] (fun x' hx' hc' hs' => ih (i+1) x' o_ hx' hc' hs') i x (Nat.le_refl _) hx hc (fun a b hab hb hne => hs a b hab o_);exact ⟨s, Ev.step (fun k=>F139.l0.eq_2 ..) (Ev.pos o_ h1), h2, h3⟩
theorem sort_ev (l : List Int) (h1 : 1≤l.length) (h8 : l.length≤8) : ∃ s, Ev (fun k=>F134.f k l) s∧SameCount s l∧SortedTo s l.length:=by
 obtain ⟨s, hs, h2, h3⟩:=insertion_l0 l.length h8 l (l.length - 1) 1 l o_ rfl ⟨rfl, fun _=>rfl⟩ (fun a b hab hb => by omega);refine ⟨s, ?_, h2, h3⟩;unfold F134.f;have hw : IntKind.u64.wrap (l.length:Int)=(l.length:Int):=by
  simp [IntKind.wrap, IntKind.bits, IntKind.signed]; omega
 rw [hw];refine Ev.bind0 (a := (Lib.bitLen (l.length:Int).toNat:Int)) (by unfold F138.f; rw [if_pos o_]) ?_;unfold F137.f F139.f;rw [show wrap64 (0+1)=((1:Nat):Int) by decide +kernel];exact Ev.bind (Ev.pos o_ hs) (Ev.ret rfl)
theorem impl_OrderOk_ev (o : List Int) (many:Int) : Ev (fun k=>F103.f k o many) (orderOk o many):=by
 unfold F103.f;by_cases h : 1≤many∧many≤8∧(o.length:Int)=many
 ·obtain ⟨h1, h2, rfl⟩:=h;obtain ⟨s, hs, hc, hst⟩:=sort_ev o o_ o_;refine Ev.pos ⟨h1, h2, rfl⟩ (Ev.bind hs (Ev.pos (by have := hc.1; omega) (Ev.ret ?_)));exact order_of_sorted (by rw [hc.1]; exact hst) hc o_ o_
 ·refine Ev.neg h (Ev.ret ?_);symm;unfold orderOk;rw [decide_eq_false_iff_not];exact fun h2=>h ⟨h2.1.1, h2.1.2, h2.2.1⟩
theorem impl_PutInOrder_ev (l o : List Int) : Ev (fun k=>F50.f k l o) (putInOrder l o):=by
 unfold F50.f putInOrder;refine Ev.bind (impl_TreeOk_ev l) (Ev.ite (fun h=>?_) (fun h=>?_))
 ·refine Ev.bind (impl_OrderOk_ev o _) (Ev.ite (fun ho=>?_) (fun ho=>?_))
  ·rw [if_pos ⟨h, ho⟩];exact Ev.bind (impl_put_ev l o h ho) (Ev.ret rfl)
  ·rw [if_neg (fun h2=>ho h2.2)]; exact Ev.ret rfl
 ·rw [if_neg (fun h2=>h h2.1)]; exact Ev.ret rfl
theorem slices_Index_l0 (l : List Int) (v:Int) (hl : l.length≤1048576) (d:Nat) : ∀ (j:Nat), j+d=l.length →
  Ev (fun k=>F127.l0 k l v (l.length:Int) (j:Int)) (indexFrom l v l.length j):=by
 induction d with
 | zero =>
  intro j hj;refine Ev.step (fun k=>F127.l0.eq_2 ..) ?_;exact Ev.neg o_ (Ev.ret (by unfold indexFrom; rw [show l.length - j=0 by omega]; rfl))
 | succ d ih =>
  intro j hj;refine Ev.step (fun k=>F127.l0.eq_2 ..) ?_;have hr : List.range' j (l.length - j)=j :: List.range' (j+1) (l.length - (j+1)):=by
   rw [show l.length - j=(l.length - (j+1))+1 by omega, List.range'_succ]
  refine Ev.pos o_ (Ev.pos o_ (Ev.pos o_ (Ev.ite (fun e=>?_) (fun e=>?_))))
  ·exact Ev.ret (by unfold indexFrom; rw [hr, List.find?_cons_of_pos (by simpa using e.symm)])
  ·rw [wrap_add1 o_];refine Ev.eq (ih (j+1) o_) ?_;unfold indexFrom;rw [hr, List.find?_cons_of_neg (by simpa using fun h=>e h.symm)]
theorem slices_Index_ev (l : List Int) (v:Int) (hl : l.length≤1048576) : Ev (fun k=>F127.f k l v) (indexFrom l v l.length 0):=by
 unfold F127.f;exact slices_Index_l0 l v hl l.length 0 o_
theorem impl_RootOf_ev (l : List Int) : Ev (fun k=>F100.f k l) (rootOf l):=by
 unfold F100.f;refine Ev.bind (impl_TreeOk_ev l) (Ev.ite (fun h=>?_) (fun h=>?_))
 ·have hl := treeOk_len h;obtain ⟨i, h1, h2, h3⟩:=rootOf_spec h;(have e : rootOf l=indexFrom l 0 l.length 0+1 := by unfold rootOf; rw [if_pos h]);refine Ev.bind (slices_Index_ev l 0 o_) (Ev.ret ?_);rw [wrap_id o_ o_, e]
 ·exact Ev.ret (by unfold rootOf; rw [if_neg h])
theorem impl_flat_l0 (l : List Int) (w:Int) (hl : l.length≤8) (m:Nat) (hm : m<8) (ih : ∀ i : Nat, i<l.length→rd l i=w→Ev (fun k=>F114.f k l ((i:Int)+1)) (flatF l m ((i:Int)+1))) (d:Nat) :
  ∀ (j:Nat) (x y : List Int), j+d=l.length→x.length+y.length+(d+1) * 20 ^ m≤1000000000000→Ev (fun k=>F114.l0 k l w x y l (l.length:Int) (j:Int)) ((x ++ (kidsL l w l.length j).flatMap (fun i : Nat => flatF l m ((i:Int)+1))) ++ (y ++ (kidsR l w l.length j).flatMap (fun i : Nat => flatF l m ((i:Int)+1)))):=by
 induction d with
 | zero =>
  intro j x y hj hx;refine Ev.step (fun k=>F114.l0.eq_2 ..) (Ev.neg o_ (Ev.pos o_ (Ev.ret ?_)));rw [kidsL_end l w o_, kidsR_end l w o_]; simp
 | succ d ihd =>
  intro j x y hj hx;(have c1 : (j:Int)<(l.length:Int) := by clear hx; omega);have c2 : 0≤(j:Int) := Int.natCast_nonneg _;have hf := flatF_small l hl m ((j:Int)+1);(have hp : (d+1+1) * 20 ^ m=(d+1) * 20 ^ m+20 ^ m := by rw [Nat.add_mul (d+1) 1, Nat.one_mul]);(have e1 : wrap64 ((j:Int)+1)=(j:Int)+1 := by clear hx hp; exact wrap_id o_ o_)
  have next : ∀ x' y' : List Int, x'.length+y'.length+(d+1) * 20 ^ m≤1000000000000→Ev (fun k=>F114.l0 k l w x' y' l (l.length:Int) ((j:Int)+1)) ((x' ++ (kidsL l w l.length (j+1)).flatMap (fun i : Nat => flatF l m ((i:Int)+1))) ++ (y' ++ (kidsR l w l.length (j+1)).flatMap (fun i : Nat => flatF l m ((i:Int)+1)))) := fun x' y' h => by
   have := ihd (j+1) x' y' o_ h;rw [show ((j+1:Nat):Int)=(j:Int)+1 by omega] at this;exact this
  refine Ev.step (fun k=>F114.l0.eq_2 ..) ?_;rw [e1];refine Ev.pos c1 (Ev.pos c2 (Ev.pos c1 (Ev.ite (fun e=>?_) (fun e=>?_))))
  ·refine Ev.step (fun k=>F114.j1.eq_2 ..) ?_;rw [e1];refine Ev.ite (fun e2=>?_) (fun e2=>?_)
   ·have e2' := of_decide_eq_true e2;refine Ev.bind (ih j o_ e) (Ev.pos o_ ?_);rw [kidsL_yes l w o_ ⟨e, e2'⟩, kidsR_no l w o_ (fun h=>h.2 e2'), List.flatMap_cons, ← List.append_assoc x];exact next _ _ (by rw [List.length_append]; omega)
   ·(have e2' : ¬ (j:Int)+1<w := by simpa using e2);refine Ev.pos e (Ev.bind (ih j o_ e) (Ev.pos o_ ?_));rw [kidsL_no l w o_ (fun h=>e2' h.2), kidsR_yes l w o_ ⟨e, e2'⟩, List.flatMap_cons, ← List.append_assoc y];exact next _ _ (by rw [List.length_append]; omega)
  ·refine Ev.step (fun k=>F114.j1.eq_2 ..) ?_;rw [e1];refine Ev.neg (by simp) (Ev.neg e ?_);rw [kidsL_no l w o_ (fun h=>e h.1), kidsR_no l w o_ (fun h=>e h.1)];exact next _ _ o_
theorem impl_flatOrder_ev (l : List Int) (h : treeOk l=true) : ∀ (m d:Nat) (w:Int), 1≤w∧w≤l.length→Deep l d w→l.length≤d+m→m≤8→Ev (fun k=>F114.f k l w) (flatF l m w)
 | 0, d, w, hw, hd, hm, hm8 => by
  have := deep_lt h hw.1 hw.2 hd
  omega
 | m+1, d, w, hw, hd, hm, hm8 => by
  have hl := treeOk_len h
  have hp := pow20_le (m := m) o_
  refine Ev.step (fun k=>F114.f.eq_2 ..) ?_
  refine impl_flat_l0 l w hl.2 m o_ (fun i hi e => impl_flatOrder_ev l h m (d+1) _ ⟨by omega,by omega⟩ (deep_kid hw hd e) o_ o_) l.length 0 [] [w] o_ ?_
  have : (l.length+1) * 20 ^ m≤9 * 20 ^ m := Nat.mul_le_mul_right _ o_
  simp only [List.length_nil, List.length_singleton]
  omega
theorem impl_FlatOrder_ev (l : List Int) : Ev (fun k=>F81.f k l) (flatOrder l):=by
 unfold F81.f flatOrder;refine Ev.bind (impl_TreeOk_ev l) (Ev.ite (fun h=>?_) (fun h=>?_))
 ·have hl := treeOk_len h;obtain ⟨i, h1, h2, h3⟩:=rootOf_spec h;rw [if_pos h];refine Ev.bind (impl_RootOf_ev l) (Ev.bind (impl_flatOrder_ev l h l.length 0 _ ⟨by omega,by omega⟩ ?_ o_ o_) (Ev.bind0 rfl (Ev.ret rfl)));rw [h3];show rd l ((i:Int)+1 - 1)=0;rw [show (i:Int)+1 - 1=(i:Int) by omega];exact h2
 ·rw [if_neg h]; exact Ev.ret rfl
theorem impl_MadeFlat_ev (l : List Int) : Ev (fun k=>F35.f k l) (madeFlat l):=by
 unfold F35.f;exact Ev.bind (impl_FlatOrder_ev l) (Ev.bind (impl_PutInOrder_ev l _) (Ev.ret rfl))
theorem impl_copied_l0 (r : List (List Int)) (hr : r.length≤1048576) (hx : ∀ x ∈ r, x.length≤1048576) (m : List Int) (d:Nat) : ∀ (j:Nat), j+d=r.length →
  Ev (fun k=>F58.l0 k r (r.length:Int) (j:Int) m (r.take j)) (m, r):=by
 induction d with
 | zero =>
  intro j hj;refine Ev.step (fun k=>F58.l0.eq_2 ..) (Ev.neg o_ (Ev.ret ?_));rw [List.take_of_length_le o_]
 | succ d ih =>
  intro j hj;(have hjl : j<r.length := by omega);(have e : rd_L1 r (j:Int)=r[j] := by rw [rd1_nat, List.getD_eq_getElem?_getD, List.getElem?_eq_getElem hjl]; rfl);(have hlen : (rd_L1 r (j:Int)).length≤1048576 := by rw [e]; exact hx _ (List.getElem_mem ..));refine Ev.step (fun k=>F58.l0.eq_2 ..) (Ev.pos o_ (Ev.pos o_ (Ev.pos o_ (Ev.bind0 (impl_own_some _ hlen) (Ev.pos (by rw [List.length_take]; omega) ?_)))));rw [wrap_add1 o_, e, ← List.take_succ_eq_append_getElem hjl];exact ih (j+1) o_
theorem impl_copied_ev (l : List Int) (r : List (List Int)) (hl : l.length≤1048576) (hr : r.length≤1048576) (hx : ∀ x ∈ r, x.length≤1048576) : Ev (fun k=>F58.f k l r) (l, r):=by
 unfold F58.f;refine Ev.bind0 (impl_own_some l hl) ?_;have := impl_copied_l0 r hr hx l r.length 0 o_;rw [List.take_zero] at this;exact this
@[reducible] def deedNamed (a b c:Int) : Prop := a=0 ∨ (a=1∧c=0) ∨ ((a=2 ∨ a=3 ∨ a=4 ∨ a=5)∧b=0∧c=0)
theorem impl_named_some (a b c:Int) : F59.f a b c=some (decide (deedNamed a b c)):=by
 unfold F59.f;by_cases h0 : a=0
 ·rw [if_pos h0]; congr 1; symm; rw [decide_eq_true_iff]; exact .inl h0
 rw [if_neg h0];by_cases h1 : a=1
 ·rw [if_pos h1]; congr 1;by_cases hc : c=0
  ·rw [decide_eq_true (show deedNamed a b c from .inr (.inl ⟨h1, hc⟩))]; simpa using hc
  ·rw [decide_eq_false (show ¬ deedNamed a b c by omega)]; simpa using hc
 rw [if_neg h1];have go : (a=2 ∨ a=3 ∨ a=4 ∨ a=5)→(if b=0 then (some (c == 0)) else (some false))=some (decide (deedNamed a b c)):=by
  intro h;by_cases hb : b=0
  ·rw [if_pos hb]; congr 1;by_cases hc : c=0
   ·rw [decide_eq_true (show deedNamed a b c from .inr (.inr ⟨h, hb, hc⟩))]; simpa using hc
   ·rw [decide_eq_false (show ¬ deedNamed a b c by omega)]; simpa using hc
  ·rw [if_neg hb, decide_eq_false (show ¬ deedNamed a b c by omega)]
 by_cases h2 : a=2
 ·rw [if_pos h2]; exact go (.inl h2)
 rw [if_neg h2];by_cases h3 : a=3
 ·rw [if_pos h3]; exact go (.inr (.inl h3))
 rw [if_neg h3];by_cases h4 : a=4
 ·rw [if_pos h4]; exact go (.inr (.inr (.inl h4)))
 rw [if_neg h4];by_cases h5 : a=5
 ·rw [if_pos h5]; exact go (.inr (.inr (.inr h5)))
 rw [if_neg h5, decide_eq_false (show ¬ deedNamed a b c by omega)]
theorem dm0 {l : List Int} {a b c : Int} (h : a=0∧1≤b∧b≤l.length) : deskMade l a b c=l.set (b - 1).toNat c:=by
 unfold deskMade; rw [if_pos h]
theorem dm1 {l : List Int} {a b c : Int} (h : a=1∧c=0) : deskMade l a b c=l ++ [b]:=by
 unfold deskMade; rw [if_neg o_, if_pos h]
theorem dm2 {l : List Int} {a b c : Int} (h : a=2∧b=0∧c=0) : deskMade l a b c=l.take (l.length - 1):=by
 unfold deskMade; rw [if_neg o_, if_neg o_, if_pos h]
theorem dm3 {l : List Int} {a b c : Int} (h : a=3∧b=0∧c=0) : deskMade l a b c=backOf l:=by
 unfold deskMade; rw [if_neg o_, if_neg o_, if_neg o_, if_pos h]
theorem dm4 {l : List Int} {a b c : Int} (h : a=4∧b=0∧c=0) : deskMade l a b c=madeFlat l:=by
 unfold deskMade; rw [if_neg o_, if_neg o_, if_neg o_, if_neg o_, if_pos h]
theorem dm5 {l : List Int} {a b c : Int} (h0 : ¬ (a=0∧1≤b∧b≤l.length)) (h1 : ¬ (a=1∧c=0)) (h2 : ¬ (a=2∧b=0∧c=0)) (h3 : ¬ (a=3∧b=0∧c=0)) (h4 : ¬ (a=4∧b=0∧c=0)) : deskMade l a b c=[]:=by
 unfold deskMade; rw [if_neg h0, if_neg h1, if_neg h2, if_neg h3, if_neg h4]
theorem deskMade_unnamed {l : List Int} {a b c : Int} (h : ¬ deedNamed a b c) : deskMade l a b c=[] := dm5 o_ o_ o_ o_ o_
theorem impl_after_ev (l : List Int) (hl1 : 1≤l.length) (hl : l.length≤8) (a b c:Int) (h : deedNamed a b c) (h5 : a≠5) : Ev (fun k=>F61.f k l a b c) (deskMade l a b c):=by
 unfold F61.f;refine Ev.ite (fun h0=>Ev.bind0 (impl_own_some l o_) (Ev.ite (fun h1=>Ev.ret ?_) (fun h1=>Ev.ite (fun h2=>Ev.ret ?_) (fun h2=>?_)))) (fun h0=>?_)
 ·exact (dm5 o_ o_ o_ o_ o_).symm
 ·exact (dm5 o_ o_ o_ o_ o_).symm
 ·have e : wrap64 (b - 1)=b - 1 := wrap_id o_ o_;rw [e];exact Ev.pos o_ (Ev.pos o_ (Ev.ret (dm0 o_).symm))
 ·refine Ev.ite (fun h1=>Ev.bind0 (impl_own_some l o_) ?_) (fun h1=>?_)
  ·simp only [Option.bind_some];exact Ev.pos (by simp only [List.length_singleton]; omega) (Ev.bind0 rfl (Ev.ret (dm1 o_).symm))
  ·refine Ev.ite (fun h2=>?_) (fun h2=>?_)
   ·(have e : wrap64 ((l.length:Int) - 1)=((l.length - 1:Nat):Int) := by rw [wrap_id o_ o_]; omega);rw [e];exact Ev.pos o_ (Ev.pos o_ (Ev.bind0 (impl_own_some _ (by rw [List.length_take]; omega)) (Ev.ret (by rw [Int.toNat_natCast]; exact (dm2 o_).symm))))
   ·refine Ev.ite (fun h3=>?_) (fun h3=>?_)
    ·exact Ev.bind (impl_BackOf_ev l) (Ev.ret (dm3 o_).symm)
    ·exact Ev.bind (impl_MadeFlat_ev l) (Ev.ret (dm4 o_).symm)
theorem slicesEqual_l0 (l m : List Int) (hl : l.length≤1048576) (hm : l.length=m.length) (d:Nat) : ∀ (j:Nat), j+d=l.length→(∀ i, i<j→l[i]?=m[i]?)→Ev (fun k=>F62.l0 k l m (l.length:Int) (j:Int)) (decide (l=m)):=by
 induction d with
 | zero =>
  intro j hj h;refine Ev.step (fun k=>F62.l0.eq_2 ..) (Ev.neg o_ (Ev.ret ?_));symm;rw [decide_eq_true_iff];apply List.ext_getElem?;intro i;by_cases hi : i<j
  ·exact h i hi
  ·rw [List.getElem?_eq_none o_, List.getElem?_eq_none o_]
 | succ d ih =>
  intro j hj h;refine Ev.step (fun k=>F62.l0.eq_2 ..) (Ev.pos o_ (Ev.pos o_ (Ev.pos o_ (Ev.pos o_ (Ev.ite (fun e=>?_) (fun e=>Ev.ret ?_))))))
  ·rw [wrap_add1 o_];refine ih (j+1) o_ (fun i hi => ?_);by_cases e2 : i=j
   ·subst e2;rw [rd_nat, rd_nat, List.getD_eq_getElem?_getD, List.getD_eq_getElem?_getD, List.getElem?_eq_getElem o_, List.getElem?_eq_getElem o_] at e;rw [List.getElem?_eq_getElem o_, List.getElem?_eq_getElem o_];simpa using e
   ·exact h i o_
  ·symm;rw [decide_eq_false_iff_not];intro z;exact e (by rw [z])
theorem slicesEqual_ev (l m : List Int) (hl : l.length≤1048576) : Ev (fun k=>F62.f k l m) (decide (l=m)):=by
 unfold F62.f;refine Ev.ite (fun h=>slicesEqual_l0 l m hl o_ l.length 0 o_ (fun i h => by omega)) (fun h=>Ev.ret ?_);symm;rw [decide_eq_false_iff_not];intro z;exact h (by rw [z])
theorem impl_DeskDo_j0 (m l : List Int) (r : List (List Int)) (hr : r.length≤8) (s : Bool) : Ev (fun k=>F15.j0 k m s l r) (if s=true then (l, r, false) else (m, if r.length+1 > 8 then (r ++ [l]).drop 1 else r ++ [l], true)):=by
 refine Ev.step (fun k=>F15.j0.eq_2 ..) (Ev.ite (fun h=>Ev.ret (by rw [if_pos h])) (fun h=>?_));rw [if_neg h];refine Ev.pos o_ ?_;simp only [Option.bind_some];(have hlen : (r ++ [l]).length=r.length+1 := by simp);by_cases c : r.length+1 > 8
 ·rw [if_pos c];exact Ev.pos (by rw [hlen]; omega) (Ev.ret (by rw [hlen, show r.length+1 - 8=1 by omega]))
 ·rw [if_neg c];exact Ev.neg (by rw [hlen]; omega) (Ev.ret rfl)
theorem impl_DeskDo_ev (l : List Int) (r : List (List Int)) (a b c:Int) (hl : l.length≤1048576) (hr : r.length≤1048576) (hx : ∀ x ∈ r, x.length≤1048576) : Ev (fun k=>F15.f k l r a b c) (deskDo l r a b c):=by
 unfold F15.f;refine Ev.bind (impl_DeskOk_ev l r hr) (Ev.ite (fun h=>?_) (fun h=>Ev.ret (by unfold deskDo; rw [if_neg h])));obtain ⟨p1, p2, p3⟩:=deskOk_parts h;have hn := treeOk_len p1;(have eb : (a=5∧b=0∧c=0)∧0<r.length→deskDo l r a b c=(r.getD (r.length - 1) [], r.take (r.length - 1), true) := fun z=>by unfold deskDo; rw [if_pos h, if_pos z]);(have en : ¬ ((a=5∧b=0∧c=0)∧0<r.length)→deskDo l r a b c=deskPut l (deskMade l a b c) r := fun z=>by unfold deskDo; rw [if_pos h, if_neg z]);(have e0 : deskPut l [] r=(l, r, false) := by unfold deskPut; rw [if_pos (.inr (by decide))]);refine Ev.bind (impl_copied_ev l r hl hr hx) (Ev.bind0 (impl_named_some a b c) (Ev.ite (fun hd=>?_) (fun hd=>Ev.ret ?_)))
 ·have hd := of_decide_eq_true hd;refine Ev.ite (fun h5=>Ev.ite (fun h6=>Ev.ret ?_) (fun h6=>?_)) (fun h5=>?_)
  ·have h6 : (r.length:Int)=0 := h6;rw [en o_, dm5 o_ o_ o_ o_ o_, e0]
  ·have h6 : ¬ (r.length:Int)=0 := h6;(have e : wrap64 ((r.length:Int) - 1)=((r.length - 1:Nat):Int) := by rw [wrap_id o_ o_]; omega);rw [eb o_];show Ev (fun k=>if 0≤wrap64 ((r.length:Int) - 1) then (if wrap64 ((r.length:Int) - 1)<(r.length:Int) then (some (rd_L1 r (wrap64 ((r.length:Int) - 1)), r.take (wrap64 ((r.length:Int) - 1)).toNat, true)) else none) else none) _;rw [e];refine Ev.pos o_ (Ev.pos o_ (Ev.ret ?_));rw [rd1_nat, Int.toNat_natCast]
  ·rw [en o_];refine Ev.bind (impl_after_ev l hn.1 hn.2 a b c hd h5) (Ev.bind (impl_TreeOk_ev _) (Ev.ite (fun ht=>Ev.bind (slicesEqual_ev _ l (by have := treeOk_len ht; omega)) ?_) (fun ht=>?_)))
   ·refine Ev.eq (impl_DeskDo_j0 _ l r p2 _) ?_;unfold deskPut;by_cases q : deskMade l a b c=l
    ·rw [if_pos (decide_eq_true q), if_pos (.inl q)]
    ·(have q2 : ¬ (deskMade l a b c=l ∨ treeOk (deskMade l a b c)=false) := by rintro (z | z); exact q z; rw [ht] at z; cases z);rw [if_neg q2, if_neg (by simpa using q)]
   ·refine Ev.eq (impl_DeskDo_j0 _ l r p2 true) ?_;unfold deskPut;rw [if_pos rfl, if_pos (.inr (by simpa using ht))]
 ·(have hd : ¬ deedNamed a b c := by simpa using hd);rw [en o_, deskMade_unnamed hd, e0]
theorem alive_ev : Ev (fun k=>F29.f k) true:=by
 unfold F29.f;refine Ev.bind (impl_TreeOk_ev _) (Ev.pos (by decide +kernel) (Ev.bind (impl_TreeOk_ev _) (Ev.ret (by decide +kernel))))
theorem sameInts_l0 (l m : List Int) (hl : l.length≤1099511627776) (hm : l.length=m.length) (d:Nat) : ∀ (j:Nat), j+d=l.length→(∀ i, i<j→l[i]?=m[i]?)→Ev (fun k=>F36.l0 k l m (j:Int)) (decide (l=m)):=by
 induction d with
 | zero =>
  intro j hj h;refine Ev.step (fun k=>F36.l0.eq_2 ..) ?_;refine Ev.neg o_ (Ev.ret ?_);symm;rw [decide_eq_true_iff];apply List.ext_getElem?;intro i;by_cases hi : i<j
  ·exact h i hi
  ·rw [List.getElem?_eq_none o_, List.getElem?_eq_none o_]
 | succ d ih =>
  intro j hj h;refine Ev.step (fun k=>F36.l0.eq_2 ..) ?_;refine Ev.pos o_ (Ev.pos o_ (Ev.pos o_ (Ev.ite ?_ ?_)))
  ·intro e;rw [wrap_add1 o_];refine ih (j+1) o_ ?_;intro i hi;by_cases e' : i=j
   ·subst e';rw [rd_nat, rd_nat] at e;rw [List.getElem?_eq_getElem o_, List.getElem?_eq_getElem o_];simpa [List.getD_eq_getElem?_getD, show i<l.length by omega, show i<m.length by omega] using e
   ·exact h i o_
  ·intro e;refine Ev.ret ?_;symm;rw [decide_eq_false_iff_not];intro e'; subst e'; exact e rfl
theorem sameInts_ev (l m : List Int) (hl : l.length≤1048576) : Ev (fun k=>F36.f k l m) (decide (l=m)):=by
 unfold F36.f;refine Ev.ite (fun h=>?_) (fun h=>?_)
 ·exact sameInts_l0 l m o_ o_ l.length 0 o_ (fun i h => by omega)
 ·refine Ev.ret ?_;symm;rw [decide_eq_false_iff_not];intro e; subst e; exact h rfl
theorem sameRows_l0 (l : List (List Int)) (hl : l.length≤1048576) (hx : ∀ i, i<l.length→(rd_L1 l (i:Int)).length≤1048576) (d:Nat) : ∀ (j:Nat), j+d=l.length→Ev (fun k=>F74.l0 k l l (j:Int)) true:=by
 induction d with
 | zero =>
  intro j hj;exact Ev.step (fun k=>F74.l0.eq_2 ..) (Ev.neg o_ (Ev.ret rfl))
 | succ d ih =>
  intro j hj;refine Ev.step (fun k=>F74.l0.eq_2 ..) (Ev.pos o_ (Ev.pos o_ (Ev.pos o_ (Ev.bind (sameInts_ev _ _ (hx j o_)) (Ev.pos (by simp) ?_)))));rw [wrap_add1 o_];exact ih (j+1) o_
theorem sameRows_ev (l : List (List Int)) (hl : l.length≤1048576) (hx : ∀ i, i<l.length→(rd_L1 l (i:Int)).length≤1048576) : Ev (fun k=>F74.f k l l) true:=by
 unfold F74.f;exact Ev.pos rfl (sameRows_l0 l hl hx l.length 0 o_)
theorem sameDesk_ev (l m : List Int) (r : List (List Int)) (hl : l.length≤1048576) (hr : r.length≤1048576) (hx : ∀ i, i<r.length→(rd_L1 r (i:Int)).length≤1048576) : Ev (fun k=>F26.f k l r m r) (decide (l=m)):=by
 unfold F26.f;refine Ev.bind (sameInts_ev l m hl) (Ev.ite (fun h=>?_) (fun h=>Ev.ret (by simpa using h)));exact Ev.bind (sameRows_ev r hr hx) (Ev.ret h.symm)
theorem rows_small {r : List (List Int)} (h : ∀ x ∈ r, x.length≤1048576) : ∀ i, i<r.length→(rd_L1 r (i:Int)).length≤1048576:=by
 intro i hi;rw [rd1_nat, List.getD_eq_getElem?_getD, List.getElem?_eq_getElem hi];exact h _ (List.getElem_mem ..)
theorem runD_small {l : List Int} {r : List (List Int)} (h : deskOk l r=true) : l.length≤8∧r.length≤8∧∀ x ∈ r, x.length≤8:=by
 obtain ⟨p1, p2, p3⟩:=deskOk_parts h;exact ⟨(treeOk_len p1).2, p2, fun x hx => (treeOk_len (p3 x hx)).2⟩
theorem same_self {l : List Int} {r : List (List Int)} (h : l.length≤8∧r.length≤8∧∀ x ∈ r, x.length≤8) : Ev (fun k=>F26.f k l r l r) true:=by
 refine Ev.eq (sameDesk_ev l l r o_ o_ (rows_small (fun x hx => by have := h.2.2 x hx; omega))) ?_;simp
theorem same_none (l : List Int) (r : List (List Int)) : ∃ b, Ev (fun k=>F26.f k [] [] l r) b:=by
 unfold F26.f;by_cases h : decide ([]=l)=true
 ·by_cases h2 : r.length=0
  ·refine ⟨true, Ev.bind (sameInts_ev [] l (by simp)) (Ev.pos h (Ev.bind (g := fun k=>F74.f k [] r) (r := true) ?_ (Ev.ret rfl)))⟩;unfold F74.f;exact Ev.pos (by simp; omega) (Ev.step (fun k=>F74.l0.eq_2 ..) (Ev.neg (by simp) (Ev.ret rfl)))
  ·refine ⟨false, Ev.bind (sameInts_ev [] l (by simp)) (Ev.pos h (Ev.bind (g := fun k=>F74.f k [] r) (r := false) ?_ (Ev.ret rfl)))⟩;unfold F74.f;exact Ev.neg (by simp; omega) (Ev.ret rfl)
 ·exact ⟨false, Ev.bind (sameInts_ev [] l (by simp)) (Ev.neg h (Ev.ret rfl))⟩
theorem sumTo_less (f g : Nat→Int) : ∀ n : Nat, sumTo (fun i=>f i - g i) n=sumTo f n - sumTo g n
 | 0 => rfl
 | n+1 => by rw [sumTo, sumTo, sumTo, sumTo_less f g n]; omega
@[reducible] def incP (l : List Int) (i v:Nat) : Prop := rd l (i:Int)≠0∧(i=v ∨ rd l (i:Int)=(v:Int)+1)
@[reducible] def meetP (l : List Int) (i k:Nat) : Prop := rd l (i:Int)=rd l (k:Int) ∨ rd l (i:Int)=(k:Int)+1 ∨ rd l (k:Int)=(i:Int)+1
@[reducible] def apartP (l : List Int) (i k:Nat) : Prop := i≠k∧rd l (i:Int)≠0∧rd l (k:Int)≠0∧¬ meetP l i k
def apart (l : List Int) (i k:Nat) : Int := if apartP l i k then 1 else 0
@[reducible] def crossP (a b c d:Int) : Prop := ((1≤a∧1≤b)∧(1≤c∧1≤d))∧(a≠b∧c≠d)∧(((min a b<c∧c<max a b)∧(d<min a b ∨ max a b<d)) ∨ ((min a b<d∧d<max a b)∧(c<min a b ∨ max a b<c)))
@[reducible] def crossAt (l : List Int) (i k:Nat) : Prop := crossP ((i:Int)+1) (rd l (i:Int)) ((k:Int)+1) (rd l (k:Int))
def crossN (l : List Int) (i k:Nat) : Int := if crossAt l i k then 1 else 0
theorem crossP_symm {a b c d : Int} (h : crossP a b c d) : crossP c d a b:=by
 obtain ⟨⟨⟨h1, h2⟩, h3, h4⟩, ⟨h5, h6⟩, h7⟩:=h;refine ⟨⟨⟨h3, h4⟩, h1, h2⟩, ⟨h6, h5⟩, ?_⟩;omega
theorem crossN_symm (l : List Int) (i k:Nat) : crossN l i k=crossN l k i:=by
 unfold crossN;by_cases h : crossAt l i k
 ·rw [if_pos h, if_pos (crossP_symm h)]
 ·rw [if_neg h, if_neg (fun h2=>h (crossP_symm h2))]
theorem cross_apart {l : List Int} {i k : Nat} (h : crossAt l i k) : apartP l i k:=by
 obtain ⟨⟨⟨h1, h2⟩, h3, h4⟩, ⟨h5, h6⟩, h7⟩:=h;refine ⟨?_,by omega,by omega, ?_⟩
 ·intro e; subst e; omega
 ·intro h8; rcases h8 with e | e | e <;> omega
theorem crossN_le (l : List Int) (i k:Nat) : 0≤crossN l i k∧crossN l i k≤1∧crossN l i k≤apart l i k:=by
 unfold crossN apart;by_cases h : crossAt l i k
 ·rw [if_pos h, if_pos (cross_apart h)]; omega
 ·rw [if_neg h]; split <;> omega
theorem crossN_self (l : List Int) (i:Nat) : crossN l i i=0:=by
 unfold crossN;rw [if_neg (fun h=>(cross_apart h).1 rfl)]
theorem sumTo_square (f : Nat→Nat→Int) (hs : ∀ i k, f i k=f k i) (hz : ∀ i, f i i=0) : ∀ n : Nat, sumTo (fun i=>sumTo (fun k=>f i k) n) n=2 * sumTo (fun i=>sumTo (fun k=>f i k) i) n
 | 0 => rfl
 | n+1 => by
  have e : sumTo (fun i=>sumTo (fun k=>f i k) (n+1)) n=sumTo (fun i=>sumTo (fun k=>f i k) n) n+sumTo (fun i=>f i n) n:=by
   rw [← sumTo_add]; rfl
  have e2 : sumTo (fun i=>f i n) n=sumTo (fun k=>f n k) n := sumTo_congr _ (fun i _ => hs i n);have e3 : sumTo (fun k=>f n k) (n+1)=sumTo (fun k=>f n k) n+f n n := rfl;show sumTo (fun i=>sumTo (fun k=>f i k) (n+1)) n+sumTo (fun k=>f n k) (n+1)=2 * (sumTo (fun i=>sumTo (fun k=>f i k) i) n+sumTo (fun k=>f n k) n);rw [e, e2, e3, hz, sumTo_square f hs hz n];omega
def crossings (l : List Int) : Int := if treeOk l then sumTo (fun i=>sumTo (fun k=>crossN l i k) i) l.length else -1
theorem crossN_back {l : List Int} (h : treeOk l=true) {i k : Nat} (hi : i<l.length) (hk : k<l.length) : crossN (backOf l) i k=crossN l (l.length - 1 - i) (l.length - 1 - k):=by
 have r1 := treeOk_rd h (j := l.length - 1 - i) o_;have r2 := treeOk_rd h (j := l.length - 1 - k) o_;have key : crossAt (backOf l) i k ↔ crossAt l (l.length - 1 - i) (l.length - 1 - k):=by
  unfold crossAt;rw [backOf_rd h hi, backOf_rd h hk];generalize rd l ((l.length - 1 - i:Nat):Int)=x at *;generalize rd l ((l.length - 1 - k:Nat):Int)=y at *;rw [show ((l.length - 1 - i:Nat):Int)=(l.length:Int) - 1 - i by omega, show ((l.length - 1 - k:Nat):Int)=(l.length:Int) - 1 - k by omega];unfold crossP;by_cases ex : x=0
  ·rw [if_pos ex];exact ⟨fun q=>by omega, fun q=>by omega⟩
  ·by_cases ey : y=0
   ·rw [if_pos ey];exact ⟨fun q=>by omega, fun q=>by omega⟩
   ·rw [if_neg ex, if_neg ey]
    constructor
    ·rintro ⟨q1, q2, q3⟩;exact ⟨by omega,by omega,by omega⟩
    ·rintro ⟨q1, q2, q3⟩;exact ⟨by omega,by omega,by omega⟩
 unfold crossN;by_cases c : crossAt (backOf l) i k
 ·rw [if_pos c, if_pos (key.mp c)]
 ·rw [if_neg c, if_neg (fun z=>c (key.mpr z))]
theorem crossings_back {l : List Int} (h : treeOk l=true) : crossings (backOf l)=crossings l:=by
 obtain ⟨h1, h2⟩:=backOf_ok h;(have e1 : crossings l=sumTo (fun i=>sumTo (fun k=>crossN l i k) i) l.length := by unfold crossings; rw [if_pos h]);(have e2 : crossings (backOf l)=sumTo (fun i=>sumTo (fun k=>crossN (backOf l) i k) i) l.length := by unfold crossings; rw [if_pos h1, h2]);have s1 := sumTo_square (crossN l) (crossN_symm l) (crossN_self l) l.length;have s2 := sumTo_square (crossN (backOf l)) (crossN_symm _) (crossN_self _) l.length;have e3 : sumTo (fun i=>sumTo (fun k=>crossN (backOf l) i k) l.length) l.length=sumTo (fun i=>sumTo (fun k=>crossN l i k) l.length) l.length:=by
  rw [← sumTo_rev (fun i=>sumTo (fun k=>crossN l i k) l.length)];refine sumTo_congr _ (fun i hi => ?_);rw [← sumTo_rev (fun k=>crossN l (l.length - 1 - i) k)];exact sumTo_congr _ (fun k hk => crossN_back h hi hk)
 omega
theorem impl_between_ev (x a b:Int) : F130.f x a b=some (decide (min a b<x∧x<max a b)):=by
 unfold F130.f;rw [mn_min, mx_max];split
 ·rename_i h; congr 1; rw [decide_eq_decide]; omega
 ·rename_i h; congr 1; symm; rw [decide_eq_false_iff_not]; omega
theorem impl_outside_ev (x a b:Int) : F131.f x a b=some (decide (x<min a b ∨ max a b<x)):=by
 unfold F131.f;rw [mn_min, mx_max];split
 ·rename_i h; congr 1; symm; rw [decide_eq_true_iff]; exact .inl h
 ·rename_i h; congr 1; rw [decide_eq_decide]; omega
theorem impl_CrossOk_ev (a b c d:Int) : Ev (fun k=>F110.f k a b c d) (decide (crossP a b c d)):=by
 unfold F110.f;have bad : ¬ ((1≤a∧1≤b)∧(1≤c∧1≤d)) ∨ ¬ (a≠b∧c≠d)→Ev (fun k=>F110.j0 k a b c d true) (decide (crossP a b c d)):=by
  intro h;refine Ev.step (fun k=>F110.j0.eq_2 ..) (Ev.pos rfl (Ev.ret ?_));symm; rw [decide_eq_false_iff_not];intro h2;rcases h with h | h
  ·exact h h2.1
  ·exact h h2.2.1
 refine Ev.ite (fun h1=>bad (.inl o_)) (fun h1=>Ev.ite (fun h2=>bad (.inl o_)) (fun h2=>Ev.ite (fun h3=>bad (.inl o_)) (fun h3=>Ev.ite (fun h4=>bad (.inl o_)) (fun h4=>Ev.ite (fun h5=>bad (.inr o_)) (fun h5=>?_)))));by_cases h6 : c=d
 ·rw [show (c == d)=true by simpa using h6];exact bad (.inr o_)
 ·rw [show (c == d)=false by simpa using h6]
  have hp : crossP a b c d ↔ (((min a b<c∧c<max a b)∧(d<min a b ∨ max a b<d)) ∨ ((min a b<d∧d<max a b)∧(c<min a b ∨ max a b<c))) :=
   ⟨fun h=>h.2.2, fun h=>⟨by omega, ⟨h5, h6⟩, h⟩⟩
  refine Ev.step (fun k=>F110.j0.eq_2 ..) (Ev.neg (by simp) (Ev.bind0 (impl_between_ev ..) (Ev.ite (fun c1=>?_) (fun c1=>?_))))
  ·have c1' := of_decide_eq_true c1;refine Ev.bind0 (impl_outside_ev ..) (Ev.ite (fun c2=>Ev.ret ?_) (fun c2=>Ev.bind0 (impl_between_ev ..) (Ev.ite (fun c3=>Ev.bind0 (impl_outside_ev ..) (Ev.ret ?_)) (fun c3=>Ev.ret ?_))))
   ·have c2' := of_decide_eq_true c2;symm; rw [decide_eq_true_iff,hp]; exact .inl ⟨c1', c2'⟩
   ·(have c2' : ¬ (d<min a b ∨ max a b<d) := by simpa using c2);have c3' := of_decide_eq_true c3;rw [decide_eq_decide,hp]; omega
   ·(have c2' : ¬ (d<min a b ∨ max a b<d) := by simpa using c2);(have c3' : ¬ (min a b<d∧d<max a b) := by simpa using c3);symm; rw [decide_eq_false_iff_not,hp]; omega
  ·(have c1' : ¬ (min a b<c∧c<max a b) := by simpa using c1);refine Ev.bind0 (impl_between_ev ..) (Ev.ite (fun c3=>Ev.bind0 (impl_outside_ev ..) (Ev.ret ?_)) (fun c3=>Ev.ret ?_))
   ·have c3' := of_decide_eq_true c3;rw [decide_eq_decide,hp]; omega
   ·(have c3' : ¬ (min a b<d∧d<max a b) := by simpa using c3);symm; rw [decide_eq_false_iff_not,hp]; omega
theorem impl_crosses_ev (l : List Int) (hl : l.length≤8) {i k : Nat} (hi : i<l.length) (hk : k<l.length) : Ev (fun q=>F78.f q l (i:Int) (k:Int)) (decide (crossAt l i k)):=by
 unfold F78.f;refine Ev.pos o_ (Ev.pos o_ (Ev.pos o_ (Ev.pos o_ ?_)));rw [wrap_id (n := (i:Int)+1) o_ o_, wrap_id (n := (k:Int)+1) o_ o_];exact Ev.bind (impl_CrossOk_ev _ _ _ _) (Ev.ret rfl)
theorem impl_CrossingsOf_l1 (l : List Int) (hl : l.length≤8) (r:Int) {i : Nat} (hi : i<l.length) (b:Int) (hb : 0≤b∧b≤64)
  (next : Ev (fun q=>F32.l0 q l (b+sumTo (fun k=>crossN l i k) i) (l.length:Int) ((i+1:Nat):Int)) r) (d:Nat) : ∀ (k:Nat), k+d=i →
  Ev (fun q=>F32.l1 q l (b+sumTo (fun k=>crossN l i k) k) (i:Int) (l.length:Int) (i:Int) (i:Int) (k:Int)) r:=by
 induction d with
 | zero =>
  intro k hk;refine Ev.step (fun k=>F32.l1.eq_2 ..) ?_;rw [wrap_add1 (n := i) o_];refine Ev.neg o_ ?_;rw [show k=i by omega]; exact next
 | succ d ih =>
  intro k hk;have hs := sumTo_bound (f := fun k=>crossN l i k) 1 k (fun k _ => ⟨(crossN_le l i k).1, (crossN_le l i k).2.1⟩);have hi2 := ih (k+1) o_;rw [sumTo] at hi2;refine Ev.step (fun k=>F32.l1.eq_2 ..) ?_;rw [wrap_add1 (n := k) o_, wrap_id (n := b+sumTo (fun k=>crossN l i k) k+1) o_ o_];refine Ev.pos o_ (Ev.bind (impl_crosses_ev l hl hi o_) (Ev.ite (fun c=>?_) (fun c=>?_)))
  ·(have : crossN l i k=1 := by unfold crossN; rw [if_pos (of_decide_eq_true c)]);rw [this, ← Int.add_assoc] at hi2; exact hi2
  ·have c' : ¬ crossAt l i k := fun h=>c (decide_eq_true h);(have : crossN l i k=0 := by unfold crossN; rw [if_neg c']);rw [this, Int.add_zero] at hi2; exact hi2
theorem impl_CrossingsOf_l0 (l : List Int) (hl : l.length≤8) (d:Nat) : ∀ (i:Nat), i+d=l.length →
  Ev (fun q=>F32.l0 q l (sumTo (fun i=>sumTo (fun k=>crossN l i k) i) i) (l.length:Int) (i:Int)) (sumTo (fun i=>sumTo (fun k=>crossN l i k) i) l.length):=by
 induction d with
 | zero =>
  intro i hi;refine Ev.step (fun k=>F32.l0.eq_2 ..) ?_;exact Ev.neg o_ (Ev.ret (by rw [show i=l.length by omega]))
 | succ d ih =>
  intro i hi
  have hs := sumTo_bound (f := fun i=>sumTo (fun k=>crossN l i k) i) 8 i (fun i hi => by
   have := sumTo_bound (f := fun k=>crossN l i k) 1 i (fun k _ => ⟨(crossN_le l i k).1, (crossN_le l i k).2.1⟩)
   omega)
  refine Ev.step (fun k=>F32.l0.eq_2 ..) ?_;refine Ev.pos o_ ?_;have := impl_CrossingsOf_l1 l hl _ (i := i) o_ (sumTo (fun i=>sumTo (fun k=>crossN l i k) i) i) o_ (ih (i+1) o_) i 0 o_;simpa [sumTo] using this
theorem impl_CrossingsOf_ev (l : List Int) : Ev (fun k=>F32.f k l) (crossings l):=by
 unfold F32.f crossings;refine Ev.bind (impl_TreeOk_ev l) (Ev.ite (fun h=>?_) (fun h=>?_))
 ·rw [if_pos h];have := impl_CrossingsOf_l0 l (treeOk_len h).2 l.length 0 o_;simpa [sumTo] using this
 ·rw [if_neg h]; exact Ev.ret rfl
def underF (l : List Int) : Nat→Int→Int→Bool
 | 0, v, w => decide (v=w)
 | m+1, v, w => decide (v=w) || (decide (rd l (v - 1)≠0) && underF l m (rd l (v - 1)) w)
theorem underF_iff (l : List Int) : ∀ (m d:Nat) (v w:Int), Deep l d v→d≤m→(underF l m v w=true ↔ ∃ k, k≤d∧up l k v=w)
 | 0, d, v, w, hd, hm => by
  obtain rfl : d=0 := by omega
  unfold underF
  rw [decide_eq_true_iff]
  constructor
  ·intro e; exact ⟨0, Nat.le_refl _, e⟩
  ·rintro ⟨k, hk, e⟩
   obtain rfl : k=0 := by omega
   exact e
 | m+1, d, v, w, hd, hm => by
  unfold underF
  rw [Bool.or_eq_true, Bool.and_eq_true, decide_eq_true_iff, decide_eq_true_iff]
  cases d with
  | zero =>
   have h0 : rd l (v - 1)=0 := hd
   constructor
   ·intro h
    rcases h with h | h
    ·exact ⟨0, Nat.le_refl _, h⟩
    ·exact absurd h0 h.1
   ·rintro ⟨k, hk, e⟩
    obtain rfl : k=0 := by omega
    exact .inl e
  | succ d =>
   have h1 := hd.1
   have ih := underF_iff l m d (rd l (v - 1)) w hd.2.2 o_
   constructor
   ·intro h
    rcases h with h | h
    ·exact ⟨0,by omega, h⟩
    ·obtain ⟨k, hk, e⟩:=ih.mp h.2
     exact ⟨k+1,by omega, e⟩
   ·rintro ⟨k, hk, e⟩
    cases k with
    | zero => exact .inl e
    | succ k => exact .inr ⟨by omega, ih.mpr ⟨k,by omega, e⟩⟩
def undB (l : List Int) (i w:Nat) : Bool := underF l l.length ((i:Int)+1) ((w:Int)+1)
theorem undB_iff {l : List Int} (h : treeOk l=true) {i w : Nat} (hi : i<l.length) {d : Nat} (hd : Deep l d ((i:Int)+1)) : undB l i w=true ↔ ∃ k, k≤d∧up l k ((i:Int)+1)=(w:Int)+1 :=
 underF_iff l _ d _ _ hd (Nat.le_of_lt (deep_lt h o_ o_ hd))
theorem undB_mem {l : List Int} (h : treeOk l=true) {i w : Nat} (hi : i<l.length) (hw : w<l.length) {m e : Nat} (he : Deep l e ((w:Int)+1)) (hm : l.length≤e+m) : undB l i w=true ↔ (i:Int)+1 ∈ flatF l m ((w:Int)+1):=by
 obtain ⟨d, hd, hdd⟩:=tree_deep h (w := (i:Int)+1) o_ o_;rw [undB_iff h hi hdd]
 constructor
 ·rintro ⟨k, hk, e2⟩;obtain ⟨c, rfl⟩ : ∃ c, d=c+k := ⟨d - k,by omega⟩;have h1 := deep_up l k c _ hdd;rw [e2] at h1;obtain rfl := deep_unique l _ _ _ h1 he;exact flatF_mem h k m c _ _ o_ e2 hdd hm
 ·intro hmem;obtain ⟨_, k, h1, h2⟩:=mem_flatF m e _ _ o_ he hmem;obtain rfl := deep_unique l _ _ _ h2 hdd;exact ⟨k,by omega, h1⟩
def RowB (l : List Int) (w:Nat) : Prop := ∀ a b c : Nat, a<b→b<c→c<l.length→undB l a w=true→undB l c w=true→undB l b w=true
def Flat (l : List Int) : Prop := ∀ w : Nat, w<l.length→RowB l w
theorem flat_infix {l : List Int} (h : treeOk l=true) : ∀ (d:Nat) (w:Int), 1≤w∧w≤l.length→Deep l d w→∃ m A B, l.length≤d+m∧flatOrder l=A ++ flatF l m w ++ B
 | 0, w, hw, hd => by
  have hr : w=rootOf l:=by
   have := up_root h hw hd;exact this
  refine ⟨l.length, [], [],by omega, ?_⟩;unfold flatOrder;rw [if_pos h, hr]; simp
 | d+1, w, hw, hd => by
  have hd2 := hd;obtain ⟨h1, h2, h3⟩:=hd;obtain ⟨m, A, B, h4, h5⟩:=flat_infix h d (rd l (w - 1)) ⟨h1, h2⟩ h3;have hlt := deep_lt h hw.1 hw.2 hd2;obtain ⟨m', rfl⟩ : ∃ m', m=m'+1 := ⟨m - 1,by omega⟩;have split : ∀ (ks : List Nat), (w - 1).toNat ∈ ks→∃ X Z, ks.flatMap (fun i : Nat => flatF l m' ((i:Int)+1))=X ++ flatF l m' w ++ Z:=by
   intro ks hk;obtain ⟨s, t, rfl⟩:=List.append_of_mem hk;refine ⟨s.flatMap (fun i : Nat => flatF l m' ((i:Int)+1)), t.flatMap (fun i : Nat => flatF l m' ((i:Int)+1)), ?_⟩;rw [List.flatMap_append, List.flatMap_cons, show (((w - 1).toNat:Nat):Int)+1=w by omega, List.append_assoc]
  (have e : rd l (((w - 1).toNat:Nat):Int)=rd l (w - 1) := by rw [show (((w - 1).toNat:Nat):Int)=w - 1 by omega]);(have hmem : (w - 1).toNat ∈ List.range' 0 (l.length - 0) := by rw [List.mem_range'_1]; omega);rw [flatF] at h5;by_cases c : w<rd l (w - 1)
  ·obtain ⟨X, Z, hx⟩:=split (kidsL l (rd l (w - 1)) l.length 0) (List.mem_filter.mpr ⟨hmem, decide_eq_true ⟨e,by omega⟩⟩);rw [hx] at h5;exact ⟨m', A ++ X, Z ++ ([rd l (w - 1)] ++ (kidsR l (rd l (w - 1)) l.length 0).flatMap (fun i : Nat => flatF l m' ((i:Int)+1))) ++ B,by omega, by rw [h5]; simp [List.append_assoc]⟩
  ·obtain ⟨X, Z, hx⟩:=split (kidsR l (rd l (w - 1)) l.length 0) (List.mem_filter.mpr ⟨hmem, decide_eq_true ⟨e,by omega⟩⟩);rw [hx] at h5;exact ⟨m', A ++ (kidsL l (rd l (w - 1)) l.length 0).flatMap (fun i : Nat => flatF l m' ((i:Int)+1)) ++ ([rd l (w - 1)] ++ X), Z ++ B,by omega, by rw [h5]; simp [List.append_assoc]⟩
theorem placeOf_inj {o : List Int} {n : Nat} (h : orderOk o n=true) {a b : Int} (ha : 0≤a∧a≤n) (hb : 0≤b∧b≤n) : placeOf o a=placeOf o b ↔ a=b:=by
 constructor
 ·intro e;have h1 := placeOf_range h ha.1 ha.2;have h2 := placeOf_range h hb.1 hb.2;by_cases c : a=0
  ·have := h2.2.2.mp (by rw [← e]; exact h1.2.2.mpr o_); omega
  ·by_cases c2 : b=0
   ·have := h1.2.2.mp (by rw [e]; exact h2.2.2.mpr o_); omega
   ·rw [← rd_placeOf h (show 1≤a by omega) ha.2, e, rd_placeOf h o_ hb.2]
 ·intro e; rw [e]
theorem put_rd {l o : List Int} (h : orderOk o l.length=true) {i : Nat} (hi : i<l.length) : ∃ s : Nat, s<l.length∧rd o (i:Int)=(s:Int)+1∧placeOf o ((s:Int)+1)=(i:Int)+1∧rd (putOf l o) (i:Int)=placeOf o (rd l (s:Int)):=by
 have h1 := orderOk_rd h hi;refine ⟨(rd o (i:Int) - 1).toNat,by omega,by omega, ?_, ?_⟩
 ·rw [show (((rd o (i:Int) - 1).toNat:Nat):Int)+1=rd o (i:Int) by omega];exact placeOf_at h (by rw [orderOk_len h]; exact hi)
 ·rw [putOf_rd h hi, show (((rd o (i:Int) - 1).toNat:Nat):Int)=rd o (i:Int) - 1 by omega]
def toWord (o : List Int) (i:Nat) : Nat := (rd o (i:Int) - 1).toNat
theorem len_counts {n : Nat} {L : List Int} (h : ∀ x, x ∈ L→1≤x∧x≤n) : sumTo (fun v=>(L.count ((v:Int)+1):Int)) n=L.length:=by
 have e : sumTo (fun v=>(L.count ((v:Int)+1):Int)) n=sumTo (fun v=>sumTo (fun i=>if rd L (i:Int)=(v:Int)+1 then 1 else 0) L.length) n := sumTo_congr _ (fun v _ => count_sum _ L);rw [e, sumTo_swap, ← sumTo_one L.length];refine sumTo_congr _ (fun i hi => ?_);have hm := h (rd L (i:Int)) (by rw [rd_get L hi]; exact List.getElem_mem ..);have : sumTo (fun v : Nat => if rd L (i:Int)=(v:Int)+1 then (1:Int) else 0) n=sumTo (fun v : Nat => if v=(rd L (i:Int) - 1).toNat then 1 else 0) n:=by
  refine sumTo_congr _ (fun v _ => ?_);by_cases e2 : rd L (i:Int)=(v:Int)+1
  ·rw [if_pos e2, if_pos o_]
  ·rw [if_neg e2, if_neg o_]
 rw [this, sumTo_pick, if_pos o_]
theorem flatOrder_ok {l : List Int} (h : treeOk l=true) : orderOk (flatOrder l) l.length=true:=by
 have hn := treeOk_len h;have h1 := flatOrder_range h;have h2 := flatOrder_nodup h;have h3 := nodup_le l.length _ h2 h1;have h4 := len_counts h1;have h5 : sumTo (fun _=>1) l.length≤sumTo (fun v=>((flatOrder l).count ((v:Int)+1):Int)) l.length:=by
  refine sumTo_le _ (fun v hv => ?_);have := List.count_pos_iff.mpr (flatOrder_mem h (v := (v:Int)+1) o_);omega
 rw [sumTo_one] at h5;exact orderOk_nodup.mpr ⟨by omega,by omega, h2, h1⟩
theorem madeFlat_put {l : List Int} (h : treeOk l=true) : madeFlat l=putOf l (flatOrder l):=by
 unfold madeFlat putInOrder;rw [if_pos ⟨h, flatOrder_ok h⟩]
theorem underF_put {l o : List Int} (hl : treeOk l=true) (h : orderOk o l.length=true) : ∀ (m:Nat) (v w:Int), (1≤v∧v≤l.length)→(1≤w∧w≤l.length)→underF (putOf l o) m (placeOf o v) (placeOf o w)=underF l m v w
 | 0, v, w, hv, hw => by
  unfold underF
  rw [decide_eq_decide]; exact placeOf_inj h o_ o_
 | m+1, v, w, hv, hw => by
  unfold underF
  have hr := treeOk_rd' hl hv.1 hv.2
  rw [putOf_at h hv.1 hv.2]
  have e1 : decide (placeOf o v=placeOf o w)=decide (v=w) := by rw [decide_eq_decide]; exact placeOf_inj h o_ o_
  have e2 : decide (placeOf o (rd l (v - 1))≠0)=decide (rd l (v - 1)≠0):=by
   rw [decide_eq_decide];have := placeOf_inj h hr (b := 0) o_;rw [placeOf_zero h] at this;exact not_congr this
  rw [e1, e2];by_cases c : rd l (v - 1)=0
  ·rw [c]; simp
  ·rw [underF_put hl h m _ w o_ hw]
theorem undB_put {l o : List Int} (hl : treeOk l=true) (h : orderOk o l.length=true) {i w : Nat} (hi : i<l.length) (hw : w<l.length) : undB (putOf l o) i w=undB l (toWord o i) (toWord o w):=by
 obtain ⟨s, h1, h2, h3, h4⟩:=put_rd h hi;obtain ⟨t, h5, h6, h7, h8⟩:=put_rd h hw;(have e1 : toWord o i=s := by unfold toWord; omega);(have e2 : toWord o w=t := by unfold toWord; omega);rw [e1, e2];unfold undB;rw [putOf_length, orderOk_len h, ← h3, ← h7];exact underF_put hl h _ _ _ o_ o_
theorem toWord_lt {o : List Int} {n : Nat} (h : orderOk o n=true) {i : Nat} (hi : i<n) : toWord o i<n∧((toWord o i:Nat):Int)+1=rd o (i:Int):=by
 have := orderOk_rd h hi;unfold toWord; omega
theorem row_places {l : List Int} (hl : treeOk l=true) {w : Nat} (hw : w<l.length) {a b c : Nat} (hab : a<b) (hbc : b<c) (hc : c<l.length)
  (ha : undB l (toWord (flatOrder l) a) w=true) (hcc : undB l (toWord (flatOrder l) c) w=true) : undB l (toWord (flatOrder l) b) w=true:=by
 have ho := flatOrder_ok hl;have hlen := orderOk_len ho;obtain ⟨d, _, hd⟩:=tree_deep hl (w := (w:Int)+1) o_ o_;obtain ⟨m, A, B, h1, h2⟩:=flat_infix hl d ((w:Int)+1) o_ hd;have hnd := flatOrder_nodup hl;have t1 := toWord_lt ho (i := a) o_;have t2 := toWord_lt ho (i := b) o_;have t3 := toWord_lt ho (i := c) hc;rw [undB_mem hl t1.1 hw hd h1, t1.2] at ha;rw [undB_mem hl t3.1 hw hd h1, t3.2] at hcc;rw [undB_mem hl t2.1 hw hd h1, t2.2];have place : ∀ (F : List Int) (i:Nat), flatOrder l=A ++ F ++ B→i<l.length→(rd (flatOrder l) (i:Int) ∈ F ↔ A.length≤i∧i<A.length+F.length):=by
  intro F i hF hi;(have hi' : i<(flatOrder l).length := by omega);have hinj := (nodup_iff_rd _).mp hnd;have at_ : ∀ j : Nat, j<F.length→rd (flatOrder l) ((A.length+j:Nat):Int)=rd F (j:Int):=by
   intro j hj;(have hlj : A.length+j<(flatOrder l).length := by rw [hF]; simp; omega);rw [rd_get _ hlj, rd_get F hj];simp only [hF];rw [List.getElem_append_left (by simp; omega), List.getElem_append_right o_];simp
  constructor
  ·intro hm;obtain ⟨j, hj, e⟩:=List.getElem_of_mem hm;have h3 := at_ j hj;rw [rd_get F hj, e] at h3;(have hlj : A.length+j<(flatOrder l).length := by rw [hF]; simp; omega);have : A.length+j=i:=by
    rcases Nat.lt_trichotomy (A.length+j) i with q | q | q
    ·exact absurd h3 (hinj _ _ q hi')
    ·exact q
    ·exact absurd h3.symm (hinj _ _ q hlj)
   omega
  ·rintro ⟨q1, q2⟩;have h3 := at_ (i - A.length) o_;rw [show A.length+(i - A.length)=i by omega] at h3;rw [h3, rd_get F o_];exact List.getElem_mem ..
 have p1 := (place _ a h2 o_).mp ha;have p3 := (place _ c h2 hc).mp hcc;exact (place _ b h2 o_).mpr o_
theorem flat_made {l : List Int} (hl : treeOk l=true) : Flat (putOf l (flatOrder l)):=by
 have ho := flatOrder_ok hl;(have hlen : (putOf l (flatOrder l)).length=l.length := by rw [putOf_length, orderOk_len ho]);intro w hw a b c hab hbc hc ha hcc;rw [hlen] at hw hc;rw [undB_put hl ho o_ hw] at ha hcc ⊢;exact row_places hl (toWord_lt ho hw).1 hab hbc hc ha hcc
def cntU (U : Nat→Bool) (i:Nat) : Int := sumTo (fun i=>if U i=true then 1 else 0) i
def mnU (U : Nat→Bool) (n:Int) : Nat→Int
 | 0 => n
 | i+1 => if U i=true then min (mnU U n i) i else mnU U n i
def mxU (U : Nat→Bool) : Nat→Int
 | 0 => -1
 | i+1 => if U i=true then max (mxU U i) i else mxU U i
theorem cntU_bound (U : Nat→Bool) (i:Nat) : 0≤cntU U i∧cntU U i≤i:=by
 (have := sumTo_bound (f := fun i=>if U i=true then (1:Int) else 0) 1 i (fun i _ => by split <;> omega));unfold cntU; omega
theorem mnU_spec (U : Nat→Bool) (n:Nat) : ∀ i : Nat, i≤n→(∀ j : Nat, j<i→U j=true→mnU U n i≤j)∧(mnU U n i=n ∨ ∃ j : Nat, j<i∧U j=true∧mnU U n i=j)
 | 0, _ => ⟨fun j hj => by omega, .inl rfl⟩
 | i+1, hi => by
  obtain ⟨h1, h2⟩:=mnU_spec U n i o_
  unfold mnU
  by_cases c : U i=true
  ·rw [if_pos c]
   refine ⟨fun j hj hu => ?_, ?_⟩
   ·by_cases e : j=i
    ·subst e; omega
    ·have := h1 j o_ hu; omega
   ·rcases h2 with e | ⟨j, hj, hu, e⟩
    ·exact .inr ⟨i,by omega, c,by omega⟩
    ·by_cases q : (j:Int)≤i
     ·exact .inr ⟨j,by omega, hu,by omega⟩
     ·exact .inr ⟨i,by omega, c,by omega⟩
  ·rw [if_neg c]
   refine ⟨fun j hj hu => ?_, ?_⟩
   ·by_cases e : j=i
    ·subst e; exact absurd hu c
    ·exact h1 j o_ hu
   ·rcases h2 with e | ⟨j, hj, hu, e⟩
    ·exact .inl e
    ·exact .inr ⟨j,by omega, hu, e⟩
theorem mxU_spec (U : Nat→Bool) : ∀ i : Nat, (∀ j : Nat, j<i→U j=true→(j:Int)≤mxU U i)∧(mxU U i=-1 ∨ ∃ j : Nat, j<i∧U j=true∧mxU U i=j)
 | 0 => ⟨fun j hj => by omega, .inl rfl⟩
 | i+1 => by
  obtain ⟨h1, h2⟩:=mxU_spec U i
  unfold mxU
  by_cases c : U i=true
  ·rw [if_pos c]
   refine ⟨fun j hj hu => ?_, ?_⟩
   ·by_cases e : j=i
    ·subst e; omega
    ·have := h1 j o_ hu; omega
   ·rcases h2 with e | ⟨j, hj, hu, e⟩
    ·exact .inr ⟨i,by omega, c,by omega⟩
    ·exact .inr ⟨i,by omega, c,by omega⟩
  ·rw [if_neg c]
   refine ⟨fun j hj hu => ?_, ?_⟩
   ·by_cases e : j=i
    ·subst e; exact absurd hu c
    ·exact h1 j o_ hu
   ·rcases h2 with e | ⟨j, hj, hu, e⟩
    ·exact .inl e
    ·exact .inr ⟨j,by omega, hu, e⟩
theorem row_iff (U : Nat→Bool) (n:Nat) {w : Nat} (hw : w<n) (hu : U w=true) : mxU U n - mnU U n n+1=cntU U n ↔ ∀ a b c : Nat, a<b→b<c→c<n→U a=true→U c=true→U b=true:=by
 obtain ⟨m1, m2⟩:=mnU_spec U n n (Nat.le_refl _);obtain ⟨x1, x2⟩:=mxU_spec U n;have hm := m1 w hw hu;have hx := x1 w hw hu;obtain ⟨lo, hlo, hulo, elo⟩ : ∃ j : Nat, j<n∧U j=true∧mnU U n n=j:=by
  rcases m2 with e | h
  ·omega
  ·exact h
 obtain ⟨hi, hhi, huhi, ehi⟩ : ∃ j : Nat, j<n∧U j=true∧mxU U n=j:=by
  rcases x2 with e | h
  ·omega
  ·exact h
 have hg := sumTo_gap ((lo:Int)+1) ((hi:Int)+2) o_ o_ n;have hin : ∀ i : Nat, i<n→U i=true→lo≤i∧i≤hi:=by
  intro i hi2 hui;have := m1 i hi2 hui;have := x1 i hi2 hui;omega
 rw [elo, ehi]
 constructor
 ·intro hc a b c hab hbc hcn ha hcc;apply Decidable.byContradiction;intro hb;have h1 := hin a o_ ha;have h2 := hin c hcn hcc;have h3 : cntU U n≤sumTo (fun g=>(if (lo:Int)+1≤(g:Int)+1∧(hi:Int)+2 > (g:Int)+1 then 1 else 0) - (if g=b then 1 else 0)) n:=by
   refine sumTo_le _ (fun i hi2 => ?_);by_cases e : i=b
   ·subst e;rw [if_neg hb, if_pos o_, if_pos rfl]; omega
   ·rw [if_neg e];by_cases c2 : U i=true
    ·have := hin i hi2 c2;rw [if_pos c2, if_pos o_]; omega
    ·rw [if_neg c2]; split <;> omega
  rw [sumTo_less, sumTo_pick, if_pos o_] at h3;omega
 ·intro h;have : cntU U n=sumTo (fun g=>if (lo:Int)+1≤(g:Int)+1∧(hi:Int)+2 > (g:Int)+1 then 1 else 0) n:=by
   refine sumTo_congr _ (fun i hi2 => ?_);by_cases c2 : U i=true
   ·have := hin i hi2 c2;rw [if_pos c2, if_pos o_]
   ·rw [if_neg c2, if_neg];rintro ⟨q1, q2⟩;refine c2 ?_;by_cases e1 : i=lo
    ·rw [e1]; exact hulo
    ·by_cases e2 : i=hi
     ·rw [e2]; exact huhi
     ·exact h lo i hi o_ o_ hhi hulo huhi
  omega
def rowB (l : List Int) (w:Nat) : Bool := decide (mxU (fun i=>undB l i w) l.length - mnU (fun i=>undB l i w) l.length l.length+1=cntU (fun i=>undB l i w) l.length)
def flatB (l : List Int) : Bool := treeOk l && (List.range l.length).all (rowB l)
theorem undB_self {l : List Int} (w:Nat) : undB l w w=true:=by
 unfold undB;cases l.length with
 | zero => unfold underF; simp
 | succ n => unfold underF; simp
theorem flatB_iff {l : List Int} (h : treeOk l=true) : flatB l=true ↔ Flat l:=by
 unfold flatB;rw [h, Bool.true_and, List.all_eq_true]
 constructor
 ·intro ha w hw;have := of_decide_eq_true (ha w (List.mem_range.mpr hw));exact (row_iff (fun i=>undB l i w) l.length hw (undB_self w)).mp this
 ·intro hf w hw;have hw := List.mem_range.mp hw;exact decide_eq_true ((row_iff (fun i=>undB l i w) l.length hw (undB_self w)).mpr (hf w hw))
theorem impl_under_l0 (l : List Int) (hl : l.length≤8) (w:Int) (hw : 1≤w) : ∀ (m d:Nat) (v:Int), (1≤v∧v≤l.length)→Deep l d v→d≤m→Ev (fun k=>F111.l0 k l v w) (underF l m v w):=by
 intro m
 induction m with
 | zero =>
  intro d v hv hd hm;(obtain rfl : d=0 := by omega);have h0 : rd l (v - 1)=0 := hd;have e : wrap64 (v - 1)=v - 1 := wrap_id o_ o_;refine Ev.step (fun k=>F111.l0.eq_2 ..) (Ev.neg o_ (Ev.ite (fun c=>Ev.ret ?_) (fun c=>?_)))
  ·unfold underF; simp [c]
  ·rw [e, h0];refine Ev.pos o_ (Ev.pos o_ (Ev.step (fun k=>F111.l0.eq_2 ..) (Ev.pos rfl (Ev.ret ?_))));unfold underF; simp [c]; omega
 | succ m ih =>
  intro d v hv hd hm;have e : wrap64 (v - 1)=v - 1 := wrap_id o_ o_;refine Ev.step (fun k=>F111.l0.eq_2 ..) (Ev.neg o_ (Ev.ite (fun c=>Ev.ret ?_) (fun c=>?_)))
  ·unfold underF; simp [c]
  ·rw [e];refine Ev.pos o_ (Ev.pos o_ ?_);by_cases h0 : rd l (v - 1)=0
   ·rw [h0];refine Ev.step (fun k=>F111.l0.eq_2 ..) (Ev.pos rfl (Ev.ret ?_));unfold underF; simp [c, h0]; omega
   ·cases d with
    | zero => exact absurd hd h0
    | succ d =>
     refine Ev.eq (ih d _ ⟨hd.1, hd.2.1⟩ hd.2.2 o_) ?_;rw [show underF l (m+1) v w=(decide (v=w) || (decide (rd l (v - 1)≠0) && underF l m (rd l (v - 1)) w)) from rfl];simp [c, h0]
theorem impl_under_ev {l : List Int} (h : treeOk l=true) {i w : Nat} (hi : i<l.length) (hw : w<l.length) : Ev (fun k=>F111.f k l ((i:Int)+1) ((w:Int)+1)) (undB l i w):=by
 obtain ⟨d, hd, hdd⟩:=tree_deep h (w := (i:Int)+1) o_ o_;unfold F111.f undB;exact impl_under_l0 l (treeOk_len h).2 _ o_ l.length d _ o_ hdd o_
theorem impl_flatOk_l1 {l : List Int} (h : treeOk l=true) {w : Nat} (hw : w<l.length) (r : Bool)
  (next : Ev (fun k=>F79.l0 k l (l.length:Int) ((w+1:Nat):Int)) r) (d:Nat) : ∀ i : Nat, i+d=l.length →
  Ev (fun k=>F79.l1 k l (w:Int) (cntU (fun i=>undB l i w) i) (mnU (fun i=>undB l i w) l.length i) (mxU (fun i=>undB l i w) i) (l.length:Int) (w:Int) (l.length:Int) (i:Int)) (rowB l w && r):=by
 have hn := treeOk_len h;have bm : ∀ i : Nat, i≤l.length→0≤mnU (fun i=>undB l i w) l.length i∧mnU (fun i=>undB l i w) l.length i≤l.length:=by
  intro i hi;(rcases (mnU_spec (fun i=>undB l i w) l.length i hi).2 with e | ⟨j, hj, _, e⟩ <;> omega)
 have bx : ∀ i : Nat, i≤l.length→-1≤mxU (fun i=>undB l i w) i∧mxU (fun i=>undB l i w) i≤l.length:=by
  intro i hi;(rcases (mxU_spec (fun i=>undB l i w) i).2 with e | ⟨j, hj, _, e⟩ <;> omega)
 induction d with
 | zero =>
  intro i hi;(have hi : i=l.length := by omega);subst hi;have b1 := bm _ (Nat.le_refl _);have b2 := bx _ (Nat.le_refl _);refine Ev.step (fun k=>F79.l1.eq_2 ..) (Ev.neg o_ ?_);rw [wrap_id (n := mxU (fun i=>undB l i w) l.length - mnU (fun i=>undB l i w) l.length l.length) o_ o_, wrap_id (n := mxU (fun i=>undB l i w) l.length - mnU (fun i=>undB l i w) l.length l.length+1) o_ o_, wrap_add1 o_];refine Ev.ite (fun c=>Ev.eq next ?_) (fun c=>Ev.ret ?_)
  ·rw [show rowB l w=true from decide_eq_true c]; rfl
  ·rw [show rowB l w=false from decide_eq_false c]; rfl
 | succ d ih =>
  intro i hi;have b3 := cntU_bound (fun i=>undB l i w) i;have next := ih (i+1) o_;refine Ev.step (fun k=>F79.l1.eq_2 ..) (Ev.pos o_ ?_);rw [wrap_add1 (n := i) o_, wrap_add1 (n := w) o_, wrap_id (n := cntU (fun i=>undB l i w) i+1) o_ o_, mn_min, mx_max];refine Ev.bind (impl_under_ev h o_ hw) (Ev.ite (fun c=>?_) (fun c=>?_))
  ·have e1 : cntU (fun i=>undB l i w) (i+1)=cntU (fun i=>undB l i w) i+1:=by
    unfold cntU; rw [sumTo, if_pos c]
   (have e2 : mnU (fun i=>undB l i w) l.length (i+1)=min (mnU (fun i=>undB l i w) l.length i) i := by rw [mnU, if_pos c]);(have e3 : mxU (fun i=>undB l i w) (i+1)=max (mxU (fun i=>undB l i w) i) i := by rw [mxU, if_pos c]);rw [e1, e2, e3] at next;exact next
  ·have e1 : cntU (fun i=>undB l i w) (i+1)=cntU (fun i=>undB l i w) i:=by
    unfold cntU; rw [sumTo, if_neg c]; omega
   (have e2 : mnU (fun i=>undB l i w) l.length (i+1)=mnU (fun i=>undB l i w) l.length i := by rw [mnU, if_neg c]);(have e3 : mxU (fun i=>undB l i w) (i+1)=mxU (fun i=>undB l i w) i := by rw [mxU, if_neg c]);rw [e1, e2, e3] at next;exact next
theorem impl_flatOk_l0 {l : List Int} (h : treeOk l=true) (d:Nat) : ∀ w : Nat, w+d=l.length →
  Ev (fun k=>F79.l0 k l (l.length:Int) (w:Int)) ((List.range' w (l.length - w)).all (rowB l)):=by
 have hn := treeOk_len h
 induction d with
 | zero =>
  intro w hw;refine Ev.step (fun k=>F79.l0.eq_2 ..) (Ev.neg o_ (Ev.ret ?_));rw [show l.length - w=0 by omega]; rfl
 | succ d ih =>
  intro w hw;refine Ev.step (fun k=>F79.l0.eq_2 ..) (Ev.pos o_ ?_);rw [all_from _ _ _ o_];exact impl_flatOk_l1 h o_ _ (ih (w+1) o_) l.length 0 o_
theorem impl_FlatOk_ev (l : List Int) : Ev (fun k=>F33.f k l) (flatB l):=by
 unfold F33.f flatB;refine Ev.bind (impl_TreeOk_ev l) (Ev.ite (fun h=>?_) (fun h=>Ev.ret ?_))
 ·rw [h, Bool.true_and, List.range_eq_range'];refine Ev.bind (g := fun k=>F79.f k l) ?_ (Ev.ret rfl);unfold F79.f;exact impl_flatOk_l0 h l.length 0 o_
 ·rw [show treeOk l=false by simpa using h]; rfl
theorem deskDo_no {l : List Int} {r : List (List Int)} {a b c : Int} (h : deskOk l r=true) (h2 : ¬ (deskDo l r a b c).2.2=true) : deskDo l r a b c=(l, r, false):=by
 unfold deskDo at h2 ⊢;rw [if_pos h] at h2 ⊢;by_cases h3 : (a=5∧b=0∧c=0)∧0<r.length
 ·rw [if_pos h3] at h2; exact absurd rfl h2
 ·rw [if_neg h3] at h2 ⊢;unfold deskPut at h2 ⊢;by_cases h4 : deskMade l a b c=l ∨ treeOk (deskMade l a b c)=false
  ·rw [if_pos h4]
  ·rw [if_neg h4] at h2; exact absurd rfl h2
theorem deskDo_keeps {l : List Int} {r : List (List Int)} (a b c:Int) (h : deskOk l r=true) : deskOk (deskDo l r a b c).1 (deskDo l r a b c).2.1=true:=by
 by_cases h2 : (deskDo l r a b c).2.2=true
 ·exact (deskDo_ok a b c h2).1
 ·rw [deskDo_no h h2]; exact h
theorem drawDeskDo_ev (l : List Int) (hb : ∀ x ∈ l, (Lit.int .u8 x).wf=true) : ∃ w r a b c, Ev (fun k=>F31.f k l) (w, r, a, b, c)∧w.length≤9∧r.length≤6∧(∀ x ∈ r, x.length≤9):=by
 obtain ⟨b, hB, hopen⟩:=l20Open_ev l hb;obtain ⟨w, r, p, h1, h2, h3, h4, h5, h6⟩:=desk_ev hB 12 o_ o_;obtain ⟨x, y, z, q, h7, h8, h9⟩:=deed_ev hB p w o_ o_ o_;unfold F31.f;exact ⟨w, r, x, y, z, Ev.bind0 hopen (Ev.bind h1 (Ev.bind h7 (Ev.ret rfl))), h2, h3, h4⟩
theorem deskDo_yes {l : List Int} {r : List (List Int)} {a b c : Int} (h : deskOk l r=true) (h2 : (deskDo l r a b c).2.2=true) (h3 : ¬ a=5) : treeOk (deskMade l a b c)=true∧deskDo l r a b c=(deskMade l a b c, if r.length+1 > 8 then (r ++ [l]).drop 1 else r ++ [l], true):=by
 unfold deskDo at h2 ⊢;rw [if_pos h, if_neg o_] at h2 ⊢;unfold deskPut at h2 ⊢;by_cases h4 : deskMade l a b c=l ∨ treeOk (deskMade l a b c)=false
 ·rw [if_pos h4] at h2; cases h2
 ·rw [if_neg h4];refine ⟨?_, rfl⟩;by_cases z : treeOk (deskMade l a b c)=true
  ·exact z
  ·exact absurd (.inr (Bool.eq_false_iff.mpr z)) h4
theorem deskDo_undone {l : List Int} {r : List (List Int)} {a b c : Int} (h : deskOk l r=true) (h2 : (deskDo l r a b c).2.2=true) (h3 : ¬ a=5) (h4 : r.length<8) : deskDo (deskDo l r a b c).1 (deskDo l r a b c).2.1 5 0 0=(l, r, true):=by
 have ho := (deskDo_ok a b c h2).1;obtain ⟨_, e⟩:=deskDo_yes h h2 h3;rw [if_neg o_] at e;rw [e] at ho ⊢;have ho : deskOk (deskMade l a b c) (r ++ [l])=true := ho;show deskDo (deskMade l a b c) (r ++ [l]) 5 0 0=(l, r, true);unfold deskDo;rw [if_pos ho, if_pos ⟨⟨rfl, rfl, rfl⟩, by simp⟩];simp
theorem dm_none {l : List Int} {a b c : Int} (h1 : a=3 ∨ a=4) (h : ¬ (b=0∧c=0)) : deskMade l a b c=[] := dm5 o_ o_ o_ o_ o_
theorem FnDeskDo : F6.Pure:=by
 intro c _ _ hb;refine Ev.rounds (g := fun k=>F6.f k c) ?_;unfold F6.f;refine Ev.ite (fun _=>Ev.ret rfl) (fun _=>?_);obtain ⟨l, r, a, b, c, hd, hl, hr, hx⟩:=drawDeskDo_ev c hb;(have hx2 : ∀ x ∈ r, x.length≤1048576 := fun x h => by have := hx x h; omega);have him := impl_DeskDo_ev l r a b c o_ o_ hx2;refine Ev.bind hd (Ev.bind him (Ev.bind (spec_DeskDo_ev l r a b c o_ o_ hx2) ?_));by_cases h : deskOk l r=true
 ·have ho := deskDo_keeps a b c h;have hs := runD_small ho;refine Ev.bind (same_self hs) (Ev.pos rfl ?_);rw [show ((deskDo l r a b c).2.2 != (deskDo l r a b c).2.2)=false by simp];refine Ev.step (fun k=>by rw [F6.j0]) (Ev.neg (by simp) (Ev.ite (fun hok=>?_) (fun hno=>?_)))
  ·have hback := impl_DeskDo_ev (deskDo l r a b c).1 (deskDo l r a b c).2.1 5 0 0 o_ o_ (fun x h => by have := hs.2.2 x h; omega);have hself := same_self (runD_small h);have hundo : ¬ a=5→¬ (r.length:Int) ≥ 8→deskDo (deskDo l r a b c).1 (deskDo l r a b c).2.1 5 0 0=(l, r, true) := fun h3 h4 => deskDo_undone h hok h3 o_;have hp := (deskOk_parts h).1;refine Ev.bind hback (Ev.ite (fun h3=>?_) (fun h3=>?_))
   ·have h3 : a=3 := h3;obtain ⟨q1, q2⟩:=deskDo_yes h hok o_;have hx3 : (deskDo l r a b c).1=backOf l:=by
     rw [q2];by_cases z : b=0∧c=0
     ·exact dm3 ⟨h3, z.1, z.2⟩
     ·rw [dm_none (.inl h3) z] at q1; exact absurd q1 (by decide)
    (have hcr : crossings (deskDo l r a b c).1=crossings l := by rw [hx3]; exact crossings_back hp);refine Ev.bind (impl_CrossingsOf_ev _) (Ev.bind (impl_CrossingsOf_ev _) (Ev.bind (impl_DeskOk_ev _ _ o_) (Ev.pos ho (Ev.neg (show ¬ a=5 by omega) (Ev.ite (fun h8=>Ev.pos hcr (Ev.neg (show ¬ a=4 by omega) (Ev.ret rfl))) (fun h8=>?_))))));rw [hundo o_ h8];exact Ev.pos rfl (Ev.bind hself (Ev.pos rfl (Ev.pos hcr (Ev.neg (show ¬ a=4 by omega) (Ev.ret rfl)))))
   ·have h3 : ¬ a=3 := h3;have hflat : a=4→flatB (deskDo l r a b c).1=true:=by
     intro h4;obtain ⟨q1, q2⟩:=deskDo_yes h hok o_;rw [q2];show flatB (deskMade l a b c)=true;by_cases z : b=0∧c=0
     ·rw [dm4 ⟨h4, z.1, z.2⟩] at q1 ⊢;rw [flatB_iff q1, madeFlat_put hp];exact flat_made hp
     ·rw [dm_none (.inr h4) z] at q1; exact absurd q1 (by decide)
    refine Ev.bind (impl_DeskOk_ev _ _ o_) (Ev.pos ho (Ev.ite (fun h5=>Ev.neg (by have h5 : a=5 := h5; show ¬ a=4; omega) (Ev.ret rfl)) (fun h5=>Ev.ite (fun h8=>Ev.ite (fun h4=>Ev.bind (impl_FlatOk_ev _) (Ev.ret (hflat h4))) (fun h4=>Ev.ret rfl)) (fun h8=>?_))));rw [hundo h5 h8];exact Ev.pos rfl (Ev.bind hself (Ev.pos rfl (Ev.ite (fun h4=>Ev.bind (impl_FlatOk_ev _) (Ev.ret (hflat h4))) (fun h4=>Ev.ret rfl))))
  ·rw [deskDo_no h hno];exact Ev.bind (same_self (runD_small h)) (Ev.pos rfl (Ev.bind alive_ev (Ev.ret rfl)))
 ·(have e : deskDo l r a b c=([], [], false) := by unfold deskDo; rw [if_neg h]);rw [e];obtain ⟨t, ht⟩:=same_none l r;refine Ev.bind (same_self (l := []) (r := []) ⟨by simp, by simp, by simp⟩) (Ev.pos rfl ?_);rw [show (false != false)=false by rfl];refine Ev.step (fun k=>by rw [F6.j0]) (Ev.neg (by simp) (Ev.neg (by simp) (Ev.bind ht (Ev.ite (fun _=>Ev.bind alive_ev (Ev.ret rfl)) (fun _=>Ev.bind (impl_DeskOk_ev l r o_) (Ev.neg h (Ev.bind alive_ev (Ev.ret rfl))))))))
end Go.Proofs.Ytbbhdgpiocojaaa.Pure
