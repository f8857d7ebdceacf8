/- The plain statement of FnMadeFlat: the printed functions answer true for all arguments within the printed bounds; no other conditions. -/
import Derived.Test.YtbbhdgpiocojaaaLEx12
import Derived.ChangeSlices
import Derived.SizedLaws
import Derived.Test.YtbbhdgpiocojaaaUSized
namespace Go.Proofs.Ytbbhdgpiocojaaa.Pure
open Go.RowKit Go.Proofs.Ytbbhdgpiocojaaa.LE Go.Proofs.YtbbhdgpiocojaaaV.PrintWords Go.Proofs.YtbbhdgpiocojaaaV.PrintLast
set_option linter.unusedVariables false
set_option linter.unusedSimpArgs false
theorem Ev.ret {α : Type} {r r' : α} (h : r=r') : Ev (fun _=>some r) r' := ⟨0, fun _ _ => by rw [h]⟩
theorem Ev.pos {α : Type} {c : Prop} [Decidable c] {g f : Nat→Option α} {r : α} (h : c) (k : Ev g r) : Ev (fun n=>if c then g n else f n) r:=by
 simpa only [if_pos h] using k
theorem Ev.neg {α : Type} {c : Prop} [Decidable c] {g f : Nat→Option α} {r : α} (h : ¬ c) (k : Ev f r) : Ev (fun n=>if c then g n else f n) r:=by
 simpa only [if_neg h] using k
theorem Ev.ite {α : Type} {c : Prop} [Decidable c] {g f : Nat→Option α} {r : α} (h : c→Ev g r) (k : ¬ c→Ev f r) : Ev (fun n=>if c then g n else f n) r:=by
 by_cases hc : c
 ·exact Ev.pos hc (h hc)
 ·exact Ev.neg hc (k hc)
theorem Ev.bind0 {α β : Type} {o : Option α} {f : Nat→α→Option β} {a : α} {r : β} (h : o=some a) (k : Ev (fun n=>f n a) r) : Ev (fun n=>o.bind (f n)) r:=by
 subst h; simpa only [Option.bind_some] using k
theorem Ev.eq {α : Type} {g : Nat→Option α} {r r' : α} (h : Ev g r) (e : r=r') : Ev g r' := e ▸ h
theorem wrap_id {n : Int} (h0 : -9223372036854775808≤n) (h1 : n<9223372036854775808) : wrap64 n=n:=by
 unfold wrap64; omega
theorem wrap_add1 {n : Nat} (h : n<1099511627776) : wrap64 ((n:Int)+1)=((n+1:Nat):Int):=by
 unfold wrap64; omega
theorem rd_nat (l : List Int) (j:Nat) : rd l (j:Int)=l.getD j 0 := by simp [rd]
open Go.ChangeShapes Go.WideShapes in
theorem _root_.Go.Proofs.Ytbbhdgpiocojaaa.PrintWords.sized_ints {H : Type} {enc : TypeId × Value→H} {P : Program} {W : World} {base : Nat} {spare : Nat→Bool} {held : Bool} {t e : TypeId} {k : IntKind} {a : Option Addr} {len cap : Nat} {d : DataW H} {ps : List MemPlace} {ts : List TypeId} {ds : List (DataW H)} {j : Nat}
  (hsz : (DataW.weightsEach P ts ds).all (·≤reachBytes)=true) (ht : ts[j]?=some t) (hd : ds[j]?=some d) (hu : P.underlying t=some (.slice e)) (he : P.underlying e=some (.int k)) (hc : P.cellsOf e=1) {B : Nat} (hB : P.bytesOf e=B)
  (h : DataW.Trod enc P W base spare held t (.slice a len cap) d ps) : len * B≤140737488351232 :=
 Go.Proofs.YtbbhdgpiocojaaaV.PrintWords.sized_ints hsz ht hd hu he hc hB h
theorem xor_small (a b:Int) (ha : 0≤a) (ha2 : a<4294967296) (hb : 0≤b) (hb2 : b<4294967296) : 0≤Go.bits .xor .i64 a b∧Go.bits .xor .i64 a b<4294967296:=by
 obtain ⟨x, rfl⟩ : ∃ x : Nat, a=x := ⟨a.toNat,by omega⟩
 obtain ⟨y, rfl⟩ : ∃ y : Nat, b=y := ⟨b.toNat,by omega⟩
 have h := Nat.xor_lt_two_pow (n := 32) (show x<2 ^ 32 by omega) (show y<2 ^ 32 by omega)
 have e : Go.bits .xor .i64 (x:Int) (y:Int)=((x ^^^ y:Nat):Int):=by
  have hx : x % 2 ^ 64=x := Nat.mod_eq_of_lt (by omega)
  have hy : y % 2 ^ 64=y := Nat.mod_eq_of_lt (by omega)
  have hv : (BitVec.ofNat 64 x ^^^ BitVec.ofNat 64 y).toNat=x ^^^ y := by rw [BitVec.toNat_xor, BitVec.toNat_ofNat, BitVec.toNat_ofNat, hx, hy]
  simp only [Go.bits, BitVec.ofInt_natCast, IntKind.bits]
  rw [i64_w]
  show wrap64 (((BitVec.ofNat 64 x ^^^ BitVec.ofNat 64 y).toNat:Nat):Int)=_
  rw [hv]
  exact wrap_id (n := ((x ^^^ y:Nat):Int)) (by omega) (by omega)
 rw [e]
 omega
structure Bytes (b : List Int) : Prop where
 small : ∀ x ∈ b, 0≤x∧x≤255
 len : b.length≤2000
theorem Bytes.rd_le {b : List Int} (h : Bytes b) (i:Int) : 0≤rd b i∧rd b i≤255:=by
 unfold rd
 by_cases hi : i.toNat<b.length
 ·have e : b.getD i.toNat 0=b[i.toNat] := by simp [hi]
  rw [e]; exact h.small _ (List.getElem_mem hi)
 ·have e : b.getD i.toNat 0=0 := by simp [Nat.le_of_not_lt hi]
  rw [e]; omega
theorem pick_ev {b : List Int} (hb : Bytes b) (p n:Int) (h0 : 0≤p) (h1 : p≤1000000) (hn : 1≤n) (hn2 : n≤1000000) :
  ∃ v, 0≤v∧v<n∧Ev (fun k=>spec_l20Rd_pick.f k b p n) (v, p+1):=by
 unfold spec_l20Rd_pick.f
 have hl := hb.len
 rw [wrap_id (n := p+1) (by omega) (by omega)]
 by_cases hz : b.length=0
 ·refine ⟨0,by omega,by omega, Ev.neg (by omega) (Ev.step (fun k=>spec_l20Rd_pick.j0.eq_2 ..) (Ev.pos (by rw [hz]; rfl) (Ev.ret rfl)))⟩
 ·by_cases hp : p<b.length
  ·have hr := hb.rd_le p
   refine ⟨Int.tmod (rd b p) n, Int.tmod_nonneg _ hr.1, Int.tmod_lt_of_pos _ (by omega), ?_⟩
   refine Ev.neg (by omega) (Ev.step (fun k=>spec_l20Rd_pick.j0.eq_2 ..) (Ev.neg (by simp; intro e; simp [e] at hz) ?_))
   rw [wrap_id (n := p+1 - 1) (by omega) (by omega), show p+1 - 1=p by omega, wrap_id (n := rd b p) (by omega) (by omega)]
   exact Ev.pos hp (Ev.pos h0 (Ev.neg (by omega) (Ev.ret rfl)))
  ·have e0 : wrap64 (p+1 - 1)=p := by rw [wrap_id (by omega) (by omega)]; omega
   have hm1 : 0≤Int.tmod p (b.length:Int)∧Int.tmod p (b.length:Int)<b.length := ⟨Int.tmod_nonneg _ h0, Int.tmod_lt_of_pos _ (by omega)⟩
   have e1 : wrap64 (wrap64 (p * 7)+3)=p * 7+3 := by rw [wrap_id (n := p * 7) (by omega) (by omega), wrap_id (by omega) (by omega)]
   have hm2 : 0≤Int.tmod (p * 7+3) (b.length:Int)∧Int.tmod (p * 7+3) (b.length:Int)<b.length := ⟨Int.tmod_nonneg _ (by omega), Int.tmod_lt_of_pos _ (by omega)⟩
   have hr1 := hb.rd_le (Int.tmod p (b.length:Int))
   have hr2 := hb.rd_le (Int.tmod (p * 7+3) (b.length:Int))
   have hd : 0≤Int.tdiv p (b.length:Int)∧Int.tdiv p (b.length:Int)≤p:=by
    rw [Int.tdiv_eq_ediv_of_nonneg h0]
    exact ⟨Int.ediv_nonneg h0 (by omega), Int.ediv_le_self _ h0⟩
   obtain ⟨u1, hu1⟩ : ∃ u, u=rd b (Int.tmod p (b.length:Int)) := ⟨_, rfl⟩
   obtain ⟨u2, hu2⟩ : ∃ u, u=rd b (Int.tmod (p * 7+3) (b.length:Int)) := ⟨_, rfl⟩
   obtain ⟨q, hq⟩ : ∃ u, u=Int.tdiv p (b.length:Int) := ⟨_, rfl⟩
   rw [← hu1] at hr1
   rw [← hu2] at hr2
   rw [← hq] at hd
   obtain ⟨x, hx⟩ : ∃ x, x=wrap64 (wrap64 (wrap64 (wrap64 (wrap64 u1 * 131)+wrap64 (wrap64 u2 * 1117))+wrap64 (p * 29))+wrap64 (wrap64 q * 53)) := ⟨_, rfl⟩
   have hxb : 0≤x∧x<4294967296:=by
    rw [hx, wrap_id (n := u1) (by omega) (by omega), wrap_id (n := u2) (by omega) (by omega), wrap_id (n := u1 * 131) (by omega) (by omega), wrap_id (n := u2 * 1117) (by omega) (by omega), wrap_id (n := u1 * 131+_) (by omega) (by omega), wrap_id (n := p * 29) (by omega) (by omega), wrap_id (n := q) (by omega) (by omega), wrap_id (n := q * 53) (by omega) (by omega), wrap_id (n := u1 * 131+u2 * 1117+p * 29) (by omega) (by omega), wrap_id (by omega) (by omega)]
    omega
   have hy : 0≤wrap64 (Int.tdiv x 64)∧wrap64 (Int.tdiv x 64)<4294967296:=by
    rw [Int.tdiv_eq_ediv_of_nonneg hxb.1, wrap_id (by omega) (by omega)]
    omega
   have hz2 := xor_small x (wrap64 (Int.tdiv x 64)) hxb.1 hxb.2 hy.1 hy.2
   refine ⟨Int.tmod (Go.bits .xor .i64 x (wrap64 (Int.tdiv x 64))) n, Int.tmod_nonneg _ hz2.1, Int.tmod_lt_of_pos _ (by omega), ?_⟩
   refine Ev.neg (by omega) (Ev.step (fun k=>spec_l20Rd_pick.j0.eq_2 ..) (Ev.neg (by simp; intro e; simp [e] at hz) ?_))
   rw [e0, e1, ← hu1, ← hu2, ← hq, ← hx]
   exact Ev.neg hp (Ev.neg (by omega) (Ev.pos hm1.1 (Ev.pos hm1.2 (Ev.pos hm2.1 (Ev.pos hm2.2 (Ev.neg (by omega) (Ev.ret rfl)))))))
theorem l20Open_ev (l : List Int) (hb : ∀ x ∈ l, (Lit.int .u8 x).wf=true) : ∃ b, Bytes b∧spec_l20Open.f l=some (b, 0):=by
 have hs : ∀ x ∈ l, 0≤x∧x≤255:=by
  intro x hx
  have := hb x hx
  simp [Lit.wf, IntKind.min, IntKind.max, IntKind.signed, IntKind.bits] at this
  omega
 unfold spec_l20Open.f
 by_cases h : (l.length:Int) > 2000
 ·rw [if_pos h, if_pos (by omega)]
  exact ⟨l.take 2000, ⟨fun x hx => hs x (List.mem_of_mem_take hx), by simp; omega⟩, rfl⟩
 ·rw [if_neg h]
  exact ⟨l, ⟨hs,by omega⟩, rfl⟩
theorem odd_ev {b : List Int} (hb : Bytes b) (p n:Int) (h0 : 0≤p) (h1 : p≤1000000) (hn : 1≤n) (hn2 : n≤1000000) :
  ∃ v, Ev (fun k=>spec_l20Rd_odd.f k b p n) (v, p+1):=by
 obtain ⟨v, _, _, hv⟩:=pick_ev hb p n h0 h1 hn hn2
 unfold spec_l20Rd_odd.f
 exact ⟨_, Ev.pos (by omega) (Ev.bind hv (Ev.ret rfl))⟩
theorem odd_evG {b : List Int} (hb : Bytes b) (p n:Int) (h0 : 0≤p) (h1 : p≤1000000) (hn : 0≤n) (hn2 : n≤1000000) :
  ∃ v q, Ev (fun k=>spec_l20Rd_odd.f k b p n) (v, q)∧p≤q∧q≤p+1:=by
 by_cases h : 1≤n
 ·obtain ⟨v, hv⟩:=odd_ev hb p n h0 h1 h hn2
  exact ⟨v, p+1, hv,by omega,by omega⟩
 ·unfold spec_l20Rd_odd.f
  exact ⟨false, p, Ev.neg (by omega) (Ev.ret rfl),by omega,by omega⟩
def Within (n:Int) (l : List Int) : Prop := ∀ x ∈ l, 1≤x∧x≤n
theorem Within.get {n : Int} {l : List Int} (h : Within n l) {i : Int} (h0 : 0≤i) (h1 : i<l.length) : 1≤rd l i∧rd l i≤n:=by
 have e : rd l i=l[i.toNat]'(by omega) := by unfold rd; simp [show i.toNat<l.length by omega]
 rw [e]; exact h _ (List.getElem_mem _)
theorem order_next (x5 : List Int) (m x7:Int) (h7 : 1≤x7) (hw : Within (x7 - 1) x5) (h0 : 0≤m) (h1 : m≤x5.length) :
  Within x7 (([] ++ x5.take m.toNat ++ [x7]) ++ x5.drop m.toNat)∧(([] ++ x5.take m.toNat ++ [x7]) ++ x5.drop m.toNat).length=x5.length+1:=by
 constructor
 ·intro x hx
  simp only [List.nil_append, List.append_assoc, List.mem_append, List.mem_singleton] at hx
  rcases hx with hx | hx | hx
  ·have := hw x (List.mem_of_mem_take hx); omega
  ·omega
  ·have := hw x (List.mem_of_mem_drop hx); omega
 ·simp; omega
theorem order_l0 {b : List Int} (hb : Bytes b) (n keep:Int) (hn : n≤100) (d:Nat) : ∀ (x5 : List Int) (x7 p:Int), x7+d=n+1→1≤x7→(x5.length:Int)=x7 - 1→Within (x7 - 1) x5→0≤p→p≤1000+2 * x7 →
  ∃ r p', Ev (fun k=>spec_l20Order.l0 k n x5 keep x7 b p) (r, p')∧(r.length:Int)=n∧Within n r∧p≤p'∧p'≤p+2 * d:=by
 induction d with
 | zero =>
  intro x5 x7 p h7 h1 hl hw hp hp2
  refine ⟨x5, p, Ev.step (fun k=>spec_l20Order.l0.eq_2 ..) (Ev.neg (by omega) (Ev.ret rfl)),by omega, ?_,by omega,by omega⟩
  intro x hx
  have := hw x hx
  omega
 | succ d ih =>
  intro x5 x7 p h7 h1 hl hw hp hp2
  have put : ∀ (m p':Int), 0≤m→m≤x5.length→p≤p'→p'≤p+2→∃ r p'', Ev (fun k=>spec_l20Order.l0 k n (([] ++ x5.take m.toNat ++ [x7]) ++ x5.drop m.toNat) keep (x7+1) b p') (r, p'')∧(r.length:Int)=n∧Within n r∧p≤p''∧p''≤p+2 * ((d+1:Nat):Int):=by
   intro m p' hm0 hm1 hpp hpp2
   obtain ⟨hw', hl'⟩:=order_next x5 m x7 h1 hw hm0 hm1
   obtain ⟨r, p'', h1, h2, h3, h4, h5⟩:=ih (([] ++ x5.take m.toNat ++ [x7]) ++ x5.drop m.toNat) (x7+1) p' (by omega) (by omega) (by omega) (by rw [show x7+1 - 1=x7 by omega]; exact hw') (by omega) (by omega)
   exact ⟨r, p'', h1, h2, h3,by omega,by omega⟩
  have hlen : ∀ m : Int, 0≤m→m≤x5.length→(x5.take m.toNat).length≤200∧(x5.drop m.toNat).length≤200:=by
   intro m _ _; simp; omega
  by_cases hk : keep=0
  ·obtain ⟨v, hv0, hv1, hv⟩:=pick_ev hb p x7 hp (by omega) h1 (by omega)
   obtain ⟨r, p'', h, hrest⟩:=put v (p+1) hv0 (by omega) (by omega) (by omega)
   have hlen' := hlen v hv0 (by omega)
   refine ⟨r, p'', Ev.step (fun k=>spec_l20Order.l0.eq_2 ..) (Ev.pos (by omega) (Ev.pos hk (Ev.bind hv ?_))), hrest⟩
   simp only [Option.bind_some]
   rw [wrap_id (n := x7+1) (by omega) (by omega)]
   refine Ev.pos hv0 (Ev.pos (show v≤x5.length by omega) (Ev.pos ?_ (Ev.pos ?_ (Ev.pos ?_ h))))
   ·simp only [List.length_nil]; omega
   ·simp only [List.length_append, List.length_nil]; omega
   ·simp only [List.length_append, List.length_nil, List.length_singleton]; omega
  ·obtain ⟨u, hu0, hu1, hu⟩:=pick_ev hb p 3 hp (by omega) (by omega) (by omega)
   by_cases hu3 : u=0
   ·obtain ⟨v, hv0, hv1, hv⟩:=pick_ev hb (p+1) x7 (by omega) (by omega) h1 (by omega)
    obtain ⟨r, p'', h, hrest⟩:=put v (p+1+1) hv0 (by omega) (by omega) (by omega)
    have hlen' := hlen v hv0 (by omega)
    refine ⟨r, p'', Ev.step (fun k=>spec_l20Order.l0.eq_2 ..) (Ev.pos (by omega) (Ev.neg hk (Ev.bind hu (Ev.pos hu3 (Ev.bind hv ?_))))), hrest⟩
    simp only [Option.bind_some]
    rw [wrap_id (n := x7+1) (by omega) (by omega)]
    refine Ev.pos hv0 (Ev.pos (show v≤x5.length by omega) (Ev.pos ?_ (Ev.pos ?_ (Ev.pos ?_ h))))
    ·simp only [List.length_nil]; omega
    ·simp only [List.length_append, List.length_nil]; omega
    ·simp only [List.length_append, List.length_nil, List.length_singleton]; omega
   ·obtain ⟨r, p'', h, hrest⟩:=put (x5.length:Int) (p+1) (by omega) (by omega) (by omega) (by omega)
    have hlen' := hlen (x5.length:Int) (by omega) (by omega)
    refine ⟨r, p'', Ev.step (fun k=>spec_l20Order.l0.eq_2 ..) (Ev.pos (by omega) (Ev.neg hk (Ev.bind hu (Ev.neg hu3 ?_)))), hrest⟩
    simp only [Option.bind_some]
    rw [wrap_id (n := x7+1) (by omega) (by omega)]
    refine Ev.pos (by omega) (Ev.pos (by omega) (Ev.pos ?_ (Ev.pos ?_ (Ev.pos ?_ h))))
    ·simp only [List.length_nil]; omega
    ·simp only [List.length_append, List.length_nil]; omega
    ·simp only [List.length_append, List.length_nil, List.length_singleton]; omega
theorem order_ev {b : List Int} (hb : Bytes b) (p n:Int) (hp : 0≤p) (hp2 : p≤1000) (h0 : 0≤n) (hn : n≤100) :
  ∃ r p', Ev (fun k=>spec_l20Order.f k b p n) (r, p')∧(r.length:Int)=n∧Within n r∧p≤p'∧p'≤p+1+2 * n:=by
 obtain ⟨v, hv0, hv1, hv⟩:=pick_ev hb p 2 hp (by omega) (by omega) (by omega)
 obtain ⟨r, p', h, h1, h2, h3, h4⟩:=order_l0 hb n v hn n.toNat [] 1 (p+1) (by omega) (by omega) (by simp) (by intro x hx; simp at hx) (by omega) (by omega)
 unfold spec_l20Order.f
 exact ⟨r, p', Ev.bind hv h, h1, h2,by omega,by omega⟩
theorem tree_l0 {b : List Int} (hb : Bytes b) (n many near:Int) (ord : List Int) (hm : 1≤many) (hm2 : many≤8) (hn : 0≤n) (hn2 : n≤1000) (hol : (ord.length:Int)=many) (how : Within many ord) (d:Nat) :
  ∀ (heads : List Int) (x9 p:Int), x9+d=many→1≤x9→(heads.length:Int)=many→0≤p→p≤1500+2 * x9 →
  ∃ r p', Ev (fun k=>spec_l20Tree.l0 k n many ord heads near x9 b p) (r, p')∧r.length≤9∧p≤p'∧p'≤p+2 * d+3:=by
 induction d with
 | zero =>
  intro heads x9 p h9 h1 hl hp hp2
  obtain ⟨o, q, ho, hq1, hq2⟩:=odd_evG hb p n hp (by omega) hn (by omega)
  by_cases ho1 : o=true
  ·obtain ⟨u, hu0, hu1, hu⟩:=pick_ev hb (q) 4 (by omega) (by omega) (by omega) (by omega)
   by_cases e0 : u=0
   ·exact ⟨[], q+1, Ev.step (fun k=>spec_l20Tree.l0.eq_2 ..) (Ev.neg (by omega) (Ev.bind ho (Ev.pos ho1 (Ev.bind hu (Ev.pos e0 (Ev.ret rfl)))))), by simp,by omega,by omega⟩
   ·by_cases e1 : u=1
    ·exact ⟨[2, 1, 0], q+1, Ev.step (fun k=>spec_l20Tree.l0.eq_2 ..) (Ev.neg (by omega) (Ev.bind ho (Ev.pos ho1 (Ev.bind hu (Ev.neg e0 (Ev.pos e1 (Ev.ret rfl))))))), by simp,by omega,by omega⟩
    ·by_cases e2 : u=2
     ·obtain ⟨v, hv0, hv1, hv⟩:=pick_ev hb (q+1) many (by omega) (by omega) (by omega) (by omega)
      refine ⟨heads.set v.toNat 0 ++ [0], q+1+1, Ev.step (fun k=>spec_l20Tree.l0.eq_2 ..) (Ev.neg (by omega) (Ev.bind ho (Ev.pos ho1 (Ev.bind hu (Ev.neg e0 (Ev.neg e1 (Ev.pos e2 (Ev.bind hv (Ev.pos hv0 (Ev.pos (by omega) ?_)))))))))), by simp; omega,by omega,by omega⟩
      simp only [Option.bind_some]
      exact Ev.pos (by rw [List.length_set]; omega) (Ev.ret rfl)
     ·obtain ⟨v, hv0, hv1, hv⟩:=pick_ev hb (q+1) 3 (by omega) (by omega) (by omega) (by omega)
      refine ⟨heads.set 0 (rd [1, wrap64 (many+1), -1] v), q+1+1, Ev.step (fun k=>spec_l20Tree.l0.eq_2 ..) (Ev.neg (by omega) (Ev.bind ho (Ev.pos ho1 (Ev.bind hu (Ev.neg e0 (Ev.neg e1 (Ev.neg e2 ?_))))))), by simp; omega,by omega,by omega⟩
      simp only [Option.bind_some]
      exact Ev.bind hv (Ev.pos hv0 (Ev.pos (show v<(3:Int) by omega) (Ev.pos (by omega) (Ev.ret rfl))))
  ·exact ⟨heads, q, Ev.step (fun k=>spec_l20Tree.l0.eq_2 ..) (Ev.neg (by omega) (Ev.bind ho (Ev.neg ho1 (Ev.ret rfl)))),by omega,by omega,by omega⟩
 | succ d ih =>
  intro heads x9 p h9 h1 hl hp hp2
  obtain ⟨v, hv0, hv1, hv⟩:=pick_ev hb p x9 hp (by omega) h1 (by omega)
  have hr9 := how.get (i := x9) (by omega) (by omega)
  have next : ∀ (y p':Int), p≤p'→p'≤p+2→∃ r p'', Ev (fun k=>spec_l20Tree.l0 k n many ord (heads.set (rd ord x9 - 1).toNat y) near (x9+1) b p') (r, p'')∧r.length≤9∧p≤p''∧p''≤p+2 * ((d+1:Nat):Int)+3:=by
   intro y p' hpp hpp2
   obtain ⟨r, p'', h1, h2, h3, h4⟩:=ih (heads.set (rd ord x9 - 1).toNat y) (x9+1) p' (by omega) (by omega) (by simpa using hl) (by omega) (by omega)
   exact ⟨r, p'', h1, h2,by omega,by omega⟩
  have e1 : wrap64 (x9+1)=x9+1 := wrap_id (by omega) (by omega)
  have e2 : wrap64 (x9 - 1)=x9 - 1 := wrap_id (by omega) (by omega)
  have e3 : wrap64 (rd ord x9 - 1)=rd ord x9 - 1 := wrap_id (by omega) (by omega)
  by_cases hnr : near=1
  ·obtain ⟨u, hu0, hu1, hu⟩:=pick_ev hb (p+1) 2 (by omega) (by omega) (by omega) (by omega)
   by_cases hu2 : u=0
   ·obtain ⟨r, p'', h, hrest⟩:=next (rd ord (x9 - 1)) (p+1+1) (by omega) (by omega)
    refine ⟨r, p'', Ev.step (fun k=>spec_l20Tree.l0.eq_2 ..) ?_, hrest⟩
    rw [e1, e2, e3]
    exact Ev.pos (by omega) (Ev.bind hv (Ev.pos hnr (Ev.bind hu (Ev.pos hu2 (Ev.pos (by omega) (Ev.pos (by omega) (Ev.pos (by omega) (Ev.pos (by omega) (Ev.pos (by omega) (Ev.pos (by omega) h))))))))))
   ·obtain ⟨r, p'', h, hrest⟩:=next (rd ord v) (p+1+1) (by omega) (by omega)
    refine ⟨r, p'', Ev.step (fun k=>spec_l20Tree.l0.eq_2 ..) ?_, hrest⟩
    rw [e1, e2, e3]
    exact Ev.pos (by omega) (Ev.bind hv (Ev.pos hnr (Ev.bind hu (Ev.neg hu2 (Ev.pos (by omega) (Ev.pos (by omega) (Ev.pos (by omega) (Ev.pos (by omega) (Ev.pos (by omega) (Ev.pos (by omega) h))))))))))
  ·obtain ⟨r, p'', h, hrest⟩:=next (rd ord v) (p+1) (by omega) (by omega)
   refine ⟨r, p'', Ev.step (fun k=>spec_l20Tree.l0.eq_2 ..) ?_, hrest⟩
   rw [e1, e2, e3]
   exact Ev.pos (by omega) (Ev.bind hv (Ev.neg hnr (Ev.pos (by omega) (Ev.pos (by omega) (Ev.pos (by omega) (Ev.pos (by omega) (Ev.pos (by omega) (Ev.pos (by omega) h))))))))
theorem tree_ev {b : List Int} (hb : Bytes b) (p n:Int) (hp : 0≤p) (hp2 : p≤500) (hn : 0≤n) (hn2 : n≤1000) :
  ∃ r p', Ev (fun k=>spec_l20Tree.f k b p n) (r, p')∧r.length≤9∧p≤p'∧p'≤p+60:=by
 obtain ⟨v, hv0, hv1, hv⟩:=pick_ev hb p 7 hp (by omega) (by omega) (by omega)
 have e : wrap64 (1+v)=1+v := wrap_id (by omega) (by omega)
 obtain ⟨o, p1, ho, hol, how,hp1,hp1'⟩:=order_ev hb (p+1) (1+v) (by omega) (by omega) (by omega) (by omega)
 obtain ⟨u, hu0, hu1, hu⟩:=pick_ev hb p1 2 (by omega) (by omega) (by omega) (by omega)
 obtain ⟨r, p', h, h1, h2, h3⟩:=tree_l0 hb n (1+v) u o (by omega) (by omega) hn hn2 hol how v.toNat (List.replicate (1+v).toNat 0) 1 (p1+1) (by omega) (by omega) (by simp; omega) (by omega) (by omega)
 unfold spec_l20Tree.f
 refine ⟨r, p', Ev.bind hv ?_, h1,by omega,by omega⟩
 rw [e]
 exact Ev.bind ho (Ev.pos (by omega) (Ev.pos (by omega) (Ev.bind hu h)))
theorem fill_ev {b : List Int} (hb : Bytes b) (n:Nat) (hn : n≤8) (s:Nat) : ∀ (heads : List Int) (lo hi hd p:Int), heads.length=n→1≤lo→lo≤hi→hi≤n→hi - lo+1≤s→0≤p→p+2 * (hi - lo+1)≤5001 →
  ∃ r p', Ev (fun k=>spec_l20Fill.f k b p heads lo hi hd) (p', r)∧r.length=n∧p≤p'∧p'≤p+2 * (hi - lo+1) - 1:=by
 induction s with
 | zero => intro heads lo hi hd p hl h1 h2 h3 h4; omega
 | succ s ih =>
  intro heads lo hi hd p hl h1 h2 h3 h4 hp hp2
  have right : ∀ (d:Nat) (root:Int), lo≤root→∀ (hs : List Int) (from_ q:Int), from_+d=hi+1→root<from_→hs.length=n→0≤q→q+2 * (hi+1 - from_)≤5000 →
    ∃ r p', Ev (fun k=>spec_l20Fill.l1 k hs hi root from_ b q) (p', r)∧r.length=n∧q≤p'∧p'≤q+2 * (hi+1 - from_):=by
   intro d
   induction d using Nat.strongRecOn with
   | _ d ihd =>
    intro root hroot hs from_ q hd2 hrf hhl hq hq2
    by_cases hf : from_≤hi
    ·have e1 : wrap64 (wrap64 (hi - from_)+1)=hi - from_+1 := by rw [wrap_id (n := hi - from_) (by omega) (by omega), wrap_id (by omega) (by omega)]
     obtain ⟨v, hv0, hv1, hv⟩:=pick_ev hb q (hi - from_+1) hq (by omega) (by omega) (by omega)
     have e2 : wrap64 (from_+v)=from_+v := wrap_id (by omega) (by omega)
     have e3 : wrap64 (from_+v+1)=from_+v+1 := wrap_id (by omega) (by omega)
     obtain ⟨r1, p1, hr1, hl1,hp1,hp1'⟩:=ih hs from_ (from_+v) root (q+1) hhl (by omega) (by omega) (by omega) (by omega) (by omega) (by omega)
     obtain ⟨r2, p2, hr2, hl2,hp2,hp2'⟩:=ihd (d - v.toNat - 1) (by omega) root hroot r1 (from_+v+1) p1 (by omega) (by omega) hl1 (by omega) (by omega)
     refine ⟨r2, p2, Ev.step (fun k=>spec_l20Fill.l1.eq_2 ..) (Ev.pos hf ?_), hl2,by omega,by omega⟩
     rw [e1]
     exact Ev.bind hv (by simp only []; rw [e2, e3]; exact Ev.bind hr1 hr2)
    ·exact ⟨hs, q, Ev.step (fun k=>spec_l20Fill.l1.eq_2 ..) (Ev.neg hf (Ev.ret rfl)), hhl,by omega,by omega⟩
  have left : ∀ (d:Nat) (root:Int), lo≤root→root≤hi→∀ (hs : List Int) (from_ q:Int), from_+d=root→lo≤from_→hs.length=n→0≤q→q+2 * (hi - from_)≤5000 →
    ∃ r p', Ev (fun k=>spec_l20Fill.l0 k hs hi root from_ b q) (p', r)∧r.length=n∧q≤p'∧p'≤q+2 * (hi - from_):=by
   intro d
   induction d using Nat.strongRecOn with
   | _ d ihd =>
    intro root hroot hroot2 hs from_ q hd2 hlf hhl hq hq2
    by_cases hf : from_<root
    ·have e1 : wrap64 (root - from_)=root - from_ := wrap_id (by omega) (by omega)
     obtain ⟨v, hv0, hv1, hv⟩:=pick_ev hb q (root - from_) hq (by omega) (by omega) (by omega)
     have e2 : wrap64 (from_+v)=from_+v := wrap_id (by omega) (by omega)
     have e3 : wrap64 (from_+v+1)=from_+v+1 := wrap_id (by omega) (by omega)
     obtain ⟨r1, p1, hr1, hl1,hp1,hp1'⟩:=ih hs from_ (from_+v) root (q+1) hhl (by omega) (by omega) (by omega) (by omega) (by omega) (by omega)
     obtain ⟨r2, p2, hr2, hl2,hp2,hp2'⟩:=ihd (d - v.toNat - 1) (by omega) root hroot hroot2 r1 (from_+v+1) p1 (by omega) (by omega) hl1 (by omega) (by omega)
     refine ⟨r2, p2, Ev.step (fun k=>spec_l20Fill.l0.eq_2 ..) (Ev.pos hf ?_), hl2,by omega,by omega⟩
     rw [e1]
     exact Ev.bind hv (by simp only []; rw [e2, e3]; exact Ev.bind hr1 hr2)
    ·obtain ⟨r1, p1, hr1, hl1,hp1,hp1'⟩:=right (hi - root).toNat root hroot hs (root+1) q (by omega) (by omega) hhl hq (by omega)
     refine ⟨r1, p1, Ev.step (fun k=>spec_l20Fill.l0.eq_2 ..) (Ev.neg hf ?_), hl1,by omega,by omega⟩
     rw [wrap_id (n := root+1) (by omega) (by omega)]
     exact hr1
  have e1 : wrap64 (wrap64 (hi - lo)+1)=hi - lo+1 := by rw [wrap_id (n := hi - lo) (by omega) (by omega), wrap_id (by omega) (by omega)]
  obtain ⟨v, hv0, hv1, hv⟩:=pick_ev hb p (hi - lo+1) hp (by omega) (by omega) (by omega)
  have e2 : wrap64 (lo+v)=lo+v := wrap_id (by omega) (by omega)
  have e3 : wrap64 (lo+v - 1)=lo+v - 1 := wrap_id (by omega) (by omega)
  obtain ⟨r1, p1, hr1, hl1,hp1,hp1'⟩:=left v.toNat (lo+v) (by omega) (by omega) (heads.set (lo+v - 1).toNat hd) lo (p+1) (by omega) (by omega) (by simpa using hl) (by omega) (by omega)
  refine ⟨r1, p1, Ev.step (fun k=>spec_l20Fill.f.eq_2 ..) (Ev.neg (by omega) ?_), hl1,by omega,by omega⟩
  rw [e1]
  exact Ev.bind hv (by simp only []; rw [e2, e3]; exact Ev.pos (by omega) (Ev.pos (by omega) hr1))
theorem flat_ev {b : List Int} (hb : Bytes b) (p n:Int) (hp : 0≤p) (hp2 : p≤200) (hn : 0≤n) (hn2 : n≤1000) :
  ∃ r p', Ev (fun k=>spec_l20Flat.f k b p n) (r, p')∧r.length≤9∧p≤p'∧p'≤p+100:=by
 obtain ⟨v, hv0, hv1, hv⟩:=pick_ev hb p 3 hp (by omega) (by omega) (by omega)
 unfold spec_l20Flat.f
 by_cases e : v=0
 ·obtain ⟨r, p', h, h1, h2, h3⟩:=tree_ev hb (p+1) n (by omega) (by omega) hn hn2
  exact ⟨r, p', Ev.bind hv (Ev.pos e (Ev.bind h (Ev.ret rfl))), h1,by omega,by omega⟩
 ·obtain ⟨u, hu0, hu1, hu⟩:=pick_ev hb (p+1) 7 (by omega) (by omega) (by omega) (by omega)
  have e1 : wrap64 (1+u)=1+u := wrap_id (by omega) (by omega)
  obtain ⟨r, p', h, h1, h2, h3⟩:=fill_ev hb (1+u).toNat (by omega) 8 (List.replicate (1+u).toNat 0) 1 (1+u) 0 (p+1+1) (by simp) (by omega) (by omega) (by omega) (by omega) (by omega) (by omega)
  refine ⟨r, p', Ev.bind hv (Ev.neg e (Ev.bind hu ?_)),by omega,by omega,by omega⟩
  simp only []
  rw [e1]
  exact Ev.pos (by omega) (Ev.pos (by omega) (Ev.bind h (Ev.ret rfl)))
@[reducible] def goodAt (o : List Int) (many:Int) (i:Nat) : Prop := (1≤rd o i∧rd o i≤many)∧∀ j : Nat, j<i→rd o j≠rd o i
def orderOk (o : List Int) (many:Int) : Bool := decide ((1≤many∧many≤8)∧(o.length:Int)=many∧∀ i : Nat, i<o.length→goodAt o many i)
theorem orderOk_bad {o : List Int} {many : Int} {i : Nat} (hi : i<o.length) (h : ¬ goodAt o many i) : orderOk o many=false:=by
 unfold orderOk
 rw [decide_eq_false_iff_not]
 exact fun h2=>h (h2.2.2 i hi)
theorem orderOk_iff {o : List Int} {many : Int} : orderOk o many=true ↔ ((1≤many∧many≤8)∧(o.length:Int)=many∧∀ i : Nat, i<o.length→goodAt o many i):=by
 unfold orderOk
 rw [decide_eq_true_iff]
def walkOk (l : List Int) : Nat→Int→Bool
 | 0, a => decide (a≤0)
 | m+1, a => if a≤0 then true else decide (0≤rd l (a - 1)∧rd l (a - 1)≤l.length) && walkOk l m (rd l (a - 1))
def okAt (l : List Int) (i:Nat) : Bool := decide (0≤rd l i∧rd l i≤l.length) && walkOk l l.length ((i:Int)+1)
def zerosFrom (l : List Int) (j:Nat) : Nat := (l.drop j).count 0
def treeOk (l : List Int) : Bool := decide (1≤l.length∧l.length≤8) && (List.range l.length).all (okAt l) && decide (l.count 0=1)
theorem walkOk_self (l : List Int) (a:Int) (ha : 0<a) (h : rd l (a - 1)=a) : ∀ m, walkOk l m a=false
 | 0 => by simp [walkOk]; omega
 | m+1 => by
  unfold walkOk
  rw [if_neg (by omega), h, walkOk_self l a ha h m, Bool.and_false]
theorem zerosFrom_succ (l : List Int) (j:Nat) (h : j<l.length) : zerosFrom l j=(if rd l j=0 then 1 else 0)+zerosFrom l (j+1):=by
 unfold zerosFrom
 rw [List.drop_eq_getElem_cons h, List.count_cons]
 have e : rd l j=l[j] := by simp [rd_nat, h]
 rw [e]
 by_cases e : l[j]=0 <;> simp [e, Nat.add_comm]
theorem all_from (p : Nat→Bool) (n j:Nat) (h : j<n) : ((List.range' j (n - j)).all p)=(p j && (List.range' (j+1) (n - (j+1))).all p):=by
 obtain ⟨d, hd⟩ : ∃ d, n - j=d+1 := ⟨n - j - 1,by omega⟩
 rw [hd, List.range'_succ, List.all_cons, show n - (j+1)=d by omega]
def restOk (l : List Int) (r:Nat) (j:Nat) : Bool := (List.range' j (l.length - j)).all (okAt l) && decide (r+zerosFrom l j=1)
theorem restOk_end (l : List Int) (r:Nat) (j:Nat) (h : j=l.length) : restOk l r j=((r:Int) == 1):=by
 subst h
 unfold restOk zerosFrom
 simp
 rw [Bool.eq_iff_iff]; simp; omega
theorem restOk_bad (l : List Int) (r:Nat) (j:Nat) (h : j<l.length) (hb : okAt l j=false) : restOk l r j=false:=by
 unfold restOk
 rw [all_from _ _ _ h, hb]; rfl
theorem restOk_good (l : List Int) (r:Nat) (j:Nat) (h : j<l.length) (hb : okAt l j=true) : restOk l r j=restOk l (r+if rd l j=0 then 1 else 0) (j+1):=by
 unfold restOk
 rw [all_from _ _ _ h, hb, Bool.true_and, zerosFrom_succ l j h, Nat.add_assoc]
theorem restOk_zero (l : List Int) (h : 1≤l.length∧l.length≤8) : restOk l 0 0=treeOk l:=by
 unfold restOk treeOk zerosFrom
 rw [decide_eq_true h]
 simp [List.range_eq_range']
theorem mx_max (a b:Int) : mx a b=max a b := by unfold mx; split <;> omega
theorem mn_min (a b:Int) : mn a b=min a b := by unfold mn; split <;> omega
theorem treeOk_len {l : List Int} (h : treeOk l=true) : 1≤l.length∧l.length≤8:=by
 unfold treeOk at h
 rw [Bool.and_eq_true, Bool.and_eq_true] at h
 exact of_decide_eq_true h.1.1
theorem treeOk_rd {l : List Int} (h : treeOk l=true) {j : Nat} (hj : j<l.length) : 0≤rd l j∧rd l j≤l.length:=by
 unfold treeOk at h
 rw [Bool.and_eq_true, Bool.and_eq_true] at h
 have := List.all_eq_true.mp h.1.2 j (List.mem_range.mpr hj)
 unfold okAt at this
 rw [Bool.and_eq_true] at this
 exact of_decide_eq_true this.1
theorem treeOk_walk {l : List Int} (h : treeOk l=true) {j : Nat} (hj : j<l.length) : walkOk l l.length ((j:Int)+1)=true:=by
 unfold treeOk at h
 rw [Bool.and_eq_true, Bool.and_eq_true] at h
 have := List.all_eq_true.mp h.1.2 j (List.mem_range.mpr hj)
 unfold okAt at this
 rw [Bool.and_eq_true] at this
 exact this.2
theorem treeOk_ne {l : List Int} (h : treeOk l=true) {j : Nat} (hj : j<l.length) : rd l j≠(j:Int)+1:=by
 intro e
 have := treeOk_walk h hj
 rw [walkOk_self l _ (by omega) (by rw [show (j:Int)+1 - 1=(j:Int) by omega]; exact e)] at this
 cases this
theorem treeOk_zero {l : List Int} (h : treeOk l=true) : l.count 0=1:=by
 unfold treeOk at h
 rw [Bool.and_eq_true] at h
 exact of_decide_eq_true h.2
def placeOf (o : List Int) (v:Int) : Int := match (List.range o.length).find? (fun i : Nat => decide (rd o i=v)) with | some i => (i:Int)+1 | none => 0
def putOf (l o : List Int) : List Int := o.map (fun w=>placeOf o (rd l (w - 1)))
theorem order_inj {o : List Int} {many : Int} (h : orderOk o many=true) {i j : Nat} (hi : i<o.length) (hj : j<o.length) (e : rd o i=rd o j) : i=j:=by
 obtain ⟨_, _, h3⟩:=orderOk_iff.mp h
 rcases Nat.lt_trichotomy i j with h4 | h4 | h4
 ·exact absurd e ((h3 j hj).2 i h4)
 ·exact h4
 ·exact absurd e.symm ((h3 i hi).2 j h4)
theorem placeOf_at {o : List Int} {many : Int} (h : orderOk o many=true) {i : Nat} (hi : i<o.length) : placeOf o (rd o i)=(i:Int)+1:=by
 unfold placeOf
 cases hf : (List.range o.length).find? (fun k : Nat => decide (rd o k=rd o i)) with
 | some k =>
  have h1 := List.mem_range.mp (List.mem_of_find?_eq_some hf)
  have h2 : rd o k=rd o i := by simpa using List.find?_some hf
  rw [order_inj h h1 hi h2]
 | none => exact absurd (decide_eq_true rfl) (List.find?_eq_none.mp hf i (List.mem_range.mpr hi))
theorem placeOf_none {o : List Int} {v : Int} (h : ∀ i : Nat, i<o.length→rd o i≠v) : placeOf o v=0:=by
 unfold placeOf
 cases hf : (List.range o.length).find? (fun k : Nat => decide (rd o k=v)) with
 | some k => exact absurd (by simpa using List.find?_some hf) (h k (List.mem_range.mp (List.mem_of_find?_eq_some hf)))
 | none => rfl
def PlacesTo (o : List Int) (j:Nat) (y : List Int) : Prop := ∀ v : Nat, v<y.length→y[v]?=some (match (List.range j).find? (fun i : Nat => decide (rd o i=(v:Int))) with | some i => (i:Int)+1 | none => 0)
theorem find_range_succ (p : Nat→Bool) (j:Nat) : (List.range (j+1)).find? p=((List.range j).find? p).or (if p j then some j else none):=by
 rw [List.range_succ, List.find?_append]
 congr 1
 by_cases h : p j=true
 ·rw [if_pos h, List.find?_cons_of_pos h]
 ·rw [if_neg h, List.find?_cons_of_neg h]; rfl
theorem PlacesTo.set {o : List Int} {many : Int} (h : orderOk o many=true) {j : Nat} (hj : j<o.length) {y : List Int} (hy : PlacesTo o j y) : PlacesTo o (j+1) (y.set (rd o j).toNat ((j:Int)+1)):=by
 have hg := (orderOk_iff.mp h).2.2 j hj
 intro v hv
 rw [List.length_set] at hv
 rw [find_range_succ]
 by_cases e : v=(rd o j).toNat
 ·subst e
  rw [List.getElem?_set_self hv]
  have e2 : ((rd o j).toNat:Int)=rd o j := by omega
  rw [e2]
  have hn : (List.range j).find? (fun i : Nat => decide (rd o i=rd o j))=none:=by
   rw [List.find?_eq_none]
   intro i hi
   simp [hg.2 i (List.mem_range.mp hi)]
  rw [hn]
  simp
 ·rw [List.getElem?_set_ne (by omega), hy v hv]
  have e2 : ¬ (rd o j=(v:Int)) := by omega
  simp [e2]
theorem PlacesTo.whole {o : List Int} {y : List Int} (hy : PlacesTo o o.length y) {v : Int} (h0 : 0≤v) (h1 : v<y.length) : rd y v=placeOf o v:=by
 have := hy v.toNat (by omega)
 rw [show ((v.toNat:Nat):Int)=v by omega] at this
 unfold rd placeOf
 rw [List.getD_eq_getElem?_getD, this]
 rfl
theorem PlacesTo.zero (o : List Int) (n:Nat) : PlacesTo o 0 (List.replicate n 0):=by
 intro v hv
 simp at hv
 simp [hv]
def putInOrder (l o : List Int) : List Int × Bool := if treeOk l=true∧orderOk o l.length=true then (putOf l o, true) else ([], false)
theorem putInOrder_len (l o : List Int) : (putInOrder l o).1.length≤8:=by
 unfold putInOrder
 split
 ·rename_i h
  have hl := treeOk_len h.1
  obtain ⟨_, h2, _⟩:=orderOk_iff.mp h.2
  show (putOf l o).length≤8
  simp [putOf]; omega
 ·simp
theorem l1In_eq (a b c:Int) : spec_l1In.f a b c=some (decide (b≤a∧a≤c)):=by
 unfold spec_l1In.f
 split
 ·rename_i h; congr 1; rw [decide_eq_decide]; omega
 ·rename_i h; congr 1; symm; rw [decide_eq_false_iff_not]; omega
theorem spec_OrderOk_l1 (o : List Int) (many:Int) (hl : o.length≤1048576) (i:Nat) (hi : i<o.length) (hin : 1≤rd o i∧rd o i≤many) (next : goodAt o many i→Ev (fun k=>spec_OrderOk.l0 k o many ((i+1:Nat):Int)) (orderOk o many)) (d:Nat) :
  ∀ j : Nat, j+d=i→(∀ j' : Nat, j'<j→rd o j'≠rd o i)→Ev (fun k=>spec_OrderOk.l1 k o many (i:Int) (j:Int)) (orderOk o many):=by
 induction d with
 | zero =>
  intro j hj h
  refine Ev.step (fun k=>spec_OrderOk.l1.eq_2 ..) (Ev.neg (by omega) ?_)
  rw [wrap_add1 (by omega)]
  exact next ⟨hin, fun j' hj' => h j' (by omega)⟩
 | succ d ih =>
  intro j hj h
  refine Ev.step (fun k=>spec_OrderOk.l1.eq_2 ..) (Ev.pos (by omega) (Ev.pos (by omega) (Ev.pos (by omega) (Ev.pos (by omega) (Ev.pos (by omega) (Ev.ite (fun e=>?_) (fun e=>?_)))))))
  ·exact Ev.ret (orderOk_bad hi (fun h2=>h2.2 j (by omega) e)).symm
  ·rw [wrap_add1 (by omega)]
   refine ih (j+1) (by omega) (fun j' hj' => ?_)
   by_cases e2 : j'=j
   ·subst e2; exact e
   ·exact h j' (by omega)
theorem spec_OrderOk_l0 (o : List Int) (many:Int) (hl : o.length≤1048576) (d:Nat) : ∀ i : Nat, i+d=o.length→(∀ j : Nat, j<i→goodAt o many j)→Ev (fun k=>spec_OrderOk.l0 k o many (i:Int)) (orderOk o many):=by
 induction d with
 | zero =>
  intro i hi h
  refine Ev.step (fun k=>spec_OrderOk.l0.eq_2 ..) (Ev.neg (by omega) (Ev.bind0 (l1In_eq ..) (Ev.ite (fun e=>?_) (fun e=>?_))))
  ·refine Ev.ret ?_
   have e' := of_decide_eq_true e
   rw [Bool.eq_iff_iff, orderOk_iff, beq_iff_eq]
   exact ⟨fun h2=>⟨e', h2, fun j hj => h j (by omega)⟩, fun h2=>h2.2.1⟩
  ·refine Ev.ret ?_
   symm
   unfold orderOk
   rw [decide_eq_false_iff_not]
   intro h2
   exact e (decide_eq_true h2.1)
 | succ d ih =>
  intro i hi h
  refine Ev.step (fun k=>spec_OrderOk.l0.eq_2 ..) (Ev.pos (by omega) (Ev.pos (by omega) (Ev.bind0 (l1In_eq ..) (Ev.ite (fun e=>?_) (fun e=>?_)))))
  ·have e' := of_decide_eq_true e
   refine spec_OrderOk_l1 o many hl i (by omega) e' (fun hg=>?_) i 0 (by omega) (fun j' hj' => by omega)
   refine ih (i+1) (by omega) (fun j hj => ?_)
   by_cases e2 : j=i
   ·subst e2; exact hg
   ·exact h j (by omega)
  ·refine Ev.ret ?_
   exact (orderOk_bad (by omega) (fun h2=>e (decide_eq_true h2.1))).symm
theorem spec_OrderOk_ev (o : List Int) (many:Int) (hl : o.length≤1048576) : Ev (fun k=>spec_OrderOk.f k o many) (orderOk o many):=by
 unfold spec_OrderOk.f
 exact spec_OrderOk_l0 o many hl o.length 0 (by omega) (fun j hj => by omega)
theorem spec_walk (l : List Int) (r j:Nat) (hl : l.length≤8) (hj : j<l.length) (_ : r≤8)
  (next : Ev (fun k=>spec_TreeOk.l0 k l (l.length:Int) (r:Int) ((j+1:Nat):Int)) (restOk l r (j+1)))
  (d:Nat) : ∀ (s:Nat) (a:Int), s+d=l.length→0≤a→a≤l.length →
  Ev (fun k=>spec_TreeOk.l1 k l (l.length:Int) (r:Int) (j:Int) a (s:Int)) (walkOk l d a && restOk l r (j+1)):=by
 induction d with
 | zero =>
  intro s a hs h0 h1
  refine Ev.step (fun k=>spec_TreeOk.l1.eq_2 ..) ?_
  refine Ev.ite (fun ha=>?_) (fun ha=>?_)
  ·rw [decide_eq_false (by omega)]
   refine Ev.step (fun k=>spec_TreeOk.j4.eq_2 ..) ?_
   refine Ev.neg (by simp) (Ev.pos ha (Ev.ret ?_))
   simp [walkOk, show ¬ a≤0 by omega]
  ·refine Ev.step (fun k=>spec_TreeOk.j4.eq_2 ..) ?_
   refine Ev.neg (by simp) (Ev.neg ha ?_)
   rw [wrap_add1 (by omega)]
   exact Ev.eq next (by simp [walkOk, show a≤0 by omega])
 | succ d ih =>
  intro s a hs h0 h1
  refine Ev.step (fun k=>spec_TreeOk.l1.eq_2 ..) ?_
  refine Ev.ite (fun ha=>?_) (fun ha=>?_)
  ·rw [decide_eq_true (by omega)]
   refine Ev.step (fun k=>spec_TreeOk.j4.eq_2 ..) ?_
   refine Ev.pos rfl ?_
   rw [wrap_id (by omega) (by omega)]
   refine Ev.pos (by omega) (Ev.pos (by omega) (Ev.bind0 (l1In_eq ..) ?_))
   refine Ev.ite (fun hc=>?_) (fun hc=>?_)
   ·have hc' := of_decide_eq_true hc
    rw [wrap_add1 (by omega)]
    refine Ev.eq (ih (s+1) (rd l (a - 1)) (by omega) hc'.1 hc'.2) ?_
    simp [walkOk, show ¬ a≤0 by omega, hc'.1, hc'.2]
   ·refine Ev.ret ?_
    have hc' : ¬ (0≤rd l (a - 1)∧rd l (a - 1)≤(l.length:Int)) := by simpa using hc
    simp [walkOk, show ¬ a≤0 by omega, decide_eq_false hc']
  ·refine Ev.step (fun k=>spec_TreeOk.j4.eq_2 ..) ?_
   refine Ev.neg (by simp) (Ev.neg ha ?_)
   rw [wrap_add1 (by omega)]
   exact Ev.eq next (by simp [walkOk, show a≤0 by omega])
theorem spec_TreeOk_l0 (l : List Int) (hl : l.length≤8) (d:Nat) : ∀ (r j:Nat), j+d=l.length→r≤j →
  Ev (fun k=>spec_TreeOk.l0 k l (l.length:Int) (r:Int) (j:Int)) (restOk l r j):=by
 induction d with
 | zero =>
  intro r j hj hr
  refine Ev.step (fun k=>spec_TreeOk.l0.eq_2 ..) ?_
  exact Ev.neg (by omega) (Ev.ret (restOk_end l r j (by omega)).symm)
 | succ d ih =>
  intro r j hj hr
  refine Ev.step (fun k=>spec_TreeOk.l0.eq_2 ..) ?_
  refine Ev.pos (by omega) (Ev.pos (by omega) (Ev.pos (by omega) (Ev.bind0 (l1In_eq ..) ?_)))
  refine Ev.ite (fun hc=>?_) (fun hc=>?_)
  ·have hc' := of_decide_eq_true hc
   refine Ev.step (fun k=>spec_TreeOk.j1.eq_2 ..) ?_
   rw [wrap_add1 (by omega)]
   refine Ev.ite (fun he=>?_) (fun he=>?_)
   ·refine Ev.ret (restOk_bad l r j (by omega) ?_).symm
    have he' : rd l (j:Int)=((j+1:Nat):Int) := by simpa using he
    unfold okAt
    rw [walkOk_self l ((j:Int)+1) (by omega) (by rw [show (j:Int)+1 - 1=(j:Int) by omega, he']; omega), Bool.and_false]
   ·have hfin : ∀ (r':Nat), r'=r+(if rd l j=0 then 1 else 0)→Ev (fun k=>spec_TreeOk.l1 k l (l.length:Int) (r':Int) (j:Int) ((j+1:Nat):Int) 0) (restOk l r j):=by
     intro r' hr'
     have hr8 : r'≤j+1 := by subst hr'; split <;> omega
     refine Ev.eq (spec_walk l r' j hl (by omega) (by omega) (ih r' (j+1) (by omega) hr8) l.length 0 ((j+1:Nat):Int) (by omega) (by omega) (by omega)) ?_
     by_cases hw : walkOk l l.length ((j:Int)+1)=true
     ·rw [restOk_good l r j (by omega) (by unfold okAt; rw [hw, decide_eq_true hc']; rfl), ← hr', show ((j+1:Nat):Int)=(j:Int)+1 by omega, hw]; rfl
     ·have hw' : walkOk l l.length ((j:Int)+1)=false := by simpa using hw
      rw [restOk_bad l r j (by omega) (by unfold okAt; rw [hw']; simp), show ((j+1:Nat):Int)=(j:Int)+1 by omega, hw']; rfl
    refine Ev.pos (by omega) (Ev.pos (by omega) (Ev.ite (fun hz=>?_) (fun hz=>?_)))
    ·rw [wrap_add1 (by omega)]
     refine Ev.step (fun k=>spec_TreeOk.j2.eq_2 ..) ?_
     rw [wrap_add1 (by omega)]
     exact hfin (r+1) (by rw [if_pos hz])
    ·refine Ev.step (fun k=>spec_TreeOk.j2.eq_2 ..) ?_
     rw [wrap_add1 (by omega)]
     exact hfin r (by rw [if_neg hz]; rfl)
  ·refine Ev.step (fun k=>spec_TreeOk.j1.eq_2 ..) ?_
   refine Ev.pos rfl (Ev.ret (restOk_bad l r j (by omega) ?_).symm)
   have hc' : ¬ (0≤rd l (j:Int)∧rd l (j:Int)≤(l.length:Int)) := by simpa using hc
   unfold okAt
   rw [decide_eq_false hc']; rfl
theorem spec_TreeOk_ev (l : List Int) : Ev (fun k=>spec_TreeOk.f k l) (treeOk l):=by
 unfold spec_TreeOk.f
 refine Ev.bind0 (l1In_eq ..) ?_
 refine Ev.ite (fun hc=>?_) (fun hc=>?_)
 ·have hc' := of_decide_eq_true hc
  exact Ev.eq (spec_TreeOk_l0 l (by omega) l.length 0 0 (by omega) (by omega)) (restOk_zero l (by omega))
 ·refine Ev.ret ?_
  have hc' : ¬ (1≤(l.length:Int)∧(l.length:Int)≤8) := by simpa using hc
  unfold treeOk
  rw [decide_eq_false (by omega)]; rfl
theorem spec_Put_l1 (l o y : List Int) (h : treeOk l=true) (ho : orderOk o l.length=true) (hy : PlacesTo o o.length y) (hyl : y.length=l.length+1) (d:Nat) : ∀ j : Nat, j+d=o.length →
  Ev (fun k=>spec_PutInOrder.l1 k l o y ((putOf l o).take j) (j:Int)) (putOf l o, true):=by
 have hl := treeOk_len h
 obtain ⟨_, h2, h3⟩:=orderOk_iff.mp ho
 have hlen : (putOf l o).length=o.length := by simp [putOf]
 induction d with
 | zero =>
  intro j hj
  refine Ev.step (fun k=>spec_PutInOrder.l1.eq_2 ..) (Ev.neg (by omega) (Ev.ret ?_))
  rw [List.take_of_length_le (by omega)]
 | succ d ih =>
  intro j hj
  have hg := h3 j (by omega)
  have hr := treeOk_rd h (j := (rd o j - 1).toNat) (by omega)
  rw [show (((rd o j - 1).toNat:Nat):Int)=rd o j - 1 by omega] at hr
  refine Ev.step (fun k=>spec_PutInOrder.l1.eq_2 ..) ?_
  rw [wrap_id (n := rd o j - 1) (by omega) (by omega), wrap_add1 (by omega)]
  refine Ev.pos (by omega) (Ev.pos (by omega) (Ev.pos (by omega) (Ev.pos (by omega) (Ev.pos (by omega) (Ev.pos (by omega) (Ev.pos (by rw [List.length_take]; omega) ?_))))))
  have e : (putOf l o).take j ++ [rd y (rd l (rd o j - 1))]=(putOf l o).take (j+1):=by
   rw [List.take_succ_eq_append_getElem (by omega), hy.whole hr.1 (by omega)]
   congr 2
   have e3 : rd o j=o[j]'(by omega) := by simp [rd_nat, show j<o.length by omega]
   simp [putOf, e3]
  rw [e]
  exact ih (j+1) (by omega)
theorem spec_Put_l0 (l o : List Int) (h : treeOk l=true) (ho : orderOk o l.length=true) (d:Nat) : ∀ (j:Nat) (y : List Int), j+d=o.length→PlacesTo o j y→y.length=l.length+1 →
  Ev (fun k=>spec_PutInOrder.l0 k l o y (j:Int)) (putOf l o, true):=by
 have hl := treeOk_len h
 obtain ⟨_, h2, h3⟩:=orderOk_iff.mp ho
 induction d with
 | zero =>
  intro j y hj hy hyl
  refine Ev.step (fun k=>spec_PutInOrder.l0.eq_2 ..) (Ev.neg (by omega) ?_)
  rw [show j=o.length by omega] at hy
  exact spec_Put_l1 l o y h ho hy hyl o.length 0 (by omega)
 | succ d ih =>
  intro j y hj hy hyl
  have hg := h3 j (by omega)
  refine Ev.step (fun k=>spec_PutInOrder.l0.eq_2 ..) ?_
  rw [wrap_id (n := (j:Int)+1) (by omega) (by omega)]
  refine Ev.pos (by omega) (Ev.pos (by omega) (Ev.pos (by omega) (Ev.pos (by omega) ?_)))
  exact ih (j+1) _ (by omega) (hy.set ho (by omega)) (by simpa using hyl)
theorem spec_PutInOrder_ev (l o : List Int) (hol : o.length≤1048576) : Ev (fun k=>spec_PutInOrder.f k l o) (putInOrder l o):=by
 unfold spec_PutInOrder.f putInOrder
 refine Ev.bind (spec_TreeOk_ev l) (Ev.ite (fun h=>?_) (fun h=>?_))
 ·refine Ev.bind (spec_OrderOk_ev o _ hol) (Ev.step (fun k=>spec_PutInOrder.j0.eq_2 ..) (Ev.ite (fun e=>?_) (fun e=>?_)))
  ·refine Ev.ret ?_
   rw [if_neg]
   intro h2; rw [h2.2] at e; cases e
  ·have ho : orderOk o l.length=true := by simpa using e
   have hl := treeOk_len h
   rw [if_pos ⟨h, ho⟩, wrap_id (n := (l.length:Int)+1) (by omega) (by omega)]
   refine Ev.pos (by omega) (Ev.pos (by omega) ?_)
   exact spec_Put_l0 l o h ho o.length 0 _ (by omega) (PlacesTo.zero o _) (by simp)
 ·refine Ev.step (fun k=>spec_PutInOrder.j0.eq_2 ..) (Ev.pos rfl (Ev.ret ?_))
  rw [if_neg (fun h2=>h h2.1)]
theorem wild_evP {b : List Int} (hb : Bytes b) (p n:Int) (hp : 0≤p) (hp2 : p≤50) (hn : 0≤n) (hn2 : n≤1000) :
  ∃ r p', Ev (fun k=>spec_l20Wild.f k b p n) (r, p')∧r.length≤9∧0≤p'∧p'≤p+200:=by
 obtain ⟨t, p1, ht, htl,hp1,hp1'⟩:=tree_ev hb p n (by omega) (by omega) hn hn2
 obtain ⟨v, hv0, hv1, hv⟩:=pick_ev hb p1 2 (by omega) (by omega) (by omega) (by omega)
 unfold spec_l20Wild.f
 have other : ∃ r p', Ev (fun k=>spec_l20Wild.j0 k n t false b (p1+1)) (r, p')∧r.length≤9∧0≤p'∧p'≤p+200:=by
  obtain ⟨u, hu0, hu1, hu⟩:=pick_ev hb (p1+1) 3 (by omega) (by omega) (by omega) (by omega)
  by_cases e : u=0
  ·obtain ⟨r, p', h, h1, h2, h3⟩:=flat_ev hb (p1+1+1) n (by omega) (by omega) hn hn2
   exact ⟨r, p', Ev.step (fun k=>spec_l20Wild.j0.eq_2 ..) (Ev.neg (by simp) (Ev.bind hu (Ev.pos e (Ev.bind h (Ev.ret rfl))))), h1,by omega,by omega⟩
  ·exact ⟨t, p1+1+1, Ev.step (fun k=>spec_l20Wild.j0.eq_2 ..) (Ev.neg (by simp) (Ev.bind hu (Ev.neg e (Ev.ret rfl)))), htl,by omega,by omega⟩
 by_cases e : v=0
 ·by_cases h : treeOk t=true
  ·obtain ⟨o, p2, ho, hol, how,hp2,hp2'⟩:=order_ev hb (p1+1) (t.length:Int) (by omega) (by omega) (by omega) (by omega)
   refine ⟨(putInOrder t o).1, p2, Ev.bind ht (Ev.bind hv (Ev.pos e (Ev.bind (spec_TreeOk_ev t) ?_))), Nat.le_trans (putInOrder_len t o) (by omega),by omega,by omega⟩
   rw [h]
   exact Ev.step (fun k=>spec_l20Wild.j0.eq_2 ..) (Ev.pos rfl (Ev.bind ho (Ev.bind (spec_PutInOrder_ev t o (by omega)) (Ev.ret rfl))))
  ·obtain ⟨r, p', hr, h1, h2⟩:=other
   refine ⟨r, p', Ev.bind ht (Ev.bind hv (Ev.pos e (Ev.bind (spec_TreeOk_ev t) ?_))), h1, h2⟩
   rw [show treeOk t=false by simpa using h]
   exact hr
 ·obtain ⟨r, p', hr, h1, h2⟩:=other
  exact ⟨r, p', Ev.bind ht (Ev.bind hv (Ev.neg e hr)), h1, h2⟩
theorem wild_ev {b : List Int} (hb : Bytes b) (n:Int) (hn : 0≤n) (hn2 : n≤1000) :
  ∃ r p', Ev (fun k=>spec_l20Wild.f k b 0 n) (r, p')∧r.length≤9∧0≤p':=by
 obtain ⟨r, p', h1, h2, h3, _⟩:=wild_evP hb 0 n (by omega) (by omega) hn hn2
 exact ⟨r, p', h1, h2, h3⟩
def indexFrom (l : List Int) (v:Int) (n j:Nat) : Int := match (List.range' j (n - j)).find? (fun i : Nat => decide (rd l i=v)) with | some i => i | none => -1
def rootOf (l : List Int) : Int := if treeOk l then indexFrom l 0 l.length 0+1 else -1
theorem indexFrom_step (l : List Int) (v:Int) {n j : Nat} (h : j<n) : indexFrom l v n j=if rd l j=v then (j:Int) else indexFrom l v n (j+1):=by
 unfold indexFrom
 have hr : List.range' j (n - j)=j :: List.range' (j+1) (n - (j+1)):=by
  rw [show n - j=(n - (j+1))+1 by omega, List.range'_succ]
 rw [hr]
 by_cases e : rd l j=v
 ·rw [List.find?_cons_of_pos (by simpa using e), if_pos e]
 ·rw [List.find?_cons_of_neg (by simpa using e), if_neg e]
theorem indexFrom_end (l : List Int) (v:Int) {n j : Nat} (h : n≤j) : indexFrom l v n j=-1:=by
 unfold indexFrom
 rw [show n - j=0 by omega]
 rfl
theorem indexFrom_spec (l : List Int) (v:Int) (n:Nat) (d:Nat) : ∀ j, j+d=n→(∃ i : Nat, j≤i∧i<n∧rd l i=v∧indexFrom l v n j=i) ∨ ((∀ i : Nat, j≤i→i<n→rd l i≠v)∧indexFrom l v n j=-1):=by
 induction d with
 | zero => intro j hj; exact .inr ⟨fun i h1 h2 => by omega, indexFrom_end l v (by omega)⟩
 | succ d ih =>
  intro j hj
  rw [indexFrom_step l v (by omega)]
  by_cases e : rd l j=v
  ·rw [if_pos e]; exact .inl ⟨j,by omega,by omega, e, rfl⟩
  ·rw [if_neg e]
   rcases ih (j+1) (by omega) with ⟨i, h1, h2, h3, h4⟩ | ⟨h1, h2⟩
   ·exact .inl ⟨i,by omega, h2, h3, h4⟩
   ·refine .inr ⟨fun i h3 h4 => ?_, h2⟩
    by_cases e2 : i=j
    ·subst e2; exact e
    ·exact h1 i (by omega) h4
theorem exists_root {l : List Int} (h : treeOk l=true) : ∃ i : Nat, i<l.length∧rd l i=0:=by
 have hz := treeOk_zero h
 have hm : (0:Int) ∈ l:=by
  apply List.count_pos_iff.mp; omega
 obtain ⟨i, hi, e⟩:=List.getElem_of_mem hm
 exact ⟨i, hi, by simp [rd_nat, hi, e]⟩
theorem rootOf_spec {l : List Int} (h : treeOk l=true) : ∃ i : Nat, i<l.length∧rd l i=0∧rootOf l=(i:Int)+1:=by
 unfold rootOf
 rw [if_pos h]
 rcases indexFrom_spec l 0 l.length l.length 0 (by omega) with ⟨i, _, h2, h3, h4⟩ | ⟨h1, _⟩
 ·exact ⟨i, h2, h3, by rw [h4]⟩
 ·obtain ⟨i, hi, e⟩:=exists_root h
  exact absurd e (h1 i (by omega) hi)
def Deep (l : List Int) : Nat→Int→Prop
 | 0, w => rd l (w - 1)=0
 | d+1, w => 1≤rd l (w - 1)∧rd l (w - 1)≤l.length∧Deep l d (rd l (w - 1))
theorem deep_of_walk (l : List Int) : ∀ (m:Nat) (w:Int), 0<w→walkOk l m w=true→∃ d, d<m∧Deep l d w
 | 0, w, h0, h => by simp [walkOk] at h; omega
 | m+1, w, h0, h => by
  unfold walkOk at h
  rw [if_neg (by omega), Bool.and_eq_true, decide_eq_true_eq] at h
  by_cases e : rd l (w - 1)=0
  ·exact ⟨0,by omega, e⟩
  ·obtain ⟨d, hd, hd2⟩:=deep_of_walk l m _ (by omega) h.2
   exact ⟨d+1,by omega,by omega, h.1.2, hd2⟩
theorem tree_deep {l : List Int} (h : treeOk l=true) {w : Int} (h0 : 1≤w) (h1 : w≤l.length) : ∃ d, d<l.length∧Deep l d w:=by
 have := treeOk_walk h (j := (w - 1).toNat) (by omega)
 rw [show (((w - 1).toNat:Nat):Int)+1=w by omega] at this
 exact deep_of_walk l _ w (by omega) this
theorem deep_unique (l : List Int) : ∀ (d d':Nat) (w:Int), Deep l d w→Deep l d' w→d=d'
 | 0, 0, _, _, _ => rfl
 | 0, d'+1, w, h, h' => by
  have h : rd l (w - 1)=0 := h
  have := h'.1
  omega
 | d+1, 0, w, h, h' => by
  have h' : rd l (w - 1)=0 := h'
  have := h.1
  omega
 | d+1, d'+1, w, h, h' => by rw [deep_unique l d d' _ h.2.2 h'.2.2]
theorem deep_lt {l : List Int} (h : treeOk l=true) {w : Int} (h0 : 1≤w) (h1 : w≤l.length) {d : Nat} (hd : Deep l d w) : d<l.length:=by
 obtain ⟨d', h2, h3⟩:=tree_deep h h0 h1
 rw [deep_unique l d d' w hd h3]
 exact h2
def kidsL (l : List Int) (w:Int) (n j:Nat) : List Nat := (List.range' j (n - j)).filter (fun i=>decide (rd l i=w∧(i:Int)+1<w))
def kidsR (l : List Int) (w:Int) (n j:Nat) : List Nat := (List.range' j (n - j)).filter (fun i=>decide (rd l i=w∧¬ (i:Int)+1<w))
def flatF (l : List Int) : Nat→Int→List Int
 | 0, w => [w]
 | m+1, w => (kidsL l w l.length 0).flatMap (fun i : Nat => flatF l m ((i:Int)+1)) ++ ([w] ++ (kidsR l w l.length 0).flatMap (fun i : Nat => flatF l m ((i:Int)+1)))
def flatOrder (l : List Int) : List Int := if treeOk l then flatF l l.length (rootOf l) else []
theorem range'_cons {n j : Nat} (h : j<n) : List.range' j (n - j)=j :: List.range' (j+1) (n - (j+1)):=by
 rw [show n - j=(n - (j+1))+1 by omega, List.range'_succ]
theorem kidsL_end (l : List Int) (w:Int) {n j : Nat} (h : n≤j) : kidsL l w n j=[] := by unfold kidsL; rw [show n - j=0 by omega]; rfl
theorem kidsR_end (l : List Int) (w:Int) {n j : Nat} (h : n≤j) : kidsR l w n j=[] := by unfold kidsR; rw [show n - j=0 by omega]; rfl
theorem kidsL_yes (l : List Int) (w:Int) {n j : Nat} (h : j<n) (e : rd l j=w∧(j:Int)+1<w) : kidsL l w n j=j :: kidsL l w n (j+1):=by
 unfold kidsL; rw [range'_cons h, List.filter_cons_of_pos (by simpa using e)]
theorem kidsL_no (l : List Int) (w:Int) {n j : Nat} (h : j<n) (e : ¬ (rd l j=w∧(j:Int)+1<w)) : kidsL l w n j=kidsL l w n (j+1):=by
 unfold kidsL; rw [range'_cons h, List.filter_cons_of_neg (by simpa using e)]
theorem kidsR_yes (l : List Int) (w:Int) {n j : Nat} (h : j<n) (e : rd l j=w∧¬ (j:Int)+1<w) : kidsR l w n j=j :: kidsR l w n (j+1):=by
 unfold kidsR; rw [range'_cons h, List.filter_cons_of_pos (by simpa using e)]
theorem kidsR_no (l : List Int) (w:Int) {n j : Nat} (h : j<n) (e : ¬ (rd l j=w∧¬ (j:Int)+1<w)) : kidsR l w n j=kidsR l w n (j+1):=by
 unfold kidsR; rw [range'_cons h, List.filter_cons_of_neg (by simpa using e)]
theorem flatMap_small (m b:Nat) (g : Nat→List Int) (hg : ∀ i, (g i).length≤b) : ∀ (ks : List Nat), ks.length≤m→(ks.flatMap g).length≤m * b
 | [], _ => by simp
 | i :: r, h => by
  have h1 := hg i
  obtain ⟨m, rfl⟩ : ∃ q, m=q+1 := ⟨m - 1, by simp at h; omega⟩
  have h2 := flatMap_small m b g hg r (by simpa using h)
  rw [List.flatMap_cons, List.length_append, Nat.add_mul]
  omega
theorem kids_len (l : List Int) (w:Int) (n j:Nat) : (kidsL l w n j).length≤n∧(kidsR l w n j).length≤n:=by
 constructor
 ·exact Nat.le_trans (List.length_filter_le _ _) (by simp)
 ·exact Nat.le_trans (List.length_filter_le _ _) (by simp)
theorem flatF_small (l : List Int) (hl : l.length≤8) : ∀ (m:Nat) (w:Int), (flatF l m w).length≤20 ^ m
 | 0, w => by simp [flatF]
 | m+1, w => by
  have h1 := kids_len l w l.length 0
  have h2 := flatMap_small 8 (20 ^ m) (fun i : Nat => flatF l m ((i:Int)+1)) (fun i=>flatF_small l hl m _) (kidsL l w l.length 0) (by omega)
  have h3 := flatMap_small 8 (20 ^ m) (fun i : Nat => flatF l m ((i:Int)+1)) (fun i=>flatF_small l hl m _) (kidsR l w l.length 0) (by omega)
  have h4 : 1≤20 ^ m := Nat.one_le_pow _ _ (by omega)
  unfold flatF
  simp only [List.length_append, List.length_singleton]
  rw [Nat.pow_succ]
  omega
theorem pow20_le {m : Nat} (h : m≤8) : 20 ^ m≤25600000000 := Nat.le_trans (Nat.pow_le_pow_right (by omega) h) (by decide)
theorem deep_kid {l : List Int} {w : Int} (hw : 1≤w∧w≤l.length) {d : Nat} (hd : Deep l d w) {i : Nat} (e : rd l i=w) : Deep l (d+1) ((i:Int)+1):=by
 have e' : rd l ((i:Int)+1 - 1)=w := by rw [show (i:Int)+1 - 1=(i:Int) by omega]; exact e
 exact ⟨by omega,by omega, by rw [e']; exact hd⟩
def up (l : List Int) : Nat→Int→Int
 | 0, v => v
 | k+1, v => up l k (rd l (v - 1))
theorem up_succ (l : List Int) : ∀ (k:Nat) (v:Int), up l (k+1) v=rd l (up l k v - 1)
 | 0, v => rfl
 | k+1, v => by rw [up, up_succ l k, ← up]
theorem deep_up (l : List Int) : ∀ (k e:Nat) (v:Int), Deep l (e+k) v→Deep l e (up l k v)
 | 0, e, v, h => h
 | k+1, e, v, h => deep_up l k e _ (show Deep l (e+k+1) v from h).2.2
theorem up_range (l : List Int) : ∀ (k e:Nat) (v:Int), Deep l (e+k) v→(1≤v∧v≤l.length)→1≤up l k v∧up l k v≤l.length
 | 0, e, v, h, hv => hv
 | k+1, e, v, h, hv => by
  have h' : Deep l (e+k+1) v := h
  exact up_range l k e _ h'.2.2 ⟨h'.1, h'.2.1⟩
theorem deep_top {l : List Int} : ∀ (d:Nat) (v:Int), Deep l d v→rd l (up l d v - 1)=0
 | 0, v, h => h
 | d+1, v, h => deep_top d _ h.2.2
theorem zero_unique {l : List Int} (h : treeOk l=true) {i j : Nat} (hi : i<l.length) (hj : j<l.length) (e1 : rd l i=0) (e2 : rd l j=0) : i=j:=by
 have hz := treeOk_zero h
 have key : ∀ a b : Nat, a<b→b<l.length→rd l a=0→rd l b=0→False:=by
  intro a b hab hb ha0 hb0
  have h1 := zerosFrom_succ l a (by omega)
  rw [if_pos ha0] at h1
  have h2 : ∀ q : Nat, a+1≤q→q≤b→zerosFrom l b≤zerosFrom l q:=by
   intro q hq hqb
   obtain ⟨d, hd⟩ : ∃ d, q+d=b := ⟨b - q,by omega⟩
   clear hq
   induction d generalizing q with
   | zero => rw [show q=b by omega]; exact Nat.le_refl _
   | succ d ih =>
    have h3 := zerosFrom_succ l q (by omega)
    have h4 := ih (q+1) (by omega) (by omega)
    omega
  have h3 := h2 (a+1) (by omega) (by omega)
  have h4 := zerosFrom_succ l b hb
  rw [if_pos hb0] at h4
  have h5 : zerosFrom l a≤l.count 0:=by
   unfold zerosFrom
   exact (List.drop_sublist a l).count_le 0
  omega
 rcases Nat.lt_trichotomy i j with h1 | h1 | h1
 ·exact absurd (key i j h1 hj e1 e2) id
 ·exact h1
 ·exact absurd (key j i h1 hi e2 e1) id
theorem up_root {l : List Int} (h : treeOk l=true) {v : Int} (hv : 1≤v∧v≤l.length) {d : Nat} (hd : Deep l d v) : up l d v=rootOf l:=by
 obtain ⟨i, h1, h2, h3⟩:=rootOf_spec h
 have h4 := up_range l d 0 v (by rw [Nat.zero_add]; exact hd) hv
 have h5 := deep_top d v hd
 have := zero_unique h (i := (up l d v - 1).toNat) (j := i) (by omega) h1 (by rw [show (((up l d v - 1).toNat:Nat):Int)=up l d v - 1 by omega]; exact h5) h2
 omega
theorem mem_flatF {l : List Int} : ∀ (m e:Nat) (w v:Int), (1≤w∧w≤l.length)→Deep l e w→v ∈ flatF l m w→(1≤v∧v≤l.length)∧∃ k, up l k v=w∧Deep l (e+k) v
 | 0, e, w, v, hw, hd, hv => by
  rw [flatF, List.mem_singleton] at hv
  subst hv
  exact ⟨hw, 0, rfl, hd⟩
 | m+1, e, w, v, hw, hd, hv => by
  have kid : ∀ i : Nat, i<l.length→rd l i=w→v ∈ flatF l m ((i:Int)+1)→(1≤v∧v≤l.length)∧∃ k, up l k v=w∧Deep l (e+k) v:=by
   intro i hi hr hm
   obtain ⟨h1, k, h2, h3⟩:=mem_flatF m (e+1) _ v ⟨by omega,by omega⟩ (deep_kid hw hd hr) hm
   refine ⟨h1, k+1, ?_, by rw [show e+(k+1)=e+1+k by omega]; exact h3⟩
   rw [up_succ, h2, show (i:Int)+1 - 1=(i:Int) by omega]
   exact hr
  rw [flatF, List.mem_append, List.mem_append, List.mem_flatMap, List.mem_flatMap, List.mem_singleton] at hv
  rcases hv with ⟨i, hi, hv⟩ | rfl | ⟨i, hi, hv⟩
  ·unfold kidsL at hi
   rw [List.mem_filter, List.mem_range'_1, decide_eq_true_eq] at hi
   exact kid i (by omega) hi.2.1 hv
  ·exact ⟨hw, 0, rfl, hd⟩
  ·unfold kidsR at hi
   rw [List.mem_filter, List.mem_range'_1, decide_eq_true_eq] at hi
   exact kid i (by omega) hi.2.1 hv
theorem self_mem_flatF {l : List Int} (m:Nat) (w:Int) : w ∈ flatF l m w:=by
 cases m <;> simp [flatF]
theorem flatF_mem {l : List Int} (h : treeOk l=true) : ∀ (k m e:Nat) (w v:Int), (1≤v∧v≤l.length)→up l k v=w→Deep l (e+k) v→l.length≤e+m→v ∈ flatF l m w
 | 0, m, e, w, v, hv, hu, hd, hm => by
  have : v=w := hu
  subst this
  exact self_mem_flatF m v
 | k+1, m, e, w, v, hv, hu, hd, hm => by
  have hd' : Deep l ((e+1)+k) v := by rw [show e+1+k=e+(k+1) by omega]; exact hd
  have hc := up_range l k (e+1) v hd' hv
  have hlt := deep_lt h hv.1 hv.2 hd
  obtain ⟨m, rfl⟩ : ∃ q, m=q+1 := ⟨m - 1,by omega⟩
  have ih := flatF_mem h k m (e+1) (up l k v) v hv rfl hd' (by omega)
  rw [up_succ] at hu
  obtain ⟨i, hi⟩ : ∃ i : Nat, up l k v=(i:Int)+1 := ⟨(up l k v - 1).toNat,by omega⟩
  rw [hi] at ih hu hc
  rw [show (i:Int)+1 - 1=(i:Int) by omega] at hu
  rw [flatF, List.mem_append, List.mem_append, List.mem_flatMap, List.mem_flatMap]
  by_cases hlt2 : (i:Int)+1<w
  ·refine .inl ⟨i, ?_, ih⟩
   unfold kidsL
   rw [List.mem_filter, List.mem_range'_1, decide_eq_true_eq]
   exact ⟨by omega, hu, hlt2⟩
  ·refine .inr (.inr ⟨i, ?_, ih⟩)
   unfold kidsR
   rw [List.mem_filter, List.mem_range'_1, decide_eq_true_eq]
   exact ⟨by omega, hu, hlt2⟩
theorem nodup_flatMap' (g : Nat→List Int) : ∀ (ks : List Nat), ks.Nodup→(∀ i, i ∈ ks→(g i).Nodup)→(∀ i j, i ∈ ks→j ∈ ks→i≠j→∀ x, x ∈ g i→x ∉ g j)→(ks.flatMap g).Nodup
 | [], _, _, _ => by simp
 | i :: r, hn, hg, hd => by
  rw [List.nodup_cons] at hn
  rw [List.flatMap_cons, List.nodup_append]
  refine ⟨hg i (by simp), nodup_flatMap' g r hn.2 (fun j hj => hg j (by simp [hj])) (fun a b ha hb => hd a b (by simp [ha]) (by simp [hb])), ?_⟩
  intro x hx y hy e
  subst e
  rw [List.mem_flatMap] at hy
  obtain ⟨j, hj, hy⟩:=hy
  refine hd i j (by simp) (by simp [hj]) ?_ x hx hy
  rintro rfl
  exact hn.1 hj
theorem flatF_nodup {l : List Int} : ∀ (m e:Nat) (w:Int), (1≤w∧w≤l.length)→Deep l e w→(flatF l m w).Nodup
 | 0, e, w, hw, hd => by simp [flatF]
 | m+1, e, w, hw, hd => by
  have kl : ∀ i : Nat, i ∈ kidsL l w l.length 0→i<l.length∧rd l i=w∧(i:Int)+1<w:=by
   intro i hi
   unfold kidsL at hi
   rw [List.mem_filter, List.mem_range'_1, decide_eq_true_eq] at hi
   exact ⟨by omega, hi.2⟩
  have kr : ∀ i : Nat, i ∈ kidsR l w l.length 0→i<l.length∧rd l i=w∧¬ (i:Int)+1<w:=by
   intro i hi
   unfold kidsR at hi
   rw [List.mem_filter, List.mem_range'_1, decide_eq_true_eq] at hi
   exact ⟨by omega, hi.2⟩
  have apart : ∀ i j : Nat, (i<l.length∧rd l i=w)→(j<l.length∧rd l j=w)→i≠j→∀ x, x ∈ flatF l m ((i:Int)+1)→x ∉ flatF l m ((j:Int)+1):=by
   intro i j hi hj hne x hx hy
   obtain ⟨_, k, h2, h3⟩:=mem_flatF m (e+1) _ x ⟨by omega,by omega⟩ (deep_kid hw hd hi.2) hx
   obtain ⟨_, k', h2', h3'⟩:=mem_flatF m (e+1) _ x ⟨by omega,by omega⟩ (deep_kid hw hd hj.2) hy
   have := deep_unique l _ _ x h3 h3'
   have hk : k=k' := by omega
   subst hk
   omega
  have notself : ∀ i : Nat, i<l.length→rd l i=w→w ∉ flatF l m ((i:Int)+1):=by
   intro i hi hr hx
   obtain ⟨_, k, h2, h3⟩:=mem_flatF m (e+1) _ w ⟨by omega,by omega⟩ (deep_kid hw hd hr) hx
   have := deep_unique l _ _ w hd h3
   omega
  have nd : ∀ i : Nat, i<l.length→rd l i=w→(flatF l m ((i:Int)+1)).Nodup := fun i hi hr => flatF_nodup m (e+1) _ ⟨by omega,by omega⟩ (deep_kid hw hd hr)
  rw [flatF, List.nodup_append, List.nodup_append]
  refine ⟨?_, ⟨by simp, ?_, ?_⟩, ?_⟩
  ·refine nodup_flatMap' _ _ (List.Pairwise.filter _ List.nodup_range') (fun i hi => nd i (kl i hi).1 (kl i hi).2.1) (fun i j hi hj hne => apart i j ⟨(kl i hi).1, (kl i hi).2.1⟩ ⟨(kl j hj).1, (kl j hj).2.1⟩ hne)
  ·refine nodup_flatMap' _ _ (List.Pairwise.filter _ List.nodup_range') (fun i hi => nd i (kr i hi).1 (kr i hi).2.1) (fun i j hi hj hne => apart i j ⟨(kr i hi).1, (kr i hi).2.1⟩ ⟨(kr j hj).1, (kr j hj).2.1⟩ hne)
  ·intro x hx y hy exy
   rw [List.mem_singleton] at hx
   subst hx; subst exy
   rw [List.mem_flatMap] at hy
   obtain ⟨i, hi, hy⟩:=hy
   exact notself i (kr i hi).1 (kr i hi).2.1 hy
  ·intro x hx y hy exy
   subst exy
   rw [List.mem_flatMap] at hx
   obtain ⟨i, hi, hx⟩:=hx
   rw [List.mem_append, List.mem_singleton, List.mem_flatMap] at hy
   rcases hy with rfl | ⟨j, hj, hy⟩
   ·exact notself i (kl i hi).1 (kl i hi).2.1 hx
   ·refine apart i j ⟨(kl i hi).1, (kl i hi).2.1⟩ ⟨(kr j hj).1, (kr j hj).2.1⟩ ?_ x hx hy
    rintro rfl
    exact (kr _ hj).2.2 (kl _ hi).2.2
theorem nodup_le : ∀ (n:Nat) (L : List Int), L.Nodup→(∀ x, x ∈ L→1≤x∧x≤n)→L.length≤n
 | 0, L, _, h => by
  cases L with
  | nil => simp
  | cons a r => have := h a (by simp); omega
 | n+1, L, hn, h => by
  by_cases hm : ((n+1:Nat):Int) ∈ L
  ·have h1 := nodup_le n (L.erase ((n+1:Nat):Int)) (hn.erase _) (fun x hx => by
    rw [hn.mem_erase_iff] at hx
    have := h x hx.2
    omega)
   rw [List.length_erase_of_mem hm] at h1
   omega
  ·have := nodup_le n L hn (fun x hx => by
    have h2 := h x hx
    have : x≠((n+1:Nat):Int) := fun e=>hm (e ▸ hx)
    omega)
   omega
theorem nodup_all : ∀ (n:Nat) (L : List Int), L.Nodup→(∀ x, x ∈ L→1≤x∧x≤n)→L.length=n→∀ v : Int, 1≤v→v≤n→v ∈ L
 | 0, L, _, h, hl, v, h0, h1 => by omega
 | n+1, L, hn, h, hl, v, h0, h1 => by
  have hm : ((n+1:Nat):Int) ∈ L:=by
   apply Decidable.byContradiction
   intro hm
   have := nodup_le n L hn (fun x hx => by
    have h2 := h x hx
    have : x≠((n+1:Nat):Int) := fun e=>hm (e ▸ hx)
    omega)
   omega
  by_cases e : v=((n+1:Nat):Int)
  ·rw [e]; exact hm
  ·have := nodup_all n (L.erase ((n+1:Nat):Int)) (hn.erase _) (fun x hx => by
    rw [hn.mem_erase_iff] at hx
    have := h x hx.2
    omega) (by rw [List.length_erase_of_mem hm]; omega) v h0 (by omega)
   exact List.mem_of_mem_erase this
theorem flatF_root {l : List Int} (h : treeOk l=true) : (1≤rootOf l∧rootOf l≤l.length)∧Deep l 0 (rootOf l):=by
 obtain ⟨i, h1, h2, h3⟩:=rootOf_spec h
 rw [h3]
 refine ⟨by omega, ?_⟩
 show rd l ((i:Int)+1 - 1)=0
 rw [show (i:Int)+1 - 1=(i:Int) by omega]
 exact h2
theorem flatOrder_nodup {l : List Int} (h : treeOk l=true) : (flatOrder l).Nodup:=by
 unfold flatOrder
 rw [if_pos h]
 exact flatF_nodup _ 0 _ (flatF_root h).1 (flatF_root h).2
theorem flatOrder_range {l : List Int} (h : treeOk l=true) : ∀ x, x ∈ flatOrder l→1≤x∧x≤l.length:=by
 unfold flatOrder
 rw [if_pos h]
 exact fun x hx => (mem_flatF _ 0 _ x (flatF_root h).1 (flatF_root h).2 hx).1
theorem flatOrder_mem {l : List Int} (h : treeOk l=true) {v : Int} (hv : 1≤v∧v≤l.length) : v ∈ flatOrder l:=by
 unfold flatOrder
 rw [if_pos h]
 obtain ⟨d, hd, hd2⟩:=tree_deep h hv.1 hv.2
 exact flatF_mem h d l.length 0 _ v hv (up_root h hv hd2) (by rw [Nat.zero_add]; exact hd2) (by omega)
theorem flatOrder_le (l : List Int) : (flatOrder l).length≤8:=by
 by_cases h : treeOk l=true
 ·have := nodup_le l.length _ (flatOrder_nodup h) (flatOrder_range h)
  have hl := treeOk_len h
  omega
 ·unfold flatOrder; rw [if_neg h]; simp
theorem flatOrder_small (l : List Int) : (flatOrder l).length≤1048576 := Nat.le_trans (flatOrder_le l) (by omega)
def madeFlat (l : List Int) : List Int := (putInOrder l (flatOrder l)).1
theorem madeFlat_small (l : List Int) : (madeFlat l).length≤1048576 := Nat.le_trans (putInOrder_len l _) (by omega)
def inRange (l : List Int) (i:Nat) : Bool := decide (0≤rd l i∧rd l i≤l.length)
theorem mem_rd {l : List Int} {a : Int} (h0 : 0≤a) (h1 : a<l.length) (h : (List.range l.length).all (inRange l)=true) : 0≤rd l a∧rd l a≤l.length:=by
 rw [List.all_eq_true] at h
 have := h a.toNat (by simp; omega)
 unfold inRange at this
 rw [show ((a.toNat:Nat):Int)=a by omega] at this
 exact of_decide_eq_true this
def stepsOf (l : List Int) : Nat→Int→Nat→Int
 | 0, _, _ => -1
 | m+1, w, i => if rd l (w - 1)=0 then i else stepsOf l m (rd l (w - 1)) (i+1)
theorem stepsOf_neg (l : List Int) (h : (List.range l.length).all (inRange l)=true) : ∀ (m:Nat) (w:Int) (i:Nat), 0<w→w≤l.length→(decide (stepsOf l m w i<0)=!walkOk l m w)
 | 0, w, i, h0, h1 => by simp [stepsOf, walkOk]; omega
 | m+1, w, i, h0, h1 => by
  have hr := mem_rd (a := w - 1) (by omega) (by omega) h
  unfold stepsOf walkOk
  rw [if_neg (show ¬ w≤0 by omega), decide_eq_true hr, Bool.true_and]
  by_cases e : rd l (w - 1)=0
  ·rw [if_pos e, e, decide_eq_false (by omega)]
   cases m <;> simp [walkOk]
  ·rw [if_neg e]
   exact stepsOf_neg l h m _ _ (by omega) (by omega)
theorem impl_steps_l0 (l : List Int) (hl : l.length≤8) (h : (List.range l.length).all (inRange l)=true) (d:Nat) : ∀ (w:Int) (j:Nat), j+d=l.length→0<w→w≤l.length →
  Ev (fun k=>impl_steps.l0 k l w (l.length:Int) (j:Int)) (stepsOf l d w j):=by
 induction d with
 | zero =>
  intro w j hj h0 h1
  refine Ev.step (fun k=>impl_steps.l0.eq_2 ..) ?_
  exact Ev.neg (by omega) (Ev.ret rfl)
 | succ d ih =>
  intro w j hj h0 h1
  have hr := mem_rd (a := w - 1) (by omega) (by omega) h
  refine Ev.step (fun k=>impl_steps.l0.eq_2 ..) ?_
  rw [wrap_id (n := w - 1) (by omega) (by omega), wrap_add1 (by omega)]
  refine Ev.pos (by omega) (Ev.pos (by omega) (Ev.pos (by omega) (Ev.ite (fun e=>?_) (fun e=>?_))))
  ·exact Ev.ret (by unfold stepsOf; rw [if_pos e])
  ·exact Ev.eq (ih (rd l (w - 1)) (j+1) (by omega) (by omega) (by omega)) (by rw [stepsOf, if_neg e])
theorem impl_steps_ev (l : List Int) (hl : l.length≤8) (h : (List.range l.length).all (inRange l)=true) (w:Int) (h0 : 0<w) (h1 : w≤l.length) :
  Ev (fun k=>impl_steps.f k l w) (stepsOf l l.length w 0):=by
 unfold impl_steps.f
 exact impl_steps_l0 l hl h l.length w 0 (by omega) h0 h1
theorem impl_TreeOk_l1 (l : List Int) (hl : l.length≤8) (h : (List.range l.length).all (inRange l)=true) (r:Nat) (d:Nat) : ∀ (j:Nat), j+d=l.length →
  Ev (fun k=>impl_TreeOk.l1 k l (r:Int) (l.length:Int) (j:Int)) ((List.range' j (l.length - j)).all (fun i=>walkOk l l.length ((i:Int)+1)) && ((r:Int) == 1)):=by
 induction d with
 | zero =>
  intro j hj
  refine Ev.step (fun k=>impl_TreeOk.l1.eq_2 ..) ?_
  exact Ev.neg (by omega) (Ev.ret (by rw [show l.length - j=0 by omega]; rfl))
 | succ d ih =>
  intro j hj
  refine Ev.step (fun k=>impl_TreeOk.l1.eq_2 ..) ?_
  rw [wrap_add1 (by omega)]
  refine Ev.pos (by omega) (Ev.bind (impl_steps_ev l hl h _ (by omega) (by omega)) ?_)
  have hs := stepsOf_neg l h l.length ((j+1:Nat):Int) 0 (by omega) (by omega)
  refine Ev.ite (fun e=>?_) (fun e=>?_)
  ·rw [decide_eq_true e] at hs
   refine Ev.ret ?_
   rw [all_from _ _ _ (by omega), show walkOk l l.length ((j:Int)+1)=false by simpa using hs.symm]; rfl
  ·rw [decide_eq_false e] at hs
   refine Ev.eq (ih (j+1) (by omega)) ?_
   rw [all_from _ l.length j (by omega), show walkOk l l.length ((j:Int)+1)=true by simpa using hs.symm, Bool.true_and]
theorem impl_TreeOk_l0 (l : List Int) (h1 : 1≤l.length) (hl : l.length≤8) (d:Nat) : ∀ (r j:Nat), j+d=l.length→r≤j→(∀ i, i<j→inRange l i=true)→r+zerosFrom l j=l.count 0 →
  Ev (fun k=>impl_TreeOk.l0 k l (r:Int) l (l.length:Int) (j:Int)) (treeOk l):=by
 induction d with
 | zero =>
  intro r j hj hr hin hz
  have hall : (List.range l.length).all (inRange l)=true:=by
   rw [List.all_eq_true]; intro i hi; exact hin i (by have := List.mem_range.mp hi; omega)
  refine Ev.step (fun k=>impl_TreeOk.l0.eq_2 ..) ?_
  refine Ev.neg (by omega) (Ev.eq (impl_TreeOk_l1 l hl hall r l.length 0 (by omega)) ?_)
  have hz0 : zerosFrom l j=0 := by unfold zerosFrom; rw [List.drop_eq_nil_of_le (by omega)]; rfl
  have hrc : r=l.count 0 := by omega
  unfold treeOk
  rw [decide_eq_true (show 1≤l.length∧l.length≤8 from ⟨h1, hl⟩), Bool.true_and, Nat.sub_zero, ← List.range_eq_range', hrc]
  congr 1
  ·rw [Bool.eq_iff_iff, List.all_eq_true, List.all_eq_true]
   rw [List.all_eq_true] at hall
   constructor
   ·intro hw i hi
    have := hall i hi
    unfold inRange at this
    unfold okAt; rw [this, hw i hi]; rfl
   ·intro hw i hi
    have := hw i hi
    unfold okAt at this
    exact (Bool.and_eq_true_iff.mp this).2
  ·rw [Bool.eq_iff_iff]; simp; omega
 | succ d ih =>
  intro r j hj hr hin hz
  refine Ev.step (fun k=>impl_TreeOk.l0.eq_2 ..) ?_
  have hbad : ¬ (0≤rd l (j:Int)∧rd l (j:Int)≤(l.length:Int))→treeOk l=false:=by
   intro hb
   unfold treeOk
   have : (List.range l.length).all (okAt l)=false:=by
    rw [List.all_eq_false]
    exact ⟨j, by simp; omega, by unfold okAt; rw [decide_eq_false hb]; simp⟩
   rw [this]; simp
  refine Ev.pos (by omega) (Ev.pos (by omega) (Ev.pos (by omega) (Ev.ite (fun e=>?_) (fun e=>?_))))
  ·refine Ev.step (fun k=>impl_TreeOk.j2.eq_2 ..) (Ev.pos rfl (Ev.ret ?_))
   exact (hbad (by omega)).symm
  ·refine Ev.step (fun k=>impl_TreeOk.j2.eq_2 ..) (Ev.ite (fun e2=>?_) (fun e2=>?_))
   ·have e2' := of_decide_eq_true e2
    exact Ev.ret (hbad (by omega)).symm
   ·have e2' : ¬ rd l (j:Int) > (l.length:Int) := by simpa using e2
    have hin' : ∀ i, i<j+1→inRange l i=true:=by
     intro i hi
     by_cases e' : i=j
     ·subst e'; unfold inRange; exact decide_eq_true (by omega)
     ·exact hin i (by omega)
    have hzs := zerosFrom_succ l j (by omega)
    rw [wrap_add1 (n := j) (by omega)]
    refine Ev.ite (fun e3=>?_) (fun e3=>?_)
    ·rw [wrap_add1 (by omega)]
     rw [if_pos e3] at hzs
     exact ih (r+1) (j+1) (by omega) (by omega) hin' (by omega)
    ·rw [if_neg e3] at hzs
     exact ih r (j+1) (by omega) (by omega) hin' (by omega)
theorem impl_TreeOk_ev (l : List Int) : Ev (fun k=>impl_TreeOk.f k l) (treeOk l):=by
 unfold impl_TreeOk.f
 have hbad : ¬ (1≤l.length∧l.length≤8)→treeOk l=false:=by
  intro hb; unfold treeOk; rw [decide_eq_false hb]; rfl
 refine Ev.ite (fun e=>?_) (fun e=>?_)
 ·refine Ev.step (fun k=>impl_TreeOk.j0.eq_2 ..) (Ev.pos rfl (Ev.ret ?_))
  exact (hbad (by omega)).symm
 ·refine Ev.step (fun k=>impl_TreeOk.j0.eq_2 ..) (Ev.ite (fun e2=>?_) (fun e2=>?_))
  ·have e2' := of_decide_eq_true e2
   exact Ev.ret (hbad (by omega)).symm
  ·have e2' : ¬ (l.length:Int) > 8 := by simpa using e2
   exact impl_TreeOk_l0 l (by omega) (by omega) l.length 0 0 (by omega) (by omega) (fun i h => by omega) (by simp [zerosFrom])
theorem impl_put_l1 (l o y : List Int) (h : treeOk l=true) (ho : orderOk o l.length=true) (hy : PlacesTo o o.length y) (hyl : y.length=l.length+1) (d:Nat) : ∀ (j:Nat) (x : List Int), j+d=o.length→x.length=l.length→(∀ i : Nat, i<j→x[i]?=(putOf l o)[i]?) →
  Ev (fun k=>impl_put.l1 k l y x o (o.length:Int) (j:Int)) (putOf l o):=by
 have hl := treeOk_len h
 obtain ⟨_, h2, h3⟩:=orderOk_iff.mp ho
 have hlen : (putOf l o).length=o.length := by simp [putOf]
 induction d with
 | zero =>
  intro j x hj hx hp
  refine Ev.step (fun k=>impl_put.l1.eq_2 ..) (Ev.neg (by omega) (Ev.ret ?_))
  apply List.ext_getElem?
  intro i
  by_cases hi : i<j
  ·exact hp i hi
  ·rw [List.getElem?_eq_none (by omega), List.getElem?_eq_none (by omega)]
 | succ d ih =>
  intro j x hj hx hp
  have hg := h3 j (by omega)
  have hr := treeOk_rd h (j := (rd o j - 1).toNat) (by omega)
  rw [show (((rd o j - 1).toNat:Nat):Int)=rd o j - 1 by omega] at hr
  refine Ev.step (fun k=>impl_put.l1.eq_2 ..) ?_
  rw [wrap_id (n := rd o j - 1) (by omega) (by omega), wrap_add1 (by omega), Int.toNat_natCast]
  refine Ev.pos (by omega) (Ev.pos (by omega) (Ev.pos (by omega) (Ev.pos (by omega) (Ev.pos (by omega) (Ev.pos (by omega) (Ev.pos (by omega) (Ev.pos (by omega) ?_)))))))
  refine ih (j+1) _ (by omega) (by simpa using hx) ?_
  intro i hi
  by_cases e : i=j
  ·subst e
   have e3 : rd o i=o[i]'(by omega) := by simp [rd_nat, show i<o.length by omega]
   rw [List.getElem?_set_self (by omega), hy.whole hr.1 (by omega), List.getElem?_eq_getElem (by omega)]
   congr 1
   simp [putOf, e3]
  ·rw [List.getElem?_set_ne (by omega)]
   exact hp i (by omega)
theorem impl_put_l0 (l o : List Int) (h : treeOk l=true) (ho : orderOk o l.length=true) (d:Nat) : ∀ (j:Nat) (y : List Int), j+d=o.length→PlacesTo o j y→y.length=l.length+1 →
  Ev (fun k=>impl_put.l0 k l o y o (o.length:Int) (j:Int)) (putOf l o):=by
 have hl := treeOk_len h
 obtain ⟨_, h2, h3⟩:=orderOk_iff.mp ho
 induction d with
 | zero =>
  intro j y hj hy hyl
  refine Ev.step (fun k=>impl_put.l0.eq_2 ..) (Ev.neg (by omega) (Ev.pos (by omega) (Ev.pos (by omega) ?_)))
  rw [show j=o.length by omega] at hy
  exact impl_put_l1 l o y h ho hy hyl o.length 0 _ (by omega) (by simp) (fun i hi => by omega)
 | succ d ih =>
  intro j y hj hy hyl
  have hg := h3 j (by omega)
  refine Ev.step (fun k=>impl_put.l0.eq_2 ..) ?_
  rw [wrap_id (n := (j:Int)+1) (by omega) (by omega)]
  refine Ev.pos (by omega) (Ev.pos (by omega) (Ev.pos (by omega) (Ev.pos (by omega) (Ev.pos (by omega) ?_))))
  exact ih (j+1) _ (by omega) (hy.set ho (by omega)) (by simpa using hyl)
theorem impl_put_ev (l o : List Int) (h : treeOk l=true) (ho : orderOk o l.length=true) : Ev (fun k=>impl_put.f k l o) (putOf l o):=by
 have hl := treeOk_len h
 unfold impl_put.f
 rw [wrap_id (n := (l.length:Int)+1) (by omega) (by omega)]
 exact Ev.pos (by omega) (Ev.pos (by omega) (impl_put_l0 l o h ho o.length 0 _ (by omega) (PlacesTo.zero o _) (by simp)))
theorem rd_get (l : List Int) {i : Nat} (h : i<l.length) : rd l i=l[i] := by simp [rd_nat, h]
theorem nodup_iff_rd (l : List Int) : l.Nodup ↔ ∀ i j : Nat, i<j→j<l.length→rd l i≠rd l j:=by
 rw [List.nodup_iff_pairwise_ne, List.pairwise_iff_getElem]
 constructor
 ·intro h i j hij hj
  rw [rd_get l (by omega), rd_get l hj]
  exact h i j (by omega) hj hij
 ·intro h i j hi hj hij
  have := h i j hij hj
  rwa [rd_get l hi, rd_get l hj] at this
theorem orderOk_nodup {o : List Int} {many : Int} : orderOk o many=true ↔ (1≤many∧many≤8)∧(o.length:Int)=many∧o.Nodup∧∀ x, x ∈ o→1≤x∧x≤many:=by
 rw [orderOk_iff, nodup_iff_rd]
 constructor
 ·rintro ⟨h1, h2, h3⟩
  refine ⟨h1, h2, fun i j hij hj => (h3 j hj).2 i hij, fun x hx => ?_⟩
  obtain ⟨i, hi, rfl⟩:=List.getElem_of_mem hx
  have := (h3 i hi).1
  rwa [rd_get o hi] at this
 ·rintro ⟨h1, h2, h3, h4⟩
  refine ⟨h1, h2, fun i hi => ⟨?_, fun j hj => h3 j i hj hi⟩⟩
  rw [rd_get o hi]
  exact h4 _ (List.getElem_mem hi)
def SortedTo (x : List Int) (i:Nat) : Prop := ∀ a b : Nat, a<b→b<i→rd x a≤rd x b
def SameCount (x l : List Int) : Prop := x.length=l.length∧∀ v : Int, x.count v=l.count v
def SortedBut (x : List Int) (i j:Nat) : Prop := ∀ a b : Nat, a<b→b≤i→b≠j→rd x a≤rd x b
theorem rd_set (x : List Int) (i:Nat) (v:Int) (j:Nat) (h : i<x.length) : rd (x.set i v) j=if j=i then v else rd x j:=by
 rw [rd_nat, rd_nat, List.getD_eq_getElem?_getD, List.getD_eq_getElem?_getD]
 by_cases e : j=i
 ·subst e; simp [h]
 ·rw [List.getElem?_set_ne (by omega), if_neg e]
theorem swap_same {x l : List Int} (h : SameCount x l) {j : Nat} (hj : j+1<x.length) : SameCount ((x.set (j+1) (rd x j)).set j (rd x ((j+1:Nat):Int))) l:=by
 refine ⟨by simp [h.1], fun v=>?_⟩
 have hj2 : j<(x.set (j+1) (rd x j)).length := by simp; omega
 rw [List.count_set hj2, List.count_set hj, List.getElem_set_ne (by omega), ← rd_get x (i := j) (by omega), ← rd_get x (i := j+1) hj, ← h.2 v]
 have h1 : 0<x.count (rd x j) := List.count_pos_iff.mpr (by rw [rd_get x (by omega)]; exact List.getElem_mem _)
 have h2 : 0<x.count (rd x ((j+1:Nat):Int)) := List.count_pos_iff.mpr (by rw [rd_get x hj]; exact List.getElem_mem _)
 by_cases e1 : rd x j=v
 ·by_cases e2 : rd x ((j+1:Nat):Int)=v
  ·simp only [e1, e2, beq_self_eq_true, if_true]; rw [e1] at h1; omega
  ·have : (rd x ((j+1:Nat):Int) == v)=false := by simpa using e2
   simp only [e1, this, beq_self_eq_true, if_true, Bool.false_eq_true, if_false]; omega
 ·have e1' : (rd x j == v)=false := by simpa using e1
  by_cases e2 : rd x ((j+1:Nat):Int)=v
  ·simp only [e2, e1', beq_self_eq_true, if_true, Bool.false_eq_true, if_false]; rw [e2] at h2; omega
  ·have : (rd x ((j+1:Nat):Int) == v)=false := by simpa using e2
   simp only [this, e1', Bool.false_eq_true, if_false]; omega
theorem swap_sorted {x : List Int} {i j : Nat} (h : SortedBut x i (j+1)) (hj : j+1≤i) (hi : i<x.length) (hlt : rd x ((j+1:Nat):Int)<rd x j) : SortedBut ((x.set (j+1) (rd x j)).set j (rd x ((j+1:Nat):Int))) i j:=by
 intro a b hab hb hne
 have hj2 : j<(x.set (j+1) (rd x j)).length := by simp; omega
 rw [rd_set _ _ _ _ hj2, rd_set _ _ _ _ hj2, rd_set _ _ _ _ (by omega), rd_set _ _ _ _ (by omega), if_neg hne]
 by_cases e1 : b=j+1
 ·subst e1
  rw [if_pos rfl]
  by_cases e2 : a=j
  ·rw [if_pos e2]; omega
  ·rw [if_neg e2, if_neg (by omega)]
   exact h a j (by omega) (by omega) (by omega)
 ·rw [if_neg e1]
  by_cases e2 : a=j
  ·rw [if_pos e2]
   exact h (j+1) b (by omega) hb e1
  ·rw [if_neg e2]
   by_cases e3 : a=j+1
   ·rw [if_pos e3]
    exact h j b (by omega) hb e1
   ·rw [if_neg e3]
    exact h a b hab hb e1
theorem sorted_of_but {x : List Int} {i j : Nat} (h : SortedBut x i j) (hj : j=0 ∨ ∃ p : Nat, j=p+1∧rd x p≤rd x j) : SortedTo x (i+1):=by
 intro a b hab hb
 by_cases e : b=j
 ·rcases hj with h0 | ⟨p,hp, hle⟩
  ·omega
  ·by_cases e2 : a=p
   ·subst e2; rw [e]; exact hle
   ·have := h a p (by omega) (by omega) (by omega)
    rw [e]; omega
 ·exact h a b hab (by omega) e
theorem order_of_sorted {s l : List Int} (hs : SortedTo s s.length) (hc : SameCount s l) (h1 : 1≤l.length) (h8 : l.length≤8) : decide (∀ i : Nat, i<s.length→rd s i=(i:Int)+1)=orderOk l l.length:=by
 rw [Bool.eq_iff_iff, decide_eq_true_iff, orderOk_nodup]
 constructor
 ·intro h
  have hnd : s.Nodup:=by
   rw [nodup_iff_rd]
   intro i j hij hj
   rw [h i (by omega), h j hj]; omega
  have hnl : l.Nodup:=by
   rw [List.nodup_iff_count]
   intro a
   rw [← hc.2 a]
   exact List.nodup_iff_count.mp hnd a
  refine ⟨by omega, rfl, hnl, fun x hx => ?_⟩
  have hx2 : x ∈ s := by rw [← List.count_pos_iff, hc.2 x, List.count_pos_iff]; exact hx
  obtain ⟨i, hi, e⟩:=List.getElem_of_mem hx2
  have := h i hi
  rw [rd_get s hi, e] at this
  have := hc.1
  omega
 ·rintro ⟨_, _, hnl, hr⟩
  have hnd : s.Nodup:=by
   rw [List.nodup_iff_count]
   intro a
   rw [hc.2 a]
   exact List.nodup_iff_count.mp hnl a
  have hrs : ∀ i : Nat, i<s.length→1≤rd s i∧rd s i≤l.length:=by
   intro i hi
   refine hr _ ?_
   rw [← List.count_pos_iff, ← hc.2, List.count_pos_iff, rd_get s hi]
   exact List.getElem_mem _
  have hst : ∀ i : Nat, i+1<s.length→rd s i<rd s ((i+1:Nat):Int):=by
   intro i hi
   have a1 := hs i (i+1) (by omega) hi
   have a2 := (nodup_iff_rd s).mp hnd i (i+1) (by omega) hi
   omega
  have hlow : ∀ i : Nat, i<s.length→(i:Int)+1≤rd s i:=by
   intro i
   induction i with
   | zero => intro hi; have := hrs 0 hi; omega
   | succ i ih =>
    intro hi
    have := ih (by omega)
    have := hst i hi
    omega
  have hhigh : ∀ d i : Nat, i+d+1=s.length→rd s i+d≤l.length:=by
   intro d
   induction d with
   | zero => intro i hi; have := hrs i (by omega); omega
   | succ d ih =>
    intro i hi
    have h1 := ih (i+1) (by omega)
    have h2 := hst i (by omega)
    omega
  intro i hi
  have a1 := hlow i hi
  have a2 := hhigh (s.length - i - 1) i (by omega)
  have a3 := hc.1
  omega
theorem less_int (a b:Int) : cmp_Less_int.f a b=some (decide (a<b)):=by
 unfold cmp_Less_int.f cmp_isNaN_int.f
 simp
theorem insertion_l1 (n:Nat) (hn : n≤8) (i:Nat) (hi : i<n) (l r : List Int) (next : ∀ x : List Int, x.length=n→SameCount x l→SortedTo x (i+1)→∃ s, Ev (fun k=>slices_insertionSortOrdered_int.l0 k x 0 (n:Int) ((i+1:Nat):Int)) s∧SameCount s l∧SortedTo s n) :
  ∀ (j:Nat) (x : List Int), j≤i→x.length=n→SameCount x l→SortedBut x i j→∃ s, Ev (fun k=>slices_insertionSortOrdered_int.l1 k x 0 (n:Int) (i:Int) (j:Int)) s∧SameCount s l∧SortedTo s n
 | 0, x, hj, hx, hc, hs => by
  obtain ⟨s, h1, h2, h3⟩:=next x hx hc (sorted_of_but hs (.inl rfl))
  refine ⟨s, Ev.step (fun k=>slices_insertionSortOrdered_int.l1.eq_2 ..) (Ev.neg (by omega) ?_), h2, h3⟩
  rw [wrap_add1 (by omega)]
  exact h1
 | j+1, x, hj, hx, hc, hs => by
  have e1 : wrap64 (((j+1:Nat):Int) - 1)=(j:Int) := by rw [wrap_id (by omega) (by omega)]; omega
  have hless : cmp_Less_int.f (rd x ((j+1:Nat):Int)) (rd x j)=some (decide (rd x ((j+1:Nat):Int)<rd x j)) := less_int _ _
  by_cases h : rd x ((j+1:Nat):Int)<rd x j
  ·obtain ⟨s, h1, h2, h3⟩:=insertion_l1 n hn i hi l r next j _ (by omega) (by simpa using hx) (swap_same hc (by omega)) (swap_sorted hs hj (by omega) h)
   refine ⟨s, Ev.step (fun k=>slices_insertionSortOrdered_int.l1.eq_2 ..) ?_, h2, h3⟩
   rw [e1]
   refine Ev.pos (by omega) (Ev.pos (by omega) (Ev.pos (by omega) (Ev.pos (by omega) (Ev.pos (by omega) (Ev.bind0 hless (Ev.pos (decide_eq_true h) ?_))))))
   rw [Int.toNat_natCast, Int.toNat_natCast]
   exact h1
  ·obtain ⟨s, h1, h2, h3⟩:=next x hx hc (sorted_of_but hs (.inr ⟨j, rfl,by omega⟩))
   refine ⟨s, Ev.step (fun k=>slices_insertionSortOrdered_int.l1.eq_2 ..) ?_, h2, h3⟩
   rw [e1, wrap_add1 (by omega)]
   exact Ev.pos (by omega) (Ev.pos (by omega) (Ev.pos (by omega) (Ev.pos (by omega) (Ev.pos (by omega) (Ev.bind0 hless (Ev.neg (by simpa using h) h1))))))
theorem insertion_l0 (n:Nat) (hn : n≤8) (l : List Int) (d:Nat) : ∀ (i:Nat) (x : List Int), i+d=n→x.length=n→SameCount x l→SortedTo x i→∃ s, Ev (fun k=>slices_insertionSortOrdered_int.l0 k x 0 (n:Int) (i:Int)) s∧SameCount s l∧SortedTo s n:=by
 induction d with
 | zero =>
  intro i x hi hx hc hs
  refine ⟨x, Ev.step (fun k=>slices_insertionSortOrdered_int.l0.eq_2 ..) (Ev.neg (by omega) (Ev.ret rfl)), hc, ?_⟩
  rw [show n=i by omega]; exact hs
 | succ d ih =>
  intro i x hi hx hc hs
  obtain ⟨s, h1, h2, h3⟩:=insertion_l1 n hn i (by omega) l [] (fun x' hx' hc' hs' => ih (i+1) x' (by omega) hx' hc' hs') i x (Nat.le_refl _) hx hc (fun a b hab hb hne => hs a b hab (by omega))
  exact ⟨s, Ev.step (fun k=>slices_insertionSortOrdered_int.l0.eq_2 ..) (Ev.pos (by omega) h1), h2, h3⟩
theorem sort_ev (l : List Int) (h1 : 1≤l.length) (h8 : l.length≤8) : ∃ s, Ev (fun k=>slices_Sort_int_int.f k l) s∧SameCount s l∧SortedTo s l.length:=by
 obtain ⟨s, hs, h2, h3⟩:=insertion_l0 l.length h8 l (l.length - 1) 1 l (by omega) rfl ⟨rfl, fun _=>rfl⟩ (fun a b hab hb => by omega)
 refine ⟨s, ?_, h2, h3⟩
 unfold slices_Sort_int_int.f
 have hw : IntKind.u64.wrap (l.length:Int)=(l.length:Int):=by
  simp [IntKind.wrap, IntKind.bits, IntKind.signed]; omega
 rw [hw]
 refine Ev.bind0 (a := (Lib.bitLen (l.length:Int).toNat:Int)) (by unfold bits_Len.f; rw [if_pos (by omega)]) ?_
 unfold slices_pdqsortOrdered_int.f slices_insertionSortOrdered_int.f
 rw [show wrap64 (0+1)=((1:Nat):Int) by decide +kernel]
 exact Ev.bind (Ev.pos (by omega) hs) (Ev.ret rfl)
theorem impl_OrderOk_ev (o : List Int) (many:Int) : Ev (fun k=>impl_OrderOk.f k o many) (orderOk o many):=by
 unfold impl_OrderOk.f
 by_cases h : 1≤many∧many≤8∧(o.length:Int)=many
 ·obtain ⟨h1, h2, rfl⟩:=h
  obtain ⟨s, hs, hc, hst⟩:=sort_ev o (by omega) (by omega)
  refine Ev.pos ⟨h1, h2, rfl⟩ (Ev.bind hs (Ev.pos (by have := hc.1; omega) (Ev.ret ?_)))
  exact order_of_sorted (by rw [hc.1]; exact hst) hc (by omega) (by omega)
 ·refine Ev.neg h (Ev.ret ?_)
  symm
  unfold orderOk
  rw [decide_eq_false_iff_not]
  exact fun h2=>h ⟨h2.1.1, h2.1.2, h2.2.1⟩
theorem impl_PutInOrder_ev (l o : List Int) : Ev (fun k=>impl_PutInOrder.f k l o) (putInOrder l o):=by
 unfold impl_PutInOrder.f putInOrder
 refine Ev.bind (impl_TreeOk_ev l) (Ev.ite (fun h=>?_) (fun h=>?_))
 ·refine Ev.bind (impl_OrderOk_ev o _) (Ev.ite (fun ho=>?_) (fun ho=>?_))
  ·rw [if_pos ⟨h, ho⟩]
   exact Ev.bind (impl_put_ev l o h ho) (Ev.ret rfl)
  ·rw [if_neg (fun h2=>ho h2.2)]; exact Ev.ret rfl
 ·rw [if_neg (fun h2=>h h2.1)]; exact Ev.ret rfl
theorem slices_Index_l0 (l : List Int) (v:Int) (hl : l.length≤1048576) (d:Nat) : ∀ (j:Nat), j+d=l.length →
  Ev (fun k=>slices_Index_int_int.l0 k l v (l.length:Int) (j:Int)) (indexFrom l v l.length j):=by
 induction d with
 | zero =>
  intro j hj
  refine Ev.step (fun k=>slices_Index_int_int.l0.eq_2 ..) ?_
  exact Ev.neg (by omega) (Ev.ret (by unfold indexFrom; rw [show l.length - j=0 by omega]; rfl))
 | succ d ih =>
  intro j hj
  refine Ev.step (fun k=>slices_Index_int_int.l0.eq_2 ..) ?_
  have hr : List.range' j (l.length - j)=j :: List.range' (j+1) (l.length - (j+1)):=by
   rw [show l.length - j=(l.length - (j+1))+1 by omega, List.range'_succ]
  refine Ev.pos (by omega) (Ev.pos (by omega) (Ev.pos (by omega) (Ev.ite (fun e=>?_) (fun e=>?_))))
  ·exact Ev.ret (by unfold indexFrom; rw [hr, List.find?_cons_of_pos (by simpa using e.symm)])
  ·rw [wrap_add1 (by omega)]
   refine Ev.eq (ih (j+1) (by omega)) ?_
   unfold indexFrom
   rw [hr, List.find?_cons_of_neg (by simpa using fun h=>e h.symm)]
theorem slices_Index_ev (l : List Int) (v:Int) (hl : l.length≤1048576) : Ev (fun k=>slices_Index_int_int.f k l v) (indexFrom l v l.length 0):=by
 unfold slices_Index_int_int.f
 exact slices_Index_l0 l v hl l.length 0 (by omega)
theorem impl_RootOf_ev (l : List Int) : Ev (fun k=>impl_RootOf.f k l) (rootOf l):=by
 unfold impl_RootOf.f
 refine Ev.bind (impl_TreeOk_ev l) (Ev.ite (fun h=>?_) (fun h=>?_))
 ·have hl := treeOk_len h
  obtain ⟨i, h1, h2, h3⟩:=rootOf_spec h
  have e : rootOf l=indexFrom l 0 l.length 0+1 := by unfold rootOf; rw [if_pos h]
  refine Ev.bind (slices_Index_ev l 0 (by omega)) (Ev.ret ?_)
  rw [wrap_id (by omega) (by omega), e]
 ·exact Ev.ret (by unfold rootOf; rw [if_neg h])
theorem impl_flat_l0 (l : List Int) (w:Int) (hl : l.length≤8) (m:Nat) (hm : m<8) (ih : ∀ i : Nat, i<l.length→rd l i=w→Ev (fun k=>impl_flatOrder.f k l ((i:Int)+1)) (flatF l m ((i:Int)+1))) (d:Nat) :
  ∀ (j:Nat) (x y : List Int), j+d=l.length→x.length+y.length+(d+1) * 20 ^ m≤1000000000000→Ev (fun k=>impl_flatOrder.l0 k l w x y l (l.length:Int) (j:Int)) ((x ++ (kidsL l w l.length j).flatMap (fun i : Nat => flatF l m ((i:Int)+1))) ++ (y ++ (kidsR l w l.length j).flatMap (fun i : Nat => flatF l m ((i:Int)+1)))):=by
 induction d with
 | zero =>
  intro j x y hj hx
  refine Ev.step (fun k=>impl_flatOrder.l0.eq_2 ..) (Ev.neg (by omega) (Ev.pos (by omega) (Ev.ret ?_)))
  rw [kidsL_end l w (by omega), kidsR_end l w (by omega)]; simp
 | succ d ihd =>
  intro j x y hj hx
  have c1 : (j:Int)<(l.length:Int) := by clear hx; omega
  have c2 : 0≤(j:Int) := Int.natCast_nonneg _
  have hf := flatF_small l hl m ((j:Int)+1)
  have hp : (d+1+1) * 20 ^ m=(d+1) * 20 ^ m+20 ^ m := by rw [Nat.add_mul (d+1) 1, Nat.one_mul]
  have e1 : wrap64 ((j:Int)+1)=(j:Int)+1 := by clear hx hp; exact wrap_id (by omega) (by omega)
  have next : ∀ x' y' : List Int, x'.length+y'.length+(d+1) * 20 ^ m≤1000000000000→Ev (fun k=>impl_flatOrder.l0 k l w x' y' l (l.length:Int) ((j:Int)+1)) ((x' ++ (kidsL l w l.length (j+1)).flatMap (fun i : Nat => flatF l m ((i:Int)+1))) ++ (y' ++ (kidsR l w l.length (j+1)).flatMap (fun i : Nat => flatF l m ((i:Int)+1)))) := fun x' y' h => by
   have := ihd (j+1) x' y' (by omega) h
   rw [show ((j+1:Nat):Int)=(j:Int)+1 by omega] at this
   exact this
  refine Ev.step (fun k=>impl_flatOrder.l0.eq_2 ..) ?_
  rw [e1]
  refine Ev.pos c1 (Ev.pos c2 (Ev.pos c1 (Ev.ite (fun e=>?_) (fun e=>?_))))
  ·refine Ev.step (fun k=>impl_flatOrder.j1.eq_2 ..) ?_
   rw [e1]
   refine Ev.ite (fun e2=>?_) (fun e2=>?_)
   ·have e2' := of_decide_eq_true e2
    refine Ev.bind (ih j (by omega) e) (Ev.pos (by omega) ?_)
    rw [kidsL_yes l w (by omega) ⟨e, e2'⟩, kidsR_no l w (by omega) (fun h=>h.2 e2'), List.flatMap_cons, ← List.append_assoc x]
    exact next _ _ (by rw [List.length_append]; omega)
   ·have e2' : ¬ (j:Int)+1<w := by simpa using e2
    refine Ev.pos e (Ev.bind (ih j (by omega) e) (Ev.pos (by omega) ?_))
    rw [kidsL_no l w (by omega) (fun h=>e2' h.2), kidsR_yes l w (by omega) ⟨e, e2'⟩, List.flatMap_cons, ← List.append_assoc y]
    exact next _ _ (by rw [List.length_append]; omega)
  ·refine Ev.step (fun k=>impl_flatOrder.j1.eq_2 ..) ?_
   rw [e1]
   refine Ev.neg (by simp) (Ev.neg e ?_)
   rw [kidsL_no l w (by omega) (fun h=>e h.1), kidsR_no l w (by omega) (fun h=>e h.1)]
   exact next _ _ (by omega)
theorem impl_flatOrder_ev (l : List Int) (h : treeOk l=true) : ∀ (m d:Nat) (w:Int), 1≤w∧w≤l.length→Deep l d w→l.length≤d+m→m≤8→Ev (fun k=>impl_flatOrder.f k l w) (flatF l m w)
 | 0, d, w, hw, hd, hm, hm8 => by
  have := deep_lt h hw.1 hw.2 hd
  omega
 | m+1, d, w, hw, hd, hm, hm8 => by
  have hl := treeOk_len h
  have hp := pow20_le (m := m) (by omega)
  refine Ev.step (fun k=>impl_flatOrder.f.eq_2 ..) ?_
  refine impl_flat_l0 l w hl.2 m (by omega) (fun i hi e => impl_flatOrder_ev l h m (d+1) _ ⟨by omega,by omega⟩ (deep_kid hw hd e) (by omega) (by omega)) l.length 0 [] [w] (by omega) ?_
  have : (l.length+1) * 20 ^ m≤9 * 20 ^ m := Nat.mul_le_mul_right _ (by omega)
  simp only [List.length_nil, List.length_singleton]
  omega
theorem impl_FlatOrder_ev (l : List Int) : Ev (fun k=>impl_FlatOrder.f k l) (flatOrder l):=by
 unfold impl_FlatOrder.f flatOrder
 refine Ev.bind (impl_TreeOk_ev l) (Ev.ite (fun h=>?_) (fun h=>?_))
 ·have hl := treeOk_len h
  obtain ⟨i, h1, h2, h3⟩:=rootOf_spec h
  rw [if_pos h]
  refine Ev.bind (impl_RootOf_ev l) (Ev.bind (impl_flatOrder_ev l h l.length 0 _ ⟨by omega,by omega⟩ ?_ (by omega) (by omega)) (Ev.bind0 rfl (Ev.ret rfl)))
  rw [h3]
  show rd l ((i:Int)+1 - 1)=0
  rw [show (i:Int)+1 - 1=(i:Int) by omega]
  exact h2
 ·rw [if_neg h]; exact Ev.ret rfl
theorem impl_MadeFlat_ev (l : List Int) : Ev (fun k=>impl_MadeFlat.f k l) (madeFlat l):=by
 unfold impl_MadeFlat.f
 exact Ev.bind (impl_FlatOrder_ev l) (Ev.bind (impl_PutInOrder_ev l _) (Ev.ret rfl))
theorem spec_RootOf_l0 (l : List Int) (h : treeOk l=true) (d:Nat) : ∀ j : Nat, j+d=l.length→(∃ i : Nat, j≤i∧i<l.length∧rd l i=0)→Ev (fun k=>spec_RootOf.l0 k l (j:Int)) (indexFrom l 0 l.length j+1):=by
 have hl := treeOk_len h
 induction d with
 | zero => intro j hj ⟨i, h1, h2, _⟩; omega
 | succ d ih =>
  intro j hj ⟨i, h1, h2, h3⟩
  refine Ev.step (fun k=>spec_RootOf.l0.eq_2 ..) (Ev.pos (by omega) (Ev.bind (spec_TreeOk_ev l) ?_))
  rw [h, indexFrom_step l 0 (by omega)]
  refine Ev.step (fun k=>spec_RootOf.j1.eq_2 ..) (Ev.pos rfl (Ev.pos (by omega) (Ev.pos (by omega) (Ev.ite (fun e=>?_) (fun e=>?_)))))
  ·rw [if_pos e]
   exact Ev.ret (wrap_id (by omega) (by omega))
  ·rw [if_neg e, wrap_add1 (by omega)]
   refine ih (j+1) (by omega) ⟨i, ?_, h2, h3⟩
   by_cases e2 : i=j
   ·subst e2; exact absurd h3 e
   ·omega
theorem spec_RootOf_ev (l : List Int) : Ev (fun k=>spec_RootOf.f k l) (rootOf l):=by
 unfold spec_RootOf.f rootOf
 by_cases h : treeOk l=true
 ·rw [if_pos h]
  obtain ⟨i, h1, h2⟩:=exists_root h
  exact spec_RootOf_l0 l h l.length 0 (by omega) ⟨i,by omega, h1, h2⟩
 ·rw [if_neg h]
  refine Ev.step (fun k=>spec_RootOf.l0.eq_2 ..) (Ev.ite (fun e=>?_) (fun e=>?_))
  ·refine Ev.bind (spec_TreeOk_ev l) ?_
   rw [show treeOk l=false by simpa using h]
   exact Ev.step (fun k=>spec_RootOf.j1.eq_2 ..) (Ev.neg (by simp) (Ev.ret rfl))
  ·exact Ev.step (fun k=>spec_RootOf.j1.eq_2 ..) (Ev.neg (by simp) (Ev.ret rfl))
theorem spec_walk_l1 (l : List Int) (w:Int) (hl : l.length≤8) (m:Nat) (hm : m<8) (hw : 1≤w∧w≤l.length) (ih : ∀ i : Nat, i<l.length→rd l i=w→Ev (fun k=>spec_l8Walk.f k l ((i:Int)+1)) (flatF l m ((i:Int)+1))) (d:Nat) :
  ∀ (j:Nat) (x : List Int), j+d=l.length→w≤j→x.length+(d+1) * 20 ^ m≤1000000000000→Ev (fun k=>spec_l8Walk.l1 k l w x ((j:Int)+1)) (x ++ (kidsR l w l.length j).flatMap (fun i : Nat => flatF l m ((i:Int)+1))):=by
 induction d with
 | zero =>
  intro j x hj hwj hx
  refine Ev.step (fun k=>spec_l8Walk.l1.eq_2 ..) (Ev.neg (by omega) (Ev.ret ?_))
  rw [kidsR_end l w (by omega)]; simp
 | succ d ihd =>
  intro j x hj hwj hx
  have hf := flatF_small l hl m ((j:Int)+1)
  have hp : (d+1+1) * 20 ^ m=(d+1) * 20 ^ m+20 ^ m := by rw [Nat.add_mul (d+1) 1, Nat.one_mul]
  refine Ev.step (fun k=>spec_l8Walk.l1.eq_2 ..) ?_
  rw [wrap_id (n := (j:Int)+1 - 1) (by omega) (by omega), show (j:Int)+1 - 1=(j:Int) by omega, wrap_id (n := (j:Int)+1+1) (by omega) (by omega)]
  refine Ev.pos (by omega) (Ev.pos (by omega) (Ev.pos (by omega) (Ev.ite (fun e=>?_) (fun e=>?_))))
  ·refine Ev.bind (ih j (by omega) e) (Ev.pos (by omega) ?_)
   rw [kidsR_yes l w (by omega) ⟨e,by omega⟩, List.flatMap_cons, ← List.append_assoc]
   exact ihd (j+1) _ (by omega) (by omega) (by rw [List.length_append]; omega)
  ·rw [kidsR_no l w (by omega) (fun h=>e h.1)]
   exact ihd (j+1) _ (by omega) (by omega) (by omega)
theorem spec_walk_l0 (l : List Int) (w:Int) (hl : l.length≤8) (m:Nat) (hm : m<8) (hw : 1≤w∧w≤l.length) (hself : rd l (w - 1)≠w) (ih : ∀ i : Nat, i<l.length→rd l i=w→Ev (fun k=>spec_l8Walk.f k l ((i:Int)+1)) (flatF l m ((i:Int)+1))) (d:Nat) :
  ∀ (j:Nat) (x : List Int), j+d+1=w→x.length+(d+10) * 20 ^ m≤1000000000000→Ev (fun k=>spec_l8Walk.l0 k l w x ((j:Int)+1)) (x ++ ((kidsL l w l.length j).flatMap (fun i : Nat => flatF l m ((i:Int)+1)) ++ ([w] ++ (kidsR l w l.length 0).flatMap (fun i : Nat => flatF l m ((i:Int)+1))))):=by
 have h20 : 1≤20 ^ m := Nat.one_le_pow _ _ (by omega)
 induction d with
 | zero =>
  intro j x hj hx
  have e0 : kidsL l w l.length j=[]:=by
   unfold kidsL
   rw [List.filter_eq_nil_iff]
   intro i hi
   have := List.mem_range'_1.mp hi
   simp; intro _; omega
  have e1 : kidsR l w l.length 0=kidsR l w l.length (j+1):=by
   have : ∀ q : Nat, q≤j+1→kidsR l w l.length 0=kidsR l w l.length q:=by
    intro q
    induction q with
    | zero => intro _; rfl
    | succ q ihq =>
     intro hq
     rw [ihq (by omega), kidsR_no l w (by omega)]
     rintro ⟨h1, h2⟩
     have : q=j := by omega
     subst this
     exact hself (by rw [show w - 1=(q:Int) by omega]; exact h1)
   exact this (j+1) (Nat.le_refl _)
  refine Ev.step (fun k=>spec_l8Walk.l0.eq_2 ..) (Ev.neg (by omega) (Ev.pos (by omega) ?_))
  rw [e0, e1, List.flatMap_nil, List.nil_append, ← List.append_assoc, wrap_id (n := w+1) (by omega) (by omega), show w+1=((j+1:Nat):Int)+1 by omega]
  refine spec_walk_l1 l w hl m hm hw ih (l.length - (j+1)) (j+1) _ (by omega) (by omega) ?_
  have : (l.length - (j+1)+1) * 20 ^ m≤8 * 20 ^ m := Nat.mul_le_mul_right _ (by omega)
  rw [List.length_append, List.length_singleton]
  rw [Nat.zero_add] at hx
  omega
 | succ d ihd =>
  intro j x hj hx
  have hf := flatF_small l hl m ((j:Int)+1)
  have hp : (d+1+10) * 20 ^ m=(d+10) * 20 ^ m+20 ^ m := by rw [show d+1+10=(d+10)+1 by omega, Nat.add_mul (d+10) 1, Nat.one_mul]
  refine Ev.step (fun k=>spec_l8Walk.l0.eq_2 ..) ?_
  rw [wrap_id (n := (j:Int)+1 - 1) (by omega) (by omega), show (j:Int)+1 - 1=(j:Int) by omega, wrap_id (n := (j:Int)+1+1) (by omega) (by omega)]
  refine Ev.pos (by omega) (Ev.pos (by omega) (Ev.pos (by omega) (Ev.ite (fun e=>?_) (fun e=>?_))))
  ·refine Ev.bind (ih j (by omega) e) (Ev.pos (by omega) ?_)
   rw [kidsL_yes l w (by omega) ⟨e,by omega⟩, List.flatMap_cons]
   simp only [List.append_assoc]
   rw [← List.append_assoc x]
   exact ihd (j+1) _ (by omega) (by rw [List.length_append]; omega)
  ·rw [kidsL_no l w (by omega) (fun h=>e h.1)]
   exact ihd (j+1) _ (by omega) (by omega)
theorem spec_l8Walk_ev (l : List Int) (h : treeOk l=true) : ∀ (m d:Nat) (w:Int), 1≤w∧w≤l.length→Deep l d w→l.length≤d+m→m≤8→Ev (fun k=>spec_l8Walk.f k l w) (flatF l m w)
 | 0, d, w, hw, hd, hm, hm8 => by
  have := deep_lt h hw.1 hw.2 hd
  omega
 | m+1, d, w, hw, hd, hm, hm8 => by
  have hl := treeOk_len h
  have hself := treeOk_ne h (j := (w - 1).toNat) (by omega)
  rw [show (((w - 1).toNat:Nat):Int)=w - 1 by omega] at hself
  have hp := pow20_le (m := m) (by omega)
  refine Ev.step (fun k=>spec_l8Walk.f.eq_2 ..) ?_
  have := spec_walk_l0 l w hl.2 m (by omega) hw (by omega) (fun i hi e => spec_l8Walk_ev l h m (d+1) _ ⟨by omega,by omega⟩ (deep_kid hw hd e) (by omega) (by omega)) (w - 1).toNat 0 [] (by omega) (by
   have : ((w - 1).toNat+10) * 20 ^ m≤18 * 20 ^ m := Nat.mul_le_mul_right _ (by omega)
   simp only [List.length_nil]
   omega)
  exact this
theorem spec_FlatOrder_ev (l : List Int) : Ev (fun k=>spec_FlatOrder.f k l) (flatOrder l):=by
 unfold spec_FlatOrder.f flatOrder
 refine Ev.bind (spec_TreeOk_ev l) (Ev.ite (fun h=>?_) (fun h=>?_))
 ·have hl := treeOk_len h
  obtain ⟨i, h1, h2, h3⟩:=rootOf_spec h
  rw [if_pos h]
  refine Ev.bind (spec_RootOf_ev l) (Ev.bind (spec_l8Walk_ev l h l.length 0 _ ⟨by omega,by omega⟩ ?_ (by omega) (by omega)) (Ev.ret rfl))
  rw [h3]
  show rd l ((i:Int)+1 - 1)=0
  rw [show (i:Int)+1 - 1=(i:Int) by omega]
  exact h2
 ·rw [if_neg h]; exact Ev.ret rfl
theorem spec_MadeFlat_ev (l : List Int) : Ev (fun k=>spec_MadeFlat.f k l) (madeFlat l):=by
 unfold spec_MadeFlat.f
 exact Ev.bind (spec_FlatOrder_ev l) (Ev.bind (spec_PutInOrder_ev l _ (flatOrder_small l)) (Ev.ret rfl))
theorem sameInts_l0 (l m : List Int) (hl : l.length≤1099511627776) (hm : l.length=m.length) (d:Nat) : ∀ (j:Nat), j+d=l.length→(∀ i, i<j→l[i]?=m[i]?)→Ev (fun k=>laws_sameInts.l0 k l m (j:Int)) (decide (l=m)):=by
 induction d with
 | zero =>
  intro j hj h
  refine Ev.step (fun k=>laws_sameInts.l0.eq_2 ..) ?_
  refine Ev.neg (by omega) (Ev.ret ?_)
  symm
  rw [decide_eq_true_iff]
  apply List.ext_getElem?
  intro i
  by_cases hi : i<j
  ·exact h i hi
  ·rw [List.getElem?_eq_none (by omega), List.getElem?_eq_none (by omega)]
 | succ d ih =>
  intro j hj h
  refine Ev.step (fun k=>laws_sameInts.l0.eq_2 ..) ?_
  refine Ev.pos (by omega) (Ev.pos (by omega) (Ev.pos (by omega) (Ev.ite ?_ ?_)))
  ·intro e
   rw [wrap_add1 (by omega)]
   refine ih (j+1) (by omega) ?_
   intro i hi
   by_cases e' : i=j
   ·subst e'
    rw [rd_nat, rd_nat] at e
    rw [List.getElem?_eq_getElem (by omega), List.getElem?_eq_getElem (by omega)]
    simpa [List.getD_eq_getElem?_getD, show i<l.length by omega, show i<m.length by omega] using e
   ·exact h i (by omega)
  ·intro e
   refine Ev.ret ?_
   symm
   rw [decide_eq_false_iff_not]
   intro e'; subst e'; exact e rfl
theorem sameInts_ev (l m : List Int) (hl : l.length≤1048576) : Ev (fun k=>laws_sameInts.f k l m) (decide (l=m)):=by
 unfold laws_sameInts.f
 refine Ev.ite (fun h=>?_) (fun h=>?_)
 ·exact sameInts_l0 l m (by omega) (by omega) l.length 0 (by omega) (fun i h => by omega)
 ·refine Ev.ret ?_
  symm
  rw [decide_eq_false_iff_not]
  intro e; subst e; exact h rfl
theorem alive_ev : Ev (fun k=>laws_alive.f k) true:=by
 unfold laws_alive.f
 refine Ev.bind (impl_TreeOk_ev _) (Ev.pos (by decide +kernel) (Ev.bind (impl_TreeOk_ev _) (Ev.ret (by decide +kernel))))
def sumTo (f : Nat→Int) : Nat→Int
 | 0 => 0
 | n+1 => sumTo f n+f n
theorem sumTo_congr {f g : Nat→Int} : ∀ (n:Nat), (∀ i, i<n→f i=g i)→sumTo f n=sumTo g n
 | 0, _ => rfl
 | n+1, h => by rw [sumTo, sumTo, sumTo_congr n (fun i hi => h i (by omega)), h n (by omega)]
theorem sumTo_add (f g : Nat→Int) : ∀ n : Nat, sumTo (fun i=>f i+g i) n=sumTo f n+sumTo g n
 | 0 => rfl
 | n+1 => by rw [sumTo, sumTo, sumTo, sumTo_add f g n]; omega
theorem sumTo_zero : ∀ n : Nat, sumTo (fun _=>0) n=0
 | 0 => rfl
 | n+1 => by rw [sumTo, sumTo_zero n]; rfl
theorem sumTo_one : ∀ n : Nat, sumTo (fun _=>1) n=n
 | 0 => rfl
 | n+1 => by rw [sumTo, sumTo_one n]; omega
theorem sumTo_le {f g : Nat→Int} : ∀ (n:Nat), (∀ i, i<n→f i≤g i)→sumTo f n≤sumTo g n
 | 0, _ => by simp [sumTo]
 | n+1, h => by
  have := sumTo_le n (fun i hi => h i (by omega))
  have := h n (by omega)
  simp only [sumTo]; omega
theorem sumTo_swap (f : Nat→Nat→Int) (m:Nat) : ∀ n : Nat, sumTo (fun i=>sumTo (fun j=>f i j) m) n=sumTo (fun j=>sumTo (fun i=>f i j) n) m
 | 0 => (sumTo_zero m).symm
 | n+1 => by
  rw [sumTo, sumTo_swap f m n, ← sumTo_add]
  rfl
theorem sumTo_pick (a:Nat) (c:Int) : ∀ n : Nat, sumTo (fun i=>if i=a then c else 0) n=if a<n then c else 0
 | 0 => by simp [sumTo]
 | n+1 => by
  rw [sumTo, sumTo_pick a c n]
  by_cases h1 : a<n
  ·rw [if_pos h1, if_neg (by omega), if_pos (by omega)]; omega
  ·by_cases h2 : n=a
   ·rw [if_neg h1, if_pos h2, if_pos (by omega)]; omega
   ·rw [if_neg h1, if_neg h2, if_neg (by omega)]; rfl
theorem count_sum (v:Int) : ∀ l : List Int, (l.count v:Int)=sumTo (fun i=>if rd l (i:Int)=v then 1 else 0) l.length:=by
 intro l
 have key : ∀ j, j≤l.length→((l.take j).count v:Int)=sumTo (fun i=>if rd l (i:Int)=v then 1 else 0) j:=by
  intro j
  induction j with
  | zero => intro _; rfl
  | succ j ih =>
   intro hj
   rw [sumTo, ← ih (by omega), List.take_succ_eq_append_getElem (by omega), List.count_append]
   have e : rd l (j:Int)=l[j] := by simp [rd_nat, show j<l.length by omega]
   rw [e]
   by_cases h : l[j]=v <;> simp [h]
 have := key l.length (Nat.le_refl _)
 rwa [List.take_length] at this
theorem sumTo_bound {f : Nat→Int} (c:Int) : ∀ (n:Nat), (∀ i, i<n→0≤f i∧f i≤c)→0≤sumTo f n∧sumTo f n≤c * n
 | 0, _ => by simp [sumTo]
 | n+1, h => by
  have h1 := sumTo_bound c n (fun i hi => h i (by omega))
  have h2 := h n (by omega)
  have h3 : c * ((n+1:Nat):Int)=c * n+c := by rw [Int.natCast_succ, Int.mul_add, Int.mul_one]
  rw [h3]
  simp only [sumTo]; omega
theorem sumTo_gap (a b:Int) (h0 : 1≤a) (h1 : a≤b) : ∀ m : Nat, sumTo (fun g=>if a≤(g:Int)+1∧b > (g:Int)+1 then 1 else 0) m=max 0 (min (b - 1) m - a+1)
 | 0 => by simp only [sumTo]; omega
 | m+1 => by
  rw [sumTo, sumTo_gap a b h0 h1 m]
  by_cases h : a≤(m:Int)+1∧b > (m:Int)+1
  ·rw [if_pos h]; omega
  ·rw [if_neg h]; omega
def underF (l : List Int) : Nat→Int→Int→Bool
 | 0, v, w => decide (v=w)
 | m+1, v, w => decide (v=w) || (decide (rd l (v - 1)≠0) && underF l m (rd l (v - 1)) w)
theorem underF_iff (l : List Int) : ∀ (m d:Nat) (v w:Int), Deep l d v→d≤m→(underF l m v w=true ↔ ∃ k, k≤d∧up l k v=w)
 | 0, d, v, w, hd, hm => by
  obtain rfl : d=0 := by omega
  unfold underF
  rw [decide_eq_true_iff]
  constructor
  ·intro e; exact ⟨0, Nat.le_refl _, e⟩
  ·rintro ⟨k, hk, e⟩
   obtain rfl : k=0 := by omega
   exact e
 | m+1, d, v, w, hd, hm => by
  unfold underF
  rw [Bool.or_eq_true, Bool.and_eq_true, decide_eq_true_iff, decide_eq_true_iff]
  cases d with
  | zero =>
   have h0 : rd l (v - 1)=0 := hd
   constructor
   ·intro h
    rcases h with h | h
    ·exact ⟨0, Nat.le_refl _, h⟩
    ·exact absurd h0 h.1
   ·rintro ⟨k, hk, e⟩
    obtain rfl : k=0 := by omega
    exact .inl e
  | succ d =>
   have h1 := hd.1
   have ih := underF_iff l m d (rd l (v - 1)) w hd.2.2 (by omega)
   constructor
   ·intro h
    rcases h with h | h
    ·exact ⟨0,by omega, h⟩
    ·obtain ⟨k, hk, e⟩:=ih.mp h.2
     exact ⟨k+1,by omega, e⟩
   ·rintro ⟨k, hk, e⟩
    cases k with
    | zero => exact .inl e
    | succ k => exact .inr ⟨by omega, ih.mpr ⟨k,by omega, e⟩⟩
def undB (l : List Int) (i w:Nat) : Bool := underF l l.length ((i:Int)+1) ((w:Int)+1)
theorem undB_iff {l : List Int} (h : treeOk l=true) {i w : Nat} (hi : i<l.length) {d : Nat} (hd : Deep l d ((i:Int)+1)) : undB l i w=true ↔ ∃ k, k≤d∧up l k ((i:Int)+1)=(w:Int)+1 :=
 underF_iff l _ d _ _ hd (Nat.le_of_lt (deep_lt h (by omega) (by omega) hd))
theorem undB_mem {l : List Int} (h : treeOk l=true) {i w : Nat} (hi : i<l.length) (hw : w<l.length) {m e : Nat} (he : Deep l e ((w:Int)+1)) (hm : l.length≤e+m) : undB l i w=true ↔ (i:Int)+1 ∈ flatF l m ((w:Int)+1):=by
 obtain ⟨d, hd, hdd⟩:=tree_deep h (w := (i:Int)+1) (by omega) (by omega)
 rw [undB_iff h hi hdd]
 constructor
 ·rintro ⟨k, hk, e2⟩
  obtain ⟨c, rfl⟩ : ∃ c, d=c+k := ⟨d - k,by omega⟩
  have h1 := deep_up l k c _ hdd
  rw [e2] at h1
  obtain rfl := deep_unique l _ _ _ h1 he
  exact flatF_mem h k m c _ _ (by omega) e2 hdd hm
 ·intro hmem
  obtain ⟨_, k, h1, h2⟩:=mem_flatF m e _ _ (by omega) he hmem
  obtain rfl := deep_unique l _ _ _ h2 hdd
  exact ⟨k,by omega, h1⟩
def RowB (l : List Int) (w:Nat) : Prop := ∀ a b c : Nat, a<b→b<c→c<l.length→undB l a w=true→undB l c w=true→undB l b w=true
def Flat (l : List Int) : Prop := ∀ w : Nat, w<l.length→RowB l w
theorem flat_infix {l : List Int} (h : treeOk l=true) : ∀ (d:Nat) (w:Int), 1≤w∧w≤l.length→Deep l d w→∃ m A B, l.length≤d+m∧flatOrder l=A ++ flatF l m w ++ B
 | 0, w, hw, hd => by
  have hr : w=rootOf l:=by
   have := up_root h hw hd
   exact this
  refine ⟨l.length, [], [],by omega, ?_⟩
  unfold flatOrder
  rw [if_pos h, hr]; simp
 | d+1, w, hw, hd => by
  have hd2 := hd
  obtain ⟨h1, h2, h3⟩:=hd
  obtain ⟨m, A, B, h4, h5⟩:=flat_infix h d (rd l (w - 1)) ⟨h1, h2⟩ h3
  have hlt := deep_lt h hw.1 hw.2 hd2
  obtain ⟨m', rfl⟩ : ∃ m', m=m'+1 := ⟨m - 1,by omega⟩
  have split : ∀ (ks : List Nat), (w - 1).toNat ∈ ks→∃ X Z, ks.flatMap (fun i : Nat => flatF l m' ((i:Int)+1))=X ++ flatF l m' w ++ Z:=by
   intro ks hk
   obtain ⟨s, t, rfl⟩:=List.append_of_mem hk
   refine ⟨s.flatMap (fun i : Nat => flatF l m' ((i:Int)+1)), t.flatMap (fun i : Nat => flatF l m' ((i:Int)+1)), ?_⟩
   rw [List.flatMap_append, List.flatMap_cons, show (((w - 1).toNat:Nat):Int)+1=w by omega, List.append_assoc]
  have e : rd l (((w - 1).toNat:Nat):Int)=rd l (w - 1) := by rw [show (((w - 1).toNat:Nat):Int)=w - 1 by omega]
  have hmem : (w - 1).toNat ∈ List.range' 0 (l.length - 0) := by rw [List.mem_range'_1]; omega
  rw [flatF] at h5
  by_cases c : w<rd l (w - 1)
  ·obtain ⟨X, Z, hx⟩:=split (kidsL l (rd l (w - 1)) l.length 0) (List.mem_filter.mpr ⟨hmem, decide_eq_true ⟨e,by omega⟩⟩)
   rw [hx] at h5
   exact ⟨m', A ++ X, Z ++ ([rd l (w - 1)] ++ (kidsR l (rd l (w - 1)) l.length 0).flatMap (fun i : Nat => flatF l m' ((i:Int)+1))) ++ B,by omega, by rw [h5]; simp [List.append_assoc]⟩
  ·obtain ⟨X, Z, hx⟩:=split (kidsR l (rd l (w - 1)) l.length 0) (List.mem_filter.mpr ⟨hmem, decide_eq_true ⟨e,by omega⟩⟩)
   rw [hx] at h5
   exact ⟨m', A ++ (kidsL l (rd l (w - 1)) l.length 0).flatMap (fun i : Nat => flatF l m' ((i:Int)+1)) ++ ([rd l (w - 1)] ++ X), Z ++ B,by omega, by rw [h5]; simp [List.append_assoc]⟩
theorem orderOk_len {o : List Int} {n : Nat} (h : orderOk o n=true) : o.length=n:=by
 have := (orderOk_iff.mp h).2.1; omega
theorem orderOk_rd {o : List Int} {n : Nat} (h : orderOk o n=true) {i : Nat} (hi : i<n) : 1≤rd o i∧rd o i≤n :=
 ((orderOk_iff.mp h).2.2 i (by rw [orderOk_len h]; exact hi)).1
theorem placeOf_spec {o : List Int} {n : Nat} (h : orderOk o n=true) {v : Int} (h0 : 1≤v) (h1 : v≤n) : ∃ i : Nat, i<n∧rd o i=v∧placeOf o v=(i:Int)+1:=by
 obtain ⟨_, h2, h3, h4⟩:=orderOk_nodup.mp h
 have hm := nodup_all n o h3 h4 (by omega) v h0 h1
 obtain ⟨i, hi, e⟩:=List.getElem_of_mem hm
 have e2 : rd o i=v := by rw [rd_get o hi]; exact e
 exact ⟨i,by omega, e2, by rw [← e2]; exact placeOf_at h hi⟩
theorem placeOf_zero {o : List Int} {n : Nat} (h : orderOk o n=true) : placeOf o 0=0 :=
 placeOf_none (fun i hi e => by have := orderOk_rd h (i := i) (by rw [← orderOk_len h]; exact hi); omega)
theorem placeOf_range {o : List Int} {n : Nat} (h : orderOk o n=true) {v : Int} (h0 : 0≤v) (h1 : v≤n) : 0≤placeOf o v∧placeOf o v≤n∧(placeOf o v≤0 ↔ v≤0):=by
 by_cases e : v=0
 ·subst e; rw [placeOf_zero h]; omega
 ·obtain ⟨i, h2, _, h3⟩:=placeOf_spec h (v := v) (by omega) h1
  omega
theorem rd_placeOf {o : List Int} {n : Nat} (h : orderOk o n=true) {v : Int} (h0 : 1≤v) (h1 : v≤n) : rd o (placeOf o v - 1)=v:=by
 obtain ⟨i, h2, h3, h4⟩:=placeOf_spec h h0 h1
 rw [h4, show (i:Int)+1 - 1=i by omega]; exact h3
theorem putOf_length (l o : List Int) : (putOf l o).length=o.length := by simp [putOf]
theorem putOf_rd {l o : List Int} {n : Nat} (h : orderOk o n=true) {i : Nat} (hi : i<n) : rd (putOf l o) i=placeOf o (rd l (rd o i - 1)):=by
 rw [rd_get _ (by rw [putOf_length, orderOk_len h]; exact hi)]
 have hi' : i<o.length := by rw [orderOk_len h]; exact hi
 simp only [putOf, List.getElem_map, rd_get o hi']
theorem putOf_at {l o : List Int} {n : Nat} (h : orderOk o n=true) {v : Int} (h0 : 1≤v) (h1 : v≤n) : rd (putOf l o) (placeOf o v - 1)=placeOf o (rd l (v - 1)):=by
 obtain ⟨i, h2, h3, h4⟩:=placeOf_spec h h0 h1
 rw [h4, show (i:Int)+1 - 1=i by omega, putOf_rd h h2, h3]
theorem treeOk_rd' {l : List Int} (h : treeOk l=true) {v : Int} (h0 : 1≤v) (h1 : v≤l.length) : 0≤rd l (v - 1)∧rd l (v - 1)≤l.length:=by
 have := treeOk_rd h (j := (v - 1).toNat) (by omega)
 rwa [show (((v - 1).toNat:Nat):Int)=v - 1 by omega] at this
theorem walk_put {l o : List Int} (hl : treeOk l=true) (h : orderOk o l.length=true) : ∀ (m:Nat) (v:Int), 0≤v→v≤l.length→walkOk (putOf l o) m (placeOf o v)=walkOk l m v
 | 0, v, h0, h1 => by
  unfold walkOk
  rw [decide_eq_decide]; exact (placeOf_range h h0 h1).2.2
 | m+1, v, h0, h1 => by
  unfold walkOk
  have hr := placeOf_range h h0 h1
  by_cases e : v≤0
  ·rw [if_pos e, if_pos (hr.2.2.mpr e)]
  ·rw [if_neg e, if_neg (fun h2=>e (hr.2.2.mp h2)), putOf_at h (by omega) h1]
   have h3 := treeOk_rd' hl (v := v) (by omega) h1
   have h4 := placeOf_range h h3.1 h3.2
   rw [putOf_length, orderOk_len h, decide_eq_true h3, decide_eq_true (show 0≤placeOf o (rd l (v - 1))∧placeOf o (rd l (v - 1))≤(l.length:Int) from ⟨h4.1, h4.2.1⟩), walk_put hl h m _ h3.1 h3.2]
theorem count_zero_one {l : List Int} {i : Nat} (hi : i<l.length) (h0 : rd l i=0) (hu : ∀ j : Nat, j<l.length→rd l j=0→j=i) : l.count 0=1:=by
 have key : ∀ d j, j+d=l.length→zerosFrom l j=if j≤i then 1 else 0:=by
  intro d
  induction d with
  | zero => intro j hj; unfold zerosFrom; rw [List.drop_eq_nil_of_le (by omega), if_neg (by omega)]; rfl
  | succ d ih =>
   intro j hj
   rw [zerosFrom_succ l j (by omega), ih (j+1) (by omega)]
   by_cases e : j=i
   ·subst e; rw [if_pos h0, if_neg (by omega), if_pos (by omega)]
   ·rw [if_neg (fun h=>e (hu j (by omega) h))]
    split <;> split <;> omega
 have := key l.length 0 (by omega)
 rw [if_pos (by omega)] at this
 simpa [zerosFrom] using this
theorem treeOk_put {l o : List Int} (hl : treeOk l=true) (h : orderOk o l.length=true) : treeOk (putOf l o)=true:=by
 have hlen : (putOf l o).length=l.length := by rw [putOf_length, orderOk_len h]
 unfold treeOk
 rw [hlen, decide_eq_true (treeOk_len hl), Bool.true_and, Bool.and_eq_true]
 constructor
 ·rw [List.all_eq_true]
  intro i hi
  have hi := List.mem_range.mp hi
  have h1 := orderOk_rd h hi
  have h2 := treeOk_rd' hl h1.1 h1.2
  have h3 := placeOf_range h h2.1 h2.2
  unfold okAt
  rw [putOf_rd h hi, hlen, decide_eq_true ⟨h3.1, h3.2.1⟩, Bool.true_and]
  have h4 : placeOf o (rd o i)=(i:Int)+1 := placeOf_at h (by rw [orderOk_len h]; exact hi)
  rw [← h4, walk_put hl h _ _ (by omega) h1.2]
  have := treeOk_walk hl (j := (rd o i - 1).toNat) (by omega)
  rwa [show (((rd o i - 1).toNat:Nat):Int)+1=rd o i by omega] at this
 ·rw [decide_eq_true_iff]
  obtain ⟨i, h1, h2⟩:=exists_root hl
  obtain ⟨j, h3, h4, h5⟩:=placeOf_spec h (v := (i:Int)+1) (by omega) (by omega)
  refine count_zero_one (i := j) (by omega) ?_ ?_
  ·rw [putOf_rd h h3, h4, show (i:Int)+1 - 1=i by omega, h2, placeOf_zero h]
  ·intro k hk hk0
   have hk' : k<l.length := by omega
   rw [putOf_rd h hk'] at hk0
   have h6 := orderOk_rd h hk'
   have h7 := treeOk_rd' hl h6.1 h6.2
   have h8 := (placeOf_range h h7.1 h7.2).2.2.mp (by omega)
   have h9 := zero_unique hl (i := (rd o k - 1).toNat) (j := i) (by omega) h1 (by rw [show (((rd o k - 1).toNat:Nat):Int)=rd o k - 1 by omega]; omega) h2
   exact order_inj h (by rw [orderOk_len h]; omega) (by rw [orderOk_len h]; omega) (by omega)
theorem sumTo_less (f g : Nat→Int) : ∀ n : Nat, sumTo (fun i=>f i - g i) n=sumTo f n - sumTo g n
 | 0 => rfl
 | n+1 => by rw [sumTo, sumTo, sumTo, sumTo_less f g n]; omega
@[reducible] def incP (l : List Int) (i v:Nat) : Prop := rd l (i:Int)≠0∧(i=v ∨ rd l (i:Int)=(v:Int)+1)
@[reducible] def meetP (l : List Int) (i k:Nat) : Prop := rd l (i:Int)=rd l (k:Int) ∨ rd l (i:Int)=(k:Int)+1 ∨ rd l (k:Int)=(i:Int)+1
@[reducible] def apartP (l : List Int) (i k:Nat) : Prop := i≠k∧rd l (i:Int)≠0∧rd l (k:Int)≠0∧¬ meetP l i k
def apart (l : List Int) (i k:Nat) : Int := if apartP l i k then 1 else 0
theorem placeOf_inj {o : List Int} {n : Nat} (h : orderOk o n=true) {a b : Int} (ha : 0≤a∧a≤n) (hb : 0≤b∧b≤n) : placeOf o a=placeOf o b ↔ a=b:=by
 constructor
 ·intro e
  have h1 := placeOf_range h ha.1 ha.2
  have h2 := placeOf_range h hb.1 hb.2
  by_cases c : a=0
  ·have := h2.2.2.mp (by rw [← e]; exact h1.2.2.mpr (by omega)); omega
  ·by_cases c2 : b=0
   ·have := h1.2.2.mp (by rw [e]; exact h2.2.2.mpr (by omega)); omega
   ·rw [← rd_placeOf h (show 1≤a by omega) ha.2, e, rd_placeOf h (by omega) hb.2]
 ·intro e; rw [e]
theorem put_rd {l o : List Int} (h : orderOk o l.length=true) {i : Nat} (hi : i<l.length) : ∃ s : Nat, s<l.length∧rd o (i:Int)=(s:Int)+1∧placeOf o ((s:Int)+1)=(i:Int)+1∧rd (putOf l o) (i:Int)=placeOf o (rd l (s:Int)):=by
 have h1 := orderOk_rd h hi
 refine ⟨(rd o (i:Int) - 1).toNat,by omega,by omega, ?_, ?_⟩
 ·rw [show (((rd o (i:Int) - 1).toNat:Nat):Int)+1=rd o (i:Int) by omega]
  exact placeOf_at h (by rw [orderOk_len h]; exact hi)
 ·rw [putOf_rd h hi, show (((rd o (i:Int) - 1).toNat:Nat):Int)=rd o (i:Int) - 1 by omega]
def toWord (o : List Int) (i:Nat) : Nat := (rd o (i:Int) - 1).toNat
theorem len_counts {n : Nat} {L : List Int} (h : ∀ x, x ∈ L→1≤x∧x≤n) : sumTo (fun v=>(L.count ((v:Int)+1):Int)) n=L.length:=by
 have e : sumTo (fun v=>(L.count ((v:Int)+1):Int)) n=sumTo (fun v=>sumTo (fun i=>if rd L (i:Int)=(v:Int)+1 then 1 else 0) L.length) n := sumTo_congr _ (fun v _ => count_sum _ L)
 rw [e, sumTo_swap, ← sumTo_one L.length]
 refine sumTo_congr _ (fun i hi => ?_)
 have hm := h (rd L (i:Int)) (by rw [rd_get L hi]; exact List.getElem_mem ..)
 have : sumTo (fun v : Nat => if rd L (i:Int)=(v:Int)+1 then (1:Int) else 0) n=sumTo (fun v : Nat => if v=(rd L (i:Int) - 1).toNat then 1 else 0) n:=by
  refine sumTo_congr _ (fun v _ => ?_)
  by_cases e2 : rd L (i:Int)=(v:Int)+1
  ·rw [if_pos e2, if_pos (by omega)]
  ·rw [if_neg e2, if_neg (by omega)]
 rw [this, sumTo_pick, if_pos (by omega)]
theorem flatOrder_ok {l : List Int} (h : treeOk l=true) : orderOk (flatOrder l) l.length=true:=by
 have hn := treeOk_len h
 have h1 := flatOrder_range h
 have h2 := flatOrder_nodup h
 have h3 := nodup_le l.length _ h2 h1
 have h4 := len_counts h1
 have h5 : sumTo (fun _=>1) l.length≤sumTo (fun v=>((flatOrder l).count ((v:Int)+1):Int)) l.length:=by
  refine sumTo_le _ (fun v hv => ?_)
  have := List.count_pos_iff.mpr (flatOrder_mem h (v := (v:Int)+1) (by omega))
  omega
 rw [sumTo_one] at h5
 exact orderOk_nodup.mpr ⟨by omega,by omega, h2, h1⟩
theorem madeFlat_put {l : List Int} (h : treeOk l=true) : madeFlat l=putOf l (flatOrder l):=by
 unfold madeFlat putInOrder
 rw [if_pos ⟨h, flatOrder_ok h⟩]
theorem underF_put {l o : List Int} (hl : treeOk l=true) (h : orderOk o l.length=true) : ∀ (m:Nat) (v w:Int), (1≤v∧v≤l.length)→(1≤w∧w≤l.length)→underF (putOf l o) m (placeOf o v) (placeOf o w)=underF l m v w
 | 0, v, w, hv, hw => by
  unfold underF
  rw [decide_eq_decide]; exact placeOf_inj h (by omega) (by omega)
 | m+1, v, w, hv, hw => by
  unfold underF
  have hr := treeOk_rd' hl hv.1 hv.2
  rw [putOf_at h hv.1 hv.2]
  have e1 : decide (placeOf o v=placeOf o w)=decide (v=w) := by rw [decide_eq_decide]; exact placeOf_inj h (by omega) (by omega)
  have e2 : decide (placeOf o (rd l (v - 1))≠0)=decide (rd l (v - 1)≠0):=by
   rw [decide_eq_decide]
   have := placeOf_inj h hr (b := 0) (by omega)
   rw [placeOf_zero h] at this
   exact not_congr this
  rw [e1, e2]
  by_cases c : rd l (v - 1)=0
  ·rw [c]; simp
  ·rw [underF_put hl h m _ w (by omega) hw]
theorem undB_put {l o : List Int} (hl : treeOk l=true) (h : orderOk o l.length=true) {i w : Nat} (hi : i<l.length) (hw : w<l.length) : undB (putOf l o) i w=undB l (toWord o i) (toWord o w):=by
 obtain ⟨s, h1, h2, h3, h4⟩:=put_rd h hi
 obtain ⟨t, h5, h6, h7, h8⟩:=put_rd h hw
 have e1 : toWord o i=s := by unfold toWord; omega
 have e2 : toWord o w=t := by unfold toWord; omega
 rw [e1, e2]
 unfold undB
 rw [putOf_length, orderOk_len h, ← h3, ← h7]
 exact underF_put hl h _ _ _ (by omega) (by omega)
theorem toWord_lt {o : List Int} {n : Nat} (h : orderOk o n=true) {i : Nat} (hi : i<n) : toWord o i<n∧((toWord o i:Nat):Int)+1=rd o (i:Int):=by
 have := orderOk_rd h hi
 unfold toWord; omega
theorem row_places {l : List Int} (hl : treeOk l=true) {w : Nat} (hw : w<l.length) {a b c : Nat} (hab : a<b) (hbc : b<c) (hc : c<l.length)
  (ha : undB l (toWord (flatOrder l) a) w=true) (hcc : undB l (toWord (flatOrder l) c) w=true) : undB l (toWord (flatOrder l) b) w=true:=by
 have ho := flatOrder_ok hl
 have hlen := orderOk_len ho
 obtain ⟨d, _, hd⟩:=tree_deep hl (w := (w:Int)+1) (by omega) (by omega)
 obtain ⟨m, A, B, h1, h2⟩:=flat_infix hl d ((w:Int)+1) (by omega) hd
 have hnd := flatOrder_nodup hl
 have t1 := toWord_lt ho (i := a) (by omega)
 have t2 := toWord_lt ho (i := b) (by omega)
 have t3 := toWord_lt ho (i := c) hc
 rw [undB_mem hl t1.1 hw hd h1, t1.2] at ha
 rw [undB_mem hl t3.1 hw hd h1, t3.2] at hcc
 rw [undB_mem hl t2.1 hw hd h1, t2.2]
 have place : ∀ (F : List Int) (i:Nat), flatOrder l=A ++ F ++ B→i<l.length→(rd (flatOrder l) (i:Int) ∈ F ↔ A.length≤i∧i<A.length+F.length):=by
  intro F i hF hi
  have hi' : i<(flatOrder l).length := by omega
  have hinj := (nodup_iff_rd _).mp hnd
  have at_ : ∀ j : Nat, j<F.length→rd (flatOrder l) ((A.length+j:Nat):Int)=rd F (j:Int):=by
   intro j hj
   have hlj : A.length+j<(flatOrder l).length := by rw [hF]; simp; omega
   rw [rd_get _ hlj, rd_get F hj]
   simp only [hF]
   rw [List.getElem_append_left (by simp; omega), List.getElem_append_right (by omega)]
   simp
  constructor
  ·intro hm
   obtain ⟨j, hj, e⟩:=List.getElem_of_mem hm
   have h3 := at_ j hj
   rw [rd_get F hj, e] at h3
   have hlj : A.length+j<(flatOrder l).length := by rw [hF]; simp; omega
   have : A.length+j=i:=by
    rcases Nat.lt_trichotomy (A.length+j) i with q | q | q
    ·exact absurd h3 (hinj _ _ q hi')
    ·exact q
    ·exact absurd h3.symm (hinj _ _ q hlj)
   omega
  ·rintro ⟨q1, q2⟩
   have h3 := at_ (i - A.length) (by omega)
   rw [show A.length+(i - A.length)=i by omega] at h3
   rw [h3, rd_get F (by omega)]
   exact List.getElem_mem ..
 have p1 := (place _ a h2 (by omega)).mp ha
 have p3 := (place _ c h2 hc).mp hcc
 exact (place _ b h2 (by omega)).mpr (by omega)
theorem flat_made {l : List Int} (hl : treeOk l=true) : Flat (putOf l (flatOrder l)):=by
 have ho := flatOrder_ok hl
 have hlen : (putOf l (flatOrder l)).length=l.length := by rw [putOf_length, orderOk_len ho]
 intro w hw a b c hab hbc hc ha hcc
 rw [hlen] at hw hc
 rw [undB_put hl ho (by omega) hw] at ha hcc ⊢
 exact row_places hl (toWord_lt ho hw).1 hab hbc hc ha hcc
def Same (o : List Int) : Prop := ∀ k : Nat, k<o.length→rd o (k:Int)=(k:Int)+1
theorem flatF_sorted {l : List Int} (hl : treeOk l=true) (hf : Flat l) : ∀ (m e:Nat) (w:Int), (1≤w∧w≤l.length)→Deep l e w→l.length≤e+m→(flatF l m w).Pairwise (·<·)
 | 0, e, w, hw, he, hm => by unfold flatF; exact List.pairwise_singleton _ _
 | m+1, e, w, hw, he, hm => by
  -- what is known of a word that depends on w
  have kid : ∀ i : Nat, i<l.length→rd l (i:Int)=w→Deep l (e+1) ((i:Int)+1) := fun i hi er => deep_kid hw he er
  have mem : ∀ (i:Nat), i<l.length→rd l (i:Int)=w→∀ x, x ∈ flatF l m ((i:Int)+1)→(1≤x∧x≤l.length)∧undB l (x - 1).toNat i=true∧∃ k, Deep l (e+1+k) x∧up l k x=(i:Int)+1:=by
   intro i hi er x hx
   obtain ⟨h1, k, h2, h3⟩:=mem_flatF m (e+1) _ _ (by omega) (kid i hi er) hx
   refine ⟨h1, ?_, k, h3, h2⟩
   rw [undB_mem hl (by omega) hi (kid i hi er) (m := m) (by omega), show (((x - 1).toNat:Nat):Int)+1=x by omega]
   exact hx
  have self : ∀ i : Nat, i<l.length→rd l (i:Int)=w→undB l i i=true:=by
   intro i hi er
   rw [undB_mem hl hi hi (kid i hi er) (m := m) (by omega)]
   exact self_mem_flatF m _
  have apart2 : ∀ i j x : Nat, i<l.length→j<l.length→x<l.length→rd l (i:Int)=w→rd l (j:Int)=w→undB l x i=true→undB l x j=true→i=j:=by
   intro i j x hi hj hx er er2 h1 h2
   rw [undB_mem hl hx hi (kid i hi er) (m := m) (by omega)] at h1
   rw [undB_mem hl hx hj (kid j hj er2) (m := m) (by omega)] at h2
   obtain ⟨_, k, a1, a2⟩:=mem_flatF m (e+1) _ _ (by omega) (kid i hi er) h1
   obtain ⟨_, k', b1, b2⟩:=mem_flatF m (e+1) _ _ (by omega) (kid j hj er2) h2
   have := deep_unique l _ _ _ a2 b2
   obtain rfl : k=k' := by omega
   omega
  have notw : ∀ i : Nat, i<l.length→rd l (i:Int)=w→undB l (w - 1).toNat i=false:=by
   intro i hi er
   cases hb : undB l (w - 1).toNat i with
   | false => rfl
   | true =>
    rw [undB_mem hl (by omega) hi (kid i hi er) (m := m) (by omega), show (((w - 1).toNat:Nat):Int)+1=w by omega] at hb
    obtain ⟨_, k, a1, a2⟩:=mem_flatF m (e+1) _ _ (by omega) (kid i hi er) hb
    have := deep_unique l _ _ _ a2 he
    omega
  have left : ∀ i : Nat, i<l.length→rd l (i:Int)=w→(i:Int)+1<w→∀ x, x ∈ flatF l m ((i:Int)+1)→x<w:=by
   intro i hi er hlt x hx
   obtain ⟨h1, h2, _⟩:=mem i hi er x hx
   apply Decidable.byContradiction
   intro hn
   have hnw := notw i hi er
   by_cases e2 : x=w
   ·rw [e2] at h2; rw [h2] at hnw; cases hnw
   ·have := hf i hi i (w - 1).toNat (x - 1).toNat (by omega) (by omega) (by omega) (self i hi er) h2
    rw [this] at hnw; cases hnw
  have right : ∀ i : Nat, i<l.length→rd l (i:Int)=w→¬ (i:Int)+1<w→∀ x, x ∈ flatF l m ((i:Int)+1)→w<x:=by
   intro i hi er hlt x hx
   obtain ⟨h1, h2, _⟩:=mem i hi er x hx
   have hne := treeOk_ne hl hi
   apply Decidable.byContradiction
   intro hn
   have hnw := notw i hi er
   by_cases e2 : x=w
   ·rw [e2] at h2; rw [h2] at hnw; cases hnw
   ·have := hf i hi (x - 1).toNat (w - 1).toNat i (by omega) (by omega) hi h2 (self i hi er)
    rw [this] at hnw; cases hnw
  have two : ∀ i j : Nat, i<j→j<l.length→rd l (i:Int)=w→rd l (j:Int)=w→∀ x, x ∈ flatF l m ((i:Int)+1)→∀ y, y ∈ flatF l m ((j:Int)+1)→x<y:=by
   intro i j hij hj er er2 x hx y hy
   obtain ⟨h1, h2, _⟩:=mem i (by omega) er x hx
   obtain ⟨h3, h4, _⟩:=mem j hj er2 y hy
   apply Decidable.byContradiction
   intro hn
   by_cases exy : x=y
   ·rw [exy] at h2
    have := apart2 i j (y - 1).toNat (by omega) hj (by omega) er er2 h2 h4
    omega
   ·by_cases c1 : (j:Int)+1<x
    ·have := hf i (by omega) i j (x - 1).toNat hij (by omega) (by omega) (self i (by omega) er) h2
     have := apart2 i j j (by omega) hj hj er er2 this (self j hj er2)
     omega
    ·by_cases c2 : (j:Int)+1=x
     ·rw [show (x - 1).toNat=j by omega] at h2
      have := apart2 i j j (by omega) hj hj er er2 h2 (self j hj er2)
      omega
     ·have := hf j hj (y - 1).toNat (x - 1).toNat j (by omega) (by omega) hj h4 (self j hj er2)
      have := apart2 i j (x - 1).toNat (by omega) hj (by omega) er er2 h2 this
      omega
  have inL : ∀ i, i ∈ kidsL l w l.length 0→i<l.length∧rd l (i:Int)=w∧(i:Int)+1<w:=by
   intro i hi
   have h := List.mem_filter.mp hi
   have h2 := of_decide_eq_true h.2
   have h3 := List.mem_range'_1.mp h.1
   exact ⟨by omega, h2.1, h2.2⟩
  have inR : ∀ i, i ∈ kidsR l w l.length 0→i<l.length∧rd l (i:Int)=w∧¬ (i:Int)+1<w:=by
   intro i hi
   have h := List.mem_filter.mp hi
   have h2 := of_decide_eq_true h.2
   have h3 := List.mem_range'_1.mp h.1
   exact ⟨by omega, h2.1, h2.2⟩
  have asc : ∀ p : Nat→Bool, ((List.range' 0 (l.length - 0)).filter p).Pairwise (·<·) := fun p=>(List.pairwise_lt_range').filter p
  have inner : ∀ i, i<l.length→rd l (i:Int)=w→(flatF l m ((i:Int)+1)).Pairwise (·<·) := fun i hi er => flatF_sorted hl hf m (e+1) _ (by omega) (kid i hi er) (by omega)
  unfold flatF
  rw [List.pairwise_append, List.singleton_append, List.pairwise_cons]
  refine ⟨?_, ⟨?_, ?_⟩, ?_⟩
  ·rw [List.pairwise_flatMap]
   refine ⟨fun i hi => inner i (inL i hi).1 (inL i hi).2.1, ?_⟩
   refine List.Pairwise.imp_of_mem ?_ (asc _)
   intro i j hi hj hij
   exact two i j hij (inL j hj).1 (inL i hi).2.1 (inL j hj).2.1
  ·intro y hy
   obtain ⟨j, hj, hy⟩:=List.mem_flatMap.mp hy
   exact right j (inR j hj).1 (inR j hj).2.1 (inR j hj).2.2 y hy
  ·rw [List.pairwise_flatMap]
   refine ⟨fun i hi => inner i (inR i hi).1 (inR i hi).2.1, ?_⟩
   refine List.Pairwise.imp_of_mem ?_ (asc _)
   intro i j hi hj hij
   exact two i j hij (inR j hj).1 (inR i hi).2.1 (inR j hj).2.1
  ·intro x hx y hy
   obtain ⟨i, hi, hx⟩:=List.mem_flatMap.mp hx
   have h1 := left i (inL i hi).1 (inL i hi).2.1 (inL i hi).2.2 x hx
   rcases List.mem_cons.mp hy with e2 | hy
   ·omega
   ·obtain ⟨j, hj, hy⟩:=List.mem_flatMap.mp hy
    have h2 := right j (inR j hj).1 (inR j hj).2.1 (inR j hj).2.2 y hy
    omega
theorem same_of_flat {l : List Int} (hl : treeOk l=true) (hf : Flat l) : Same (flatOrder l):=by
 have ho := flatOrder_ok hl
 have hlen := orderOk_len ho
 have hs : (flatOrder l).Pairwise (·<·):=by
  unfold flatOrder
  rw [if_pos hl]
  exact flatF_sorted hl hf _ 0 _ (flatF_root hl).1 (flatF_root hl).2 (by omega)
 rw [List.pairwise_iff_getElem] at hs
 have step : ∀ i : Nat, i+1<l.length→rd (flatOrder l) (i:Int)<rd (flatOrder l) ((i+1:Nat):Int):=by
  intro i hi
  rw [rd_get _ (show i<(flatOrder l).length by omega), rd_get _ (show i+1<(flatOrder l).length by omega)]
  exact hs i (i+1) _ _ (by omega)
 have low : ∀ k : Nat, k<l.length→(k:Int)+1≤rd (flatOrder l) (k:Int):=by
  intro k
  induction k with
  | zero => intro hk; have := orderOk_rd ho hk; omega
  | succ k ih => intro hk; have := ih (by omega); have := step k hk; omega
 have high : ∀ d k : Nat, k+d+1=l.length→rd (flatOrder l) (k:Int)≤(k:Int)+1:=by
  intro d
  induction d with
  | zero => intro k hk; have := orderOk_rd ho (i := k) (by omega); omega
  | succ d ih => intro k hk; have := ih (k+1) (by omega); have := step k (by omega); omega
 intro k hk
 have h1 := low k (by omega)
 have h2 := high (l.length - 1 - k) k (by omega)
 omega
def cntU (U : Nat→Bool) (i:Nat) : Int := sumTo (fun i=>if U i=true then 1 else 0) i
def mnU (U : Nat→Bool) (n:Int) : Nat→Int
 | 0 => n
 | i+1 => if U i=true then min (mnU U n i) i else mnU U n i
def mxU (U : Nat→Bool) : Nat→Int
 | 0 => -1
 | i+1 => if U i=true then max (mxU U i) i else mxU U i
theorem cntU_bound (U : Nat→Bool) (i:Nat) : 0≤cntU U i∧cntU U i≤i:=by
 have := sumTo_bound (f := fun i=>if U i=true then (1:Int) else 0) 1 i (fun i _ => by split <;> omega)
 unfold cntU; omega
theorem mnU_spec (U : Nat→Bool) (n:Nat) : ∀ i : Nat, i≤n→(∀ j : Nat, j<i→U j=true→mnU U n i≤j)∧(mnU U n i=n ∨ ∃ j : Nat, j<i∧U j=true∧mnU U n i=j)
 | 0, _ => ⟨fun j hj => by omega, .inl rfl⟩
 | i+1, hi => by
  obtain ⟨h1, h2⟩:=mnU_spec U n i (by omega)
  unfold mnU
  by_cases c : U i=true
  ·rw [if_pos c]
   refine ⟨fun j hj hu => ?_, ?_⟩
   ·by_cases e : j=i
    ·subst e; omega
    ·have := h1 j (by omega) hu; omega
   ·rcases h2 with e | ⟨j, hj, hu, e⟩
    ·exact .inr ⟨i,by omega, c,by omega⟩
    ·by_cases q : (j:Int)≤i
     ·exact .inr ⟨j,by omega, hu,by omega⟩
     ·exact .inr ⟨i,by omega, c,by omega⟩
  ·rw [if_neg c]
   refine ⟨fun j hj hu => ?_, ?_⟩
   ·by_cases e : j=i
    ·subst e; exact absurd hu c
    ·exact h1 j (by omega) hu
   ·rcases h2 with e | ⟨j, hj, hu, e⟩
    ·exact .inl e
    ·exact .inr ⟨j,by omega, hu, e⟩
theorem mxU_spec (U : Nat→Bool) : ∀ i : Nat, (∀ j : Nat, j<i→U j=true→(j:Int)≤mxU U i)∧(mxU U i=-1 ∨ ∃ j : Nat, j<i∧U j=true∧mxU U i=j)
 | 0 => ⟨fun j hj => by omega, .inl rfl⟩
 | i+1 => by
  obtain ⟨h1, h2⟩:=mxU_spec U i
  unfold mxU
  by_cases c : U i=true
  ·rw [if_pos c]
   refine ⟨fun j hj hu => ?_, ?_⟩
   ·by_cases e : j=i
    ·subst e; omega
    ·have := h1 j (by omega) hu; omega
   ·rcases h2 with e | ⟨j, hj, hu, e⟩
    ·exact .inr ⟨i,by omega, c,by omega⟩
    ·exact .inr ⟨i,by omega, c,by omega⟩
  ·rw [if_neg c]
   refine ⟨fun j hj hu => ?_, ?_⟩
   ·by_cases e : j=i
    ·subst e; exact absurd hu c
    ·exact h1 j (by omega) hu
   ·rcases h2 with e | ⟨j, hj, hu, e⟩
    ·exact .inl e
    ·exact .inr ⟨j,by omega, hu, e⟩
theorem row_iff (U : Nat→Bool) (n:Nat) {w : Nat} (hw : w<n) (hu : U w=true) : mxU U n - mnU U n n+1=cntU U n ↔ ∀ a b c : Nat, a<b→b<c→c<n→U a=true→U c=true→U b=true:=by
 obtain ⟨m1, m2⟩:=mnU_spec U n n (Nat.le_refl _)
 obtain ⟨x1, x2⟩:=mxU_spec U n
 have hm := m1 w hw hu
 have hx := x1 w hw hu
 obtain ⟨lo, hlo, hulo, elo⟩ : ∃ j : Nat, j<n∧U j=true∧mnU U n n=j:=by
  rcases m2 with e | h
  ·omega
  ·exact h
 obtain ⟨hi, hhi, huhi, ehi⟩ : ∃ j : Nat, j<n∧U j=true∧mxU U n=j:=by
  rcases x2 with e | h
  ·omega
  ·exact h
 have hg := sumTo_gap ((lo:Int)+1) ((hi:Int)+2) (by omega) (by omega) n
 have hin : ∀ i : Nat, i<n→U i=true→lo≤i∧i≤hi:=by
  intro i hi2 hui
  have := m1 i hi2 hui
  have := x1 i hi2 hui
  omega
 rw [elo, ehi]
 constructor
 ·intro hc a b c hab hbc hcn ha hcc
  apply Decidable.byContradiction
  intro hb
  have h1 := hin a (by omega) ha
  have h2 := hin c hcn hcc
  have h3 : cntU U n≤sumTo (fun g=>(if (lo:Int)+1≤(g:Int)+1∧(hi:Int)+2 > (g:Int)+1 then 1 else 0) - (if g=b then 1 else 0)) n:=by
   refine sumTo_le _ (fun i hi2 => ?_)
   by_cases e : i=b
   ·subst e
    rw [if_neg hb, if_pos (by omega), if_pos rfl]; omega
   ·rw [if_neg e]
    by_cases c2 : U i=true
    ·have := hin i hi2 c2
     rw [if_pos c2, if_pos (by omega)]; omega
    ·rw [if_neg c2]; split <;> omega
  rw [sumTo_less, sumTo_pick, if_pos (by omega)] at h3
  omega
 ·intro h
  have : cntU U n=sumTo (fun g=>if (lo:Int)+1≤(g:Int)+1∧(hi:Int)+2 > (g:Int)+1 then 1 else 0) n:=by
   refine sumTo_congr _ (fun i hi2 => ?_)
   by_cases c2 : U i=true
   ·have := hin i hi2 c2
    rw [if_pos c2, if_pos (by omega)]
   ·rw [if_neg c2, if_neg]
    rintro ⟨q1, q2⟩
    refine c2 ?_
    by_cases e1 : i=lo
    ·rw [e1]; exact hulo
    ·by_cases e2 : i=hi
     ·rw [e2]; exact huhi
     ·exact h lo i hi (by omega) (by omega) hhi hulo huhi
  omega
def rowB (l : List Int) (w:Nat) : Bool := decide (mxU (fun i=>undB l i w) l.length - mnU (fun i=>undB l i w) l.length l.length+1=cntU (fun i=>undB l i w) l.length)
def flatB (l : List Int) : Bool := treeOk l && (List.range l.length).all (rowB l)
theorem undB_self {l : List Int} (w:Nat) : undB l w w=true:=by
 unfold undB
 cases l.length with
 | zero => unfold underF; simp
 | succ n => unfold underF; simp
theorem flatB_iff {l : List Int} (h : treeOk l=true) : flatB l=true ↔ Flat l:=by
 unfold flatB
 rw [h, Bool.true_and, List.all_eq_true]
 constructor
 ·intro ha w hw
  have := of_decide_eq_true (ha w (List.mem_range.mpr hw))
  exact (row_iff (fun i=>undB l i w) l.length hw (undB_self w)).mp this
 ·intro hf w hw
  have hw := List.mem_range.mp hw
  exact decide_eq_true ((row_iff (fun i=>undB l i w) l.length hw (undB_self w)).mpr (hf w hw))
theorem impl_under_l0 (l : List Int) (hl : l.length≤8) (w:Int) (hw : 1≤w) : ∀ (m d:Nat) (v:Int), (1≤v∧v≤l.length)→Deep l d v→d≤m→Ev (fun k=>impl_under.l0 k l v w) (underF l m v w):=by
 intro m
 induction m with
 | zero =>
  intro d v hv hd hm
  obtain rfl : d=0 := by omega
  have h0 : rd l (v - 1)=0 := hd
  have e : wrap64 (v - 1)=v - 1 := wrap_id (by omega) (by omega)
  refine Ev.step (fun k=>impl_under.l0.eq_2 ..) (Ev.neg (by omega) (Ev.ite (fun c=>Ev.ret ?_) (fun c=>?_)))
  ·unfold underF; simp [c]
  ·rw [e, h0]
   refine Ev.pos (by omega) (Ev.pos (by omega) (Ev.step (fun k=>impl_under.l0.eq_2 ..) (Ev.pos rfl (Ev.ret ?_))))
   unfold underF; simp [c]; omega
 | succ m ih =>
  intro d v hv hd hm
  have e : wrap64 (v - 1)=v - 1 := wrap_id (by omega) (by omega)
  refine Ev.step (fun k=>impl_under.l0.eq_2 ..) (Ev.neg (by omega) (Ev.ite (fun c=>Ev.ret ?_) (fun c=>?_)))
  ·unfold underF; simp [c]
  ·rw [e]
   refine Ev.pos (by omega) (Ev.pos (by omega) ?_)
   by_cases h0 : rd l (v - 1)=0
   ·rw [h0]
    refine Ev.step (fun k=>impl_under.l0.eq_2 ..) (Ev.pos rfl (Ev.ret ?_))
    unfold underF; simp [c, h0]; omega
   ·cases d with
    | zero => exact absurd hd h0
    | succ d =>
     refine Ev.eq (ih d _ ⟨hd.1, hd.2.1⟩ hd.2.2 (by omega)) ?_
     rw [show underF l (m+1) v w=(decide (v=w) || (decide (rd l (v - 1)≠0) && underF l m (rd l (v - 1)) w)) from rfl]
     simp [c, h0]
theorem impl_under_ev {l : List Int} (h : treeOk l=true) {i w : Nat} (hi : i<l.length) (hw : w<l.length) : Ev (fun k=>impl_under.f k l ((i:Int)+1) ((w:Int)+1)) (undB l i w):=by
 obtain ⟨d, hd, hdd⟩:=tree_deep h (w := (i:Int)+1) (by omega) (by omega)
 unfold impl_under.f undB
 exact impl_under_l0 l (treeOk_len h).2 _ (by omega) l.length d _ (by omega) hdd (by omega)
theorem impl_flatOk_l1 {l : List Int} (h : treeOk l=true) {w : Nat} (hw : w<l.length) (r : Bool)
  (next : Ev (fun k=>impl_flat.l0 k l (l.length:Int) ((w+1:Nat):Int)) r) (d:Nat) : ∀ i : Nat, i+d=l.length →
  Ev (fun k=>impl_flat.l1 k l (w:Int) (cntU (fun i=>undB l i w) i) (mnU (fun i=>undB l i w) l.length i) (mxU (fun i=>undB l i w) i) (l.length:Int) (w:Int) (l.length:Int) (i:Int)) (rowB l w && r):=by
 have hn := treeOk_len h
 have bm : ∀ i : Nat, i≤l.length→0≤mnU (fun i=>undB l i w) l.length i∧mnU (fun i=>undB l i w) l.length i≤l.length:=by
  intro i hi
  rcases (mnU_spec (fun i=>undB l i w) l.length i hi).2 with e | ⟨j, hj, _, e⟩ <;> omega
 have bx : ∀ i : Nat, i≤l.length→-1≤mxU (fun i=>undB l i w) i∧mxU (fun i=>undB l i w) i≤l.length:=by
  intro i hi
  rcases (mxU_spec (fun i=>undB l i w) i).2 with e | ⟨j, hj, _, e⟩ <;> omega
 induction d with
 | zero =>
  intro i hi
  have hi : i=l.length := by omega
  subst hi
  have b1 := bm _ (Nat.le_refl _)
  have b2 := bx _ (Nat.le_refl _)
  refine Ev.step (fun k=>impl_flat.l1.eq_2 ..) (Ev.neg (by omega) ?_)
  rw [wrap_id (n := mxU (fun i=>undB l i w) l.length - mnU (fun i=>undB l i w) l.length l.length) (by omega) (by omega), wrap_id (n := mxU (fun i=>undB l i w) l.length - mnU (fun i=>undB l i w) l.length l.length+1) (by omega) (by omega), wrap_add1 (by omega)]
  refine Ev.ite (fun c=>Ev.eq next ?_) (fun c=>Ev.ret ?_)
  ·rw [show rowB l w=true from decide_eq_true c]; rfl
  ·rw [show rowB l w=false from decide_eq_false c]; rfl
 | succ d ih =>
  intro i hi
  have b3 := cntU_bound (fun i=>undB l i w) i
  have next := ih (i+1) (by omega)
  refine Ev.step (fun k=>impl_flat.l1.eq_2 ..) (Ev.pos (by omega) ?_)
  rw [wrap_add1 (n := i) (by omega), wrap_add1 (n := w) (by omega), wrap_id (n := cntU (fun i=>undB l i w) i+1) (by omega) (by omega), mn_min, mx_max]
  refine Ev.bind (impl_under_ev h (by omega) hw) (Ev.ite (fun c=>?_) (fun c=>?_))
  ·have e1 : cntU (fun i=>undB l i w) (i+1)=cntU (fun i=>undB l i w) i+1:=by
    unfold cntU; rw [sumTo, if_pos c]
   have e2 : mnU (fun i=>undB l i w) l.length (i+1)=min (mnU (fun i=>undB l i w) l.length i) i := by rw [mnU, if_pos c]
   have e3 : mxU (fun i=>undB l i w) (i+1)=max (mxU (fun i=>undB l i w) i) i := by rw [mxU, if_pos c]
   rw [e1, e2, e3] at next
   exact next
  ·have e1 : cntU (fun i=>undB l i w) (i+1)=cntU (fun i=>undB l i w) i:=by
    unfold cntU; rw [sumTo, if_neg c]; omega
   have e2 : mnU (fun i=>undB l i w) l.length (i+1)=mnU (fun i=>undB l i w) l.length i := by rw [mnU, if_neg c]
   have e3 : mxU (fun i=>undB l i w) (i+1)=mxU (fun i=>undB l i w) i := by rw [mxU, if_neg c]
   rw [e1, e2, e3] at next
   exact next
theorem impl_flatOk_l0 {l : List Int} (h : treeOk l=true) (d:Nat) : ∀ w : Nat, w+d=l.length →
  Ev (fun k=>impl_flat.l0 k l (l.length:Int) (w:Int)) ((List.range' w (l.length - w)).all (rowB l)):=by
 have hn := treeOk_len h
 induction d with
 | zero =>
  intro w hw
  refine Ev.step (fun k=>impl_flat.l0.eq_2 ..) (Ev.neg (by omega) (Ev.ret ?_))
  rw [show l.length - w=0 by omega]; rfl
 | succ d ih =>
  intro w hw
  refine Ev.step (fun k=>impl_flat.l0.eq_2 ..) (Ev.pos (by omega) ?_)
  rw [all_from _ _ _ (by omega)]
  exact impl_flatOk_l1 h (by omega) _ (ih (w+1) (by omega)) l.length 0 (by omega)
theorem impl_FlatOk_ev (l : List Int) : Ev (fun k=>impl_FlatOk.f k l) (flatB l):=by
 unfold impl_FlatOk.f flatB
 refine Ev.bind (impl_TreeOk_ev l) (Ev.ite (fun h=>?_) (fun h=>Ev.ret ?_))
 ·rw [h, Bool.true_and, List.range_eq_range']
  refine Ev.bind (g := fun k=>impl_flat.f k l) ?_ (Ev.ret rfl)
  unfold impl_flat.f
  exact impl_flatOk_l0 h l.length 0 (by omega)
 ·rw [show treeOk l=false by simpa using h]; rfl
def gone (ws : List Int) (nx:Int) (j:Nat) : Prop := (j:Int)+1≤nx∧(j:Int)+1 ∉ ws
def freeW (l ws : List Int) (nx x:Int) : Prop := ∀ j : Nat, j<l.length→rd l j=x→gone ws nx j
def redW (l ws : List Int) (nx a b:Int) : Prop := (rd l (a - 1)=b∧freeW l ws nx a) ∨ (rd l (b - 1)=a∧freeW l ws nx b)
structure SInv (l ws : List Int) (nx:Int) (hs : List Int) : Prop where
 len : hs.length=l.length
 n0 : 0≤nx
 n1 : nx≤l.length
 srt : ws.Pairwise (·<·)
 mem : ∀ x ∈ ws, 1≤x∧x≤nx
 val : ∀ j : Nat, j<l.length→(gone ws nx j→rd hs j=rd l j∧rd l j≠0)∧(¬ gone ws nx j→rd hs j=0)
 shut : ∀ i : Nat, i<l.length→gone ws nx i→freeW l ws nx ((i:Int)+1)
 wait : ∀ xs a b ys, ws=xs ++ a :: b :: ys→ys≠[]→¬ redW l ws nx a b
theorem left_free {l ws hs : List Int} {nx : Int} (h : SInv l ws nx hs) (x:Int) : sm_leftN l hs x l.length=0 ↔ freeW l ws nx x:=by
 have key : ∀ k : Nat, k≤l.length→(sm_leftN l hs x k=0 ↔ ∀ j : Nat, j<k→rd l j=x→gone ws nx j):=by
  intro k
  induction k with
  | zero => intro _; exact ⟨fun _ j hj => by omega, fun _=>rfl⟩
  | succ k ih =>
   intro hk
   have h1 := ih (by omega)
   have h2 := sm_leftN_le l hs x k
   rw [sm_leftN_succ]
   have h3 := h.val k (by omega)
   by_cases c : rd l k=x∧rd hs k=0
   ·rw [if_pos c]
    refine ⟨fun q=>by omega, fun q=>?_⟩
    have h4 := q k (by omega) c.1
    have h5 := h3.1 h4
    exact absurd (h5.1 ▸ c.2) h5.2
   ·rw [if_neg c]
    refine ⟨fun q j hj hx => ?_, fun q=>by have := h1.mpr (fun j hj => q j (by omega)); omega⟩
    by_cases e : j=k
    ·subst e
     by_cases g : gone ws nx j
     ·exact g
     ·exact absurd ⟨hx, h3.2 g⟩ c
    ·exact h1.mp (by omega) j (by omega) hx
 exact key l.length (Nat.le_refl _)
theorem gone_drop {xs : List Int} {b u nx : Int} (hs : (xs ++ [b, u]).Pairwise (·<·)) (j:Nat) :
  (gone (xs ++ [u]) nx j ↔ gone (xs ++ [b, u]) nx j ∨ ((j:Int)+1≤nx∧(j:Int)+1=b))∧(gone (xs ++ [b]) nx j ↔ gone (xs ++ [b, u]) nx j ∨ ((j:Int)+1≤nx∧(j:Int)+1=u)):=by
 rw [List.pairwise_append] at hs
 obtain ⟨_, h2, h3⟩:=hs
 have hbu : b<u := by simpa using h2
 have hb : b ∉ xs := fun q=>by have := h3 b q b (by simp); omega
 have hu : u ∉ xs := fun q=>by have := h3 u q u (by simp); omega
 unfold gone
 simp only [List.mem_append, List.mem_cons, List.not_mem_nil, or_false, not_or]
 refine ⟨⟨fun ⟨q1, q2, q3⟩ => ?_, ?_⟩, ⟨fun ⟨q1, q2, q3⟩ => ?_, ?_⟩⟩
 ·by_cases e : (j:Int)+1=b
  ·exact .inr ⟨q1, e⟩
  ·exact .inl ⟨q1, q2, e, q3⟩
 ·rintro (⟨q1, q2, q3, q4⟩ | ⟨q1, e⟩)
  ·exact ⟨q1, q2, q4⟩
  ·exact ⟨q1, by rw [e]; exact hb,by omega⟩
 ·by_cases e : (j:Int)+1=u
  ·exact .inr ⟨q1, e⟩
  ·exact .inl ⟨q1, q2, q3, e⟩
 ·rintro (⟨q1, q2, q3, q4⟩ | ⟨q1, e⟩)
  ·exact ⟨q1, q2, q3⟩
  ·exact ⟨q1, by rw [e]; exact hu,by omega⟩
theorem inv_drop {l xs hs : List Int} {b u nx c d : Int} (h : SInv l (xs ++ [b, u]) nx hs) (hcd : (c=b∧d=u) ∨ (c=u∧d=b)) (hd : rd l (d - 1)=c) (hf : freeW l (xs ++ [b, u]) nx d) : SInv l (xs ++ [c]) nx (hs.set (d.toNat - 1) c):=by
 have hgd : ∀ j : Nat, gone (xs ++ [c]) nx j ↔ gone (xs ++ [b, u]) nx j ∨ ((j:Int)+1≤nx∧(j:Int)+1=d):=by
  intro j
  rcases hcd with ⟨rfl, rfl⟩ | ⟨rfl, rfl⟩
  ·exact (gone_drop h.srt j).2
  ·exact (gone_drop h.srt j).1
 have hmd := h.mem d (by rcases hcd with ⟨rfl, rfl⟩ | ⟨rfl, rfl⟩ <;> simp)
 have hmc := h.mem c (by rcases hcd with ⟨rfl, rfl⟩ | ⟨rfl, rfl⟩ <;> simp)
 have hn := h.n1
 have hsub : (xs ++ [c]).Sublist (xs ++ [b, u]):=by
  refine List.Sublist.append (List.Sublist.refl _) ?_
  rcases hcd with ⟨rfl, rfl⟩ | ⟨rfl, rfl⟩
  ·exact List.Sublist.cons_cons _ (List.nil_sublist _)
  ·exact List.Sublist.cons _ (List.Sublist.refl _)
 have hfree : ∀ x, x≠c→(freeW l (xs ++ [c]) nx x ↔ freeW l (xs ++ [b, u]) nx x):=by
  intro x hx
  refine ⟨fun q j hj e => ?_, fun q j hj e => (hgd j).mpr (.inl (q j hj e))⟩
  rcases (hgd j).mp (q j hj e) with g | ⟨_, e2⟩
  ·exact g
  ·exfalso
   have : rd l (j:Int)=c := by rw [← hd]; congr 1; omega
   exact hx (by rw [← e, this])
 refine ⟨by rw [List.length_set]; exact h.len, h.n0, hn, h.srt.sublist hsub, fun x hx => h.mem x (hsub.subset hx), ?_, ?_, ?_⟩
 ·intro j hj
  have hv := h.val j hj
  have hlh := h.len
  by_cases e : (j:Int)+1=d
  ·have e2 : d.toNat - 1=j := by omega
   have hr : rd (hs.set (d.toNat - 1) c) (j:Int)=c:=by
    rw [e2]
    simp [rd, List.getD_eq_getElem?_getD, show j<hs.length by omega]
   have hlj : rd l (j:Int)=c := by rw [← hd]; congr 1; omega
   refine ⟨fun _=>⟨by rw [hr, hlj], by rw [hlj]; omega⟩, fun g=>absurd ((hgd j).mpr (.inr ⟨by omega, e⟩)) g⟩
  ·have hr : rd (hs.set (d.toNat - 1) c) (j:Int)=rd hs (j:Int):=by
    simp only [rd, List.getD_eq_getElem?_getD, Int.toNat_natCast]
    rw [List.getElem?_set_ne (by omega)]
   rw [hr]
   refine ⟨fun g=>?_, fun g=>hv.2 (fun q=>g ((hgd j).mpr (.inl q)))⟩
   rcases (hgd j).mp g with g | ⟨_, e2⟩
   ·exact hv.1 g
   ·exact absurd e2 e
 ·intro i hi hg j hj e
  rcases (hgd i).mp hg with g | ⟨_, e2⟩
  ·exact (hgd j).mpr (.inl (h.shut i hi g j hj e))
  ·exact (hgd j).mpr (.inl (hf j hj (by rw [e, e2])))
 ·intro p a a' q he hq
  -- the pair lies within xs
  obtain ⟨q', z, rfl⟩ : ∃ q' z, q=q' ++ [z] := ⟨q.dropLast, q.getLast hq, (List.dropLast_concat_getLast hq).symm⟩
  have he2 : xs ++ [c]=(p ++ a :: a' :: q') ++ [z] := by rw [he]; simp
  obtain ⟨hx, hz⟩:=List.append_inj' he2 rfl
  have hw := h.wait p a a' (q' ++ [b, u]) (by rw [hx]; simp) (by simp)
  have hc : c ∉ xs:=by
   have h1 := h.srt
   rw [List.pairwise_append] at h1
   intro q
   have := h1.2.2 c q b (by simp)
   have := h1.2.2 c q u (by simp)
   rcases hcd with ⟨rfl, rfl⟩ | ⟨rfl, rfl⟩ <;> omega
  have ha : a≠c := fun e=>hc (by rw [hx, ← e]; simp)
  have ha' : a'≠c := fun e=>hc (by rw [hx, ← e]; simp)
  rintro (⟨r1, r2⟩ | ⟨r1, r2⟩)
  ·exact hw (.inl ⟨r1, (hfree a ha).mp r2⟩)
  ·exact hw (.inr ⟨r1, (hfree a' ha').mp r2⟩)
theorem inv_push {l ws hs : List Int} {nx : Int} (h : SInv l ws nx hs) (hn : nx<l.length) (hr : ∀ xs b u, ws=xs ++ [b, u]→¬ redW l ws nx b u) : SInv l (ws ++ [nx+1]) (nx+1) hs:=by
 have hg : ∀ j : Nat, gone (ws ++ [nx+1]) (nx+1) j ↔ gone ws nx j:=by
  intro j
  unfold gone
  simp only [List.mem_append, List.mem_singleton, not_or]
  exact ⟨fun ⟨q1, q2, q3⟩ => ⟨by omega, q2⟩, fun ⟨q1, q2⟩ => ⟨by omega, q2,by omega⟩⟩
 have hfree : ∀ x, freeW l (ws ++ [nx+1]) (nx+1) x ↔ freeW l ws nx x := fun x =>
  ⟨fun q j hj e => (hg j).mp (q j hj e), fun q j hj e => (hg j).mpr (q j hj e)⟩
 refine ⟨h.len, by have := h.n0; omega,by omega, ?_, ?_, ?_, ?_, ?_⟩
 ·rw [List.pairwise_append]
  exact ⟨h.srt, List.pairwise_singleton .., fun x hx y hy => by simp only [List.mem_singleton] at hy; have := (h.mem x hx).2; omega⟩
 ·intro x hx
  simp only [List.mem_append, List.mem_singleton] at hx
  have := h.n0
  rcases hx with hx | rfl
  ·have := h.mem x hx; omega
  ·omega
 ·intro j hj
  rw [hg j]
  exact h.val j hj
 ·intro i hi gi
  exact (hfree _).mpr (h.shut i hi ((hg i).mp gi))
 ·intro p a b q he hq
  obtain ⟨q', z, rfl⟩ : ∃ q' z, q=q' ++ [z] := ⟨q.dropLast, q.getLast hq, (List.dropLast_concat_getLast hq).symm⟩
  have he2 : ws ++ [nx+1]=(p ++ a :: b :: q') ++ [z] := by rw [he]; simp
  obtain ⟨hx, hz⟩:=List.append_inj' he2 rfl
  have hw : ¬ redW l ws nx a b:=by
   by_cases c : q'=[]
   ·subst c
    exact hr p a b hx
   ·exact h.wait p a b q' hx c
  rintro (⟨r1, r2⟩ | ⟨r1, r2⟩)
  ·exact hw (.inl ⟨r1, (hfree a).mp r2⟩)
  ·exact hw (.inr ⟨r1, (hfree b).mp r2⟩)
theorem max_of (f : Int→Nat) : ∀ (ws : List Int), ws≠[]→∃ w ∈ ws, ∀ x ∈ ws, f x≤f w
 | [], h => absurd rfl h
 | [a], _ => ⟨a, by simp, fun x hx => by simp only [List.mem_singleton] at hx; rw [hx]; exact Nat.le_refl _⟩
 | a :: b :: r, _ => by
  obtain ⟨w, hw, hm⟩:=max_of f (b :: r) (by simp)
  by_cases c : f w≤f a
  ·refine ⟨a, by simp, fun x hx => ?_⟩
   rcases List.mem_cons.1 hx with rfl | hx
   ·exact Nat.le_refl _
   ·exact Nat.le_trans (hm x hx) c
  ·refine ⟨w, by simp [hw], fun x hx => ?_⟩
   rcases List.mem_cons.1 hx with rfl | hx
   ·omega
   ·exact hm x hx
theorem flat_between {l : List Int} (ht : treeOk l=true) (hf : Flat l) {w h x : Int} (hw : 1≤w∧w≤l.length) (hh : rd l (w - 1)=h) (h1 : 1≤h∧h≤l.length) (hx : (w≤x∧x<h) ∨ (h<x∧x≤w)) : ∃ k d, 1≤k∧k≤d∧Deep l d x∧up l k x=h:=by
 have hu : ∀ y : Nat, y<l.length→(undB l y (h - 1).toNat=true ↔ ∃ k d, Deep l d ((y:Int)+1)∧k≤d∧up l k ((y:Int)+1)=h):=by
  intro y hy
  obtain ⟨d, _, hd⟩:=tree_deep ht (w := (y:Int)+1) (by omega) (by omega)
  rw [undB_iff ht hy hd]
  have e : (((h - 1).toNat:Nat):Int)+1=h := by omega
  rw [e]
  exact ⟨fun ⟨k, q1, q2⟩ => ⟨k, d, hd, q1, q2⟩, fun ⟨k, d', q0, q1, q2⟩ => ⟨k, by rw [deep_unique l _ _ _ hd q0]; exact q1, q2⟩⟩
 have uw : undB l (w - 1).toNat (h - 1).toNat=true:=by
  rw [hu _ (by omega)]
  have e : (((w - 1).toNat:Nat):Int)+1=w := by omega
  rw [e]
  obtain ⟨d, _, hd⟩:=tree_deep ht hw.1 hw.2
  cases d with
  | zero => exact absurd (show rd l (w - 1)=0 from hd) (by omega)
  | succ d => exact ⟨1, d+1, hd,by omega, hh⟩
 have uh : undB l (h - 1).toNat (h - 1).toNat=true := undB_self _
 have ux : undB l (x - 1).toNat (h - 1).toNat=true:=by
  by_cases c : x=w
  ·rw [c]; exact uw
  ·rcases hx with hx | hx
   ·exact hf (h - 1).toNat (by omega) (w - 1).toNat (x - 1).toNat (h - 1).toNat (by omega) (by omega) (by omega) uw uh
   ·exact hf (h - 1).toNat (by omega) (h - 1).toNat (x - 1).toNat (w - 1).toNat (by omega) (by omega) (by omega) uh uw
 rw [hu _ (by omega)] at ux
 have e : (((x - 1).toNat:Nat):Int)+1=x := by omega
 rw [e] at ux
 obtain ⟨k, d, q1, q2, q⟩:=ux
 cases k with
 | zero => exact absurd (show x=h from q) (by omega)
 | succ k => exact ⟨k+1, d,by omega, q2, q1, q⟩
def depF (l : List Int) : Nat→Int→Nat
 | 0, _ => 0
 | m+1, x => if rd l (x - 1)=0 then 0 else depF l m (rd l (x - 1))+1
theorem depF_eq {l : List Int} : ∀ (d m:Nat) (x:Int), Deep l d x→d≤m→depF l m x=d
 | 0, 0, _, _, _ => rfl
 | 0, m+1, x, h, _ => by unfold depF; exact if_pos (show rd l (x - 1)=0 from h)
 | d+1, 0, _, _, hm => by omega
 | d+1, m+1, x, h, hm => by
  obtain ⟨h1, _, h3⟩:=h
  unfold depF
  rw [if_neg (by omega), depF_eq d m _ h3 (by omega)]
theorem inv_go {l ws hs : List Int} (ht : treeOk l=true) (hf : Flat l) (h : SInv l ws l.length hs) (h2 : 2≤ws.length) : ∃ xs b u, ws=xs ++ [b, u]∧redW l ws l.length b u:=by
 have hlen := treeOk_len ht
 have hrng : ∀ x ∈ ws, 1≤x∧x≤l.length := h.mem
 have hdep : ∀ x, 1≤x∧x≤(l.length:Int)→∃ d, Deep l d x∧depF l l.length x=d:=by
  intro x hx
  obtain ⟨d, h1, h2⟩:=tree_deep ht hx.1 hx.2
  exact ⟨d, h2, depF_eq d _ x h2 (by omega)⟩
 obtain ⟨w, hw, hmax⟩:=max_of (depF l l.length) ws (by rintro rfl; simp at h2)
 obtain ⟨d, hd, hdw⟩:=hdep w (hrng w hw)
 have hd0 : d≠0:=by
  rintro rfl
  match ws, h2, h.srt, hrng, hmax with
  | a :: b :: r, _, hs, hr, hm =>
   have hab : a<b := by have := List.rel_of_pairwise_cons hs (a' := b) (by simp); exact this
   have z : ∀ x ∈ a :: b :: r, rd l (x - 1)=0:=by
    intro x hx
    obtain ⟨e, h1, h2⟩:=hdep x (hr x hx)
    have := hm x hx
    have e0 : e=0 := by omega
    rw [e0] at h1
    exact h1
   have ra := hr a (by simp)
   have rb := hr b (by simp)
   have := zero_unique ht (i := (a - 1).toNat) (j := (b - 1).toNat) (by omega) (by omega) (by rw [show (((a - 1).toNat:Nat):Int)=a - 1 by omega]; exact z a (by simp)) (by rw [show (((b - 1).toNat:Nat):Int)=b - 1 by omega]; exact z b (by simp))
   omega
 obtain ⟨d, rfl⟩ : ∃ e, d=e+1 := ⟨d - 1,by omega⟩
 obtain ⟨h1, hn, hdh⟩:=hd
 generalize hh : rd l (w - 1)=x at *
 have rw' := hrng w hw
 have hxw : x ∈ ws:=by
  by_cases c : x ∈ ws
  ·exact c
  ·exfalso
   have g : gone ws l.length (x - 1).toNat := ⟨by omega, by rw [show (((x - 1).toNat:Nat):Int)+1=x by omega]; exact c⟩
   have := h.shut (x - 1).toNat (by omega) g (w - 1).toNat (by omega) (by rw [show (((w - 1).toNat:Nat):Int)=w - 1 by omega, hh]; omega)
   have := this.2
   rw [show (((w - 1).toNat:Nat):Int)+1=w by omega] at this
   exact this hw
 have hwx : w≠x := fun e=>by
  have := deep_unique l _ _ _ hdh (show Deep l (d+1) x from by rw [← e]; exact ⟨by rw [hh]; omega, by rw [hh]; omega, by rw [hh]; exact hdh⟩)
  omega
 -- a word of the stack that lies between w and its head
 have hgood : ∀ y ∈ ws, (w≤y∧y<x) ∨ (x<y∧y≤w)→rd l (y - 1)=x∧freeW l ws l.length y:=by
  intro y hy hb
  obtain ⟨k, e, k1, ke, hde, hu⟩:=flat_between ht hf rw' hh ⟨h1, hn⟩ hb
  obtain ⟨e', hde', hdy⟩:=hdep y (hrng y hy)
  have he := deep_unique l _ _ _ hde hde'
  have hm := hmax y hy
  have hx2 := deep_up l k (e - k) y (by rw [show e - k+k=e by omega]; exact hde)
  rw [hu] at hx2
  have := deep_unique l _ _ _ hx2 hdh
  obtain rfl : k=1 := by omega
  refine ⟨hu, fun j hj hr => ⟨by omega, fun q=>?_⟩⟩
  obtain ⟨e2, hde2, hdj⟩:=hdep ((j:Int)+1) (by omega)
  have hjd : Deep l (e+1) ((j:Int)+1):=by
   have ry := hrng y hy
   refine ⟨?_, ?_, ?_⟩ <;> rw [show (j:Int)+1 - 1=(j:Int) by omega, hr]
   ·omega
   ·omega
   ·exact hde
  have := deep_unique l _ _ _ hjd hde2
  have := hmax _ q
  omega
 obtain ⟨p, q, rfl⟩:=List.append_of_mem hxw
 have hs := h.srt
 rw [List.pairwise_append] at hs
 obtain ⟨hs1, hs2, hs3⟩:=hs
 by_cases c : w<x
 ·have hwp : w ∈ p:=by
   rcases List.mem_append.1 hw with q1 | q1
   ·exact q1
   ·rcases List.mem_cons.1 q1 with q2 | q2
    ·omega
    ·have := List.rel_of_pairwise_cons hs2 q2; omega
  obtain ⟨xs, a, rfl⟩ : ∃ xs a, p=xs ++ [a] := ⟨p.dropLast, p.getLast (List.ne_nil_of_mem hwp), (List.dropLast_concat_getLast _).symm⟩
  have ha : w≤a:=by
   rcases List.mem_append.1 hwp with q1 | q1
   ·rw [List.pairwise_append] at hs1
    have := hs1.2.2 w q1 a (by simp)
    omega
   ·simp only [List.mem_singleton] at q1; omega
  have ha2 := hs3 a (by simp) x (by simp)
  obtain ⟨g1, g2⟩:=hgood a (by simp) (.inl ⟨ha, ha2⟩)
  have hr : redW l (xs ++ [a] ++ x :: q) l.length a x := .inl ⟨g1, g2⟩
  by_cases e : q=[]
  ·subst e
   exact ⟨xs, a, x, by simp, hr⟩
  ·exact absurd hr (h.wait xs a x q (by simp) e)
 ·have hwq : w ∈ q:=by
   rcases List.mem_append.1 hw with q1 | q1
   ·have := hs3 w q1 x (by simp); omega
   ·rcases List.mem_cons.1 q1 with q2 | q2
    ·omega
    ·exact q2
  cases q with
  | nil => simp at hwq
  | cons a ys =>
   have hxa : x<a := List.rel_of_pairwise_cons hs2 (by simp)
   have haw : a≤w:=by
    rcases List.mem_cons.1 hwq with q2 | q2
    ·omega
    ·have := List.rel_of_pairwise_cons (List.Pairwise.of_cons hs2) q2; omega
   obtain ⟨g1, g2⟩:=hgood a (by simp) (.inr ⟨hxa, haw⟩)
   have hr : redW l (p ++ x :: a :: ys) l.length x a := .inr ⟨g1, g2⟩
   by_cases e : ys=[]
   ·subst e
    exact ⟨p, x, a, rfl, hr⟩
   ·exact absurd hr (h.wait p x a ys rfl e)
theorem inv_round {l ws hs : List Int} {nx : Int} (ht : treeOk l=true) (hf : Flat l) (h : SInv l ws nx hs) (hr : 2 * nx - ws.length<2 * l.length - 1) :
  (sm_mv (sm_rule l ws hs) ws nx hs).1=true∧SInv l (sm_mv (sm_rule l ws hs) ws nx hs).2.1 (sm_mv (sm_rule l ws hs) ws nx hs).2.2.1 (sm_mv (sm_rule l ws hs) ws nx hs).2.2.2 ∧
   2 * (sm_mv (sm_rule l ws hs) ws nx hs).2.2.1 - ((sm_mv (sm_rule l ws hs) ws nx hs).2.1.length:Int)=2 * nx - ws.length+1∧(sm_mv (sm_rule l ws hs) ws nx hs).2.1≠[]:=by
 have push : (∀ xs b u, ws=xs ++ [b, u]→¬ redW l ws nx b u)→sm_rule l ws hs=83→(sm_mv 83 ws nx hs).1=true∧SInv l (sm_mv 83 ws nx hs).2.1 (sm_mv 83 ws nx hs).2.2.1 (sm_mv 83 ws nx hs).2.2.2 ∧
   2 * (sm_mv 83 ws nx hs).2.2.1 - ((sm_mv 83 ws nx hs).2.1.length:Int)=2 * nx - ws.length+1∧(sm_mv 83 ws nx hs).2.1≠[]:=by
  intro hno _
  have hn : nx<l.length:=by
   by_cases c : nx<l.length
   ·exact c
   ·exfalso
    have hn1 := h.n1
    obtain rfl : nx=l.length := by omega
    obtain ⟨xs, b, u, e, q⟩:=inv_go ht hf h (by omega)
    exact hno xs b u e q
  have e : sm_mv 83 ws nx hs=(true, ws ++ [nx+1], nx+1, hs):=by
   unfold sm_mv
   rw [if_pos rfl, if_neg (by rw [h.len]; omega)]
  rw [e]
  refine ⟨rfl, inv_push h hn hno, ?_, by simp⟩
  simp
  omega
 by_cases c : ws.length<2
 ·have e : sm_rule l ws hs=83 := by unfold sm_rule; rw [if_pos c]
  rw [e]
  refine push (fun xs b u q => ?_) e
  rw [q] at c
  simp at c
  omega
 ·obtain ⟨xs, b, u, rfl⟩:=sm_two_of c
  have er := sm_rule_two l xs b u hs
  by_cases c1 : rd l (b - 1)=u∧sm_leftN l hs b l.length=0
  ·rw [if_pos c1] at er
   rw [er, sm_mv_two 76 xs b u nx hs (by omega) (.inl rfl), if_pos rfl]
   refine ⟨rfl, inv_drop h (.inr ⟨rfl, rfl⟩) c1.1 ((left_free h b).mp c1.2), ?_, by simp⟩
   simp
   omega
  ·rw [if_neg c1] at er
   by_cases c2 : rd l (u - 1)=b∧sm_leftN l hs u l.length=0
   ·rw [if_pos c2] at er
    rw [er, sm_mv_two 82 xs b u nx hs (by omega) (.inr rfl), if_neg (by omega)]
    refine ⟨rfl, inv_drop h (.inl ⟨rfl, rfl⟩) c2.1 ((left_free h u).mp c2.2), ?_, by simp⟩
    simp
    omega
   ·rw [if_neg c2] at er
    rw [er]
    refine push (fun xs' b' u' q => ?_) er
    obtain ⟨-, q2⟩:=List.append_inj' q rfl
    simp only [List.cons.injEq, and_true] at q2
    obtain ⟨rfl, rfl⟩:=q2
    rintro (⟨r1, r2⟩ | ⟨r1, r2⟩)
    ·exact c1 ⟨r1, (left_free h b).mpr r2⟩
    ·exact c2 ⟨r1, (left_free h u).mpr r2⟩
theorem tree_zero {l : List Int} (ht : treeOk l=true) : ∃ r : Nat, r<l.length∧rd l (r:Int)=0:=by
 have hlen := treeOk_len ht
 obtain ⟨d, _, hd⟩:=tree_deep ht (w := 1) (by omega) (by omega)
 have h1 := deep_top d 1 hd
 have h2 := up_range l d 0 1 (by simpa using hd) (by omega)
 refine ⟨(up l d 1 - 1).toNat,by omega, ?_⟩
 rw [show (((up l d 1 - 1).toNat:Nat):Int)=up l d 1 - 1 by omega]
 exact h1
theorem rd_ext {a b : List Int} (h : a.length=b.length) (k : ∀ j : Nat, j<a.length→rd a (j:Int)=rd b (j:Int)) : a=b :=
 List.ext_getElem h fun i h1 h2 => by have := k i h1; simpa [rd, List.getD_eq_getElem?_getD, h1, h2] using this
theorem told_steps {l : List Int} (ht : treeOk l=true) (hf : Flat l) : ∀ (k:Nat) (ws : List Int) (nx:Int) (hs : List Int), SInv l ws nx hs→2 * nx - ws.length+k=2 * l.length - 1→(ws=[]→nx=0) →
  ∃ w, sm_steps (sm_told l k ws nx hs) ws nx hs=some ([w], (l.length:Int), l)
 | 0, ws, nx, hs, h, hk, h0 => by
  have hlen := treeOk_len ht
  have hn := h.n1
  have hnx : nx=l.length∧ws.length=1:=by
   by_cases c : ws=[]
   ·have := h0 c; subst c; simp at hk; omega
   ·have : 0<ws.length := List.length_pos_iff.2 c
    omega
  obtain ⟨rfl, h1⟩:=hnx
  obtain ⟨w, rfl⟩:=List.length_eq_one_iff.1 h1
  refine ⟨w, ?_⟩
  have hw := h.mem w (by simp)
  have e : hs=l:=by
   refine rd_ext h.len (fun j hj => ?_)
   have hj : j<l.length := by have := h.len; omega
   have hv := h.val j hj
   by_cases g : gone [w] (l.length:Int) j
   ·exact (hv.1 g).1
   ·rw [hv.2 g]
    obtain ⟨r, hr, hr0⟩:=tree_zero ht
    by_cases g2 : gone [w] (l.length:Int) r
    ·exact absurd hr0 ((h.val r hr).1 g2).2
    ·have e1 : (r:Int)+1=w:=by
      by_cases q : (r:Int)+1=w
      ·exact q
      ·exact absurd ⟨by omega, by simpa using q⟩ g2
     have e2 : (j:Int)+1=w:=by
      by_cases q : (j:Int)+1=w
      ·exact q
      ·exact absurd ⟨by omega, by simpa using q⟩ g
     obtain rfl : j=r := by omega
     exact hr0.symm
  rw [e]
  rfl
 | k+1, ws, nx, hs, h, hk, h0 => by
  obtain ⟨r1, r2, r3, r4⟩:=inv_round ht hf h (by omega)
  obtain ⟨w, e⟩:=told_steps ht hf k _ _ _ r2 (by rw [r3]; omega) (fun q=>absurd q r4)
  refine ⟨w, ?_⟩
  show sm_steps (sm_rule l ws hs :: _) ws nx hs=_
  unfold sm_steps
  rw [if_pos r1]
  exact e
theorem bytesOf_append (s t : ByteArray) : bytesOf (s ++ t)=bytesOf s ++ bytesOf t:=by
 unfold bytesOf
 rw [ByteArray.data_append]
 simp
theorem bytes_addm : ∀ (ms : List Int) (s : ByteArray), (∀ m ∈ ms, m=83 ∨ m=76 ∨ m=82)→bytesOf (sm_addm s ms)=bytesOf s ++ ms
 | [], s, _ => by simp [sm_addm]
 | m :: ms, s, h => by
  show bytesOf (sm_addm (s ++ Utf8.encode m) ms)=_
  rw [bytes_addm ms _ (fun x hx => h x (by simp [hx])), bytesOf_append, sm_code_one (h m (by simp))]
  have : bytesOf ⟨#[m.toNat.toUInt8]⟩=[m]:=by
   rcases h m (by simp) with rfl | rfl | rfl <;> rfl
  rw [this]
  simp
theorem told_codes (l : List Int) : ∀ (k:Nat) (ws : List Int) (nx:Int) (hs : List Int), (∀ m ∈ sm_told l k ws nx hs, m=83 ∨ m=76 ∨ m=82)∧(sm_told l k ws nx hs).length=k
 | 0, ws, nx, hs => ⟨fun m hm => by simp [sm_told] at hm, rfl⟩
 | k+1, ws, nx, hs => by
  obtain ⟨h1, h2⟩:=told_codes l k (sm_mv (sm_rule l ws hs) ws nx hs).2.1 (sm_mv (sm_rule l ws hs) ws nx hs).2.2.1 (sm_mv (sm_rule l ws hs) ws nx hs).2.2.2
  refine ⟨fun m hm => ?_, by rw [sm_told, List.length_cons, h2]⟩
  rw [sm_told] at hm
  rcases List.mem_cons.1 hm with rfl | hm
  ·exact sm_rule_in l ws hs
  ·exact h1 m hm
theorem run_told {l : List Int} (ht : treeOk l=true) (hf : Flat l) : sm_runM (l.length:Int) (sm_addm ⟨#[]⟩ (sm_told l (2 * l.length - 1) [] 0 (List.replicate l.length 0)))=(l, true):=by
 have hlen := treeOk_len ht
 have h0 : SInv l [] 0 (List.replicate l.length 0):=by
  have hg : ∀ j : Nat, ¬ gone [] 0 j := fun j q => by have := q.1; omega
  refine ⟨List.length_replicate ..,by omega,by omega, List.Pairwise.nil, by simp, fun j hj => ⟨fun q=>absurd q (hg j), fun _=>?_⟩, fun i _ q => absurd q (hg i), fun xs a b ys q => by simp at q⟩
  simp [rd, List.getD_eq_getElem?_getD, List.getElem?_replicate, hj]
 obtain ⟨w, e⟩:=told_steps ht hf (2 * l.length - 1) [] 0 (List.replicate l.length 0) h0 (by simp; omega) (fun _=>rfl)
 unfold sm_runM sm_ranL
 rw [if_neg (by omega), Int.toNat_natCast, bytes_addm _ _ (told_codes l _ _ _ _).1]
 have eb : bytesOf ⟨#[]⟩=[] := rfl
 rw [eb, List.nil_append, e]
 simp
theorem made_stays {l : List Int} (ht : treeOk l=true) (hf : Flat l) : madeFlat l=l:=by
 have ho := flatOrder_ok ht
 have hol := orderOk_len ho
 have hs := same_of_flat ht hf
 have hp : ∀ v : Int, 0≤v∧v≤l.length→placeOf (flatOrder l) v=v:=by
  intro v hv
  by_cases c : v=0
  ·rw [c]; exact placeOf_zero ho
  ·have h1 := placeOf_at ho (i := (v - 1).toNat) (by omega)
   rw [hs (v - 1).toNat (by omega)] at h1
   rw [show (((v - 1).toNat:Nat):Int)+1=v by omega] at h1
   exact h1
 rw [madeFlat_put ht]
 refine rd_ext (by rw [putOf_length, hol]) (fun j hj => ?_)
 rw [putOf_length, hol] at hj
 rw [putOf_rd ho hj, hs j (by omega), show (j:Int)+1 - 1=(j:Int) by omega]
 exact hp _ (treeOk_rd ht hj)
theorem FnMadeFlat : laws_FnMadeFlat.Pure:=by
 intro l _ _ hb
 refine Ev.rounds (g := fun k=>laws_FnMadeFlat.f k l) ?_
 obtain ⟨b, hB, hopen⟩:=l20Open_ev l hb
 unfold laws_FnMadeFlat.f
 refine Ev.ite (fun h=>Ev.ret rfl) (fun h=>?_)
 obtain ⟨heads, hd, hlen⟩ : ∃ r, Ev (fun k=>spec_DrawMadeFlat.f k l) r∧r.length≤9:=by
  obtain ⟨r, p', hr, h1, _⟩:=wild_ev hB 9 (by omega) (by omega)
  unfold spec_DrawMadeFlat.f
  exact ⟨r, Ev.bind0 hopen (Ev.bind hr (Ev.ret rfl)), h1⟩
 refine Ev.bind hd (Ev.bind (impl_MadeFlat_ev heads) (Ev.bind (spec_MadeFlat_ev heads) (Ev.bind (sameInts_ev _ _ (madeFlat_small heads)) (Ev.pos (by simp) ?_))))
 by_cases h : treeOk heads=true
 ·have ho := flatOrder_ok h
  have e := madeFlat_put h
  have hx : treeOk (madeFlat heads)=true := by rw [e]; exact treeOk_put h ho
  have hf : Flat (madeFlat heads) := by rw [e]; exact flat_made h
  have hn := treeOk_len hx
  generalize hm : madeFlat heads=x at *
  have hrun : impl_RunStack.f (x.length:Int) (sm_addm ⟨#[]⟩ (sm_told x (2 * x.length - 1) [] 0 (List.replicate x.length 0)))=some (x, true):=by
   unfold impl_RunStack.f
   have hsz : (sm_addm ⟨#[]⟩ (sm_told x (2 * x.length - 1) [] 0 (List.replicate x.length 0))).size≤1000000000:=by
    rw [← bytesOf_length, bytes_addm _ _ (told_codes x _ _ _ _).1, List.length_append, (told_codes x _ _ _ _).2]
    show 0+_≤_
    omega
   rw [if_pos hsz, run_told hx hf]
  have hfb := (flatB_iff hx).mpr hf
  have hmf : Ev (fun k=>impl_MovesFor.f k x) (sm_addm ⟨#[]⟩ (sm_told x (2 * x.length - 1) [] 0 (List.replicate x.length 0)), true):=by
   unfold impl_MovesFor.f
   exact Ev.bind (impl_FlatOk_ev x) (Ev.pos hfb (Ev.pos hn (Ev.ret rfl)))
  refine Ev.neg (by omega) (Ev.bind hmf (Ev.bind0 hrun (Ev.bind (impl_FlatOk_ev x) (Ev.pos hfb (Ev.pos rfl (Ev.pos rfl (Ev.bind (sameInts_ev x x (by omega)) (Ev.pos (by simp) (Ev.bind (impl_MadeFlat_ev x) ?_)))))))))
  have hmm := made_stays hx hf
  rw [hmm]
  refine Ev.bind (sameInts_ev x x (by omega)) (Ev.pos (by simp) (Ev.bind (impl_FlatOk_ev heads) (Ev.ite (fun hfl=>?_) (fun _=>Ev.ret rfl))))
  rw [made_stays h ((flatB_iff h).mp hfl)] at hm
  subst hm
  exact Ev.bind (sameInts_ev _ _ (by omega)) (Ev.ret (by simp))
 ·have e : madeFlat heads=[]:=by
   unfold madeFlat putInOrder
   simp [h]
  rw [e]
  exact Ev.pos rfl (Ev.bind (impl_TreeOk_ev heads) (Ev.neg h (Ev.bind alive_ev (Ev.ret rfl))))
end Go.Proofs.Ytbbhdgpiocojaaa.Pure
