/- The plain statement of FnReadJournal: the printed functions answer true for all arguments within the printed bounds; no other conditions. -/
import Derived.Test.YtnpoeeliaolbaaaGreatDoorLAx30
import Derived.ChangeSlices
import Derived.Lib.CutLaws
import Derived.Lib.IndexBytes
import Derived.Lib.ItoaNum
import Derived.Lib.SplitLaws
import Derived.Lib.Strings
import Derived.SizedLaws
import Derived.Test.YtnpoeeliaolbaaaGreatDoorUSized
namespace Go.Proofs.YtnpoeeliaolbaaaGreatDoor.Pure
open Go.RowKit Go.Proofs.YtnpoeeliaolbaaaGreatDoor.LA Go.Proofs.YtnpoeeliaolbaaaGreatDoorV.PrintWords Go.Proofs.YtnpoeeliaolbaaaGreatDoorV.PrintLast
set_option linter.unusedVariables false
set_option linter.unusedSimpArgs false
theorem o_ {P : Prop} (h : P := by omega) : P := h
theorem Ev.ret {α : Type} {r r' : α} (h : r=r') : Ev (fun _=>some r) r' := ⟨0, fun _ _ => by rw [h]⟩
theorem Ev.pos {α : Type} {c : Prop} [Decidable c] {g f : Nat→Option α} {r : α} (h : c) (k : Ev g r) : Ev (fun n=>if c then g n else f n) r:=by
 simpa only [if_pos h] using k
theorem Ev.neg {α : Type} {c : Prop} [Decidable c] {g f : Nat→Option α} {r : α} (h : ¬ c) (k : Ev f r) : Ev (fun n=>if c then g n else f n) r:=by
 simpa only [if_neg h] using k
theorem Ev.ite {α : Type} {c : Prop} [Decidable c] {g f : Nat→Option α} {r : α} (h : c→Ev g r) (k : ¬ c→Ev f r) : Ev (fun n=>if c then g n else f n) r:=by
 by_cases hc : c
 ·exact Ev.pos hc (h hc)
 ·exact Ev.neg hc (k hc)
theorem Ev.bind0 {α β : Type} {o : Option α} {f : Nat→α→Option β} {a : α} {r : β} (h : o=some a) (k : Ev (fun n=>f n a) r) : Ev (fun n=>o.bind (f n)) r:=by
 subst h; simpa only [Option.bind_some] using k
theorem Ev.eq {α : Type} {g : Nat→Option α} {r r' : α} (h : Ev g r) (e : r=r') : Ev g r' := e ▸ h
theorem g00 {n : Int} (h0 : -9223372036854775808≤n) (h1 : n<9223372036854775808) : wrap64 n=n:=by
 unfold wrap64; omega
theorem wA {n : Nat} (h : n<1099511627776) : wrap64 ((n:Int)+1)=((n+1:Nat):Int):=by
 unfold wrap64; omega
theorem g47 (l : List Int) (j:Nat) : rd l (j:Int)=l.getD j 0 := by simp [rd]
open Go.ChangeShapes Go.WideShapes in
theorem _root_.Go.Proofs.YtnpoeeliaolbaaaGreatDoor.PrintWords.sized_ints {H : Type} {enc : TypeId × Value→H} {P : Program} {W : World} {base : Nat} {spare : Nat→Bool} {held : Bool} {t e : TypeId} {k : IntKind} {a : Option Addr} {len cap : Nat} {d : DataW H} {ps : List MemPlace} {ts : List TypeId} {ds : List (DataW H)} {j : Nat}
  (hsz : (DataW.weightsEach P ts ds).all (·≤reachBytes)=true) (ht : ts[j]?=some t) (hd : ds[j]?=some d) (hu : P.underlying t=some (.slice e)) (he : P.underlying e=some (.int k)) (hc : P.cellsOf e=1) {B : Nat} (hB : P.bytesOf e=B)
  (h : DataW.Trod enc P W base spare held t (.slice a len cap) d ps) : len * B≤140737488351232 :=
 Go.Proofs.YtnpoeeliaolbaaaGreatDoorV.PrintWords.sized_ints hsz ht hd hu he hc hB h
theorem xor_small (a b:Int) (ha : 0≤a) (ha2 : a<4294967296) (hb : 0≤b) (hb2 : b<4294967296) : 0≤Go.bits .xor .i64 a b∧Go.bits .xor .i64 a b<4294967296:=by
 obtain ⟨x, rfl⟩ : ∃ x : Nat, a=x := ⟨a.toNat,by omega⟩;obtain ⟨y, rfl⟩ : ∃ y : Nat, b=y := ⟨b.toNat,by omega⟩;have h := Nat.xor_lt_two_pow (n := 32) (show x<2 ^ 32 by omega) (show y<2 ^ 32 by omega);have e : Go.bits .xor .i64 (x:Int) (y:Int)=((x ^^^ y:Nat):Int):=by
  have hx : x % 2 ^ 64=x := Nat.mod_eq_of_lt o_;have hy : y % 2 ^ 64=y := Nat.mod_eq_of_lt o_;(have hv : (BitVec.ofNat 64 x ^^^ BitVec.ofNat 64 y).toNat=x ^^^ y := by rw [BitVec.toNat_xor, BitVec.toNat_ofNat, BitVec.toNat_ofNat, hx, hy]);simp only [Go.bits, BitVec.ofInt_natCast, IntKind.bits];rw [i64_w];show wrap64 (((BitVec.ofNat 64 x ^^^ BitVec.ofNat 64 y).toNat:Nat):Int)=_;rw [hv];exact g00 (n := ((x ^^^ y:Nat):Int)) o_ o_
 rw [e];omega
structure Bytes (b : List Int) : Prop where
 small : ∀ x ∈ b, 0≤x∧x≤255
 len : b.length≤2000
theorem Bytes.rd_le {b : List Int} (h : Bytes b) (i:Int) : 0≤rd b i∧rd b i≤255:=by
 unfold rd;by_cases hi : i.toNat<b.length
 ·(have e : b.getD i.toNat 0=b[i.toNat] := by simp [hi]);rw [e]; exact h.small _ (List.getElem_mem hi)
 ·(have e : b.getD i.toNat 0=0 := by simp [Nat.le_of_not_lt hi]);rw [e]; omega
theorem g04 {b : List Int} (hb : Bytes b) (p n:Int) (h0 : 0≤p) (h1 : p≤1000000) (hn : 1≤n) (hn2 : n≤1000000) :
  ∃ v, 0≤v∧v<n∧Ev (fun k=>F19.f k b p n) (v, p+1):=by
 unfold F19.f;have hl := hb.len;rw [g00 (n := p+1) o_ o_];by_cases hz : b.length=0
 ·refine ⟨0,by omega,by omega, Ev.neg o_ (Ev.step (fun k=>F19.j0.eq_2 ..) (Ev.pos (by rw [hz]; rfl) (Ev.ret rfl)))⟩
 ·by_cases hp : p<b.length
  ·have hr := hb.rd_le p;refine ⟨Int.tmod (rd b p) n, Int.tmod_nonneg _ hr.1, Int.tmod_lt_of_pos _ o_, ?_⟩;refine Ev.neg o_ (Ev.step (fun k=>F19.j0.eq_2 ..) (Ev.neg (by simp; intro e; simp [e] at hz) ?_));rw [g00 (n := p+1 - 1) o_ o_, show p+1 - 1=p by omega, g00 (n := rd b p) o_ o_];exact Ev.pos hp (Ev.pos h0 (Ev.neg o_ (Ev.ret rfl)))
  ·(have e0 : wrap64 (p+1 - 1)=p := by rw [g00 o_ o_]; omega);have hm1 : 0≤Int.tmod p (b.length:Int)∧Int.tmod p (b.length:Int)<b.length := ⟨Int.tmod_nonneg _ h0, Int.tmod_lt_of_pos _ o_⟩;(have e1 : wrap64 (wrap64 (p * 7)+3)=p * 7+3 := by rw [g00 (n := p * 7) o_ o_, g00 o_ o_]);have hm2 : 0≤Int.tmod (p * 7+3) (b.length:Int)∧Int.tmod (p * 7+3) (b.length:Int)<b.length := ⟨Int.tmod_nonneg _ o_, Int.tmod_lt_of_pos _ o_⟩;have hr1 := hb.rd_le (Int.tmod p (b.length:Int));have hr2 := hb.rd_le (Int.tmod (p * 7+3) (b.length:Int));have hd : 0≤Int.tdiv p (b.length:Int)∧Int.tdiv p (b.length:Int)≤p:=by
    rw [Int.tdiv_eq_ediv_of_nonneg h0];exact ⟨Int.ediv_nonneg h0 o_, Int.ediv_le_self _ h0⟩
   obtain ⟨u1, hu1⟩ : ∃ u, u=rd b (Int.tmod p (b.length:Int)) := ⟨_, rfl⟩;obtain ⟨u2, hu2⟩ : ∃ u, u=rd b (Int.tmod (p * 7+3) (b.length:Int)) := ⟨_, rfl⟩;obtain ⟨q, hq⟩ : ∃ u, u=Int.tdiv p (b.length:Int) := ⟨_, rfl⟩;rw [← hu1] at hr1;rw [← hu2] at hr2;rw [← hq] at hd;obtain ⟨x, hx⟩ : ∃ x, x=wrap64 (wrap64 (wrap64 (wrap64 (wrap64 u1 * 131)+wrap64 (wrap64 u2 * 1117))+wrap64 (p * 29))+wrap64 (wrap64 q * 53)) := ⟨_, rfl⟩;have hxb : 0≤x∧x<4294967296:=by
    rw [hx, g00 (n := u1) o_ o_, g00 (n := u2) o_ o_, g00 (n := u1 * 131) o_ o_, g00 (n := u2 * 1117) o_ o_, g00 (n := u1 * 131+_) o_ o_, g00 (n := p * 29) o_ o_, g00 (n := q) o_ o_, g00 (n := q * 53) o_ o_, g00 (n := u1 * 131+u2 * 1117+p * 29) o_ o_, g00 o_ o_];omega
   have hy : 0≤wrap64 (Int.tdiv x 64)∧wrap64 (Int.tdiv x 64)<4294967296:=by
    rw [Int.tdiv_eq_ediv_of_nonneg hxb.1, g00 o_ o_];omega
   have hz2 := xor_small x (wrap64 (Int.tdiv x 64)) hxb.1 hxb.2 hy.1 hy.2;refine ⟨Int.tmod (Go.bits .xor .i64 x (wrap64 (Int.tdiv x 64))) n, Int.tmod_nonneg _ hz2.1, Int.tmod_lt_of_pos _ o_, ?_⟩;refine Ev.neg o_ (Ev.step (fun k=>F19.j0.eq_2 ..) (Ev.neg (by simp; intro e; simp [e] at hz) ?_));rw [e0, e1, ← hu1, ← hu2, ← hq, ← hx];exact Ev.neg hp (Ev.neg o_ (Ev.pos hm1.1 (Ev.pos hm1.2 (Ev.pos hm2.1 (Ev.pos hm2.2 (Ev.neg o_ (Ev.ret rfl)))))))
theorem l20Open_ev (l : List Int) (hb : ∀ x ∈ l, (Lit.int .u8 x).wf=true) : ∃ b, Bytes b∧F16.f l=some (b, 0):=by
 have hs : ∀ x ∈ l, 0≤x∧x≤255:=by
  intro x hx;have := hb x hx;simp [Lit.wf, IntKind.min, IntKind.max, IntKind.signed, IntKind.bits] at this;omega
 unfold F16.f;by_cases h : (l.length:Int) > 2000
 ·rw [if_pos h, if_pos o_];exact ⟨l.take 2000, ⟨fun x hx => hs x (List.mem_of_mem_take hx), by simp; omega⟩, rfl⟩
 ·rw [if_neg h];exact ⟨l, ⟨hs,by omega⟩, rfl⟩
theorem odd_ev {b : List Int} (hb : Bytes b) (p n:Int) (h0 : 0≤p) (h1 : p≤1000000) (hn : 1≤n) (hn2 : n≤1000000) :
  ∃ v, Ev (fun k=>F26.f k b p n) (v, p+1):=by
 obtain ⟨v, _, _, hv⟩:=g04 hb p n h0 h1 hn hn2;unfold F26.f;exact ⟨_, Ev.pos o_ (Ev.bind hv (Ev.ret rfl))⟩
theorem odd_evG {b : List Int} (hb : Bytes b) (p n:Int) (h0 : 0≤p) (h1 : p≤1000000) (hn : 0≤n) (hn2 : n≤1000000) :
  ∃ v q, Ev (fun k=>F26.f k b p n) (v, q)∧p≤q∧q≤p+1:=by
 by_cases h : 1≤n
 ·obtain ⟨v, hv⟩:=odd_ev hb p n h0 h1 h hn2;exact ⟨v, p+1, hv,by omega,by omega⟩
 ·unfold F26.f;exact ⟨false, p, Ev.neg o_ (Ev.ret rfl),by omega,by omega⟩
theorem deed_j0 {b : List Int} (hb : Bytes b) (p x y z:Int) (hp : 0≤p) (hp2 : p≤900000) :
  ∃ c p', Ev (fun k=>F48.j0 k b p x y z) (x, y, c, p')∧p≤p'∧p'≤p+2:=by
 obtain ⟨o, ho⟩:=odd_ev hb p 40 hp o_ o_ o_;by_cases h : o=true
 ·obtain ⟨v, hv0, hv1, hv⟩:=g04 hb (p+1) 3 o_ o_ o_ o_;refine ⟨rd [-1, 9, 100] v, p+1+1, Ev.step (fun k=>F48.j0.eq_2 ..) (Ev.bind ho (Ev.pos h ?_)),by omega,by omega⟩;simp only [Option.bind_some];exact Ev.bind hv (Ev.pos hv0 (Ev.pos (show v<(3:Int) by omega) (Ev.ret rfl)))
 ·exact ⟨z, p+1, Ev.step (fun k=>F48.j0.eq_2 ..) (Ev.bind ho (Ev.neg h (Ev.ret rfl))),by omega,by omega⟩
theorem deed_ev {b : List Int} (hb : Bytes b) (p:Int) (l : List Int) (hp : 0≤p) (hp2 : p≤800000) (hl : l.length≤1000) :
  ∃ x y z p', Ev (fun k=>F48.f k b p l) (x, y, z, p')∧p≤p'∧p'≤p+6:=by
 obtain ⟨v, hv0, hv1, hv⟩:=g04 hb p 8 hp o_ o_ o_;obtain ⟨u, hu0, hu1, hu⟩:=g04 hb (p+1) 60 o_ o_ o_ o_;have e : wrap64 ((l.length:Int)+1)=(l.length:Int)+1 := g00 o_ o_;unfold F48.f;simp only [Option.bind_some];obtain ⟨K, hK⟩ : ∃ K, wrap64 (rd [0, 0, 1, 1, 2, 3, 4, 5] v+wrap64 (wrap64 (Int.tdiv u 59) * 6))=K := ⟨_, rfl⟩;have go : ∀ (x y z p':Int), Ev (fun k=>if K=0 then ((F19.f k b (p+1+1) (mx (l.length:Int) 1)).bind fun s=>((F19.f k b s.2 (wrap64 ((l.length:Int)+1))).bind fun t=>F48.j0 k b t.2 K (wrap64 (1+s.1)) t.1)) else (if K=1 then ((F19.f k b (p+1+1) (wrap64 ((l.length:Int)+1))).bind fun s=>((F19.f k b s.2 9).bind fun t=>F48.j0 k b t.2 K (wrap64 (s.1+wrap64 (Int.tdiv t.1 8))) 0)) else F48.j0 k b (p+1+1) K 0 0)) (x, y, z, p')→p≤p'→p'≤p+6 →
   ∃ x y z p', Ev (fun k=>(F19.f k b p 8).bind fun bt333=>(if 0≤bt333.1 then (if bt333.1<((([0, 0, 1, 1, 2, 3, 4, 5] : List Int)).length:Int) then ((F19.f k b bt333.2 60).bind fun bt336=>(if (wrap64 ((rd [0, 0, 1, 1, 2, 3, 4, 5] bt333.1)+(wrap64 ((wrap64 (Int.tdiv bt336.1 59)) * 6))))=0 then ((F19.f k b bt336.2 (mx (l.length:Int) 1)).bind fun bt339=>((F19.f k b bt339.2 (wrap64 ((l.length:Int)+1))).bind fun bt341=>(F48.j0 k b bt341.2 (wrap64 ((rd [0, 0, 1, 1, 2, 3, 4, 5] bt333.1)+(wrap64 ((wrap64 (Int.tdiv bt336.1 59)) * 6)))) (wrap64 (1+bt339.1)) bt341.1))) else (if (wrap64 ((rd [0, 0, 1, 1, 2, 3, 4, 5] bt333.1)+(wrap64 ((wrap64 (Int.tdiv bt336.1 59)) * 6))))=1 then ((F19.f k b bt336.2 (wrap64 ((l.length:Int)+1))).bind fun bt343=>((F19.f k b bt343.2 9).bind fun bt345=>(F48.j0 k b bt345.2 (wrap64 ((rd [0, 0, 1, 1, 2, 3, 4, 5] bt333.1)+(wrap64 ((wrap64 (Int.tdiv bt336.1 59)) * 6)))) (wrap64 (bt343.1+(wrap64 (Int.tdiv bt345.1 8)))) 0))) else (F48.j0 k b bt336.2 (wrap64 ((rd [0, 0, 1, 1, 2, 3, 4, 5] bt333.1)+(wrap64 ((wrap64 (Int.tdiv bt336.1 59)) * 6)))) 0 0)))) else (none)) else (none))) (x, y, z, p')∧p≤p'∧p'≤p+6:=by
  intro x y z p' h h1 h2;refine ⟨x, y, z, p', Ev.bind hv (Ev.pos hv0 (Ev.pos (show v<(8:Int) by omega) (Ev.bind hu ?_))), h1, h2⟩;simp only [hK];exact h
 by_cases k0 : K=0
 ·(obtain ⟨s, hs0, hs1, hs⟩:=g04 hb (p+1+1) (mx (l.length:Int) 1) o_ o_ (by unfold mx; split <;> omega) (by unfold mx; split <;> omega));obtain ⟨t, ht0, ht1, ht⟩:=g04 hb (p+1+1+1) (wrap64 ((l.length:Int)+1)) o_ o_ (by rw [e]; omega) (by rw [e]; omega);obtain ⟨c, p', h, h1, h2⟩:=deed_j0 hb (p+1+1+1+1) K (wrap64 (1+s)) t o_ o_;exact go _ _ _ _ (Ev.pos k0 (Ev.bind hs (Ev.bind ht h))) o_ o_
 ·by_cases k1 : K=1
  ·obtain ⟨s, hs0, hs1, hs⟩:=g04 hb (p+1+1) (wrap64 ((l.length:Int)+1)) o_ o_ (by rw [e]; omega) (by rw [e]; omega);obtain ⟨t, ht0, ht1, ht⟩:=g04 hb (p+1+1+1) 9 o_ o_ o_ o_;obtain ⟨c, p', h, h1, h2⟩:=deed_j0 hb (p+1+1+1+1) K (wrap64 (s+wrap64 (Int.tdiv t 8))) 0 o_ o_;exact go _ _ _ _ (Ev.neg k0 (Ev.pos k1 (Ev.bind hs (Ev.bind ht h)))) o_ o_
  ·obtain ⟨c, p', h, h1, h2⟩:=deed_j0 hb (p+1+1) K 0 0 o_ o_;exact go _ _ _ _ (Ev.neg k0 (Ev.neg k1 h)) o_ o_
theorem deeds_loop {b : List Int} (hb : Bytes b) (t : List Int) (ht : t.length≤9) : ∀ (d:Nat) (out : List S39) (p:Int), 0≤p→p+6 * (d:Int)≤700000→out.length+d≤10 →
  ∃ r p', Ev (fun k=>F27.l0 k t out (d:Int) b p) (r, p')∧r.length=out.length+d∧p≤p'∧p'≤p+6 * (d:Int):=by
 intro d
 induction d with
 | zero =>
  intro out p hp _ _;exact ⟨out, p, Ev.step (fun k=>by rw [F27.l0]) (Ev.neg (show ¬ (((0:Nat):Int) > 0) by decide) (Ev.ret rfl)), rfl,by omega,by omega⟩
 | succ d ih =>
  intro out p hp hp2 ho;obtain ⟨x, y, z, p1, h1, h2, h3⟩:=deed_ev hb p t hp o_ o_;(have hlen : (out ++ [(⟨x, y, z⟩ : S39)]).length=out.length+1 := by simp);obtain ⟨r, p', e1, e2, e3, e4⟩:=ih (out ++ [(⟨x, y, z⟩ : S39)]) p1 o_ o_ o_;refine ⟨r, p', Ev.step (fun k=>by rw [F27.l0]) (Ev.pos (show ((d+1:Nat):Int) > 0 by omega) (Ev.bind h1 (Ev.pos (show out.length<5864062014805 by omega) ?_))),by omega,by omega,by omega⟩;rw [show wrap64 (((d+1:Nat):Int) - 1)=(d:Int) by unfold wrap64; omega];exact e1
theorem deeds_ev {b : List Int} (hb : Bytes b) (p:Int) (t : List Int) (ht : t.length≤9) (hp : 0≤p) (hp2 : p≤500000) :
  ∃ r p', Ev (fun k=>F27.f k b p t) (r, p')∧r.length≤6∧p≤p'∧p'≤p+100:=by
 obtain ⟨v, hv0, hv1, hv⟩:=g04 hb p 6 o_ o_ o_ o_;obtain ⟨d, rfl⟩ : ∃ d : Nat, v=(d:Int) := ⟨v.toNat,by omega⟩;obtain ⟨r, p', h1, h2, h3, h4⟩:=deeds_loop hb t ht d [] (p+1) o_ o_ (by simp; omega);refine ⟨r, p', ?_, by rw [h2]; simp; omega,by omega,by omega⟩;unfold F27.f;exact Ev.bind hv h1
def Within (n:Int) (l : List Int) : Prop := ∀ x ∈ l, 1≤x∧x≤n
theorem Within.get {n : Int} {l : List Int} (h : Within n l) {i : Int} (h0 : 0≤i) (h1 : i<l.length) : 1≤rd l i∧rd l i≤n:=by
 (have e : rd l i=l[i.toNat]'o_ := by unfold rd; simp [show i.toNat<l.length by omega]);rw [e]; exact h _ (List.getElem_mem _)
theorem order_next (x5 : List Int) (m x7:Int) (h7 : 1≤x7) (hw : Within (x7 - 1) x5) (h0 : 0≤m) (h1 : m≤x5.length) :
  Within x7 (([] ++ x5.take m.toNat ++ [x7]) ++ x5.drop m.toNat)∧(([] ++ x5.take m.toNat ++ [x7]) ++ x5.drop m.toNat).length=x5.length+1:=by
 constructor
 ·intro x hx;simp only [List.nil_append, List.append_assoc, List.mem_append, List.mem_singleton] at hx;rcases hx with hx | hx | hx
  ·have := hw x (List.mem_of_mem_take hx); omega
  ·omega
  ·have := hw x (List.mem_of_mem_drop hx); omega
 ·simp; omega
theorem order_l0 {b : List Int} (hb : Bytes b) (n keep:Int) (hn : n≤100) (d:Nat) : ∀ (x5 : List Int) (x7 p:Int), x7+d=n+1→1≤x7→(x5.length:Int)=x7 - 1→Within (x7 - 1) x5→0≤p→p≤1000+2 * x7 →
  ∃ r p', Ev (fun k=>F80.l0 k n x5 keep x7 b p) (r, p')∧(r.length:Int)=n∧Within n r∧p≤p'∧p'≤p+2 * d:=by
 induction d with
 | zero =>
  intro x5 x7 p h7 h1 hl hw hp hp2;refine ⟨x5, p, Ev.step (fun k=>F80.l0.eq_2 ..) (Ev.neg o_ (Ev.ret rfl)),by omega, ?_,by omega,by omega⟩;intro x hx;have := hw x hx;omega
 | succ d ih =>
  intro x5 x7 p h7 h1 hl hw hp hp2;have put : ∀ (m p':Int), 0≤m→m≤x5.length→p≤p'→p'≤p+2→∃ r p'', Ev (fun k=>F80.l0 k n (([] ++ x5.take m.toNat ++ [x7]) ++ x5.drop m.toNat) keep (x7+1) b p') (r, p'')∧(r.length:Int)=n∧Within n r∧p≤p''∧p''≤p+2 * ((d+1:Nat):Int):=by
   intro m p' hm0 hm1 hpp hpp2;obtain ⟨hw', hl'⟩:=order_next x5 m x7 h1 hw hm0 hm1;obtain ⟨r, p'', h1, h2, h3, h4, h5⟩:=ih (([] ++ x5.take m.toNat ++ [x7]) ++ x5.drop m.toNat) (x7+1) p' o_ o_ o_ (by rw [show x7+1 - 1=x7 by omega]; exact hw') o_ o_;exact ⟨r, p'', h1, h2, h3,by omega,by omega⟩
  have hlen : ∀ m : Int, 0≤m→m≤x5.length→(x5.take m.toNat).length≤200∧(x5.drop m.toNat).length≤200:=by
   intro m _ _; simp; omega
  by_cases hk : keep=0
  ·obtain ⟨v, hv0, hv1, hv⟩:=g04 hb p x7 hp o_ h1 o_;obtain ⟨r, p'', h, hrest⟩:=put v (p+1) hv0 o_ o_ o_;have hlen' := hlen v hv0 o_;refine ⟨r, p'', Ev.step (fun k=>F80.l0.eq_2 ..) (Ev.pos o_ (Ev.pos hk (Ev.bind hv ?_))), hrest⟩;simp only [Option.bind_some];rw [g00 (n := x7+1) o_ o_];refine Ev.pos hv0 (Ev.pos (show v≤x5.length by omega) (Ev.pos ?_ (Ev.pos ?_ (Ev.pos ?_ h))))
   ·simp only [List.length_nil]; omega
   ·simp only [List.length_append, List.length_nil]; omega
   ·simp only [List.length_append, List.length_nil, List.length_singleton]; omega
  ·obtain ⟨u, hu0, hu1, hu⟩:=g04 hb p 3 hp o_ o_ o_;by_cases hu3 : u=0
   ·obtain ⟨v, hv0, hv1, hv⟩:=g04 hb (p+1) x7 o_ o_ h1 o_;obtain ⟨r, p'', h, hrest⟩:=put v (p+1+1) hv0 o_ o_ o_;have hlen' := hlen v hv0 o_;refine ⟨r, p'', Ev.step (fun k=>F80.l0.eq_2 ..) (Ev.pos o_ (Ev.neg hk (Ev.bind hu (Ev.pos hu3 (Ev.bind hv ?_))))), hrest⟩;simp only [Option.bind_some];rw [g00 (n := x7+1) o_ o_];refine Ev.pos hv0 (Ev.pos (show v≤x5.length by omega) (Ev.pos ?_ (Ev.pos ?_ (Ev.pos ?_ h))))
    ·simp only [List.length_nil]; omega
    ·simp only [List.length_append, List.length_nil]; omega
    ·simp only [List.length_append, List.length_nil, List.length_singleton]; omega
   ·obtain ⟨r, p'', h, hrest⟩:=put (x5.length:Int) (p+1) o_ o_ o_ o_;have hlen' := hlen (x5.length:Int) o_ o_;refine ⟨r, p'', Ev.step (fun k=>F80.l0.eq_2 ..) (Ev.pos o_ (Ev.neg hk (Ev.bind hu (Ev.neg hu3 ?_)))), hrest⟩;simp only [Option.bind_some];rw [g00 (n := x7+1) o_ o_];refine Ev.pos o_ (Ev.pos o_ (Ev.pos ?_ (Ev.pos ?_ (Ev.pos ?_ h))))
    ·simp only [List.length_nil]; omega
    ·simp only [List.length_append, List.length_nil]; omega
    ·simp only [List.length_append, List.length_nil, List.length_singleton]; omega
theorem order_ev {b : List Int} (hb : Bytes b) (p n:Int) (hp : 0≤p) (hp2 : p≤1000) (h0 : 0≤n) (hn : n≤100) :
  ∃ r p', Ev (fun k=>F80.f k b p n) (r, p')∧(r.length:Int)=n∧Within n r∧p≤p'∧p'≤p+1+2 * n:=by
 obtain ⟨v, hv0, hv1, hv⟩:=g04 hb p 2 hp o_ o_ o_;obtain ⟨r, p', h, h1, h2, h3, h4⟩:=order_l0 hb n v hn n.toNat [] 1 (p+1) o_ o_ (by simp) (by intro x hx; simp at hx) o_ o_;unfold F80.f;exact ⟨r, p', Ev.bind hv h, h1, h2,by omega,by omega⟩
theorem tree_l0 {b : List Int} (hb : Bytes b) (n many near:Int) (ord : List Int) (hm : 1≤many) (hm2 : many≤8) (hn : 0≤n) (hn2 : n≤1000) (hol : (ord.length:Int)=many) (how : Within many ord) (d:Nat) :
  ∀ (heads : List Int) (x9 p:Int), x9+d=many→1≤x9→(heads.length:Int)=many→0≤p→p≤1500+2 * x9 →
  ∃ r p', Ev (fun k=>F78.l0 k n many ord heads near x9 b p) (r, p')∧r.length≤9∧p≤p'∧p'≤p+2 * d+3:=by
 induction d with
 | zero =>
  intro heads x9 p h9 h1 hl hp hp2;obtain ⟨o, q, ho, hq1, hq2⟩:=odd_evG hb p n hp o_ hn o_;by_cases ho1 : o=true
  ·obtain ⟨u, hu0, hu1, hu⟩:=g04 hb (q) 4 o_ o_ o_ o_;by_cases e0 : u=0
   ·exact ⟨[], q+1, Ev.step (fun k=>F78.l0.eq_2 ..) (Ev.neg o_ (Ev.bind ho (Ev.pos ho1 (Ev.bind hu (Ev.pos e0 (Ev.ret rfl)))))), by simp,by omega,by omega⟩
   ·by_cases e1 : u=1
    ·exact ⟨[2, 1, 0], q+1, Ev.step (fun k=>F78.l0.eq_2 ..) (Ev.neg o_ (Ev.bind ho (Ev.pos ho1 (Ev.bind hu (Ev.neg e0 (Ev.pos e1 (Ev.ret rfl))))))), by simp,by omega,by omega⟩
    ·by_cases e2 : u=2
     ·obtain ⟨v, hv0, hv1, hv⟩:=g04 hb (q+1) many o_ o_ o_ o_;refine ⟨heads.set v.toNat 0 ++ [0], q+1+1, Ev.step (fun k=>F78.l0.eq_2 ..) (Ev.neg o_ (Ev.bind ho (Ev.pos ho1 (Ev.bind hu (Ev.neg e0 (Ev.neg e1 (Ev.pos e2 (Ev.bind hv (Ev.pos hv0 (Ev.pos o_ ?_)))))))))), by simp; omega,by omega,by omega⟩;simp only [Option.bind_some];exact Ev.pos (by rw [List.length_set]; omega) (Ev.ret rfl)
     ·obtain ⟨v, hv0, hv1, hv⟩:=g04 hb (q+1) 3 o_ o_ o_ o_;refine ⟨heads.set 0 (rd [1, wrap64 (many+1), -1] v), q+1+1, Ev.step (fun k=>F78.l0.eq_2 ..) (Ev.neg o_ (Ev.bind ho (Ev.pos ho1 (Ev.bind hu (Ev.neg e0 (Ev.neg e1 (Ev.neg e2 ?_))))))), by simp; omega,by omega,by omega⟩;simp only [Option.bind_some];exact Ev.bind hv (Ev.pos hv0 (Ev.pos (show v<(3:Int) by omega) (Ev.pos o_ (Ev.ret rfl))))
  ·exact ⟨heads, q, Ev.step (fun k=>F78.l0.eq_2 ..) (Ev.neg o_ (Ev.bind ho (Ev.neg ho1 (Ev.ret rfl)))),by omega,by omega,by omega⟩
 | succ d ih =>
  intro heads x9 p h9 h1 hl hp hp2;obtain ⟨v, hv0, hv1, hv⟩:=g04 hb p x9 hp o_ h1 o_;have hr9 := how.get (i := x9) o_ o_;have next : ∀ (y p':Int), p≤p'→p'≤p+2→∃ r p'', Ev (fun k=>F78.l0 k n many ord (heads.set (rd ord x9 - 1).toNat y) near (x9+1) b p') (r, p'')∧r.length≤9∧p≤p''∧p''≤p+2 * ((d+1:Nat):Int)+3:=by
   intro y p' hpp hpp2;obtain ⟨r, p'', h1, h2, h3, h4⟩:=ih (heads.set (rd ord x9 - 1).toNat y) (x9+1) p' o_ o_ (by simpa using hl) o_ o_;exact ⟨r, p'', h1, h2,by omega,by omega⟩
  have e1 : wrap64 (x9+1)=x9+1 := g00 o_ o_;have e2 : wrap64 (x9 - 1)=x9 - 1 := g00 o_ o_;have e3 : wrap64 (rd ord x9 - 1)=rd ord x9 - 1 := g00 o_ o_;by_cases hnr : near=1
  ·obtain ⟨u, hu0, hu1, hu⟩:=g04 hb (p+1) 2 o_ o_ o_ o_;by_cases hu2 : u=0
   ·obtain ⟨r, p'', h, hrest⟩:=next (rd ord (x9 - 1)) (p+1+1) o_ o_;refine ⟨r, p'', Ev.step (fun k=>F78.l0.eq_2 ..) ?_, hrest⟩;rw [e1, e2, e3];exact Ev.pos o_ (Ev.bind hv (Ev.pos hnr (Ev.bind hu (Ev.pos hu2 (Ev.pos o_ (Ev.pos o_ (Ev.pos o_ (Ev.pos o_ (Ev.pos o_ (Ev.pos o_ h))))))))))
   ·obtain ⟨r, p'', h, hrest⟩:=next (rd ord v) (p+1+1) o_ o_;refine ⟨r, p'', Ev.step (fun k=>F78.l0.eq_2 ..) ?_, hrest⟩;rw [e1, e2, e3];exact Ev.pos o_ (Ev.bind hv (Ev.pos hnr (Ev.bind hu (Ev.neg hu2 (Ev.pos o_ (Ev.pos o_ (Ev.pos o_ (Ev.pos o_ (Ev.pos o_ (Ev.pos o_ h))))))))))
  ·obtain ⟨r, p'', h, hrest⟩:=next (rd ord v) (p+1) o_ o_;refine ⟨r, p'', Ev.step (fun k=>F78.l0.eq_2 ..) ?_, hrest⟩;rw [e1, e2, e3];exact Ev.pos o_ (Ev.bind hv (Ev.neg hnr (Ev.pos o_ (Ev.pos o_ (Ev.pos o_ (Ev.pos o_ (Ev.pos o_ (Ev.pos o_ h))))))))
theorem tree_ev {b : List Int} (hb : Bytes b) (p n:Int) (hp : 0≤p) (hp2 : p≤500) (hn : 0≤n) (hn2 : n≤1000) :
  ∃ r p', Ev (fun k=>F78.f k b p n) (r, p')∧r.length≤9∧p≤p'∧p'≤p+60:=by
 obtain ⟨v, hv0, hv1, hv⟩:=g04 hb p 7 hp o_ o_ o_;have e : wrap64 (1+v)=1+v := g00 o_ o_;obtain ⟨o, p1, ho, hol, how,hp1,hp1'⟩:=order_ev hb (p+1) (1+v) o_ o_ o_ o_;obtain ⟨u, hu0, hu1, hu⟩:=g04 hb p1 2 o_ o_ o_ o_;obtain ⟨r, p', h, h1, h2, h3⟩:=tree_l0 hb n (1+v) u o o_ o_ hn hn2 hol how v.toNat (List.replicate (1+v).toNat 0) 1 (p1+1) o_ o_ (by simp; omega) o_ o_;unfold F78.f;refine ⟨r, p', Ev.bind hv ?_, h1,by omega,by omega⟩;rw [e];exact Ev.bind ho (Ev.pos o_ (Ev.pos o_ (Ev.bind hu h)))
theorem fill_ev {b : List Int} (hb : Bytes b) (n:Nat) (hn : n≤8) (s:Nat) : ∀ (heads : List Int) (lo hi hd p:Int), heads.length=n→1≤lo→lo≤hi→hi≤n→hi - lo+1≤s→0≤p→p+2 * (hi - lo+1)≤5001 →
  ∃ r p', Ev (fun k=>F115.f k b p heads lo hi hd) (p', r)∧r.length=n∧p≤p'∧p'≤p+2 * (hi - lo+1) - 1:=by
 induction s with
 | zero => intro heads lo hi hd p hl h1 h2 h3 h4; omega
 | succ s ih =>
  intro heads lo hi hd p hl h1 h2 h3 h4 hp hp2;have right : ∀ (d:Nat) (root:Int), lo≤root→∀ (hs : List Int) (from_ q:Int), from_+d=hi+1→root<from_→hs.length=n→0≤q→q+2 * (hi+1 - from_)≤5000 →
    ∃ r p', Ev (fun k=>F115.l1 k hs hi root from_ b q) (p', r)∧r.length=n∧q≤p'∧p'≤q+2 * (hi+1 - from_):=by
   intro d
   induction d using Nat.strongRecOn with
   | _ d ihd =>
    intro root hroot hs from_ q hd2 hrf hhl hq hq2;by_cases hf : from_≤hi
    ·(have e1 : wrap64 (wrap64 (hi - from_)+1)=hi - from_+1 := by rw [g00 (n := hi - from_) o_ o_, g00 o_ o_]);obtain ⟨v, hv0, hv1, hv⟩:=g04 hb q (hi - from_+1) hq o_ o_ o_;have e2 : wrap64 (from_+v)=from_+v := g00 o_ o_;have e3 : wrap64 (from_+v+1)=from_+v+1 := g00 o_ o_;obtain ⟨r1, p1, hr1, hl1,hp1,hp1'⟩:=ih hs from_ (from_+v) root (q+1) hhl o_ o_ o_ o_ o_ o_;obtain ⟨r2, p2, hr2, hl2,hp2,hp2'⟩:=ihd (d - v.toNat - 1) o_ root hroot r1 (from_+v+1) p1 o_ o_ hl1 o_ o_;refine ⟨r2, p2, Ev.step (fun k=>F115.l1.eq_2 ..) (Ev.pos hf ?_), hl2,by omega,by omega⟩;rw [e1];exact Ev.bind hv (by simp only []; rw [e2, e3]; exact Ev.bind hr1 hr2)
    ·exact ⟨hs, q, Ev.step (fun k=>F115.l1.eq_2 ..) (Ev.neg hf (Ev.ret rfl)), hhl,by omega,by omega⟩
  have left : ∀ (d:Nat) (root:Int), lo≤root→root≤hi→∀ (hs : List Int) (from_ q:Int), from_+d=root→lo≤from_→hs.length=n→0≤q→q+2 * (hi - from_)≤5000 →
    ∃ r p', Ev (fun k=>F115.l0 k hs hi root from_ b q) (p', r)∧r.length=n∧q≤p'∧p'≤q+2 * (hi - from_):=by
   intro d
   induction d using Nat.strongRecOn with
   | _ d ihd =>
    intro root hroot hroot2 hs from_ q hd2 hlf hhl hq hq2;by_cases hf : from_<root
    ·have e1 : wrap64 (root - from_)=root - from_ := g00 o_ o_;obtain ⟨v, hv0, hv1, hv⟩:=g04 hb q (root - from_) hq o_ o_ o_;have e2 : wrap64 (from_+v)=from_+v := g00 o_ o_;have e3 : wrap64 (from_+v+1)=from_+v+1 := g00 o_ o_;obtain ⟨r1, p1, hr1, hl1,hp1,hp1'⟩:=ih hs from_ (from_+v) root (q+1) hhl o_ o_ o_ o_ o_ o_;obtain ⟨r2, p2, hr2, hl2,hp2,hp2'⟩:=ihd (d - v.toNat - 1) o_ root hroot hroot2 r1 (from_+v+1) p1 o_ o_ hl1 o_ o_;refine ⟨r2, p2, Ev.step (fun k=>F115.l0.eq_2 ..) (Ev.pos hf ?_), hl2,by omega,by omega⟩;rw [e1];exact Ev.bind hv (by simp only []; rw [e2, e3]; exact Ev.bind hr1 hr2)
    ·obtain ⟨r1, p1, hr1, hl1,hp1,hp1'⟩:=right (hi - root).toNat root hroot hs (root+1) q o_ o_ hhl hq o_;refine ⟨r1, p1, Ev.step (fun k=>F115.l0.eq_2 ..) (Ev.neg hf ?_), hl1,by omega,by omega⟩;rw [g00 (n := root+1) o_ o_];exact hr1
  (have e1 : wrap64 (wrap64 (hi - lo)+1)=hi - lo+1 := by rw [g00 (n := hi - lo) o_ o_, g00 o_ o_]);obtain ⟨v, hv0, hv1, hv⟩:=g04 hb p (hi - lo+1) hp o_ o_ o_;have e2 : wrap64 (lo+v)=lo+v := g00 o_ o_;have e3 : wrap64 (lo+v - 1)=lo+v - 1 := g00 o_ o_;obtain ⟨r1, p1, hr1, hl1,hp1,hp1'⟩:=left v.toNat (lo+v) o_ o_ (heads.set (lo+v - 1).toNat hd) lo (p+1) o_ o_ (by simpa using hl) o_ o_;refine ⟨r1, p1, Ev.step (fun k=>F115.f.eq_2 ..) (Ev.neg o_ ?_), hl1,by omega,by omega⟩;rw [e1];exact Ev.bind hv (by simp only []; rw [e2, e3]; exact Ev.pos o_ (Ev.pos o_ hr1))
theorem flat_ev {b : List Int} (hb : Bytes b) (p n:Int) (hp : 0≤p) (hp2 : p≤200) (hn : 0≤n) (hn2 : n≤1000) :
  ∃ r p', Ev (fun k=>F81.f k b p n) (r, p')∧r.length≤9∧p≤p'∧p'≤p+100:=by
 obtain ⟨v, hv0, hv1, hv⟩:=g04 hb p 3 hp o_ o_ o_;unfold F81.f;by_cases e : v=0
 ·obtain ⟨r, p', h, h1, h2, h3⟩:=tree_ev hb (p+1) n o_ o_ hn hn2;exact ⟨r, p', Ev.bind hv (Ev.pos e (Ev.bind h (Ev.ret rfl))), h1,by omega,by omega⟩
 ·obtain ⟨u, hu0, hu1, hu⟩:=g04 hb (p+1) 7 o_ o_ o_ o_;have e1 : wrap64 (1+u)=1+u := g00 o_ o_;obtain ⟨r, p', h, h1, h2, h3⟩:=fill_ev hb (1+u).toNat o_ 8 (List.replicate (1+u).toNat 0) 1 (1+u) 0 (p+1+1) (by simp) o_ o_ o_ o_ o_ o_;refine ⟨r, p', Ev.bind hv (Ev.neg e (Ev.bind hu ?_)),by omega,by omega,by omega⟩;simp only [];rw [e1];exact Ev.pos o_ (Ev.pos o_ (Ev.bind h (Ev.ret rfl)))
@[reducible] def goodAt (o : List Int) (many:Int) (i:Nat) : Prop := (1≤rd o i∧rd o i≤many)∧∀ j : Nat, j<i→rd o j≠rd o i
def g05 (o : List Int) (many:Int) : Bool := decide ((1≤many∧many≤8)∧(o.length:Int)=many∧∀ i : Nat, i<o.length→goodAt o many i)
theorem orderOk_bad {o : List Int} {many : Int} {i : Nat} (hi : i<o.length) (h : ¬ goodAt o many i) : g05 o many=false:=by
 unfold g05;rw [decide_eq_false_iff_not];exact fun h2=>h (h2.2.2 i hi)
theorem g09 {o : List Int} {many : Int} : g05 o many=true ↔ ((1≤many∧many≤8)∧(o.length:Int)=many∧∀ i : Nat, i<o.length→goodAt o many i):=by
 unfold g05;rw [decide_eq_true_iff]
def g11 (l : List Int) : Nat→Int→Bool
 | 0, a => decide (a≤0)
 | m+1, a => if a≤0 then true else decide (0≤rd l (a - 1)∧rd l (a - 1)≤l.length) && g11 l m (rd l (a - 1))
def okAt (l : List Int) (i:Nat) : Bool := decide (0≤rd l i∧rd l i≤l.length) && g11 l l.length ((i:Int)+1)
def g08 (l : List Int) (j:Nat) : Nat := (l.drop j).count 0
def g01 (l : List Int) : Bool := decide (1≤l.length∧l.length≤8) && (List.range l.length).all (okAt l) && decide (l.count 0=1)
theorem walkOk_self (l : List Int) (a:Int) (ha : 0<a) (h : rd l (a - 1)=a) : ∀ m, g11 l m a=false
 | 0 => by simp [g11]; omega
 | m+1 => by
  unfold g11
  rw [if_neg o_, h, walkOk_self l a ha h m, Bool.and_false]
theorem g17 (l : List Int) (j:Nat) (h : j<l.length) : g08 l j=(if rd l j=0 then 1 else 0)+g08 l (j+1):=by
 unfold g08;rw [List.drop_eq_getElem_cons h, List.count_cons];(have e : rd l j=l[j] := by simp [g47, h]);rw [e];(by_cases e : l[j]=0 <;> simp [e, Nat.add_comm])
theorem all_from (p : Nat→Bool) (n j:Nat) (h : j<n) : ((List.range' j (n - j)).all p)=(p j && (List.range' (j+1) (n - (j+1))).all p):=by
 obtain ⟨d, hd⟩ : ∃ d, n - j=d+1 := ⟨n - j - 1,by omega⟩;rw [hd, List.range'_succ, List.all_cons, show n - (j+1)=d by omega]
def g46 (l : List Int) (r:Nat) (j:Nat) : Bool := (List.range' j (l.length - j)).all (okAt l) && decide (r+g08 l j=1)
theorem restOk_end (l : List Int) (r:Nat) (j:Nat) (h : j=l.length) : g46 l r j=((r:Int) == 1):=by
 subst h;unfold g46 g08;simp;rw [Bool.eq_iff_iff]; simp; omega
theorem restOk_bad (l : List Int) (r:Nat) (j:Nat) (h : j<l.length) (hb : okAt l j=false) : g46 l r j=false:=by
 unfold g46;rw [all_from _ _ _ h, hb]; rfl
theorem restOk_good (l : List Int) (r:Nat) (j:Nat) (h : j<l.length) (hb : okAt l j=true) : g46 l r j=g46 l (r+if rd l j=0 then 1 else 0) (j+1):=by
 unfold g46;rw [all_from _ _ _ h, hb, Bool.true_and, g17 l j h, Nat.add_assoc]
theorem restOk_zero (l : List Int) (h : 1≤l.length∧l.length≤8) : g46 l 0 0=g01 l:=by
 unfold g46 g01 g08;rw [decide_eq_true h];simp [List.range_eq_range']
theorem tOl {l : List Int} (h : g01 l=true) : 1≤l.length∧l.length≤8:=by
 unfold g01 at h;rw [Bool.and_eq_true, Bool.and_eq_true] at h;exact of_decide_eq_true h.1.1
theorem treeOk_rd {l : List Int} (h : g01 l=true) {j : Nat} (hj : j<l.length) : 0≤rd l j∧rd l j≤l.length:=by
 unfold g01 at h;rw [Bool.and_eq_true, Bool.and_eq_true] at h;have := List.all_eq_true.mp h.1.2 j (List.mem_range.mpr hj);unfold okAt at this;rw [Bool.and_eq_true] at this;exact of_decide_eq_true this.1
theorem treeOk_walk {l : List Int} (h : g01 l=true) {j : Nat} (hj : j<l.length) : g11 l l.length ((j:Int)+1)=true:=by
 unfold g01 at h;rw [Bool.and_eq_true, Bool.and_eq_true] at h;have := List.all_eq_true.mp h.1.2 j (List.mem_range.mpr hj);unfold okAt at this;rw [Bool.and_eq_true] at this;exact this.2
theorem treeOk_ne {l : List Int} (h : g01 l=true) {j : Nat} (hj : j<l.length) : rd l j≠(j:Int)+1:=by
 intro e;have := treeOk_walk h hj;rw [walkOk_self l _ o_ (by rw [show (j:Int)+1 - 1=(j:Int) by omega]; exact e)] at this;cases this
theorem treeOk_zero {l : List Int} (h : g01 l=true) : l.count 0=1:=by
 unfold g01 at h;rw [Bool.and_eq_true] at h;exact of_decide_eq_true h.2
def g12 (o : List Int) (v:Int) : Int := match (List.range o.length).find? (fun i : Nat => decide (rd o i=v)) with | some i => (i:Int)+1 | none => 0
def putOf (l o : List Int) : List Int := o.map (fun w=>g12 o (rd l (w - 1)))
theorem order_inj {o : List Int} {many : Int} (h : g05 o many=true) {i j : Nat} (hi : i<o.length) (hj : j<o.length) (e : rd o i=rd o j) : i=j:=by
 obtain ⟨_, _, h3⟩:=g09.mp h;rcases Nat.lt_trichotomy i j with h4 | h4 | h4
 ·exact absurd e ((h3 j hj).2 i h4)
 ·exact h4
 ·exact absurd e.symm ((h3 i hi).2 j h4)
theorem placeOf_at {o : List Int} {many : Int} (h : g05 o many=true) {i : Nat} (hi : i<o.length) : g12 o (rd o i)=(i:Int)+1:=by
 unfold g12;cases hf : (List.range o.length).find? (fun k : Nat => decide (rd o k=rd o i)) with
 | some k =>
  have h1 := List.mem_range.mp (List.mem_of_find?_eq_some hf);(have h2 : rd o k=rd o i := by simpa using List.find?_some hf);rw [order_inj h h1 hi h2]
 | none => exact absurd (decide_eq_true rfl) (List.find?_eq_none.mp hf i (List.mem_range.mpr hi))
theorem placeOf_none {o : List Int} {v : Int} (h : ∀ i : Nat, i<o.length→rd o i≠v) : g12 o v=0:=by
 unfold g12;cases hf : (List.range o.length).find? (fun k : Nat => decide (rd o k=v)) with
 | some k => exact absurd (by simpa using List.find?_some hf) (h k (List.mem_range.mp (List.mem_of_find?_eq_some hf)))
 | none => rfl
def g20 (o : List Int) (j:Nat) (y : List Int) : Prop := ∀ v : Nat, v<y.length→y[v]?=some (match (List.range j).find? (fun i : Nat => decide (rd o i=(v:Int))) with | some i => (i:Int)+1 | none => 0)
theorem find_range_succ (p : Nat→Bool) (j:Nat) : (List.range (j+1)).find? p=((List.range j).find? p).or (if p j then some j else none):=by
 rw [List.range_succ, List.find?_append];congr 1;by_cases h : p j=true
 ·rw [if_pos h, List.find?_cons_of_pos h]
 ·rw [if_neg h, List.find?_cons_of_neg h]; rfl
theorem g20.set {o : List Int} {many : Int} (h : g05 o many=true) {j : Nat} (hj : j<o.length) {y : List Int} (hy : g20 o j y) : g20 o (j+1) (y.set (rd o j).toNat ((j:Int)+1)):=by
 have hg := (g09.mp h).2.2 j hj;intro v hv;rw [List.length_set] at hv;rw [find_range_succ];by_cases e : v=(rd o j).toNat
 ·subst e;rw [List.getElem?_set_self hv];(have e2 : ((rd o j).toNat:Int)=rd o j := by omega);rw [e2];have hn : (List.range j).find? (fun i : Nat => decide (rd o i=rd o j))=none:=by
   rw [List.find?_eq_none];intro i hi;simp [hg.2 i (List.mem_range.mp hi)]
  rw [hn];simp
 ·rw [List.getElem?_set_ne o_, hy v hv];(have e2 : ¬ (rd o j=(v:Int)) := by omega);simp [e2]
theorem g20.whole {o : List Int} {y : List Int} (hy : g20 o o.length y) {v : Int} (h0 : 0≤v) (h1 : v<y.length) : rd y v=g12 o v:=by
 have := hy v.toNat o_;rw [show ((v.toNat:Nat):Int)=v by omega] at this;unfold rd g12;rw [List.getD_eq_getElem?_getD, this];rfl
theorem g20.zero (o : List Int) (n:Nat) : g20 o 0 (List.replicate n 0):=by
 intro v hv;simp at hv;simp [hv]
def g23 (l o : List Int) : List Int × Bool := if g01 l=true∧g05 o l.length=true then (putOf l o, true) else ([], false)
theorem putInOrder_len (l o : List Int) : (g23 l o).1.length≤8:=by
 unfold g23;split
 ·rename_i h;have hl := tOl h.1;obtain ⟨_, h2, _⟩:=g09.mp h.2;show (putOf l o).length≤8;simp [putOf]; omega
 ·simp
theorem g32 (a b c:Int) : F49.f a b c=some (decide (b≤a∧a≤c)):=by
 unfold F49.f;split
 ·rename_i h; congr 1; rw [decide_eq_decide]; omega
 ·rename_i h; congr 1; symm; rw [decide_eq_false_iff_not]; omega
theorem spec_OrderOk_l1 (o : List Int) (many:Int) (hl : o.length≤1048576) (i:Nat) (hi : i<o.length) (hin : 1≤rd o i∧rd o i≤many) (next : goodAt o many i→Ev (fun k=>F114.l0 k o many ((i+1:Nat):Int)) (g05 o many)) (d:Nat) :
  ∀ j : Nat, j+d=i→(∀ j' : Nat, j'<j→rd o j'≠rd o i)→Ev (fun k=>F114.l1 k o many (i:Int) (j:Int)) (g05 o many):=by
 induction d with
 | zero =>
  intro j hj h;refine Ev.step (fun k=>F114.l1.eq_2 ..) (Ev.neg o_ ?_);rw [wA o_];exact next ⟨hin, fun j' hj' => h j' o_⟩
 | succ d ih =>
  intro j hj h;refine Ev.step (fun k=>F114.l1.eq_2 ..) (Ev.pos o_ (Ev.pos o_ (Ev.pos o_ (Ev.pos o_ (Ev.pos o_ (Ev.ite (fun e=>?_) (fun e=>?_)))))))
  ·exact Ev.ret (orderOk_bad hi (fun h2=>h2.2 j o_ e)).symm
  ·rw [wA o_];refine ih (j+1) o_ (fun j' hj' => ?_);by_cases e2 : j'=j
   ·subst e2; exact e
   ·exact h j' o_
theorem spec_OrderOk_l0 (o : List Int) (many:Int) (hl : o.length≤1048576) (d:Nat) : ∀ i : Nat, i+d=o.length→(∀ j : Nat, j<i→goodAt o many j)→Ev (fun k=>F114.l0 k o many (i:Int)) (g05 o many):=by
 induction d with
 | zero =>
  intro i hi h;refine Ev.step (fun k=>F114.l0.eq_2 ..) (Ev.neg o_ (Ev.bind0 (g32 ..) (Ev.ite (fun e=>?_) (fun e=>?_))))
  ·refine Ev.ret ?_;have e' := of_decide_eq_true e;rw [Bool.eq_iff_iff, g09, beq_iff_eq];exact ⟨fun h2=>⟨e', h2, fun j hj => h j o_⟩, fun h2=>h2.2.1⟩
  ·refine Ev.ret ?_;symm;unfold g05;rw [decide_eq_false_iff_not];intro h2;exact e (decide_eq_true h2.1)
 | succ d ih =>
  intro i hi h;refine Ev.step (fun k=>F114.l0.eq_2 ..) (Ev.pos o_ (Ev.pos o_ (Ev.bind0 (g32 ..) (Ev.ite (fun e=>?_) (fun e=>?_)))))
  ·have e' := of_decide_eq_true e;refine spec_OrderOk_l1 o many hl i o_ e' (fun hg=>?_) i 0 o_ (fun j' hj' => by omega);refine ih (i+1) o_ (fun j hj => ?_);by_cases e2 : j=i
   ·subst e2; exact hg
   ·exact h j o_
  ·refine Ev.ret ?_;exact (orderOk_bad o_ (fun h2=>e (decide_eq_true h2.1))).symm
theorem spec_OrderOk_ev (o : List Int) (many:Int) (hl : o.length≤1048576) : Ev (fun k=>F114.f k o many) (g05 o many):=by
 unfold F114.f;exact spec_OrderOk_l0 o many hl o.length 0 o_ (fun j hj => by omega)
theorem spec_walk (l : List Int) (r j:Nat) (hl : l.length≤8) (hj : j<l.length) (_ : r≤8)
  (next : Ev (fun k=>F28.l0 k l (l.length:Int) (r:Int) ((j+1:Nat):Int)) (g46 l r (j+1)))
  (d:Nat) : ∀ (s:Nat) (a:Int), s+d=l.length→0≤a→a≤l.length →
  Ev (fun k=>F28.l1 k l (l.length:Int) (r:Int) (j:Int) a (s:Int)) (g11 l d a && g46 l r (j+1)):=by
 induction d with
 | zero =>
  intro s a hs h0 h1;refine Ev.step (fun k=>F28.l1.eq_2 ..) ?_;refine Ev.ite (fun ha=>?_) (fun ha=>?_)
  ·rw [decide_eq_false o_];refine Ev.step (fun k=>F28.j4.eq_2 ..) ?_;refine Ev.neg (by simp) (Ev.pos ha (Ev.ret ?_));simp [g11, show ¬ a≤0 by omega]
  ·refine Ev.step (fun k=>F28.j4.eq_2 ..) ?_;refine Ev.neg (by simp) (Ev.neg ha ?_);rw [wA o_];exact Ev.eq next (by simp [g11, show a≤0 by omega])
 | succ d ih =>
  intro s a hs h0 h1;refine Ev.step (fun k=>F28.l1.eq_2 ..) ?_;refine Ev.ite (fun ha=>?_) (fun ha=>?_)
  ·rw [decide_eq_true o_];refine Ev.step (fun k=>F28.j4.eq_2 ..) ?_;refine Ev.pos rfl ?_;rw [g00 o_ o_];refine Ev.pos o_ (Ev.pos o_ (Ev.bind0 (g32 ..) ?_));refine Ev.ite (fun hc=>?_) (fun hc=>?_)
   ·have hc' := of_decide_eq_true hc;rw [wA o_];refine Ev.eq (ih (s+1) (rd l (a - 1)) o_ hc'.1 hc'.2) ?_;simp [g11, show ¬ a≤0 by omega, hc'.1, hc'.2]
   ·refine Ev.ret ?_;(have hc' : ¬ (0≤rd l (a - 1)∧rd l (a - 1)≤(l.length:Int)) := by simpa using hc);simp [g11, show ¬ a≤0 by omega, decide_eq_false hc']
  ·refine Ev.step (fun k=>F28.j4.eq_2 ..) ?_;refine Ev.neg (by simp) (Ev.neg ha ?_);rw [wA o_];exact Ev.eq next (by simp [g11, show a≤0 by omega])
theorem spec_TreeOk_l0 (l : List Int) (hl : l.length≤8) (d:Nat) : ∀ (r j:Nat), j+d=l.length→r≤j →
  Ev (fun k=>F28.l0 k l (l.length:Int) (r:Int) (j:Int)) (g46 l r j):=by
 induction d with
 | zero =>
  intro r j hj hr;refine Ev.step (fun k=>F28.l0.eq_2 ..) ?_;exact Ev.neg o_ (Ev.ret (restOk_end l r j o_).symm)
 | succ d ih =>
  intro r j hj hr;refine Ev.step (fun k=>F28.l0.eq_2 ..) ?_;refine Ev.pos o_ (Ev.pos o_ (Ev.pos o_ (Ev.bind0 (g32 ..) ?_)));refine Ev.ite (fun hc=>?_) (fun hc=>?_)
  ·have hc' := of_decide_eq_true hc;refine Ev.step (fun k=>F28.j1.eq_2 ..) ?_;rw [wA o_];refine Ev.ite (fun he=>?_) (fun he=>?_)
   ·refine Ev.ret (restOk_bad l r j o_ ?_).symm;(have he' : rd l (j:Int)=((j+1:Nat):Int) := by simpa using he);unfold okAt;rw [walkOk_self l ((j:Int)+1) o_ (by rw [show (j:Int)+1 - 1=(j:Int) by omega, he']; omega), Bool.and_false]
   ·have hfin : ∀ (r':Nat), r'=r+(if rd l j=0 then 1 else 0)→Ev (fun k=>F28.l1 k l (l.length:Int) (r':Int) (j:Int) ((j+1:Nat):Int) 0) (g46 l r j):=by
     intro r' hr';(have hr8 : r'≤j+1 := by subst hr'; split <;> omega);refine Ev.eq (spec_walk l r' j hl o_ o_ (ih r' (j+1) o_ hr8) l.length 0 ((j+1:Nat):Int) o_ o_ o_) ?_;by_cases hw : g11 l l.length ((j:Int)+1)=true
     ·rw [restOk_good l r j o_ (by unfold okAt; rw [hw, decide_eq_true hc']; rfl), ← hr', show ((j+1:Nat):Int)=(j:Int)+1 by omega, hw]; rfl
     ·(have hw' : g11 l l.length ((j:Int)+1)=false := by simpa using hw);rw [restOk_bad l r j o_ (by unfold okAt; rw [hw']; simp), show ((j+1:Nat):Int)=(j:Int)+1 by omega, hw']; rfl
    refine Ev.pos o_ (Ev.pos o_ (Ev.ite (fun hz=>?_) (fun hz=>?_)))
    ·rw [wA o_];refine Ev.step (fun k=>F28.j2.eq_2 ..) ?_;rw [wA o_];exact hfin (r+1) (by rw [if_pos hz])
    ·refine Ev.step (fun k=>F28.j2.eq_2 ..) ?_;rw [wA o_];exact hfin r (by rw [if_neg hz]; rfl)
  ·refine Ev.step (fun k=>F28.j1.eq_2 ..) ?_;refine Ev.pos rfl (Ev.ret (restOk_bad l r j o_ ?_).symm);(have hc' : ¬ (0≤rd l (j:Int)∧rd l (j:Int)≤(l.length:Int)) := by simpa using hc);unfold okAt;rw [decide_eq_false hc']; rfl
theorem g03 (l : List Int) : Ev (fun k=>F28.f k l) (g01 l):=by
 unfold F28.f;refine Ev.bind0 (g32 ..) ?_;refine Ev.ite (fun hc=>?_) (fun hc=>?_)
 ·have hc' := of_decide_eq_true hc;exact Ev.eq (spec_TreeOk_l0 l o_ l.length 0 0 o_ o_) (restOk_zero l o_)
 ·refine Ev.ret ?_;(have hc' : ¬ (1≤(l.length:Int)∧(l.length:Int)≤8) := by simpa using hc);unfold g01;rw [decide_eq_false o_]; rfl
theorem spec_Put_l1 (l o y : List Int) (h : g01 l=true) (ho : g05 o l.length=true) (hy : g20 o o.length y) (hyl : y.length=l.length+1) (d:Nat) : ∀ j : Nat, j+d=o.length →
  Ev (fun k=>F79.l1 k l o y ((putOf l o).take j) (j:Int)) (putOf l o, true):=by
 have hl := tOl h;obtain ⟨_, h2, h3⟩:=g09.mp ho;(have hlen : (putOf l o).length=o.length := by simp [putOf])
 induction d with
 | zero =>
  intro j hj;refine Ev.step (fun k=>F79.l1.eq_2 ..) (Ev.neg o_ (Ev.ret ?_));rw [List.take_of_length_le o_]
 | succ d ih =>
  intro j hj;have hg := h3 j o_;have hr := treeOk_rd h (j := (rd o j - 1).toNat) o_;rw [show (((rd o j - 1).toNat:Nat):Int)=rd o j - 1 by omega] at hr;refine Ev.step (fun k=>F79.l1.eq_2 ..) ?_;rw [g00 (n := rd o j - 1) o_ o_, wA o_];refine Ev.pos o_ (Ev.pos o_ (Ev.pos o_ (Ev.pos o_ (Ev.pos o_ (Ev.pos o_ (Ev.pos (by rw [List.length_take]; omega) ?_))))));have e : (putOf l o).take j ++ [rd y (rd l (rd o j - 1))]=(putOf l o).take (j+1):=by
   rw [List.take_succ_eq_append_getElem o_, hy.whole hr.1 o_];congr 2;(have e3 : rd o j=o[j]'o_ := by simp [g47, show j<o.length by omega]);simp [putOf, e3]
  rw [e];exact ih (j+1) o_
theorem spec_Put_l0 (l o : List Int) (h : g01 l=true) (ho : g05 o l.length=true) (d:Nat) : ∀ (j:Nat) (y : List Int), j+d=o.length→g20 o j y→y.length=l.length+1 →
  Ev (fun k=>F79.l0 k l o y (j:Int)) (putOf l o, true):=by
 have hl := tOl h;obtain ⟨_, h2, h3⟩:=g09.mp ho
 induction d with
 | zero =>
  intro j y hj hy hyl;refine Ev.step (fun k=>F79.l0.eq_2 ..) (Ev.neg o_ ?_);rw [show j=o.length by omega] at hy;exact spec_Put_l1 l o y h ho hy hyl o.length 0 o_
 | succ d ih =>
  intro j y hj hy hyl;have hg := h3 j o_;refine Ev.step (fun k=>F79.l0.eq_2 ..) ?_;rw [g00 (n := (j:Int)+1) o_ o_];refine Ev.pos o_ (Ev.pos o_ (Ev.pos o_ (Ev.pos o_ ?_)));exact ih (j+1) _ o_ (hy.set ho o_) (by simpa using hyl)
theorem g42 (l o : List Int) (hol : o.length≤1048576) : Ev (fun k=>F79.f k l o) (g23 l o):=by
 unfold F79.f g23;refine Ev.bind (g03 l) (Ev.ite (fun h=>?_) (fun h=>?_))
 ·refine Ev.bind (spec_OrderOk_ev o _ hol) (Ev.step (fun k=>F79.j0.eq_2 ..) (Ev.ite (fun e=>?_) (fun e=>?_)))
  ·refine Ev.ret ?_;rw [if_neg];intro h2; rw [h2.2] at e; cases e
  ·(have ho : g05 o l.length=true := by simpa using e);have hl := tOl h;rw [if_pos ⟨h, ho⟩, g00 (n := (l.length:Int)+1) o_ o_];refine Ev.pos o_ (Ev.pos o_ ?_);exact spec_Put_l0 l o h ho o.length 0 _ o_ (g20.zero o _) (by simp)
 ·refine Ev.step (fun k=>F79.j0.eq_2 ..) (Ev.pos rfl (Ev.ret ?_));rw [if_neg (fun h2=>h h2.1)]
theorem wild_evP {b : List Int} (hb : Bytes b) (p n:Int) (hp : 0≤p) (hp2 : p≤50) (hn : 0≤n) (hn2 : n≤1000) :
  ∃ r p', Ev (fun k=>F39.f k b p n) (r, p')∧r.length≤9∧0≤p'∧p'≤p+200:=by
 obtain ⟨t, p1, ht, htl,hp1,hp1'⟩:=tree_ev hb p n o_ o_ hn hn2;obtain ⟨v, hv0, hv1, hv⟩:=g04 hb p1 2 o_ o_ o_ o_;unfold F39.f;have other : ∃ r p', Ev (fun k=>F39.j0 k n t false b (p1+1)) (r, p')∧r.length≤9∧0≤p'∧p'≤p+200:=by
  obtain ⟨u, hu0, hu1, hu⟩:=g04 hb (p1+1) 3 o_ o_ o_ o_;by_cases e : u=0
  ·obtain ⟨r, p', h, h1, h2, h3⟩:=flat_ev hb (p1+1+1) n o_ o_ hn hn2;exact ⟨r, p', Ev.step (fun k=>F39.j0.eq_2 ..) (Ev.neg (by simp) (Ev.bind hu (Ev.pos e (Ev.bind h (Ev.ret rfl))))), h1,by omega,by omega⟩
  ·exact ⟨t, p1+1+1, Ev.step (fun k=>F39.j0.eq_2 ..) (Ev.neg (by simp) (Ev.bind hu (Ev.neg e (Ev.ret rfl)))), htl,by omega,by omega⟩
 by_cases e : v=0
 ·by_cases h : g01 t=true
  ·obtain ⟨o, p2, ho, hol, how,hp2,hp2'⟩:=order_ev hb (p1+1) (t.length:Int) o_ o_ o_ o_;refine ⟨(g23 t o).1, p2, Ev.bind ht (Ev.bind hv (Ev.pos e (Ev.bind (g03 t) ?_))), Nat.le_trans (putInOrder_len t o) o_,by omega,by omega⟩;rw [h];exact Ev.step (fun k=>F39.j0.eq_2 ..) (Ev.pos rfl (Ev.bind ho (Ev.bind (g42 t o o_) (Ev.ret rfl))))
  ·obtain ⟨r, p', hr, h1, h2⟩:=other;refine ⟨r, p', Ev.bind ht (Ev.bind hv (Ev.pos e (Ev.bind (g03 t) ?_))), h1, h2⟩;rw [show g01 t=false by simpa using h];exact hr
 ·obtain ⟨r, p', hr, h1, h2⟩:=other;exact ⟨r, p', Ev.bind ht (Ev.bind hv (Ev.neg e hr)), h1, h2⟩
theorem getD_lt {α : Type} {l : List α} {i : Nat} {z : α} (h : i<l.length) : l.getD i z=l[i]:=by
 rw [List.getD_eq_getElem?_getD, List.getElem?_eq_getElem h]; rfl
theorem rd25 (l : List S39) (i:Nat) : r9 l (i:Int)=l.getD i z39 := by simp [r9]
def num (u:Nat) : ByteArray := ⟨(if u<10 then [UInt8.ofNat (48+u)] else [UInt8.ofNat (48+u / 10), UInt8.ofNat (48+u % 10)]).toArray⟩
theorem g38 (u:Nat) : (num u).size≤2:=by
 unfold num;(split <;> simp [ByteArray.size])
theorem digits_num {u : Nat} (h : u<100) : (⟨(Lib.decDigits u).toArray⟩ : ByteArray)=num u:=by
 unfold num;rw [Lib.decDigits];split
 ·rfl
 ·rw [Lib.decDigits, dif_pos o_]; rfl
theorem strOfNums_one (u:Nat) : strOfNums [(u:Int)]=⟨#[UInt8.ofNat u]⟩:=by simp [strOfNums]
theorem mx0 {n : Int} (h : 0≤n) : mx n 0=n := by unfold mx; split <;> omega
theorem l1Number_ev {n : Int} (h0 : 0≤n) (h1 : n≤99) : Ev (fun k=>F77.f k n) (num n.toNat):=by
 obtain ⟨u, rfl⟩ : ∃ u : Nat, n=(u:Int) := ⟨n.toNat,by omega⟩;simp only [Int.toNat_natCast];have small : ∀ v : Nat, v<10→Ev (fun k=>F77.f k (v:Int)) (num v):=by
  intro v hv;refine ⟨1, fun k hk => ?_⟩;obtain ⟨m, rfl⟩ : ∃ m, k=m+1 := ⟨k - 1,by omega⟩;show F77.f (m+1) (v:Int)=_;unfold F77.f;rw [if_pos o_, mx0 o_];(have e : (wrap64 (48+(v:Int))) % 256=((48+v:Nat):Int) := by unfold wrap64; omega);rw [e, strOfNums_one];congr 1;unfold num;rw [if_pos hv]
 by_cases hu : u<10
 ·exact small u hu
 ·obtain ⟨K, hK⟩:=small (u / 10) o_;refine ⟨K+1, fun k hk => ?_⟩;obtain ⟨m, rfl⟩ : ∃ m, k=m+1 := ⟨k - 1,by omega⟩;show F77.f (m+1) (u:Int)=_;unfold F77.f;have e1 : wrap64 (Int.tdiv (u:Int) 10)=((u / 10:Nat):Int):=by
   rw [Int.tdiv_eq_ediv_of_nonneg o_]; unfold wrap64; omega
  have e2 : (wrap64 (48+Int.tmod (u:Int) 10)) % 256=((48+u % 10:Nat):Int):=by
   rw [Int.tmod_eq_emod_of_nonneg o_]; unfold wrap64; omega
  rw [if_neg o_, e1, e2, show F77.f m ((u / 10:Nat):Int)=some (num (u / 10)) from hK m o_];simp only [Option.bind_some, strOfNums_one];have hs := g38 (u / 10);rw [if_pos (by have : (⟨#[UInt8.ofNat (48+u % 10)]⟩ : ByteArray).size=1 := rfl; omega)];congr 1;unfold num;rw [if_pos (show u / 10<10 by omega), if_neg hu];rfl
def g02 (a b c:Int) : ByteArray :=
 if a=0∧(0≤b∧b≤99)∧(0≤c∧c≤99) then (((⟨#[104, 101, 97, 100, 32]⟩ : ByteArray) ++ num b.toNat) ++ (⟨#[32]⟩ : ByteArray)) ++ num c.toNat
 else if a=1∧(0≤b∧b≤99)∧c=0 then (⟨#[97, 100, 100, 32]⟩ : ByteArray) ++ num b.toNat
 else if a=2∧b=0∧c=0 then ⟨#[100, 114, 111, 112]⟩
 else if a=3∧b=0∧c=0 then ⟨#[116, 117, 114, 110]⟩
 else if a=4∧b=0∧c=0 then ⟨#[102, 108, 97, 116]⟩
 else if a=5∧b=0∧c=0 then ⟨#[98, 97, 99, 107]⟩
 else ⟨#[]⟩
theorem g19 (a b c:Int) : Ev (fun k=>F38.f k a b c) (g02 a b c):=by
 have j1 : ∀ x : Bool, (x=true→a=1∧(0≤b∧b≤99)∧c=0)→(x=false→¬ (a=1∧(0≤b∧b≤99)∧c=0))→¬ (a=0∧(0≤b∧b≤99)∧(0≤c∧c≤99))→Ev (fun k=>F38.j1 k x a b c) (g02 a b c):=by
  intro x hx hy hn;refine Ev.step (fun k=>by rw [F38.j1]) ?_;unfold g02;rw [if_neg hn];cases x with
  | true =>
   have h := hx rfl;rw [if_pos h];refine Ev.pos rfl (Ev.bind (l1Number_ev h.2.1.1 h.2.1.2) (Ev.pos ?_ (Ev.ret rfl)));have := g38 b.toNat; omega
  | false =>
   rw [if_neg (hy rfl)];refine Ev.neg (by simp) ?_;by_cases h2 : a=2∧b=0∧c=0
   ·rw [if_pos h2]; obtain ⟨rfl, rfl, rfl⟩:=h2; exact Ev.pos (by decide) (Ev.ret rfl)
   rw [if_neg h2];refine Ev.neg (by simp only [Bool.and_eq_true, beq_iff_eq]; exact h2) ?_;by_cases h3 : a=3∧b=0∧c=0
   ·rw [if_pos h3]; obtain ⟨rfl, rfl, rfl⟩:=h3; exact Ev.pos (by decide) (Ev.ret rfl)
   rw [if_neg h3];refine Ev.neg (by simp only [Bool.and_eq_true, beq_iff_eq]; exact h3) ?_;by_cases h4 : a=4∧b=0∧c=0
   ·rw [if_pos h4]; obtain ⟨rfl, rfl, rfl⟩:=h4; exact Ev.pos (by decide) (Ev.ret rfl)
   rw [if_neg h4];refine Ev.neg (by simp only [Bool.and_eq_true, beq_iff_eq]; exact h4) ?_;by_cases h5 : a=5∧b=0∧c=0
   ·rw [if_pos h5]; obtain ⟨rfl, rfl, rfl⟩:=h5; exact Ev.pos (by decide) (Ev.ret rfl)
   rw [if_neg h5];refine Ev.neg (by simp only [Bool.and_eq_true, beq_iff_eq]; exact h5) (Ev.ret rfl)
 have j0 : ∀ x : Bool, (x=true→a=0∧(0≤b∧b≤99)∧(0≤c∧c≤99))→(x=false→¬ (a=0∧(0≤b∧b≤99)∧(0≤c∧c≤99)))→Ev (fun k=>F38.j0 k x a b c) (g02 a b c):=by
  intro x hx hy;refine Ev.step (fun k=>by rw [F38.j0]) ?_;cases x with
  | true =>
   have h := hx rfl;have s1 := g38 b.toNat;have s2 := g38 c.toNat;have s3 : (⟨#[104, 101, 97, 100, 32]⟩ : ByteArray).size=5 := rfl;have s4 : (⟨#[32]⟩ : ByteArray).size=1 := rfl;refine Ev.pos rfl (Ev.bind (l1Number_ev h.2.1.1 h.2.1.2) (Ev.pos o_ (Ev.pos (by rw [ByteArray.size_append]; omega) (Ev.bind (l1Number_ev h.2.2.1 h.2.2.2) (Ev.pos (by rw [ByteArray.size_append, ByteArray.size_append]; omega) (Ev.ret ?_))))));unfold g02; rw [if_pos h]
  | false =>
   refine Ev.neg (by simp) ?_;by_cases h1 : a=1
   ·refine Ev.pos h1 (Ev.bind0 (g32 _ _ _) ?_);by_cases hb : 0≤b∧b≤99
    ·refine Ev.pos (by simpa using hb) (j1 _ (fun e=>⟨h1, hb, by simpa using e⟩) (fun e h => ?_) (hy rfl));rw [h.2.2] at e; simp at e
    ·refine Ev.neg (by simpa using hb) (j1 _ (by simp) (fun _ h => hb h.2.1) (hy rfl))
   ·exact Ev.neg h1 (j1 _ (by simp) (fun _ h => h1 h.1) (hy rfl))
 unfold F38.f;by_cases h0 : a=0
 ·refine Ev.pos h0 (Ev.bind0 (g32 _ _ _) ?_);by_cases hb : 0≤b∧b≤99
  ·refine Ev.pos (by simpa using hb) (Ev.bind0 (g32 _ _ _) ?_);exact j0 _ (fun e=>⟨h0, hb, by simpa using e⟩) (fun e h => by simp at e; omega)
  ·exact Ev.neg (by simpa using hb) (j0 _ (by simp) (fun _ h => hb h.2.1))
 ·exact Ev.neg h0 (j0 _ (by simp) (fun _ h => h0 h.1))
theorem g56 (a b c:Int) : (g02 a b c).size≤10:=by
 have s1 := g38 b.toNat;have s2 := g38 c.toNat;have s3 : (⟨#[104, 101, 97, 100, 32]⟩ : ByteArray).size=5 := rfl;have s4 : (⟨#[32]⟩ : ByteArray).size=1 := rfl;have s5 : (⟨#[97, 100, 100, 32]⟩ : ByteArray).size=4 := rfl;unfold g02;split
 ·rw [ByteArray.size_append, ByteArray.size_append, ByteArray.size_append]; omega
 split
 ·rw [ByteArray.size_append]; omega
 split
 ·decide
 split
 ·decide
 split
 ·decide
 split
 ·decide
 ·decide
theorem written_loop (b : List Int) (p:Int) (l : List S39) (hl : l.length≤100) : ∀ d i : Nat, i+d=l.length→∀ out : List S39, out.length≤i →
  ∃ r, Ev (fun k=>F18.l0 k out l (i:Int) b p) (r, p)∧r.length≤l.length:=by
 intro d
 induction d with
 | zero =>
  intro i hi out ho;exact ⟨out, Ev.step (fun k=>by rw [F18.l0]) (Ev.neg (show ¬ ((i:Int)<(l.length:Int)) by omega) (Ev.ret rfl)),by omega⟩
 | succ d ih =>
  intro i hi out ho;by_cases h : (g02 (r9 l (i:Int)).f0 (r9 l (i:Int)).f1 (r9 l (i:Int)).f2).toList=([] : List UInt8)
  ·obtain ⟨r, h1, h2⟩:=ih (i+1) o_ out o_;refine ⟨r, Ev.step (fun k=>by rw [F18.l0]) (Ev.pos (show (i:Int)<(l.length:Int) by omega) (Ev.pos (show (0:Int)≤(i:Int) by omega) (Ev.bind (g19 _ _ _) (Ev.pos h ?_)))), h2⟩;rw [wA o_]; exact h1
  ·obtain ⟨r, h1, h2⟩:=ih (i+1) o_ (out ++ [(⟨(r9 l (i:Int)).f0, (r9 l (i:Int)).f1, (r9 l (i:Int)).f2⟩ : S39)]) (by simp; omega);refine ⟨r, Ev.step (fun k=>by rw [F18.l0]) (Ev.pos (show (i:Int)<(l.length:Int) by omega) (Ev.pos (show (0:Int)≤(i:Int) by omega) (Ev.bind (g19 _ _ _) (Ev.neg h (Ev.pos (show out.length<5864062014805 by omega) ?_))))), h2⟩;rw [wA o_]; exact h1
theorem written_ev {b : List Int} (hb : Bytes b) : ∃ r p', Ev (fun k=>F18.f k b 0) (r, p')∧r.length≤6∧0≤p'∧p'≤1000:=by
 obtain ⟨t, p, h1, h2, h3, h4⟩:=wild_evP hb 0 0 o_ o_ o_ o_;obtain ⟨r, p', h5, h6, h7, h8⟩:=deeds_ev hb p t h2 h3 o_;obtain ⟨q, h9, h10⟩:=written_loop b p' r o_ r.length 0 o_ [] (by simp);refine ⟨q, p', ?_,by omega,by omega,by omega⟩;unfold F18.f;exact Ev.bind h1 (Ev.bind h5 h9)
theorem spoilRow : ∀ v : Int, 0≤v→v<6→(rdOf ByteArray.empty ([(⟨#[]⟩ : ByteArray), (⟨#[48]⟩ : ByteArray), (⟨#[32]⟩ : ByteArray), (⟨#[10]⟩ : ByteArray), (⟨#[45]⟩ : ByteArray), (⟨#[98, 97, 99, 107]⟩ : ByteArray)] : List ByteArray) v).size≤4:=by
 intro v h0 h1;(have h : v=0 ∨ v=1 ∨ v=2 ∨ v=3 ∨ v=4 ∨ v=5 := by omega);(rcases h with rfl | rfl | rfl | rfl | rfl | rfl <;> decide)
theorem spoil_ev {b : List Int} (hb : Bytes b) (p:Int) (s : ByteArray) (hp : 0≤p) (hp2 : p≤900000) (hs : s.size≤900000) :
  ∃ r p', Ev (fun k=>F20.f k b p s) (r, p')∧r.size≤s.size+4:=by
 unfold F20.f;by_cases h : (s.size:Int)=0
 ·exact ⟨_, _, Ev.pos h (Ev.ret rfl), by show (⟨#[10]⟩ : ByteArray).size≤_; have : (⟨#[10]⟩ : ByteArray).size=1 := rfl; omega⟩
 ·obtain ⟨v, hv0, hv1, hv⟩:=g04 hb p (s.size:Int) hp o_ o_ o_;obtain ⟨u, hu0, hu1, hu⟩:=g04 hb (p+1) 6 o_ o_ o_ o_;have e : wrap64 (v+1)=v+1 := g00 o_ o_;have hr := spoilRow u hu0 o_;(have z1 : (s.extract 0 v.toNat).size=v.toNat := by rw [ByteArray.size_extract]; omega);(have z2 : (s.extract (v+1).toNat s.size).size=s.size - (v+1).toNat := by rw [ByteArray.size_extract]; omega);refine ⟨(((s.extract 0 v.toNat) ++ (rdOf ByteArray.empty ([(⟨#[]⟩ : ByteArray), (⟨#[48]⟩ : ByteArray), (⟨#[32]⟩ : ByteArray), (⟨#[10]⟩ : ByteArray), (⟨#[45]⟩ : ByteArray), (⟨#[98, 97, 99, 107]⟩ : ByteArray)] : List ByteArray) u)) ++ (s.extract (v+1).toNat s.size)), p+1+1, Ev.neg h (Ev.bind hv (Ev.pos hv0 (Ev.pos o_ (Ev.bind0 rfl (Ev.bind hu (Ev.pos hu0 (Ev.pos (show u<(6:Int) by omega) (Ev.pos (by simp only [z1]; omega) ?_)))))))), ?_⟩
  ·rw [e];refine Ev.pos o_ (Ev.pos o_ (Ev.pos (by simp only [ByteArray.size_append, z1, z2]; omega) (Ev.ret rfl)))
  ·rw [ByteArray.size_append, ByteArray.size_append, z1, z2]; omega
def g31 (l : List Int) : List Int × List (List Int) × Bool := if g01 l=true then (l, [], true) else ([], [], false)
theorem deskNewOf_len (l : List Int) : (g31 l).1.length≤l.length:=by
 unfold g31;(split <;> simp)
theorem deskNewOf_rows (l : List Int) : (g31 l).2.1=[]:=by
 unfold g31;(split <;> rfl)
theorem spec_DeskNew_ev (l : List Int) (hl : l.length≤1048576) : Ev (fun k=>F46.f k l) (g31 l):=by
 unfold F46.f g31;refine Ev.bind (g03 l) (Ev.ite (fun h=>?_) (fun h=>Ev.ret (by rw [if_neg h])));rw [if_pos h];exact Ev.bind0 rfl (Ev.pos (by simp; omega) (Ev.ret (by simp)))
def g15 (l : List Int) (r : List (List Int)) : Bool := g01 l && decide (r.length≤8) && r.all g01
theorem nodup_le : ∀ (n:Nat) (L : List Int), L.Nodup→(∀ x, x ∈ L→1≤x∧x≤n)→L.length≤n
 | 0, L, _, h => by
  cases L with
  | nil => simp
  | cons a r => have := h a (by simp); omega
 | n+1, L, hn, h => by
  by_cases hm : ((n+1:Nat):Int) ∈ L
  ·have h1 := nodup_le n (L.erase ((n+1:Nat):Int)) (hn.erase _) (fun x hx => by
    rw [hn.mem_erase_iff] at hx
    have := h x hx.2
    omega)
   rw [List.length_erase_of_mem hm] at h1
   omega
  ·have := nodup_le n L hn (fun x hx => by
    have h2 := h x hx
    have : x≠((n+1:Nat):Int) := fun e=>hm (e ▸ hx)
    omega)
   omega
theorem nodup_all : ∀ (n:Nat) (L : List Int), L.Nodup→(∀ x, x ∈ L→1≤x∧x≤n)→L.length=n→∀ v : Int, 1≤v→v≤n→v ∈ L
 | 0, L, _, h, hl, v, h0, h1 => by omega
 | n+1, L, hn, h, hl, v, h0, h1 => by
  have hm : ((n+1:Nat):Int) ∈ L:=by
   apply Decidable.byContradiction;intro hm
   have := nodup_le n L hn (fun x hx => by
    have h2 := h x hx
    have : x≠((n+1:Nat):Int) := fun e=>hm (e ▸ hx)
    omega)
   omega
  by_cases e : v=((n+1:Nat):Int)
  ·rw [e]; exact hm
  ·have := nodup_all n (L.erase ((n+1:Nat):Int)) (hn.erase _) (fun x hx => by
    rw [hn.mem_erase_iff] at hx
    have := h x hx.2
    omega) (by rw [List.length_erase_of_mem hm]; omega) v h0 o_
   exact List.mem_of_mem_erase this
theorem g28 (l : List Int) {i : Nat} (h : i<l.length) : rd l i=l[i] := by simp [g47, h]
theorem nodup_iff_rd (l : List Int) : l.Nodup ↔ ∀ i j : Nat, i<j→j<l.length→rd l i≠rd l j:=by
 rw [List.nodup_iff_pairwise_ne, List.pairwise_iff_getElem]
 constructor
 ·intro h i j hij hj;rw [g28 l o_, g28 l hj];exact h i j o_ hj hij
 ·intro h i j hi hj hij;have := h i j hij hj;rwa [g28 l hi, g28 l hj] at this
theorem orderOk_nodup {o : List Int} {many : Int} : g05 o many=true ↔ (1≤many∧many≤8)∧(o.length:Int)=many∧o.Nodup∧∀ x, x ∈ o→1≤x∧x≤many:=by
 rw [g09, nodup_iff_rd]
 constructor
 ·rintro ⟨h1, h2, h3⟩;refine ⟨h1, h2, fun i j hij hj => (h3 j hj).2 i hij, fun x hx => ?_⟩;obtain ⟨i, hi, rfl⟩:=List.getElem_of_mem hx;have := (h3 i hi).1;rwa [g28 o hi] at this
 ·rintro ⟨h1, h2, h3, h4⟩;refine ⟨h1, h2, fun i hi => ⟨?_, fun j hj => h3 j i hj hi⟩⟩;rw [g28 o hi];exact h4 _ (List.getElem_mem hi)
def g10 (l : List Int) (v:Int) (n j:Nat) : Int := match (List.range' j (n - j)).find? (fun i : Nat => decide (rd l i=v)) with | some i => i | none => -1
def g58 (l : List Int) : Int := if g01 l then g10 l 0 l.length 0+1 else -1
theorem indexFrom_step (l : List Int) (v:Int) {n j : Nat} (h : j<n) : g10 l v n j=if rd l j=v then (j:Int) else g10 l v n (j+1):=by
 unfold g10;have hr : List.range' j (n - j)=j :: List.range' (j+1) (n - (j+1)):=by
  rw [show n - j=(n - (j+1))+1 by omega, List.range'_succ]
 rw [hr];by_cases e : rd l j=v
 ·rw [List.find?_cons_of_pos (by simpa using e), if_pos e]
 ·rw [List.find?_cons_of_neg (by simpa using e), if_neg e]
theorem indexFrom_end (l : List Int) (v:Int) {n j : Nat} (h : n≤j) : g10 l v n j=-1:=by
 unfold g10;rw [show n - j=0 by omega];rfl
theorem indexFrom_spec (l : List Int) (v:Int) (n:Nat) (d:Nat) : ∀ j, j+d=n→(∃ i : Nat, j≤i∧i<n∧rd l i=v∧g10 l v n j=i) ∨ ((∀ i : Nat, j≤i→i<n→rd l i≠v)∧g10 l v n j=-1):=by
 induction d with
 | zero => intro j hj; exact .inr ⟨fun i h1 h2 => by omega, indexFrom_end l v o_⟩
 | succ d ih =>
  intro j hj;rw [indexFrom_step l v o_];by_cases e : rd l j=v
  ·rw [if_pos e]; exact .inl ⟨j,by omega,by omega, e, rfl⟩
  ·rw [if_neg e];rcases ih (j+1) o_ with ⟨i, h1, h2, h3, h4⟩ | ⟨h1, h2⟩
   ·exact .inl ⟨i,by omega, h2, h3, h4⟩
   ·refine .inr ⟨fun i h3 h4 => ?_, h2⟩;by_cases e2 : i=j
    ·subst e2; exact e
    ·exact h1 i o_ h4
theorem exists_root {l : List Int} (h : g01 l=true) : ∃ i : Nat, i<l.length∧rd l i=0:=by
 have hz := treeOk_zero h;have hm : (0:Int) ∈ l:=by
  apply List.count_pos_iff.mp; omega
 obtain ⟨i, hi, e⟩:=List.getElem_of_mem hm;exact ⟨i, hi, by simp [g47, hi, e]⟩
theorem g53 {l : List Int} (h : g01 l=true) : ∃ i : Nat, i<l.length∧rd l i=0∧g58 l=(i:Int)+1:=by
 unfold g58;rw [if_pos h];rcases indexFrom_spec l 0 l.length l.length 0 o_ with ⟨i, _, h2, h3, h4⟩ | ⟨h1, _⟩
 ·exact ⟨i, h2, h3, by rw [h4]⟩
 ·obtain ⟨i, hi, e⟩:=exists_root h;exact absurd e (h1 i o_ hi)
def Deep (l : List Int) : Nat→Int→Prop
 | 0, w => rd l (w - 1)=0
 | d+1, w => 1≤rd l (w - 1)∧rd l (w - 1)≤l.length∧Deep l d (rd l (w - 1))
theorem deep_of_walk (l : List Int) : ∀ (m:Nat) (w:Int), 0<w→g11 l m w=true→∃ d, d<m∧Deep l d w
 | 0, w, h0, h => by simp [g11] at h; omega
 | m+1, w, h0, h => by
  unfold g11 at h
  rw [if_neg o_, Bool.and_eq_true, decide_eq_true_eq] at h
  by_cases e : rd l (w - 1)=0
  ·exact ⟨0,by omega, e⟩
  ·obtain ⟨d, hd, hd2⟩:=deep_of_walk l m _ o_ h.2
   exact ⟨d+1,by omega,by omega, h.1.2, hd2⟩
theorem tree_deep {l : List Int} (h : g01 l=true) {w : Int} (h0 : 1≤w) (h1 : w≤l.length) : ∃ d, d<l.length∧Deep l d w:=by
 have := treeOk_walk h (j := (w - 1).toNat) o_;rw [show (((w - 1).toNat:Nat):Int)+1=w by omega] at this;exact deep_of_walk l _ w o_ this
theorem g55 (l : List Int) : ∀ (d d':Nat) (w:Int), Deep l d w→Deep l d' w→d=d'
 | 0, 0, _, _, _ => rfl
 | 0, d'+1, w, h, h' => by
  have h : rd l (w - 1)=0 := h
  have := h'.1
  omega
 | d+1, 0, w, h, h' => by
  have h' : rd l (w - 1)=0 := h'
  have := h.1
  omega
 | d+1, d'+1, w, h, h' => by rw [g55 l d d' _ h.2.2 h'.2.2]
theorem deep_lt {l : List Int} (h : g01 l=true) {w : Int} (h0 : 1≤w) (h1 : w≤l.length) {d : Nat} (hd : Deep l d w) : d<l.length:=by
 obtain ⟨d', h2, h3⟩:=tree_deep h h0 h1;rw [g55 l d d' w hd h3];exact h2
theorem g52 {l : List Int} {w : Int} (hw : 1≤w∧w≤l.length) {d : Nat} (hd : Deep l d w) {i : Nat} (e : rd l i=w) : Deep l (d+1) ((i:Int)+1):=by
 (have e' : rd l ((i:Int)+1 - 1)=w := by rw [show (i:Int)+1 - 1=(i:Int) by omega]; exact e);exact ⟨by omega,by omega, by rw [e']; exact hd⟩
def up (l : List Int) : Nat→Int→Int
 | 0, v => v
 | k+1, v => up l k (rd l (v - 1))
theorem up_succ (l : List Int) : ∀ (k:Nat) (v:Int), up l (k+1) v=rd l (up l k v - 1)
 | 0, v => rfl
 | k+1, v => by rw [up, up_succ l k, ← up]
theorem zero_unique {l : List Int} (h : g01 l=true) {i j : Nat} (hi : i<l.length) (hj : j<l.length) (e1 : rd l i=0) (e2 : rd l j=0) : i=j:=by
 have hz := treeOk_zero h;have key : ∀ a b : Nat, a<b→b<l.length→rd l a=0→rd l b=0→False:=by
  intro a b hab hb ha0 hb0;have h1 := g17 l a o_;rw [if_pos ha0] at h1;have h2 : ∀ q : Nat, a+1≤q→q≤b→g08 l b≤g08 l q:=by
   intro q hq hqb;obtain ⟨d, hd⟩ : ∃ d, q+d=b := ⟨b - q,by omega⟩;clear hq
   induction d generalizing q with
   | zero => rw [show q=b by omega]; exact Nat.le_refl _
   | succ d ih =>
    have h3 := g17 l q o_;have h4 := ih (q+1) o_ o_;omega
  have h3 := h2 (a+1) o_ o_;have h4 := g17 l b hb;rw [if_pos hb0] at h4;have h5 : g08 l a≤l.count 0:=by
   unfold g08;exact (List.drop_sublist a l).count_le 0
  omega
 rcases Nat.lt_trichotomy i j with h1 | h1 | h1
 ·exact absurd (key i j h1 hj e1 e2) id
 ·exact h1
 ·exact absurd (key j i h1 hi e2 e1) id
theorem g14 {o : List Int} {n : Nat} (h : g05 o n=true) : o.length=n:=by
 have := (g09.mp h).2.1; omega
theorem orderOk_rd {o : List Int} {n : Nat} (h : g05 o n=true) {i : Nat} (hi : i<n) : 1≤rd o i∧rd o i≤n :=
 ((g09.mp h).2.2 i (by rw [g14 h]; exact hi)).1
theorem g41 {o : List Int} {n : Nat} (h : g05 o n=true) {v : Int} (h0 : 1≤v) (h1 : v≤n) : ∃ i : Nat, i<n∧rd o i=v∧g12 o v=(i:Int)+1:=by
 obtain ⟨_, h2, h3, h4⟩:=orderOk_nodup.mp h;have hm := nodup_all n o h3 h4 o_ v h0 h1;obtain ⟨i, hi, e⟩:=List.getElem_of_mem hm;(have e2 : rd o i=v := by rw [g28 o hi]; exact e);exact ⟨i,by omega, e2, by rw [← e2]; exact placeOf_at h hi⟩
theorem placeOf_zero {o : List Int} {n : Nat} (h : g05 o n=true) : g12 o 0=0 :=
 placeOf_none (fun i hi e => by have := orderOk_rd h (i := i) (by rw [← g14 h]; exact hi); omega)
theorem g26 {o : List Int} {n : Nat} (h : g05 o n=true) {v : Int} (h0 : 0≤v) (h1 : v≤n) : 0≤g12 o v∧g12 o v≤n∧(g12 o v≤0 ↔ v≤0):=by
 by_cases e : v=0
 ·subst e; rw [placeOf_zero h]; omega
 ·obtain ⟨i, h2, _, h3⟩:=g41 h (v := v) o_ h1;omega
theorem g40 (l o : List Int) : (putOf l o).length=o.length := by simp [putOf]
theorem putOf_rd {l o : List Int} {n : Nat} (h : g05 o n=true) {i : Nat} (hi : i<n) : rd (putOf l o) i=g12 o (rd l (rd o i - 1)):=by
 rw [g28 _ (by rw [g40, g14 h]; exact hi)];(have hi' : i<o.length := by rw [g14 h]; exact hi);simp only [putOf, List.getElem_map, g28 o hi']
theorem putOf_at {l o : List Int} {n : Nat} (h : g05 o n=true) {v : Int} (h0 : 1≤v) (h1 : v≤n) : rd (putOf l o) (g12 o v - 1)=g12 o (rd l (v - 1)):=by
 obtain ⟨i, h2, h3, h4⟩:=g41 h h0 h1;rw [h4, show (i:Int)+1 - 1=i by omega, putOf_rd h h2, h3]
theorem treeOk_rd' {l : List Int} (h : g01 l=true) {v : Int} (h0 : 1≤v) (h1 : v≤l.length) : 0≤rd l (v - 1)∧rd l (v - 1)≤l.length:=by
 have := treeOk_rd h (j := (v - 1).toNat) o_;rwa [show (((v - 1).toNat:Nat):Int)=v - 1 by omega] at this
theorem walk_put {l o : List Int} (hl : g01 l=true) (h : g05 o l.length=true) : ∀ (m:Nat) (v:Int), 0≤v→v≤l.length→g11 (putOf l o) m (g12 o v)=g11 l m v
 | 0, v, h0, h1 => by
  unfold g11
  rw [decide_eq_decide]; exact (g26 h h0 h1).2.2
 | m+1, v, h0, h1 => by
  unfold g11
  have hr := g26 h h0 h1
  by_cases e : v≤0
  ·rw [if_pos e, if_pos (hr.2.2.mpr e)]
  ·rw [if_neg e, if_neg (fun h2=>e (hr.2.2.mp h2)), putOf_at h o_ h1]
   have h3 := treeOk_rd' hl (v := v) o_ h1
   have h4 := g26 h h3.1 h3.2
   rw [g40, g14 h, decide_eq_true h3, decide_eq_true (show 0≤g12 o (rd l (v - 1))∧g12 o (rd l (v - 1))≤(l.length:Int) from ⟨h4.1, h4.2.1⟩), walk_put hl h m _ h3.1 h3.2]
theorem count_zero_one {l : List Int} {i : Nat} (hi : i<l.length) (h0 : rd l i=0) (hu : ∀ j : Nat, j<l.length→rd l j=0→j=i) : l.count 0=1:=by
 have key : ∀ d j, j+d=l.length→g08 l j=if j≤i then 1 else 0:=by
  intro d
  induction d with
  | zero => intro j hj; unfold g08; rw [List.drop_eq_nil_of_le o_, if_neg o_]; rfl
  | succ d ih =>
   intro j hj;rw [g17 l j o_, ih (j+1) o_];by_cases e : j=i
   ·subst e; rw [if_pos h0, if_neg o_, if_pos o_]
   ·rw [if_neg (fun h=>e (hu j o_ h))];(split <;> split <;> omega)
 have := key l.length 0 o_;rw [if_pos o_] at this;simpa [g08] using this
theorem treeOk_put {l o : List Int} (hl : g01 l=true) (h : g05 o l.length=true) : g01 (putOf l o)=true:=by
 (have hlen : (putOf l o).length=l.length := by rw [g40, g14 h]);unfold g01;rw [hlen, decide_eq_true (tOl hl), Bool.true_and, Bool.and_eq_true]
 constructor
 ·rw [List.all_eq_true];intro i hi;have hi := List.mem_range.mp hi;have h1 := orderOk_rd h hi;have h2 := treeOk_rd' hl h1.1 h1.2;have h3 := g26 h h2.1 h2.2;unfold okAt;rw [putOf_rd h hi, hlen, decide_eq_true ⟨h3.1, h3.2.1⟩, Bool.true_and];have h4 : g12 o (rd o i)=(i:Int)+1 := placeOf_at h (by rw [g14 h]; exact hi);rw [← h4, walk_put hl h _ _ o_ h1.2];have := treeOk_walk hl (j := (rd o i - 1).toNat) o_;rwa [show (((rd o i - 1).toNat:Nat):Int)+1=rd o i by omega] at this
 ·rw [decide_eq_true_iff];obtain ⟨i, h1, h2⟩:=exists_root hl;obtain ⟨j, h3, h4, h5⟩:=g41 h (v := (i:Int)+1) o_ o_;refine count_zero_one (i := j) o_ ?_ ?_
  ·rw [putOf_rd h h3, h4, show (i:Int)+1 - 1=i by omega, h2, placeOf_zero h]
  ·intro k hk hk0;(have hk' : k<l.length := by omega);rw [putOf_rd h hk'] at hk0;have h6 := orderOk_rd h hk';have h7 := treeOk_rd' hl h6.1 h6.2;have h8 := (g26 h h7.1 h7.2).2.2.mp o_;have h9 := zero_unique hl (i := (rd o k - 1).toNat) (j := i) o_ h1 (by rw [show (((rd o k - 1).toNat:Nat):Int)=rd o k - 1 by omega]; omega) h2;exact order_inj h (by rw [g14 h]; omega) (by rw [g14 h]; omega) o_
def downO (n:Nat) : List Int := (List.range n).map (fun i : Nat => (n:Int) - i)
theorem g24 (n:Nat) : (downO n).length=n := by simp [downO]
theorem downO_rd {n i : Nat} (h : i<n) : rd (downO n) (i:Int)=(n:Int) - i:=by
 rw [g28 _ (by rw [g24]; exact h)]; simp [downO]
theorem downO_ok {n : Nat} (h1 : 1≤n) (h2 : n≤8) : g05 (downO n) n=true:=by
 rw [g09];refine ⟨by omega, by rw [g24], ?_⟩;intro i hi;rw [g24] at hi;refine ⟨by rw [downO_rd hi]; omega, fun j hj => ?_⟩;rw [downO_rd hi, downO_rd (show j<n by omega)]; omega
theorem placeOf_down {n : Nat} (h1 : 1≤n) (h2 : n≤8) {v : Int} (h3 : 1≤v) (h4 : v≤n) : g12 (downO n) v=(n:Int)+1 - v:=by
 obtain ⟨i, h5, h6, h7⟩:=g41 (downO_ok h1 h2) h3 h4;rw [downO_rd h5] at h6; omega
def g21 (l : List Int) : List Int := if g01 l then putOf l (downO l.length) else []
theorem backOf_ok {l : List Int} (h : g01 l=true) : g01 (g21 l)=true∧(g21 l).length=l.length:=by
 have hn := tOl h;unfold g21;rw [if_pos h];exact ⟨treeOk_put h (downO_ok hn.1 hn.2), by rw [g40, g24]⟩
theorem backOf_rd {l : List Int} (h : g01 l=true) {i : Nat} (hi : i<l.length) : rd (g21 l) (i:Int)=if rd l (((l.length - 1 - i:Nat)):Int)=0 then 0 else (l.length:Int)+1 - rd l (((l.length - 1 - i:Nat)):Int):=by
 have hn := tOl h;have hr := treeOk_rd h (j := l.length - 1 - i) o_;unfold g21;rw [if_pos h, putOf_rd (downO_ok hn.1 hn.2) hi, downO_rd hi, show (l.length:Int) - i - 1=((l.length - 1 - i:Nat):Int) by omega];by_cases e : rd l (((l.length - 1 - i:Nat)):Int)=0
 ·rw [if_pos e, e, placeOf_zero (downO_ok hn.1 hn.2)]
 ·rw [if_neg e, placeOf_down hn.1 hn.2 o_ hr.2]
def kidsL (l : List Int) (w:Int) (n j:Nat) : List Nat := (List.range' j (n - j)).filter (fun i=>decide (rd l i=w∧(i:Int)+1<w))
def kidsR (l : List Int) (w:Int) (n j:Nat) : List Nat := (List.range' j (n - j)).filter (fun i=>decide (rd l i=w∧¬ (i:Int)+1<w))
def flatF (l : List Int) : Nat→Int→List Int
 | 0, w => [w]
 | m+1, w => (kidsL l w l.length 0).flatMap (fun i : Nat => flatF l m ((i:Int)+1)) ++ ([w] ++ (kidsR l w l.length 0).flatMap (fun i : Nat => flatF l m ((i:Int)+1)))
def g16 (l : List Int) : List Int := if g01 l then flatF l l.length (g58 l) else []
theorem g54 {n j : Nat} (h : j<n) : List.range' j (n - j)=j :: List.range' (j+1) (n - (j+1)):=by
 rw [show n - j=(n - (j+1))+1 by omega, List.range'_succ]
theorem kidsL_end (l : List Int) (w:Int) {n j : Nat} (h : n≤j) : kidsL l w n j=[] := by unfold kidsL; rw [show n - j=0 by omega]; rfl
theorem kidsR_end (l : List Int) (w:Int) {n j : Nat} (h : n≤j) : kidsR l w n j=[] := by unfold kidsR; rw [show n - j=0 by omega]; rfl
theorem kidsL_yes (l : List Int) (w:Int) {n j : Nat} (h : j<n) (e : rd l j=w∧(j:Int)+1<w) : kidsL l w n j=j :: kidsL l w n (j+1):=by
 unfold kidsL; rw [g54 h, List.filter_cons_of_pos (by simpa using e)]
theorem kidsL_no (l : List Int) (w:Int) {n j : Nat} (h : j<n) (e : ¬ (rd l j=w∧(j:Int)+1<w)) : kidsL l w n j=kidsL l w n (j+1):=by
 unfold kidsL; rw [g54 h, List.filter_cons_of_neg (by simpa using e)]
theorem kidsR_yes (l : List Int) (w:Int) {n j : Nat} (h : j<n) (e : rd l j=w∧¬ (j:Int)+1<w) : kidsR l w n j=j :: kidsR l w n (j+1):=by
 unfold kidsR; rw [g54 h, List.filter_cons_of_pos (by simpa using e)]
theorem kidsR_no (l : List Int) (w:Int) {n j : Nat} (h : j<n) (e : ¬ (rd l j=w∧¬ (j:Int)+1<w)) : kidsR l w n j=kidsR l w n (j+1):=by
 unfold kidsR; rw [g54 h, List.filter_cons_of_neg (by simpa using e)]
theorem g57 (m b:Nat) (g : Nat→List Int) (hg : ∀ i, (g i).length≤b) : ∀ (ks : List Nat), ks.length≤m→(ks.flatMap g).length≤m * b
 | [], _ => by simp
 | i :: r, h => by
  have h1 := hg i
  obtain ⟨m, rfl⟩ : ∃ q, m=q+1 := ⟨m - 1, by simp at h; omega⟩
  have h2 := g57 m b g hg r (by simpa using h)
  rw [List.flatMap_cons, List.length_append, Nat.add_mul]
  omega
theorem kids_len (l : List Int) (w:Int) (n j:Nat) : (kidsL l w n j).length≤n∧(kidsR l w n j).length≤n:=by
 constructor
 ·exact Nat.le_trans (List.length_filter_le _ _) (by simp)
 ·exact Nat.le_trans (List.length_filter_le _ _) (by simp)
theorem g35 (l : List Int) (hl : l.length≤8) : ∀ (m:Nat) (w:Int), (flatF l m w).length≤20 ^ m
 | 0, w => by simp [flatF]
 | m+1, w => by
  have h1 := kids_len l w l.length 0
  have h2 := g57 8 (20 ^ m) (fun i : Nat => flatF l m ((i:Int)+1)) (fun i=>g35 l hl m _) (kidsL l w l.length 0) o_
  have h3 := g57 8 (20 ^ m) (fun i : Nat => flatF l m ((i:Int)+1)) (fun i=>g35 l hl m _) (kidsR l w l.length 0) o_
  have h4 : 1≤20 ^ m := Nat.one_le_pow _ _ o_
  unfold flatF
  simp only [List.length_append, List.length_singleton]
  rw [Nat.pow_succ]
  omega
theorem pow20_le {m : Nat} (h : m≤8) : 20 ^ m≤25600000000 := Nat.le_trans (Nat.pow_le_pow_right o_ h) (by decide)
theorem mem_flatF {l : List Int} : ∀ (m e:Nat) (w v:Int), (1≤w∧w≤l.length)→Deep l e w→v ∈ flatF l m w→(1≤v∧v≤l.length)∧∃ k, up l k v=w∧Deep l (e+k) v
 | 0, e, w, v, hw, hd, hv => by
  rw [flatF, List.mem_singleton] at hv
  subst hv
  exact ⟨hw, 0, rfl, hd⟩
 | m+1, e, w, v, hw, hd, hv => by
  have kid : ∀ i : Nat, i<l.length→rd l i=w→v ∈ flatF l m ((i:Int)+1)→(1≤v∧v≤l.length)∧∃ k, up l k v=w∧Deep l (e+k) v:=by
   intro i hi hr hm;obtain ⟨h1, k, h2, h3⟩:=mem_flatF m (e+1) _ v ⟨by omega,by omega⟩ (g52 hw hd hr) hm;refine ⟨h1, k+1, ?_, by rw [show e+(k+1)=e+1+k by omega]; exact h3⟩;rw [up_succ, h2, show (i:Int)+1 - 1=(i:Int) by omega];exact hr
  rw [flatF, List.mem_append, List.mem_append, List.mem_flatMap, List.mem_flatMap, List.mem_singleton] at hv;rcases hv with ⟨i, hi, hv⟩ | rfl | ⟨i, hi, hv⟩
  ·unfold kidsL at hi;rw [List.mem_filter, List.mem_range'_1, decide_eq_true_eq] at hi;exact kid i o_ hi.2.1 hv
  ·exact ⟨hw, 0, rfl, hd⟩
  ·unfold kidsR at hi;rw [List.mem_filter, List.mem_range'_1, decide_eq_true_eq] at hi;exact kid i o_ hi.2.1 hv
theorem g45 (g : Nat→List Int) : ∀ (ks : List Nat), ks.Nodup→(∀ i, i ∈ ks→(g i).Nodup)→(∀ i j, i ∈ ks→j ∈ ks→i≠j→∀ x, x ∈ g i→x ∉ g j)→(ks.flatMap g).Nodup
 | [], _, _, _ => by simp
 | i :: r, hn, hg, hd => by
  rw [List.nodup_cons] at hn
  rw [List.flatMap_cons, List.nodup_append]
  refine ⟨hg i (by simp), g45 g r hn.2 (fun j hj => hg j (by simp [hj])) (fun a b ha hb => hd a b (by simp [ha]) (by simp [hb])), ?_⟩
  intro x hx y hy e
  subst e
  rw [List.mem_flatMap] at hy
  obtain ⟨j, hj, hy⟩:=hy
  refine hd i j (by simp) (by simp [hj]) ?_ x hx hy
  rintro rfl
  exact hn.1 hj
theorem flatF_nodup {l : List Int} : ∀ (m e:Nat) (w:Int), (1≤w∧w≤l.length)→Deep l e w→(flatF l m w).Nodup
 | 0, e, w, hw, hd => by simp [flatF]
 | m+1, e, w, hw, hd => by
  have kl : ∀ i : Nat, i ∈ kidsL l w l.length 0→i<l.length∧rd l i=w∧(i:Int)+1<w:=by
   intro i hi;unfold kidsL at hi;rw [List.mem_filter, List.mem_range'_1, decide_eq_true_eq] at hi;exact ⟨by omega, hi.2⟩
  have kr : ∀ i : Nat, i ∈ kidsR l w l.length 0→i<l.length∧rd l i=w∧¬ (i:Int)+1<w:=by
   intro i hi;unfold kidsR at hi;rw [List.mem_filter, List.mem_range'_1, decide_eq_true_eq] at hi;exact ⟨by omega, hi.2⟩
  have apart : ∀ i j : Nat, (i<l.length∧rd l i=w)→(j<l.length∧rd l j=w)→i≠j→∀ x, x ∈ flatF l m ((i:Int)+1)→x ∉ flatF l m ((j:Int)+1):=by
   intro i j hi hj hne x hx hy;obtain ⟨_, k, h2, h3⟩:=mem_flatF m (e+1) _ x ⟨by omega,by omega⟩ (g52 hw hd hi.2) hx;obtain ⟨_, k', h2', h3'⟩:=mem_flatF m (e+1) _ x ⟨by omega,by omega⟩ (g52 hw hd hj.2) hy;have := g55 l _ _ x h3 h3';(have hk : k=k' := by omega);subst hk;omega
  have notself : ∀ i : Nat, i<l.length→rd l i=w→w ∉ flatF l m ((i:Int)+1):=by
   intro i hi hr hx;obtain ⟨_, k, h2, h3⟩:=mem_flatF m (e+1) _ w ⟨by omega,by omega⟩ (g52 hw hd hr) hx;have := g55 l _ _ w hd h3;omega
  have nd : ∀ i : Nat, i<l.length→rd l i=w→(flatF l m ((i:Int)+1)).Nodup := fun i hi hr => flatF_nodup m (e+1) _ ⟨by omega,by omega⟩ (g52 hw hd hr);rw [flatF, List.nodup_append, List.nodup_append];refine ⟨?_, ⟨by simp, ?_, ?_⟩, ?_⟩
  ·refine g45 _ _ (List.Pairwise.filter _ List.nodup_range') (fun i hi => nd i (kl i hi).1 (kl i hi).2.1) (fun i j hi hj hne => apart i j ⟨(kl i hi).1, (kl i hi).2.1⟩ ⟨(kl j hj).1, (kl j hj).2.1⟩ hne)
  ·refine g45 _ _ (List.Pairwise.filter _ List.nodup_range') (fun i hi => nd i (kr i hi).1 (kr i hi).2.1) (fun i j hi hj hne => apart i j ⟨(kr i hi).1, (kr i hi).2.1⟩ ⟨(kr j hj).1, (kr j hj).2.1⟩ hne)
  ·intro x hx y hy exy;rw [List.mem_singleton] at hx;subst hx; subst exy;rw [List.mem_flatMap] at hy;obtain ⟨i, hi, hy⟩:=hy;exact notself i (kr i hi).1 (kr i hi).2.1 hy
  ·intro x hx y hy exy;subst exy;rw [List.mem_flatMap] at hx;obtain ⟨i, hi, hx⟩:=hx;rw [List.mem_append, List.mem_singleton, List.mem_flatMap] at hy;rcases hy with rfl | ⟨j, hj, hy⟩
   ·exact notself i (kl i hi).1 (kl i hi).2.1 hx
   ·refine apart i j ⟨(kl i hi).1, (kl i hi).2.1⟩ ⟨(kr j hj).1, (kr j hj).2.1⟩ ?_ x hx hy;rintro rfl;exact (kr _ hj).2.2 (kl _ hi).2.2
theorem flatF_root {l : List Int} (h : g01 l=true) : (1≤g58 l∧g58 l≤l.length)∧Deep l 0 (g58 l):=by
 obtain ⟨i, h1, h2, h3⟩:=g53 h;rw [h3];refine ⟨by omega, ?_⟩;show rd l ((i:Int)+1 - 1)=0;rw [show (i:Int)+1 - 1=(i:Int) by omega];exact h2
theorem flatOrder_nodup {l : List Int} (h : g01 l=true) : (g16 l).Nodup:=by
 unfold g16;rw [if_pos h];exact flatF_nodup _ 0 _ (flatF_root h).1 (flatF_root h).2
theorem flatOrder_range {l : List Int} (h : g01 l=true) : ∀ x, x ∈ g16 l→1≤x∧x≤l.length:=by
 unfold g16;rw [if_pos h];exact fun x hx => (mem_flatF _ 0 _ x (flatF_root h).1 (flatF_root h).2 hx).1
theorem flatOrder_le (l : List Int) : (g16 l).length≤8:=by
 by_cases h : g01 l=true
 ·have := nodup_le l.length _ (flatOrder_nodup h) (flatOrder_range h);have hl := tOl h;omega
 ·unfold g16; rw [if_neg h]; simp
theorem flatOrder_small (l : List Int) : (g16 l).length≤1048576 := Nat.le_trans (flatOrder_le l) o_
def madeFlat (l : List Int) : List Int := (g23 l (g16 l)).1
theorem madeFlat_small (l : List Int) : (madeFlat l).length≤1048576 := Nat.le_trans (putInOrder_len l _) o_
def dM (l : List Int) (a b c:Int) : List Int :=
 if a=0∧1≤b∧b≤l.length then l.set (b - 1).toNat c
 else if a=1∧c=0 then l ++ [b]
 else if a=2∧b=0∧c=0 then l.take (l.length - 1)
 else if a=3∧b=0∧c=0 then g21 l
 else if a=4∧b=0∧c=0 then madeFlat l
 else []
def g33 (l m : List Int) (r : List (List Int)) : List Int × List (List Int) × Bool :=
 if m=l ∨ g01 m=false then (l, r, false) else (m, if r.length+1 > 8 then (r ++ [l]).drop 1 else r ++ [l], true)
def g06 (l : List Int) (r : List (List Int)) (a b c:Int) : List Int × List (List Int) × Bool :=
 if g15 l r=true then
  if (a=5∧b=0∧c=0)∧0<r.length then (r.getD (r.length - 1) [], r.take (r.length - 1), true)
  else g33 l (dM l a b c) r
 else ([], [], false)
theorem g25 {l : List Int} {r : List (List Int)} (h : g15 l r=true) : g01 l=true∧r.length≤8∧∀ x ∈ r, g01 x=true:=by
 unfold g15 at h;simp only [Bool.and_eq_true, decide_eq_true_eq, List.all_eq_true] at h;exact ⟨h.1.1, h.1.2, h.2⟩
theorem deskOk_mk {l : List Int} {r : List (List Int)} (h1 : g01 l=true) (h2 : r.length≤8) (h3 : ∀ x ∈ r, g01 x=true) : g15 l r=true:=by
 unfold g15;simp only [Bool.and_eq_true, decide_eq_true_eq, List.all_eq_true];exact ⟨⟨h1, h2⟩, h3⟩
theorem deskDo_ok {l : List Int} {r : List (List Int)} (a b c:Int) (h : (g06 l r a b c).2.2=true) : g15 (g06 l r a b c).1 (g06 l r a b c).2.1=true∧(g06 l r a b c).2.1.length≤r.length+1:=by
 unfold g06 at h ⊢;by_cases h1 : g15 l r=true
 ·rw [if_pos h1] at h ⊢;obtain ⟨p1, p2, p3⟩:=g25 h1;by_cases h2 : (a=5∧b=0∧c=0)∧0<r.length
  ·rw [if_pos h2];(have hl : r.length - 1<r.length := by omega);refine ⟨deskOk_mk (p3 _ ?_) ?_ (fun x hx => p3 x (List.mem_of_mem_take hx)), ?_⟩
   ·show r.getD (r.length - 1) [] ∈ r;rw [List.getD_eq_getElem?_getD, List.getElem?_eq_getElem hl];exact List.getElem_mem ..
   ·show (r.take (r.length - 1)).length≤8;rw [List.length_take]; omega
   ·show (r.take (r.length - 1)).length≤r.length+1;rw [List.length_take]; omega
  ·rw [if_neg h2] at h ⊢;unfold g33 at h ⊢;by_cases h3 : dM l a b c=l ∨ g01 (dM l a b c)=false
   ·rw [if_pos h3] at h;cases h
   ·rw [if_neg h3];have h4 : g01 (dM l a b c)=true:=by
     by_cases z : g01 (dM l a b c)=true
     ·exact z
     ·exact absurd (.inr (Bool.eq_false_iff.mpr z)) h3
    refine ⟨deskOk_mk h4 ?_ ?_, ?_⟩
    ·show (if r.length+1 > 8 then (r ++ [l]).drop 1 else r ++ [l]).length≤8;(split <;> simp <;> omega)
    ·intro x hx;have hx : x ∈ (if r.length+1 > 8 then (r ++ [l]).drop 1 else r ++ [l]) := hx;have hx2 : x ∈ r ++ [l]:=by
      split at hx
      ·exact List.mem_of_mem_drop hx
      ·exact hx
     rcases List.mem_append.1 hx2 with h5 | h5
     ·exact p3 x h5
     ·rw [List.mem_singleton.1 h5]; exact p1
    ·show (if r.length+1 > 8 then (r ++ [l]).drop 1 else r ++ [l]).length≤r.length+1;(split <;> simp)
 ·rw [if_neg h1] at h;cases h
theorem deskMade_len (l : List Int) (a b c:Int) (hl : l.length≤1048575) : (dM l a b c).length≤1048576:=by
 unfold dM;by_cases h0 : a=0∧1≤b∧b≤l.length
 ·rw [if_pos h0, List.length_set]; omega
 ·rw [if_neg h0];by_cases h1 : a=1∧c=0
  ·rw [if_pos h1]; simp; omega
  ·rw [if_neg h1];by_cases h2 : a=2∧b=0∧c=0
   ·rw [if_pos h2, List.length_take]; omega
   ·rw [if_neg h2];by_cases h3 : a=3∧b=0∧c=0
    ·rw [if_pos h3];by_cases z : g01 l=true
     ·rw [(backOf_ok z).2]; omega
     ·unfold g21; rw [if_neg z]; simp
    ·rw [if_neg h3];by_cases h4 : a=4∧b=0∧c=0
     ·rw [if_pos h4]; exact madeFlat_small l
     ·rw [if_neg h4]; simp
theorem spec_BackOf_l0 (l : List Int) (h : g01 l=true) (d:Nat) : ∀ (j:Nat), j+d=l.length →
  Ev (fun k=>F128.l0 k l ((g21 l).take j) (l.length:Int) ((l.length:Int) - 1 - j)) (g21 l):=by
 have hn := tOl h;have hb := (backOf_ok h).2
 induction d with
 | zero =>
  intro j hj;refine Ev.step (fun k=>F128.l0.eq_2 ..) (Ev.neg o_ ?_);refine Ev.step (fun k=>F128.j1.eq_2 ..) (Ev.neg (by simp) (Ev.ret ?_));rw [List.take_of_length_le o_]
 | succ d ih =>
  intro j hj;have next := ih (j+1) o_;have ht : (g21 l).take (j+1)=(g21 l).take j ++ [rd (g21 l) (j:Int)]:=by
   rw [List.take_succ_eq_append_getElem o_, g28 _ o_]
  (have e1 : wrap64 ((l.length:Int) - 1 - j - 1)=(l.length:Int) - 1 - ((j+1:Nat):Int) := by rw [g00 o_ o_]; omega);(have e2 : ((l.length:Int) - 1 - j)=((l.length - 1 - j:Nat):Int) := by omega);have hr := treeOk_rd h (j := l.length - 1 - j) o_;have hk := backOf_rd h (i := j) o_;refine Ev.step (fun k=>F128.l0.eq_2 ..) (Ev.pos o_ (Ev.bind (g03 l) ?_));refine Ev.step (fun k=>F128.j1.eq_2 ..) (Ev.pos h (Ev.pos o_ (Ev.pos o_ ?_)));rw [e1];rw [e2];by_cases e : rd l (((l.length - 1 - j:Nat)):Int)=0
  ·rw [if_pos e] at hk;refine Ev.pos e (Ev.pos (by rw [List.length_take]; omega) ?_);rw [show (g21 l).take j ++ [0]=(g21 l).take (j+1) by rw [ht, hk]];exact next
  ·rw [if_neg e] at hk;refine Ev.neg e (Ev.pos (by rw [List.length_take]; omega) ?_);rw [g00 (n := (l.length:Int)+1) o_ o_, g00 o_ o_, ← hk, ← ht];exact next
theorem spec_BackOf_ev (l : List Int) (hl : l.length≤1048576) : Ev (fun k=>F128.f k l) (g21 l):=by
 unfold F128.f;rw [g00 o_ o_];by_cases h : g01 l=true
 ·have := spec_BackOf_l0 l h l.length 0 o_;rw [List.take_zero] at this;simpa using this
 ·(have e : g21 l=[] := by unfold g21; rw [if_neg h]);rw [e];have out : ∀ m : Int, Ev (fun k=>F128.j1 k l [] (l.length:Int) m false) [] := fun m=>Ev.step (fun k=>F128.j1.eq_2 ..) (Ev.neg (by simp) (Ev.ret rfl));refine Ev.step (fun k=>F128.l0.eq_2 ..) (Ev.ite (fun _=>Ev.bind (g03 l) ?_) (fun _=>out _));rw [Bool.eq_false_iff.mpr h];exact out _
theorem spec_RootOf_l0 (l : List Int) (h : g01 l=true) (d:Nat) : ∀ j : Nat, j+d=l.length→(∃ i : Nat, j≤i∧i<l.length∧rd l i=0)→Ev (fun k=>F171.l0 k l (j:Int)) (g10 l 0 l.length j+1):=by
 have hl := tOl h
 induction d with
 | zero => intro j hj ⟨i, h1, h2, _⟩; omega
 | succ d ih =>
  intro j hj ⟨i, h1, h2, h3⟩;refine Ev.step (fun k=>F171.l0.eq_2 ..) (Ev.pos o_ (Ev.bind (g03 l) ?_));rw [h, indexFrom_step l 0 o_];refine Ev.step (fun k=>F171.j1.eq_2 ..) (Ev.pos rfl (Ev.pos o_ (Ev.pos o_ (Ev.ite (fun e=>?_) (fun e=>?_)))))
  ·rw [if_pos e];exact Ev.ret (g00 o_ o_)
  ·rw [if_neg e, wA o_];refine ih (j+1) o_ ⟨i, ?_, h2, h3⟩;by_cases e2 : i=j
   ·subst e2; exact absurd h3 e
   ·omega
theorem spec_RootOf_ev (l : List Int) : Ev (fun k=>F171.f k l) (g58 l):=by
 unfold F171.f g58;by_cases h : g01 l=true
 ·rw [if_pos h];obtain ⟨i, h1, h2⟩:=exists_root h;exact spec_RootOf_l0 l h l.length 0 o_ ⟨i,by omega, h1, h2⟩
 ·rw [if_neg h];refine Ev.step (fun k=>F171.l0.eq_2 ..) (Ev.ite (fun e=>?_) (fun e=>?_))
  ·refine Ev.bind (g03 l) ?_;rw [show g01 l=false by simpa using h];exact Ev.step (fun k=>F171.j1.eq_2 ..) (Ev.neg (by simp) (Ev.ret rfl))
  ·exact Ev.step (fun k=>F171.j1.eq_2 ..) (Ev.neg (by simp) (Ev.ret rfl))
theorem spec_walk_l1 (l : List Int) (w:Int) (hl : l.length≤8) (m:Nat) (hm : m<8) (hw : 1≤w∧w≤l.length) (ih : ∀ i : Nat, i<l.length→rd l i=w→Ev (fun k=>F170.f k l ((i:Int)+1)) (flatF l m ((i:Int)+1))) (d:Nat) :
  ∀ (j:Nat) (x : List Int), j+d=l.length→w≤j→x.length+(d+1) * 20 ^ m≤1000000000000→Ev (fun k=>F170.l1 k l w x ((j:Int)+1)) (x ++ (kidsR l w l.length j).flatMap (fun i : Nat => flatF l m ((i:Int)+1))):=by
 induction d with
 | zero =>
  intro j x hj hwj hx;refine Ev.step (fun k=>F170.l1.eq_2 ..) (Ev.neg o_ (Ev.ret ?_));rw [kidsR_end l w o_]; simp
 | succ d ihd =>
  intro j x hj hwj hx;have hf := g35 l hl m ((j:Int)+1);(have hp : (d+1+1) * 20 ^ m=(d+1) * 20 ^ m+20 ^ m := by rw [Nat.add_mul (d+1) 1, Nat.one_mul]);refine Ev.step (fun k=>F170.l1.eq_2 ..) ?_;rw [g00 (n := (j:Int)+1 - 1) o_ o_, show (j:Int)+1 - 1=(j:Int) by omega, g00 (n := (j:Int)+1+1) o_ o_];refine Ev.pos o_ (Ev.pos o_ (Ev.pos o_ (Ev.ite (fun e=>?_) (fun e=>?_))))
  ·refine Ev.bind (ih j o_ e) (Ev.pos o_ ?_);rw [kidsR_yes l w o_ ⟨e,by omega⟩, List.flatMap_cons, ← List.append_assoc];exact ihd (j+1) _ o_ o_ (by rw [List.length_append]; omega)
  ·rw [kidsR_no l w o_ (fun h=>e h.1)];exact ihd (j+1) _ o_ o_ o_
theorem spec_walk_l0 (l : List Int) (w:Int) (hl : l.length≤8) (m:Nat) (hm : m<8) (hw : 1≤w∧w≤l.length) (hself : rd l (w - 1)≠w) (ih : ∀ i : Nat, i<l.length→rd l i=w→Ev (fun k=>F170.f k l ((i:Int)+1)) (flatF l m ((i:Int)+1))) (d:Nat) :
  ∀ (j:Nat) (x : List Int), j+d+1=w→x.length+(d+10) * 20 ^ m≤1000000000000→Ev (fun k=>F170.l0 k l w x ((j:Int)+1)) (x ++ ((kidsL l w l.length j).flatMap (fun i : Nat => flatF l m ((i:Int)+1)) ++ ([w] ++ (kidsR l w l.length 0).flatMap (fun i : Nat => flatF l m ((i:Int)+1))))):=by
 have h20 : 1≤20 ^ m := Nat.one_le_pow _ _ o_
 induction d with
 | zero =>
  intro j x hj hx;have e0 : kidsL l w l.length j=[]:=by
   unfold kidsL;rw [List.filter_eq_nil_iff];intro i hi;have := List.mem_range'_1.mp hi;simp; intro _; omega
  have e1 : kidsR l w l.length 0=kidsR l w l.length (j+1):=by
   have : ∀ q : Nat, q≤j+1→kidsR l w l.length 0=kidsR l w l.length q:=by
    intro q
    induction q with
    | zero => intro _; rfl
    | succ q ihq =>
     intro hq;rw [ihq o_, kidsR_no l w o_];rintro ⟨h1, h2⟩;(have : q=j := by omega);subst this;exact hself (by rw [show w - 1=(q:Int) by omega]; exact h1)
   exact this (j+1) (Nat.le_refl _)
  refine Ev.step (fun k=>F170.l0.eq_2 ..) (Ev.neg o_ (Ev.pos o_ ?_));rw [e0, e1, List.flatMap_nil, List.nil_append, ← List.append_assoc, g00 (n := w+1) o_ o_, show w+1=((j+1:Nat):Int)+1 by omega];refine spec_walk_l1 l w hl m hm hw ih (l.length - (j+1)) (j+1) _ o_ o_ ?_;have : (l.length - (j+1)+1) * 20 ^ m≤8 * 20 ^ m := Nat.mul_le_mul_right _ o_;rw [List.length_append, List.length_singleton];rw [Nat.zero_add] at hx;omega
 | succ d ihd =>
  intro j x hj hx;have hf := g35 l hl m ((j:Int)+1);(have hp : (d+1+10) * 20 ^ m=(d+10) * 20 ^ m+20 ^ m := by rw [show d+1+10=(d+10)+1 by omega, Nat.add_mul (d+10) 1, Nat.one_mul]);refine Ev.step (fun k=>F170.l0.eq_2 ..) ?_;rw [g00 (n := (j:Int)+1 - 1) o_ o_, show (j:Int)+1 - 1=(j:Int) by omega, g00 (n := (j:Int)+1+1) o_ o_];refine Ev.pos o_ (Ev.pos o_ (Ev.pos o_ (Ev.ite (fun e=>?_) (fun e=>?_))))
  ·refine Ev.bind (ih j o_ e) (Ev.pos o_ ?_);rw [kidsL_yes l w o_ ⟨e,by omega⟩, List.flatMap_cons];simp only [List.append_assoc];rw [← List.append_assoc x];exact ihd (j+1) _ o_ (by rw [List.length_append]; omega)
  ·rw [kidsL_no l w o_ (fun h=>e h.1)];exact ihd (j+1) _ o_ o_
theorem spec_l8Walk_ev (l : List Int) (h : g01 l=true) : ∀ (m d:Nat) (w:Int), 1≤w∧w≤l.length→Deep l d w→l.length≤d+m→m≤8→Ev (fun k=>F170.f k l w) (flatF l m w)
 | 0, d, w, hw, hd, hm, hm8 => by
  have := deep_lt h hw.1 hw.2 hd
  omega
 | m+1, d, w, hw, hd, hm, hm8 => by
  have hl := tOl h
  have hself := treeOk_ne h (j := (w - 1).toNat) o_
  rw [show (((w - 1).toNat:Nat):Int)=w - 1 by omega] at hself
  have hp := pow20_le (m := m) o_
  refine Ev.step (fun k=>F170.f.eq_2 ..) ?_
  have := spec_walk_l0 l w hl.2 m o_ hw o_ (fun i hi e => spec_l8Walk_ev l h m (d+1) _ ⟨by omega,by omega⟩ (g52 hw hd e) o_ o_) (w - 1).toNat 0 [] o_ (by
   have : ((w - 1).toNat+10) * 20 ^ m≤18 * 20 ^ m := Nat.mul_le_mul_right _ o_
   simp only [List.length_nil]
   omega)
  exact this
theorem spec_FlatOrder_ev (l : List Int) : Ev (fun k=>F155.f k l) (g16 l):=by
 unfold F155.f g16;refine Ev.bind (g03 l) (Ev.ite (fun h=>?_) (fun h=>?_))
 ·have hl := tOl h;obtain ⟨i, h1, h2, h3⟩:=g53 h;rw [if_pos h];refine Ev.bind (spec_RootOf_ev l) (Ev.bind (spec_l8Walk_ev l h l.length 0 _ ⟨by omega,by omega⟩ ?_ o_ o_) (Ev.ret rfl));rw [h3];show rd l ((i:Int)+1 - 1)=0;rw [show (i:Int)+1 - 1=(i:Int) by omega];exact h2
 ·rw [if_neg h]; exact Ev.ret rfl
theorem spec_MadeFlat_ev (l : List Int) : Ev (fun k=>F129.f k l) (madeFlat l):=by
 unfold F129.f;exact Ev.bind (spec_FlatOrder_ev l) (Ev.bind (g42 l _ (flatOrder_small l)) (Ev.ret rfl))
theorem g50 (xs : List (List Int)) (j:Nat) : rd_L4 xs (j:Int)=xs.getD j [] := by simp [rd_L4]
theorem l12Copy_l0 (l : List Int) (r : List (List Int)) (hr : r.length≤1048576) (hx : ∀ x ∈ r, x.length≤1048576) (m : List Int) (d:Nat) : ∀ (j:Nat), j+d=r.length →
  Ev (fun k=>F86.l0 k (j:Int) l r m (r.take j)) (m, r):=by
 induction d with
 | zero =>
  intro j hj;refine Ev.step (fun k=>F86.l0.eq_2 ..) (Ev.neg o_ (Ev.ret ?_));rw [List.take_of_length_le o_]
 | succ d ih =>
  intro j hj;(have hjl : j<r.length := by omega);(have e : rd_L4 r (j:Int)=r[j] := by rw [g50, List.getD_eq_getElem?_getD, List.getElem?_eq_getElem hjl]; rfl);(have hlen : (rd_L4 r (j:Int)).length≤1048576 := by rw [e]; exact hx _ (List.getElem_mem ..));refine Ev.step (fun k=>F86.l0.eq_2 ..) (Ev.pos o_ ?_);simp only [Option.bind_some, List.nil_append, List.length_nil, Nat.zero_add];refine Ev.pos o_ (Ev.pos o_ (Ev.pos (by rw [List.length_take]; omega) ?_));rw [wA o_, e, ← List.take_succ_eq_append_getElem hjl];exact ih (j+1) o_
theorem l12Copy_ev (l : List Int) (r : List (List Int)) (hl : l.length≤1048576) (hr : r.length≤1048576) (hx : ∀ x ∈ r, x.length≤1048576) : Ev (fun k=>F86.f k l r) (l, r):=by
 unfold F86.f;simp only [Option.bind_some, List.nil_append, List.length_nil, Nat.zero_add];refine Ev.pos o_ ?_;have := l12Copy_l0 l r hr hx l r.length 0 o_;rw [List.take_zero] at this;exact this
theorem l12Made_j0 (l : List Int) (hp : 1≤l.length) (hl : l.length≤1048576) (a b c:Int) (t : Bool) (ht : t=decide (a=0∧1≤b∧b≤l.length)) : Ev (fun k=>F87.j0 k l l t a b c) (dM l a b c):=by
 refine Ev.step (fun k=>F87.j0.eq_2 ..) ?_;unfold dM;by_cases h0 : a=0∧1≤b∧b≤l.length
 ·have e : wrap64 (b - 1)=b - 1 := g00 o_ o_;rw [if_pos h0, e];exact Ev.pos (by rw [ht]; exact decide_eq_true h0) (Ev.pos o_ (Ev.pos o_ (Ev.ret rfl)))
 ·rw [if_neg h0];refine Ev.neg (by rw [ht]; simpa using h0) ?_;by_cases h1 : a=1∧c=0
  ·rw [if_pos h1];exact Ev.pos (by simp [h1]) (Ev.pos o_ (Ev.ret rfl))
  ·rw [if_neg h1];refine Ev.neg (by simpa using h1) ?_;by_cases h2 : a=2∧b=0∧c=0
   ·rw [if_pos h2];refine Ev.pos (by simp [h2]) ?_;have e : wrap64 ((l.length:Int) - 1)=(l.length:Int) - 1 := g00 o_ o_;rw [e, show l.length - 1=((l.length:Int) - 1).toNat by omega];exact Ev.pos o_ (Ev.pos o_ (Ev.ret rfl))
   ·rw [if_neg h2];refine Ev.neg (by simpa using h2) ?_;by_cases h3 : a=3∧b=0∧c=0
    ·rw [if_pos h3];exact Ev.pos (by simp [h3]) (Ev.bind (spec_BackOf_ev l hl) (Ev.ret rfl))
    ·rw [if_neg h3];refine Ev.neg (by simpa using h3) ?_;by_cases h4 : a=4∧b=0∧c=0
     ·rw [if_pos h4];exact Ev.pos (by simp [h4]) (Ev.bind (spec_MadeFlat_ev l) (Ev.ret rfl))
     ·rw [if_neg h4];exact Ev.neg (by simpa using h4) (Ev.ret rfl)
theorem l12Made_ev (l : List Int) (h1 : 1≤l.length) (hl : l.length≤1048576) (a b c:Int) : Ev (fun k=>F87.f k l a b c) (dM l a b c):=by
 unfold F87.f;simp only [Option.bind_some, List.nil_append, List.length_nil, Nat.zero_add];refine Ev.pos o_ (Ev.ite (fun h=>?_) (fun h=>l12Made_j0 l h1 hl a b c _ (by simp [h])));refine Ev.bind0 (g32 b 1 (l.length:Int)) (l12Made_j0 l h1 hl a b c _ ?_);simp [h]
theorem drop_all {α : Type} (p : α→Bool) (l : List α) (z : α) (j:Nat) (h : j<l.length) : (l.drop j).all p=(p (l.getD j z) && (l.drop (j+1)).all p):=by
 rw [List.drop_eq_getElem_cons h, List.all_cons, List.getD_eq_getElem?_getD, List.getElem?_eq_getElem h]; rfl
theorem specDesk_l0 (l : List Int) (r : List (List Int)) (hr : r.length≤1048576) (d:Nat) : ∀ (j:Nat), j+d=r.length→Ev (fun k=>F9.l0 k (j:Int) l r) (g01 l && decide (r.length≤8) && (r.drop j).all g01):=by
 induction d with
 | zero =>
  intro j hj;refine Ev.step (fun k=>F9.l0.eq_2 ..) (Ev.neg o_ (Ev.bind (g03 l) (Ev.ite (fun h=>Ev.ret ?_) (fun h=>Ev.ret ?_))))
  ·rw [List.drop_of_length_le o_, h];simp;omega
  ·rw [Bool.eq_false_iff.mpr h]; simp
 | succ d ih =>
  intro j hj;refine Ev.step (fun k=>F9.l0.eq_2 ..) (Ev.pos o_ (Ev.pos o_ (Ev.bind (g03 _) (Ev.ite (fun h=>?_) (fun h=>Ev.ret ?_)))))
  ·rw [wA o_, drop_all _ _ [] j o_, ← g50, h, Bool.true_and];exact ih (j+1) o_
  ·rw [drop_all _ _ [] j o_, ← g50, Bool.eq_false_iff.mpr h]; simp
theorem spec_DeskOk_ev (l : List Int) (r : List (List Int)) (hr : r.length≤1048576) : Ev (fun k=>F9.f k l r) (g15 l r):=by
 have h := specDesk_l0 l r hr r.length 0 o_;rw [List.drop_zero] at h;exact h
theorem spec_DeskDo_l0 (m l : List Int) (r : List (List Int)) (lo : List Int) (ro : List (List Int)) (hm : m.length≤1048576) (out : Bool→List Int × List (List Int) × Bool)
  (hout : ∀ s, Ev (fun k=>F47.j2 k m s lo ro) (out s)) (heq : m.length=l.length) (d:Nat) : ∀ (j:Nat), j+d=m.length→(∀ i, i<j→m[i]?=l[i]?)→Ev (fun k=>F47.l0 k m true (j:Int) l r lo ro) (out (decide (m=l))):=by
 induction d with
 | zero =>
  intro j hj h;have e : m=l:=by
   apply List.ext_getElem?;intro i;by_cases hi : i<j
   ·exact h i hi
   ·rw [List.getElem?_eq_none o_, List.getElem?_eq_none o_]
  rw [decide_eq_true e];exact Ev.step (fun k=>F47.l0.eq_2 ..) (Ev.neg o_ (hout true))
 | succ d ih =>
  intro j hj h;refine Ev.step (fun k=>F47.l0.eq_2 ..) (Ev.pos o_ (Ev.pos rfl (Ev.pos o_ (Ev.pos o_ ?_))));rw [wA o_];by_cases e : rd m (j:Int)=rd l (j:Int)
  ·rw [show (rd m (j:Int) == rd l (j:Int))=true by simpa using e];refine ih (j+1) o_ (fun i hi => ?_);by_cases e2 : i=j
   ·subst e2;rw [g47, g47, List.getD_eq_getElem?_getD, List.getD_eq_getElem?_getD, List.getElem?_eq_getElem o_, List.getElem?_eq_getElem o_] at e;rw [List.getElem?_eq_getElem o_, List.getElem?_eq_getElem o_];simpa using e
   ·exact h i o_
  ·rw [show (rd m (j:Int) == rd l (j:Int))=false by simpa using e, decide_eq_false (fun z=>e (by rw [z]))];by_cases c : ((j+1:Nat):Int)<(m.length:Int)
   ·exact Ev.step (fun k=>F47.l0.eq_2 ..) (Ev.pos c (Ev.neg (by simp) (hout false)))
   ·exact Ev.step (fun k=>F47.l0.eq_2 ..) (Ev.neg c (hout false))
theorem spec_DeskDo_same (m l : List Int) (r : List (List Int)) (lo : List Int) (ro : List (List Int)) (hm : m.length≤1048576) (out : Bool→List Int × List (List Int) × Bool)
  (hout : ∀ s, Ev (fun k=>F47.j2 k m s lo ro) (out s)) : Ev (fun k=>F47.l0 k m ((m.length:Int) == (l.length:Int)) 0 l r lo ro) (out (decide (m=l))):=by
 by_cases heq : m.length=l.length
 ·rw [show ((m.length:Int) == (l.length:Int))=true from beq_iff_eq.mpr o_];exact spec_DeskDo_l0 m l r lo ro hm out hout heq m.length 0 o_ (fun i h => by omega)
 ·rw [show ((m.length:Int) == (l.length:Int))=false from beq_eq_false_iff_ne.mpr o_, decide_eq_false (fun z=>heq (by rw [z]))];by_cases c : (0:Int)<(m.length:Int)
  ·exact Ev.step (fun k=>F47.l0.eq_2 ..) (Ev.pos c (Ev.neg (by simp) (hout false)))
  ·exact Ev.step (fun k=>F47.l0.eq_2 ..) (Ev.neg c (hout false))
def ddOut (l m : List Int) (r : List (List Int)) (s : Bool) : List Int × List (List Int) × Bool := if (s || !g01 m)=true then (l, r, false) else (m, if r.length+1 > 8 then (r ++ [l]).drop 1 else r ++ [l], true)
theorem ddOut_put (l m : List Int) (r : List (List Int)) : ddOut l m r (decide (m=l))=g33 l m r:=by
 unfold ddOut g33;by_cases c : m=l ∨ g01 m=false
 ·rw [if_pos c, if_pos (by simpa using c)]
 ·rw [if_neg c, if_neg (by simpa using c)]
theorem spec_DeskDo_j3 (m l : List Int) (r : List (List Int)) (hm : m.length≤1048576) (hr : r.length≤1048576) (s : Bool) :
  Ev (fun k=>F47.j3 k m s l r) (if s=true then (l, r, false) else (m, if r.length+1 > 8 then (r ++ [l]).drop 1 else r ++ [l], true)):=by
 refine Ev.step (fun k=>F47.j3.eq_2 ..) (Ev.ite (fun h=>Ev.ret (by rw [if_pos h])) (fun h=>?_));rw [if_neg h];refine Ev.pos o_ ?_;simp only [Option.bind_some, List.nil_append, List.length_nil, Nat.zero_add];(have hlen : (r ++ [l]).length=r.length+1 := by simp);by_cases c : r.length+1 > 8
 ·rw [if_pos c];exact Ev.pos (by rw [hlen]; omega) (Ev.pos o_ (Ev.ret rfl))
 ·rw [if_neg c];exact Ev.neg (by rw [hlen]; omega) (Ev.pos o_ (Ev.ret rfl))
theorem spec_DeskDo_j2 (m l : List Int) (r : List (List Int)) (hm : m.length≤1048576) (hr : r.length≤1048576) (s : Bool) : Ev (fun k=>F47.j2 k m s l r) (ddOut l m r s):=by
 unfold ddOut;refine Ev.step (fun k=>F47.j2.eq_2 ..) (Ev.ite (fun h=>?_) (fun h=>Ev.bind (g03 m) ?_))
 ·rw [h, Bool.true_or]; exact spec_DeskDo_j3 m l r hm hr true
 ·rw [Bool.eq_false_iff.mpr h, Bool.false_or]; exact spec_DeskDo_j3 m l r hm hr _
theorem spec_DeskDo_ev (l : List Int) (r : List (List Int)) (a b c:Int) (hl : l.length≤1048576) (hr : r.length≤1048576) (hx : ∀ x ∈ r, x.length≤1048576) : Ev (fun k=>F47.f k l r a b c) (g06 l r a b c):=by
 unfold F47.f g06;refine Ev.bind (spec_DeskOk_ev l r o_) (Ev.ite (fun h=>?_) (fun h=>Ev.ret (by rw [if_neg h])));rw [if_pos h];obtain ⟨p1, p2, p3⟩:=g25 h;have hn := tOl p1;refine Ev.bind (l12Copy_ev l r o_ o_ hx) ?_;have go : ∀ t : Bool, t=decide ((a=5∧b=0∧c=0)∧0<r.length)→Ev (fun k=>F47.j0 k t l r a b c l r) (if (a=5∧b=0∧c=0)∧0<r.length then (r.getD (r.length - 1) [], r.take (r.length - 1), true) else g33 l (dM l a b c) r):=by
  intro t ht;refine Ev.step (fun k=>F47.j0.eq_2 ..) (Ev.ite (fun h=>?_) (fun h=>?_))
  ·rw [ht, decide_eq_true_eq] at h;rw [if_pos h];(have e : wrap64 ((r.length:Int) - 1)=((r.length - 1:Nat):Int) := by rw [g00 o_ o_]; omega);rw [e];refine Ev.pos o_ (Ev.pos o_ (Ev.ret ?_));rw [g50, Int.toNat_natCast]
  ·rw [ht, decide_eq_true_eq] at h;rw [if_neg h];have hm : (dM l a b c).length≤1048576 := deskMade_len l a b c (by have := hn.2; omega);exact Ev.bind (l12Made_ev l hn.1 o_ a b c) (Ev.eq (spec_DeskDo_same (dM l a b c) l r l r hm (ddOut l (dM l a b c) r) (fun s=>spec_DeskDo_j2 _ _ _ hm hr s)) (ddOut_put ..))
 refine Ev.ite (fun h5=>go _ ?_) (fun h5=>go _ ?_)
 ·simp at h5;simp [h5]
 ·simp at h5;symm;rw [decide_eq_false_iff_not];rintro ⟨⟨h6, h7, h8⟩, _⟩;exact h5 h6 h7 h8
theorem deskDo_rows (l : List Int) (r : List (List Int)) (a b c:Int) : (g06 l r a b c).2.1.length≤r.length+1:=by
 by_cases h2 : (g06 l r a b c).2.2=true
 ·exact (deskDo_ok a b c h2).2
 ·unfold g06 at h2 ⊢;by_cases h : g15 l r=true
  ·rw [if_pos h] at h2 ⊢;by_cases h3 : (a=5∧b=0∧c=0)∧0<r.length
   ·rw [if_pos h3] at h2; exact absurd rfl h2
   ·rw [if_neg h3] at h2 ⊢;unfold g33 at h2 ⊢;by_cases h4 : dM l a b c=l ∨ g01 (dM l a b c)=false
    ·rw [if_pos h4]; exact Nat.le_succ _
    ·rw [if_neg h4] at h2; exact absurd rfl h2
  ·rw [if_neg h]; exact Nat.zero_le _
theorem spec_DeskDo_owned_ev (l : List Int) (r : List (List Int)) (a b c:Int) (hl : l.length≤1048575) (hr : r.length<7) (hx : ∀ x ∈ r, x.length≤1048576) : Ev (fun k=>F233.f k l r a b c) (g06 l r a b c):=by
 unfold F233.f;have hlen := deskDo_rows l r a b c;exact Ev.bind (spec_DeskDo_ev l r a b c o_ o_ hx) (Ev.pos o_ (Ev.ret rfl))
theorem desk_l0 {b : List Int} (hb : Bytes b) (n:Int) (hn : 0≤n) (hn2 : n≤1000) (d:Nat) :
  ∀ (l : List Int) (r : List (List Int)) (p:Int), r.length+d≤5→l.length≤9→(∀ x ∈ r, x.length≤9)→0≤p→p+10 * d≤700000 →
  ∃ l' r' p', Ev (fun k=>F25.l0 k n (d:Int) b p l r) (l', r', p')∧l'.length≤9∧r'.length≤6∧(∀ x ∈ r', x.length≤9)∧0≤p'∧p'≤p+10 * d+3:=by
 induction d with
 | zero =>
  intro l r p hr hl hx hp hp2;obtain ⟨o, q, ho, hq1, hq2⟩:=odd_evG hb p n hp o_ hn o_;by_cases h : o=true
  ·obtain ⟨v, hv0, hv1, hv⟩:=g04 hb q 3 o_ o_ o_ o_;by_cases v0 : v=0
   ·exact ⟨[1], r, q+1, Ev.step (fun k=>F25.l0.eq_2 ..) (Ev.neg o_ (Ev.bind ho (Ev.pos h (Ev.bind hv (Ev.pos v0 (Ev.ret rfl)))))), by simp,by omega, hx,by omega,by omega⟩
   ·by_cases v1 : v=1
    ·refine ⟨l, r ++ [[]], q+1, Ev.step (fun k=>F25.l0.eq_2 ..) (Ev.neg o_ (Ev.bind ho (Ev.pos h (Ev.bind hv (Ev.neg v0 (Ev.pos v1 (Ev.pos o_ (Ev.ret rfl)))))))), hl, by simp; omega, ?_,by omega,by omega⟩;intro x hx2;rcases List.mem_append.1 hx2 with h5 | h5
     ·exact hx x h5
     ·rw [List.mem_singleton.1 h5]; simp
    ·exact ⟨[], [], q+1, Ev.step (fun k=>F25.l0.eq_2 ..) (Ev.neg o_ (Ev.bind ho (Ev.pos h (Ev.bind hv (Ev.neg v0 (Ev.neg v1 (Ev.ret rfl))))))), by simp, by simp, by simp,by omega,by omega⟩
  ·exact ⟨l, r, q, Ev.step (fun k=>F25.l0.eq_2 ..) (Ev.neg o_ (Ev.bind ho (Ev.neg h (Ev.ret rfl)))), hl,by omega, hx,by omega,by omega⟩
 | succ d ih =>
  intro l r p hr hl hx hp hp2;obtain ⟨x, y, z, q, hq, hq1, hq2⟩:=deed_ev hb p l hp o_ o_;have hdo := spec_DeskDo_owned_ev l r x y z o_ o_ (fun u hu => by have := hx u hu; omega);(have ed : wrap64 (((d+1:Nat):Int) - 1)=(d:Int) := by rw [g00 o_ o_]; omega);by_cases h : (g06 l r x y z).2.2=true
  ·obtain ⟨h1, h2⟩:=deskDo_ok x y z h;obtain ⟨p1, p2, p3⟩:=g25 h1;have hn1 := tOl p1;obtain ⟨l', r', p', h3, h4, h5, h6, h7, h8⟩:=ih (g06 l r x y z).1 (g06 l r x y z).2.1 q o_ o_ (fun u hu => by have := tOl (p3 u hu); omega) o_ o_;refine ⟨l', r', p', Ev.step (fun k=>F25.l0.eq_2 ..) (Ev.pos o_ (Ev.bind hq (Ev.bind hdo (Ev.pos h ?_)))), h4, h5, h6, h7,by omega⟩;rw [ed];exact h3
  ·obtain ⟨l', r', p', h3, h4, h5, h6, h7, h8⟩:=ih l r q o_ hl hx o_ o_;refine ⟨l', r', p', Ev.step (fun k=>F25.l0.eq_2 ..) (Ev.pos o_ (Ev.bind hq (Ev.bind hdo (Ev.neg h ?_)))), h4, h5, h6, h7,by omega⟩;rw [ed];exact h3
theorem desk_ev {b : List Int} (hb : Bytes b) (n:Int) (hn : 0≤n) (hn2 : n≤1000) :
  ∃ l r p', Ev (fun k=>F25.f k b 0 n) (l, r, p')∧l.length≤9∧r.length≤6∧(∀ x ∈ r, x.length≤9)∧0≤p'∧p'≤400:=by
 obtain ⟨t, q, ht, ht2, hq1, hq2⟩:=wild_evP hb 0 0 o_ o_ o_ o_;obtain ⟨v, hv0, hv1, hv⟩:=g04 hb q 6 o_ o_ o_ o_;have h1 := deskNewOf_len t;have h2 := deskNewOf_rows t;obtain ⟨l, r, p', h3, h4, h5, h6, h7, h8⟩:=desk_l0 hb n hn hn2 v.toNat (g31 t).1 (g31 t).2.1 (q+1) (by rw [h2]; simp; omega) o_ (by rw [h2]; simp) o_ o_;unfold F25.f;refine ⟨l, r, p', Ev.bind ht (Ev.bind (spec_DeskNew_ev t o_) (Ev.bind hv ?_)), h4, h5, h6, h7,by omega⟩;rw [show ((v.toNat:Nat):Int)=v by omega] at h3;exact h3
theorem drawDeskRun_ev (l : List Int) (hb : ∀ x ∈ l, (Lit.int .u8 x).wf=true) : ∃ w r L, Ev (fun k=>F8.f k l) (w, r, L)∧w.length≤9∧r.length≤6∧(∀ x ∈ r, x.length≤9)∧L.length≤100:=by
 obtain ⟨b, hB, hopen⟩:=l20Open_ev l hb;obtain ⟨w, r, p, h1, h2, h3, h4, h5, h6⟩:=desk_ev hB 12 o_ o_;obtain ⟨o, ho⟩:=odd_ev hB p 30 o_ o_ o_ o_;unfold F8.f;by_cases h : o=true
 ·exact ⟨w, r, _, Ev.bind0 hopen (Ev.bind h1 (Ev.bind ho (Ev.pos h (Ev.pos o_ (Ev.ret rfl))))), h2, h3, h4, by simp⟩
 ·obtain ⟨L, p', h7, h8, _, _⟩:=deeds_ev hB (p+1) w h2 o_ o_;exact ⟨w, r, L, Ev.bind0 hopen (Ev.bind h1 (Ev.bind ho (Ev.neg h (Ev.bind h7 (Ev.ret rfl))))), h2, h3, h4,by omega⟩
theorem deskDo_no {l : List Int} {r : List (List Int)} {a b c : Int} (h : g15 l r=true) (h2 : ¬ (g06 l r a b c).2.2=true) : g06 l r a b c=(l, r, false):=by
 unfold g06 at h2 ⊢;rw [if_pos h] at h2 ⊢;by_cases h3 : (a=5∧b=0∧c=0)∧0<r.length
 ·rw [if_pos h3] at h2; exact absurd rfl h2
 ·rw [if_neg h3] at h2 ⊢;unfold g33 at h2 ⊢;by_cases h4 : dM l a b c=l ∨ g01 (dM l a b c)=false
  ·rw [if_pos h4]
  ·rw [if_neg h4] at h2; exact absurd rfl h2
def runD : List S39→List Int→List (List Int)→Nat→List Int × List (List Int) × Int
 | [], l, r, n => (l, r, (n:Int))
 | d :: t, l, r, n => runD t (g06 l r d.f0 d.f1 d.f2).1 (g06 l r d.f0 d.f1 d.f2).2.1 (if (g06 l r d.f0 d.f1 d.f2).2.2=true then n+1 else n)
theorem deskDo_keeps {l : List Int} {r : List (List Int)} (a b c:Int) (h : g15 l r=true) : g15 (g06 l r a b c).1 (g06 l r a b c).2.1=true:=by
 by_cases h2 : (g06 l r a b c).2.2=true
 ·exact (deskDo_ok a b c h2).1
 ·rw [deskDo_no h h2]; exact h
theorem runD_ok : ∀ (t : List S39) (l : List Int) (r : List (List Int)) (n:Nat), g15 l r=true→g15 (runD t l r n).1 (runD t l r n).2.1=true
 | [], _, _, _, h => h
 | d :: t, l, r, n, h => runD_ok t _ _ _ (deskDo_keeps _ _ _ h)
theorem drop_cons25 {L : List S39} {j : Nat} (h : j<L.length) : L.drop j=L.getD j z39 :: L.drop (j+1):=by
 rw [List.drop_eq_getElem_cons h, getD_lt h]
def g30 (l : List Int) (r : List (List Int)) (L : List S39) : List Int × List (List Int) × Int := if g15 l r=true∧L.length≤40 then runD L l r 0 else ([], [], 0)
theorem g27 (l : List Int) (hl : l.length≤1048576) : F52.f l=some l:=by
 unfold F52.f;exact (if_pos (show ([] : List Int).length+l.length<17592186044416 by simp only [List.length_nil]; omega)).trans rfl
def g34 (l : List Int) (i:Nat) : Bool := decide (0≤rd l i∧rd l i≤l.length)
theorem mem_rd {l : List Int} {a : Int} (h0 : 0≤a) (h1 : a<l.length) (h : (List.range l.length).all (g34 l)=true) : 0≤rd l a∧rd l a≤l.length:=by
 rw [List.all_eq_true] at h;have := h a.toNat (by simp; omega);unfold g34 at this;rw [show ((a.toNat:Nat):Int)=a by omega] at this;exact of_decide_eq_true this
def g59 (l : List Int) : Nat→Int→Nat→Int
 | 0, _, _ => -1
 | m+1, w, i => if rd l (w - 1)=0 then i else g59 l m (rd l (w - 1)) (i+1)
theorem stepsOf_neg (l : List Int) (h : (List.range l.length).all (g34 l)=true) : ∀ (m:Nat) (w:Int) (i:Nat), 0<w→w≤l.length→(decide (g59 l m w i<0)=!g11 l m w)
 | 0, w, i, h0, h1 => by simp [g59, g11]; omega
 | m+1, w, i, h0, h1 => by
  have hr := mem_rd (a := w - 1) o_ o_ h
  unfold g59 g11
  rw [if_neg (show ¬ w≤0 by omega), decide_eq_true hr, Bool.true_and]
  by_cases e : rd l (w - 1)=0
  ·rw [if_pos e, e, decide_eq_false o_]
   cases m <;> simp [g11]
  ·rw [if_neg e]
   exact stepsOf_neg l h m _ _ o_ o_
theorem impl_steps_l0 (l : List Int) (hl : l.length≤8) (h : (List.range l.length).all (g34 l)=true) (d:Nat) : ∀ (w:Int) (j:Nat), j+d=l.length→0<w→w≤l.length →
  Ev (fun k=>F76.l0 k l w (l.length:Int) (j:Int)) (g59 l d w j):=by
 induction d with
 | zero =>
  intro w j hj h0 h1;refine Ev.step (fun k=>F76.l0.eq_2 ..) ?_;exact Ev.neg o_ (Ev.ret rfl)
 | succ d ih =>
  intro w j hj h0 h1;have hr := mem_rd (a := w - 1) o_ o_ h;refine Ev.step (fun k=>F76.l0.eq_2 ..) ?_;rw [g00 (n := w - 1) o_ o_, wA o_];refine Ev.pos o_ (Ev.pos o_ (Ev.pos o_ (Ev.ite (fun e=>?_) (fun e=>?_))))
  ·exact Ev.ret (by unfold g59; rw [if_pos e])
  ·exact Ev.eq (ih (rd l (w - 1)) (j+1) o_ o_ o_) (by rw [g59, if_neg e])
theorem impl_steps_ev (l : List Int) (hl : l.length≤8) (h : (List.range l.length).all (g34 l)=true) (w:Int) (h0 : 0<w) (h1 : w≤l.length) :
  Ev (fun k=>F76.f k l w) (g59 l l.length w 0):=by
 unfold F76.f;exact impl_steps_l0 l hl h l.length w 0 o_ h0 h1
theorem impl_TreeOk_l1 (l : List Int) (hl : l.length≤8) (h : (List.range l.length).all (g34 l)=true) (r:Nat) (d:Nat) : ∀ (j:Nat), j+d=l.length →
  Ev (fun k=>F37.l1 k l (r:Int) (l.length:Int) (j:Int)) ((List.range' j (l.length - j)).all (fun i=>g11 l l.length ((i:Int)+1)) && ((r:Int) == 1)):=by
 induction d with
 | zero =>
  intro j hj;refine Ev.step (fun k=>F37.l1.eq_2 ..) ?_;exact Ev.neg o_ (Ev.ret (by rw [show l.length - j=0 by omega]; rfl))
 | succ d ih =>
  intro j hj;refine Ev.step (fun k=>F37.l1.eq_2 ..) ?_;rw [wA o_];refine Ev.pos o_ (Ev.bind (impl_steps_ev l hl h _ o_ o_) ?_);have hs := stepsOf_neg l h l.length ((j+1:Nat):Int) 0 o_ o_;refine Ev.ite (fun e=>?_) (fun e=>?_)
  ·rw [decide_eq_true e] at hs;refine Ev.ret ?_;rw [all_from _ _ _ o_, show g11 l l.length ((j:Int)+1)=false by simpa using hs.symm]; rfl
  ·rw [decide_eq_false e] at hs;refine Ev.eq (ih (j+1) o_) ?_;rw [all_from _ l.length j o_, show g11 l l.length ((j:Int)+1)=true by simpa using hs.symm, Bool.true_and]
theorem impl_TreeOk_l0 (l : List Int) (h1 : 1≤l.length) (hl : l.length≤8) (d:Nat) : ∀ (r j:Nat), j+d=l.length→r≤j→(∀ i, i<j→g34 l i=true)→r+g08 l j=l.count 0 →
  Ev (fun k=>F37.l0 k l (r:Int) l (l.length:Int) (j:Int)) (g01 l):=by
 induction d with
 | zero =>
  intro r j hj hr hin hz;have hall : (List.range l.length).all (g34 l)=true:=by
   rw [List.all_eq_true]; intro i hi; exact hin i (by have := List.mem_range.mp hi; omega)
  refine Ev.step (fun k=>F37.l0.eq_2 ..) ?_;refine Ev.neg o_ (Ev.eq (impl_TreeOk_l1 l hl hall r l.length 0 o_) ?_);(have hz0 : g08 l j=0 := by unfold g08; rw [List.drop_eq_nil_of_le o_]; rfl);(have hrc : r=l.count 0 := by omega);unfold g01;rw [decide_eq_true (show 1≤l.length∧l.length≤8 from ⟨h1, hl⟩), Bool.true_and, Nat.sub_zero, ← List.range_eq_range', hrc];congr 1
  ·rw [Bool.eq_iff_iff, List.all_eq_true, List.all_eq_true];rw [List.all_eq_true] at hall
   constructor
   ·intro hw i hi;have := hall i hi;unfold g34 at this;unfold okAt; rw [this, hw i hi]; rfl
   ·intro hw i hi;have := hw i hi;unfold okAt at this;exact (Bool.and_eq_true_iff.mp this).2
  ·rw [Bool.eq_iff_iff]; simp; omega
 | succ d ih =>
  intro r j hj hr hin hz;refine Ev.step (fun k=>F37.l0.eq_2 ..) ?_;have hbad : ¬ (0≤rd l (j:Int)∧rd l (j:Int)≤(l.length:Int))→g01 l=false:=by
   intro hb;unfold g01;have : (List.range l.length).all (okAt l)=false:=by
    rw [List.all_eq_false];exact ⟨j, by simp; omega, by unfold okAt; rw [decide_eq_false hb]; simp⟩
   rw [this]; simp
  refine Ev.pos o_ (Ev.pos o_ (Ev.pos o_ (Ev.ite (fun e=>?_) (fun e=>?_))))
  ·refine Ev.step (fun k=>F37.j2.eq_2 ..) (Ev.pos rfl (Ev.ret ?_));exact (hbad o_).symm
  ·refine Ev.step (fun k=>F37.j2.eq_2 ..) (Ev.ite (fun e2=>?_) (fun e2=>?_))
   ·have e2' := of_decide_eq_true e2;exact Ev.ret (hbad o_).symm
   ·(have e2' : ¬ rd l (j:Int) > (l.length:Int) := by simpa using e2);have hin' : ∀ i, i<j+1→g34 l i=true:=by
     intro i hi;by_cases e' : i=j
     ·subst e'; unfold g34; exact decide_eq_true o_
     ·exact hin i o_
    have hzs := g17 l j o_;rw [wA (n := j) o_];refine Ev.ite (fun e3=>?_) (fun e3=>?_)
    ·rw [wA o_];rw [if_pos e3] at hzs;exact ih (r+1) (j+1) o_ o_ hin' o_
    ·rw [if_neg e3] at hzs;exact ih r (j+1) o_ o_ hin' o_
theorem g07 (l : List Int) : Ev (fun k=>F37.f k l) (g01 l):=by
 unfold F37.f;have hbad : ¬ (1≤l.length∧l.length≤8)→g01 l=false:=by
  intro hb; unfold g01; rw [decide_eq_false hb]; rfl
 refine Ev.ite (fun e=>?_) (fun e=>?_)
 ·refine Ev.step (fun k=>F37.j0.eq_2 ..) (Ev.pos rfl (Ev.ret ?_));exact (hbad o_).symm
 ·refine Ev.step (fun k=>F37.j0.eq_2 ..) (Ev.ite (fun e2=>?_) (fun e2=>?_))
  ·have e2' := of_decide_eq_true e2;exact Ev.ret (hbad o_).symm
  ·(have e2' : ¬ (l.length:Int) > 8 := by simpa using e2);exact impl_TreeOk_l0 l o_ o_ l.length 0 0 o_ o_ (fun i h => by omega) (by simp [g08])
theorem deskIdx_l0 (r : List (List Int)) (hr : r.length≤1048576) (d:Nat) : ∀ (j:Nat), j+d=r.length→∃ x, Ev (fun k=>F232.l0 k r (r.length:Int) (j:Int)) x∧decide (x ≥ 0)=!((r.drop j).all g01):=by
 induction d with
 | zero =>
  intro j hj;refine ⟨-1, Ev.step (fun k=>F232.l0.eq_2 ..) (Ev.neg o_ (Ev.ret rfl)), ?_⟩;rw [List.drop_of_length_le o_];rfl
 | succ d ih =>
  intro j hj;have ht : Ev (fun k=>F51.f k (rd_L4 r (j:Int))) (!g01 (rd_L4 r (j:Int))):=by
   unfold F51.f;exact Ev.bind (g07 _) (Ev.ret rfl)
  by_cases h : g01 (rd_L4 r (j:Int))=true
  ·obtain ⟨x, h1, h2⟩:=ih (j+1) o_;refine ⟨x, Ev.step (fun k=>F232.l0.eq_2 ..) (Ev.pos o_ (Ev.pos o_ (Ev.pos o_ (Ev.bind ht (Ev.neg (by simp [h]) ?_))))), ?_⟩
   ·rw [wA o_]; exact h1
   ·rw [h2, drop_all _ _ [] j o_, ← g50, h, Bool.true_and]
  ·refine ⟨(j:Int), Ev.step (fun k=>F232.l0.eq_2 ..) (Ev.pos o_ (Ev.pos o_ (Ev.pos o_ (Ev.bind ht (Ev.pos (by simp [h]) (Ev.ret rfl)))))), ?_⟩;rw [drop_all _ _ [] j o_, ← g50, Bool.eq_false_iff.mpr h, Bool.false_and];simp
theorem g29 (l : List Int) (r : List (List Int)) (hr : r.length≤1048576) : Ev (fun k=>F29.f k l r) (g15 l r):=by
 unfold F29.f g15;refine Ev.bind (g07 l) (Ev.ite (fun h=>Ev.ite (fun h2=>?_) (fun h2=>Ev.ret ?_)) (fun h=>Ev.ret ?_))
 ·obtain ⟨x, h3, h4⟩:=deskIdx_l0 r hr r.length 0 o_;unfold F231.f F232.f;refine Ev.bind (Ev.bind h3 (Ev.ret rfl)) (Ev.ret ?_);rw [h4, List.drop_zero, Bool.not_not, h, decide_eq_true (by omega : r.length≤8)];rfl
 ·rw [decide_eq_false (by omega : ¬ r.length≤8)]; simp
 ·rw [Bool.eq_false_iff.mpr h]; simp
theorem impl_put_l1 (l o y : List Int) (h : g01 l=true) (ho : g05 o l.length=true) (hy : g20 o o.length y) (hyl : y.length=l.length+1) (d:Nat) : ∀ (j:Nat) (x : List Int), j+d=o.length→x.length=l.length→(∀ i : Nat, i<j→x[i]?=(putOf l o)[i]?) →
  Ev (fun k=>F98.l1 k l y x o (o.length:Int) (j:Int)) (putOf l o):=by
 have hl := tOl h;obtain ⟨_, h2, h3⟩:=g09.mp ho;(have hlen : (putOf l o).length=o.length := by simp [putOf])
 induction d with
 | zero =>
  intro j x hj hx hp;refine Ev.step (fun k=>F98.l1.eq_2 ..) (Ev.neg o_ (Ev.ret ?_));apply List.ext_getElem?;intro i;by_cases hi : i<j
  ·exact hp i hi
  ·rw [List.getElem?_eq_none o_, List.getElem?_eq_none o_]
 | succ d ih =>
  intro j x hj hx hp;have hg := h3 j o_;have hr := treeOk_rd h (j := (rd o j - 1).toNat) o_;rw [show (((rd o j - 1).toNat:Nat):Int)=rd o j - 1 by omega] at hr;refine Ev.step (fun k=>F98.l1.eq_2 ..) ?_;rw [g00 (n := rd o j - 1) o_ o_, wA o_, Int.toNat_natCast];refine Ev.pos o_ (Ev.pos o_ (Ev.pos o_ (Ev.pos o_ (Ev.pos o_ (Ev.pos o_ (Ev.pos o_ (Ev.pos o_ ?_)))))));refine ih (j+1) _ o_ (by simpa using hx) ?_;intro i hi;by_cases e : i=j
  ·subst e;(have e3 : rd o i=o[i]'o_ := by simp [g47, show i<o.length by omega]);rw [List.getElem?_set_self o_, hy.whole hr.1 o_, List.getElem?_eq_getElem o_];congr 1;simp [putOf, e3]
  ·rw [List.getElem?_set_ne o_];exact hp i o_
theorem impl_put_l0 (l o : List Int) (h : g01 l=true) (ho : g05 o l.length=true) (d:Nat) : ∀ (j:Nat) (y : List Int), j+d=o.length→g20 o j y→y.length=l.length+1 →
  Ev (fun k=>F98.l0 k l o y o (o.length:Int) (j:Int)) (putOf l o):=by
 have hl := tOl h;obtain ⟨_, h2, h3⟩:=g09.mp ho
 induction d with
 | zero =>
  intro j y hj hy hyl;refine Ev.step (fun k=>F98.l0.eq_2 ..) (Ev.neg o_ (Ev.pos o_ (Ev.pos o_ ?_)));rw [show j=o.length by omega] at hy;exact impl_put_l1 l o y h ho hy hyl o.length 0 _ o_ (by simp) (fun i hi => by omega)
 | succ d ih =>
  intro j y hj hy hyl;have hg := h3 j o_;refine Ev.step (fun k=>F98.l0.eq_2 ..) ?_;rw [g00 (n := (j:Int)+1) o_ o_];refine Ev.pos o_ (Ev.pos o_ (Ev.pos o_ (Ev.pos o_ (Ev.pos o_ ?_))));exact ih (j+1) _ o_ (hy.set ho o_) (by simpa using hyl)
theorem impl_put_ev (l o : List Int) (h : g01 l=true) (ho : g05 o l.length=true) : Ev (fun k=>F98.f k l o) (putOf l o):=by
 have hl := tOl h;unfold F98.f;rw [g00 (n := (l.length:Int)+1) o_ o_];exact Ev.pos o_ (Ev.pos o_ (impl_put_l0 l o h ho o.length 0 _ o_ (g20.zero o _) (by simp)))
theorem take_snoc (l : List Int) {j : Nat} (h : j<l.length) : l.take (j+1)=l.take j ++ [rd l (j:Int)]:=by
 rw [List.take_succ_eq_append_getElem h, g28 l h]
theorem impl_BackOf_l0 (l : List Int) (h : g01 l=true) (d:Nat) : ∀ (j:Nat), j+d=l.length →
  Ev (fun k=>F111.l0 k l ((downO l.length).take j) ((l.length:Int) - j)) (putOf l (downO l.length)):=by
 have hn := tOl h
 induction d with
 | zero =>
  intro j hj;refine Ev.step (fun k=>F111.l0.eq_2 ..) ?_;rw [List.take_of_length_le (by rw [g24]; omega)];exact Ev.neg o_ (Ev.bind (impl_put_ev l _ h (downO_ok hn.1 hn.2)) (Ev.ret rfl))
 | succ d ih =>
  intro j hj;refine Ev.step (fun k=>F111.l0.eq_2 ..) ?_;have e : (downO l.length).take j ++ [(l.length:Int) - j]=(downO l.length).take (j+1):=by
   rw [take_snoc _ (by rw [g24]; omega), downO_rd o_]
  (have e2 : wrap64 ((l.length:Int) - j - 1)=(l.length:Int) - ((j+1:Nat):Int) := by rw [g00 o_ o_]; omega);refine Ev.pos o_ (Ev.pos (by rw [List.length_take]; omega) ?_);rw [e, e2];exact ih (j+1) o_
theorem impl_BackOf_ev (l : List Int) : Ev (fun k=>F111.f k l) (g21 l):=by
 unfold F111.f;refine Ev.bind (g07 l) (Ev.ite (fun h=>?_) (fun h=>?_))
 ·refine Ev.eq ?_ (show putOf l (downO l.length)=g21 l by unfold g21; rw [if_pos h]);have := impl_BackOf_l0 l h l.length 0 o_;simpa using this
 ·exact Ev.ret (by unfold g21; rw [if_neg h])
def g39 (x : List Int) (i:Nat) : Prop := ∀ a b : Nat, a<b→b<i→rd x a≤rd x b
def g22 (x l : List Int) : Prop := x.length=l.length∧∀ v : Int, x.count v=l.count v
def SortedBut (x : List Int) (i j:Nat) : Prop := ∀ a b : Nat, a<b→b≤i→b≠j→rd x a≤rd x b
theorem rd_set (x : List Int) (i:Nat) (v:Int) (j:Nat) (h : i<x.length) : rd (x.set i v) j=if j=i then v else rd x j:=by
 rw [g47, g47, List.getD_eq_getElem?_getD, List.getD_eq_getElem?_getD];by_cases e : j=i
 ·subst e; simp [h]
 ·rw [List.getElem?_set_ne o_, if_neg e]
theorem swap_same {x l : List Int} (h : g22 x l) {j : Nat} (hj : j+1<x.length) : g22 ((x.set (j+1) (rd x j)).set j (rd x ((j+1:Nat):Int))) l:=by
 refine ⟨by simp [h.1], fun v=>?_⟩;(have hj2 : j<(x.set (j+1) (rd x j)).length := by simp; omega);rw [List.count_set hj2, List.count_set hj, List.getElem_set_ne o_, ← g28 x (i := j) o_, ← g28 x (i := j+1) hj, ← h.2 v];have h1 : 0<x.count (rd x j) := List.count_pos_iff.mpr (by rw [g28 x o_]; exact List.getElem_mem _);have h2 : 0<x.count (rd x ((j+1:Nat):Int)) := List.count_pos_iff.mpr (by rw [g28 x hj]; exact List.getElem_mem _);by_cases e1 : rd x j=v
 ·by_cases e2 : rd x ((j+1:Nat):Int)=v
  ·simp only [e1, e2, beq_self_eq_true, if_true]; rw [e1] at h1; omega
  ·(have : (rd x ((j+1:Nat):Int) == v)=false := by simpa using e2);simp only [e1, this, beq_self_eq_true, if_true, Bool.false_eq_true, if_false]; omega
 ·(have e1' : (rd x j == v)=false := by simpa using e1);by_cases e2 : rd x ((j+1:Nat):Int)=v
  ·simp only [e2, e1', beq_self_eq_true, if_true, Bool.false_eq_true, if_false]; rw [e2] at h2; omega
  ·(have : (rd x ((j+1:Nat):Int) == v)=false := by simpa using e2);simp only [this, e1', Bool.false_eq_true, if_false]; omega
theorem swap_sorted {x : List Int} {i j : Nat} (h : SortedBut x i (j+1)) (hj : j+1≤i) (hi : i<x.length) (hlt : rd x ((j+1:Nat):Int)<rd x j) : SortedBut ((x.set (j+1) (rd x j)).set j (rd x ((j+1:Nat):Int))) i j:=by
 intro a b hab hb hne;(have hj2 : j<(x.set (j+1) (rd x j)).length := by simp; omega);rw [rd_set _ _ _ _ hj2, rd_set _ _ _ _ hj2, rd_set _ _ _ _ o_, rd_set _ _ _ _ o_, if_neg hne];by_cases e1 : b=j+1
 ·subst e1;rw [if_pos rfl];by_cases e2 : a=j
  ·rw [if_pos e2]; omega
  ·rw [if_neg e2, if_neg o_];exact h a j o_ o_ o_
 ·rw [if_neg e1];by_cases e2 : a=j
  ·rw [if_pos e2];exact h (j+1) b o_ hb e1
  ·rw [if_neg e2];by_cases e3 : a=j+1
   ·rw [if_pos e3];exact h j b o_ hb e1
   ·rw [if_neg e3];exact h a b hab hb e1
theorem sorted_of_but {x : List Int} {i j : Nat} (h : SortedBut x i j) (hj : j=0 ∨ ∃ p : Nat, j=p+1∧rd x p≤rd x j) : g39 x (i+1):=by
 intro a b hab hb;by_cases e : b=j
 ·rcases hj with h0 | ⟨p,hp, hle⟩
  ·omega
  ·by_cases e2 : a=p
   ·subst e2; rw [e]; exact hle
   ·have := h a p o_ o_ o_;rw [e]; omega
 ·exact h a b hab o_ e
theorem order_of_sorted {s l : List Int} (hs : g39 s s.length) (hc : g22 s l) (h1 : 1≤l.length) (h8 : l.length≤8) : decide (∀ i : Nat, i<s.length→rd s i=(i:Int)+1)=g05 l l.length:=by
 rw [Bool.eq_iff_iff, decide_eq_true_iff, orderOk_nodup]
 constructor
 ·intro h;have hnd : s.Nodup:=by
   rw [nodup_iff_rd];intro i j hij hj;rw [h i o_, h j hj]; omega
  have hnl : l.Nodup:=by
   rw [List.nodup_iff_count];intro a;rw [← hc.2 a];exact List.nodup_iff_count.mp hnd a
  refine ⟨by omega, rfl, hnl, fun x hx => ?_⟩;(have hx2 : x ∈ s := by rw [← List.count_pos_iff, hc.2 x, List.count_pos_iff]; exact hx);obtain ⟨i, hi, e⟩:=List.getElem_of_mem hx2;have := h i hi;rw [g28 s hi, e] at this;have := hc.1;omega
 ·rintro ⟨_, _, hnl, hr⟩;have hnd : s.Nodup:=by
   rw [List.nodup_iff_count];intro a;rw [hc.2 a];exact List.nodup_iff_count.mp hnl a
  have hrs : ∀ i : Nat, i<s.length→1≤rd s i∧rd s i≤l.length:=by
   intro i hi;refine hr _ ?_;rw [← List.count_pos_iff, ← hc.2, List.count_pos_iff, g28 s hi];exact List.getElem_mem _
  have hst : ∀ i : Nat, i+1<s.length→rd s i<rd s ((i+1:Nat):Int):=by
   intro i hi;have a1 := hs i (i+1) o_ hi;have a2 := (nodup_iff_rd s).mp hnd i (i+1) o_ hi;omega
  have hlow : ∀ i : Nat, i<s.length→(i:Int)+1≤rd s i:=by
   intro i
   induction i with
   | zero => intro hi; have := hrs 0 hi; omega
   | succ i ih =>
    intro hi;have := ih o_;have := hst i hi;omega
  have hhigh : ∀ d i : Nat, i+d+1=s.length→rd s i+d≤l.length:=by
   intro d
   induction d with
   | zero => intro i hi; have := hrs i o_; omega
   | succ d ih =>
    intro i hi;have h1 := ih (i+1) o_;have h2 := hst i o_;omega
  intro i hi;have a1 := hlow i hi;have a2 := hhigh (s.length - i - 1) i o_;have a3 := hc.1;omega
theorem less_int (a b:Int) : F188.f a b=some (decide (a<b)):=by
 unfold F188.f F197.f;simp
theorem insertion_l1 (n:Nat) (hn : n≤8) (i:Nat) (hi : i<n) (l r : List Int) (next : ∀ x : List Int, x.length=n→g22 x l→g39 x (i+1)→∃ s, Ev (fun k=>F182.l0 k x 0 (n:Int) ((i+1:Nat):Int)) s∧g22 s l∧g39 s n) :
  ∀ (j:Nat) (x : List Int), j≤i→x.length=n→g22 x l→SortedBut x i j→∃ s, Ev (fun k=>F182.l1 k x 0 (n:Int) (i:Int) (j:Int)) s∧g22 s l∧g39 s n
 | 0, x, hj, hx, hc, hs => by
  obtain ⟨s, h1, h2, h3⟩:=next x hx hc (sorted_of_but hs (.inl rfl))
  refine ⟨s, Ev.step (fun k=>F182.l1.eq_2 ..) (Ev.neg o_ ?_), h2, h3⟩
  rw [wA o_]
  exact h1
 | j+1, x, hj, hx, hc, hs => by
  have e1 : wrap64 (((j+1:Nat):Int) - 1)=(j:Int) := by rw [g00 o_ o_]; omega
  have hless : F188.f (rd x ((j+1:Nat):Int)) (rd x j)=some (decide (rd x ((j+1:Nat):Int)<rd x j)) := less_int _ _
  by_cases h : rd x ((j+1:Nat):Int)<rd x j
  ·obtain ⟨s, h1, h2, h3⟩:=insertion_l1 n hn i hi l r next j _ o_ (by simpa using hx) (swap_same hc o_) (swap_sorted hs hj o_ h)
   refine ⟨s, Ev.step (fun k=>F182.l1.eq_2 ..) ?_, h2, h3⟩
   rw [e1]
   refine Ev.pos o_ (Ev.pos o_ (Ev.pos o_ (Ev.pos o_ (Ev.pos o_ (Ev.bind0 hless (Ev.pos (decide_eq_true h) ?_))))))
   rw [Int.toNat_natCast, Int.toNat_natCast]
   exact h1
  ·obtain ⟨s, h1, h2, h3⟩:=next x hx hc (sorted_of_but hs (.inr ⟨j, rfl,by omega⟩))
   refine ⟨s, Ev.step (fun k=>F182.l1.eq_2 ..) ?_, h2, h3⟩
   rw [e1, wA o_]
   exact Ev.pos o_ (Ev.pos o_ (Ev.pos o_ (Ev.pos o_ (Ev.pos o_ (Ev.bind0 hless (Ev.neg (by simpa using h) h1))))))
theorem insertion_l0 (n:Nat) (hn : n≤8) (l : List Int) (d:Nat) : ∀ (i:Nat) (x : List Int), i+d=n→x.length=n→g22 x l→g39 x i→∃ s, Ev (fun k=>F182.l0 k x 0 (n:Int) (i:Int)) s∧g22 s l∧g39 s n:=by
 induction d with
 | zero =>
  intro i x hi hx hc hs;refine ⟨x, Ev.step (fun k=>F182.l0.eq_2 ..) (Ev.neg o_ (Ev.ret rfl)), hc, ?_⟩;rw [show n=i by omega]; exact hs
 | succ d ih =>
  intro i x hi hx hc hs;obtain ⟨s, h1, h2, h3⟩:=insertion_l1 n hn i o_ l [] (fun x' hx' hc' hs' => ih (i+1) x' o_ hx' hc' hs') i x (Nat.le_refl _) hx hc (fun a b hab hb hne => hs a b hab o_);exact ⟨s, Ev.step (fun k=>F182.l0.eq_2 ..) (Ev.pos o_ h1), h2, h3⟩
theorem sort_ev (l : List Int) (h1 : 1≤l.length) (h8 : l.length≤8) : ∃ s, Ev (fun k=>F175.f k l) s∧g22 s l∧g39 s l.length:=by
 obtain ⟨s, hs, h2, h3⟩:=insertion_l0 l.length h8 l (l.length - 1) 1 l o_ rfl ⟨rfl, fun _=>rfl⟩ (fun a b hab hb => by omega);refine ⟨s, ?_, h2, h3⟩;unfold F175.f;have hw : IntKind.u64.wrap (l.length:Int)=(l.length:Int):=by
  simp [IntKind.wrap, IntKind.bits, IntKind.signed]; omega
 rw [hw];refine Ev.bind0 (a := (Lib.bitLen (l.length:Int).toNat:Int)) (by unfold F181.f; rw [if_pos o_]) ?_;unfold F180.f F182.f;rw [show wrap64 (0+1)=((1:Nat):Int) by decide +kernel];exact Ev.bind (Ev.pos o_ hs) (Ev.ret rfl)
theorem impl_OrderOk_ev (o : List Int) (many:Int) : Ev (fun k=>F135.f k o many) (g05 o many):=by
 unfold F135.f;by_cases h : 1≤many∧many≤8∧(o.length:Int)=many
 ·obtain ⟨h1, h2, rfl⟩:=h;obtain ⟨s, hs, hc, hst⟩:=sort_ev o o_ o_;refine Ev.pos ⟨h1, h2, rfl⟩ (Ev.bind hs (Ev.pos (by have := hc.1; omega) (Ev.ret ?_)));exact order_of_sorted (by rw [hc.1]; exact hst) hc o_ o_
 ·refine Ev.neg h (Ev.ret ?_);symm;unfold g05;rw [decide_eq_false_iff_not];exact fun h2=>h ⟨h2.1.1, h2.1.2, h2.2.1⟩
theorem impl_PutInOrder_ev (l o : List Int) : Ev (fun k=>F142.f k l o) (g23 l o):=by
 unfold F142.f g23;refine Ev.bind (g07 l) (Ev.ite (fun h=>?_) (fun h=>?_))
 ·refine Ev.bind (impl_OrderOk_ev o _) (Ev.ite (fun ho=>?_) (fun ho=>?_))
  ·rw [if_pos ⟨h, ho⟩];exact Ev.bind (impl_put_ev l o h ho) (Ev.ret rfl)
  ·rw [if_neg (fun h2=>ho h2.2)]; exact Ev.ret rfl
 ·rw [if_neg (fun h2=>h h2.1)]; exact Ev.ret rfl
theorem slices_Index_l0 (l : List Int) (v:Int) (hl : l.length≤1048576) (d:Nat) : ∀ (j:Nat), j+d=l.length →
  Ev (fun k=>F92.l0 k l v (l.length:Int) (j:Int)) (g10 l v l.length j):=by
 induction d with
 | zero =>
  intro j hj;refine Ev.step (fun k=>F92.l0.eq_2 ..) ?_;exact Ev.neg o_ (Ev.ret (by unfold g10; rw [show l.length - j=0 by omega]; rfl))
 | succ d ih =>
  intro j hj;refine Ev.step (fun k=>F92.l0.eq_2 ..) ?_;have hr : List.range' j (l.length - j)=j :: List.range' (j+1) (l.length - (j+1)):=by
   rw [show l.length - j=(l.length - (j+1))+1 by omega, List.range'_succ]
  refine Ev.pos o_ (Ev.pos o_ (Ev.pos o_ (Ev.ite (fun e=>?_) (fun e=>?_))))
  ·exact Ev.ret (by unfold g10; rw [hr, List.find?_cons_of_pos (by simpa using e.symm)])
  ·rw [wA o_];refine Ev.eq (ih (j+1) o_) ?_;unfold g10;rw [hr, List.find?_cons_of_neg (by simpa using fun h=>e h.symm)]
theorem slices_Index_ev (l : List Int) (v:Int) (hl : l.length≤1048576) : Ev (fun k=>F92.f k l v) (g10 l v l.length 0):=by
 unfold F92.f;exact slices_Index_l0 l v hl l.length 0 o_
theorem impl_RootOf_ev (l : List Int) : Ev (fun k=>F57.f k l) (g58 l):=by
 unfold F57.f;refine Ev.bind (g07 l) (Ev.ite (fun h=>?_) (fun h=>?_))
 ·have hl := tOl h;obtain ⟨i, h1, h2, h3⟩:=g53 h;(have e : g58 l=g10 l 0 l.length 0+1 := by unfold g58; rw [if_pos h]);refine Ev.bind (slices_Index_ev l 0 o_) (Ev.ret ?_);rw [g00 o_ o_, e]
 ·exact Ev.ret (by unfold g58; rw [if_neg h])
theorem impl_flat_l0 (l : List Int) (w:Int) (hl : l.length≤8) (m:Nat) (hm : m<8) (ih : ∀ i : Nat, i<l.length→rd l i=w→Ev (fun k=>F91.f k l ((i:Int)+1)) (flatF l m ((i:Int)+1))) (d:Nat) :
  ∀ (j:Nat) (x y : List Int), j+d=l.length→x.length+y.length+(d+1) * 20 ^ m≤1000000000000→Ev (fun k=>F91.l0 k l w x y l (l.length:Int) (j:Int)) ((x ++ (kidsL l w l.length j).flatMap (fun i : Nat => flatF l m ((i:Int)+1))) ++ (y ++ (kidsR l w l.length j).flatMap (fun i : Nat => flatF l m ((i:Int)+1)))):=by
 induction d with
 | zero =>
  intro j x y hj hx;refine Ev.step (fun k=>F91.l0.eq_2 ..) (Ev.neg o_ (Ev.pos o_ (Ev.ret ?_)));rw [kidsL_end l w o_, kidsR_end l w o_]; simp
 | succ d ihd =>
  intro j x y hj hx;(have c1 : (j:Int)<(l.length:Int) := by clear hx; omega);have c2 : 0≤(j:Int) := Int.natCast_nonneg _;have hf := g35 l hl m ((j:Int)+1);(have hp : (d+1+1) * 20 ^ m=(d+1) * 20 ^ m+20 ^ m := by rw [Nat.add_mul (d+1) 1, Nat.one_mul]);(have e1 : wrap64 ((j:Int)+1)=(j:Int)+1 := by clear hx hp; exact g00 o_ o_)
  have next : ∀ x' y' : List Int, x'.length+y'.length+(d+1) * 20 ^ m≤1000000000000→Ev (fun k=>F91.l0 k l w x' y' l (l.length:Int) ((j:Int)+1)) ((x' ++ (kidsL l w l.length (j+1)).flatMap (fun i : Nat => flatF l m ((i:Int)+1))) ++ (y' ++ (kidsR l w l.length (j+1)).flatMap (fun i : Nat => flatF l m ((i:Int)+1)))) := fun x' y' h => by
   have := ihd (j+1) x' y' o_ h;rw [show ((j+1:Nat):Int)=(j:Int)+1 by omega] at this;exact this
  refine Ev.step (fun k=>F91.l0.eq_2 ..) ?_;rw [e1];refine Ev.pos c1 (Ev.pos c2 (Ev.pos c1 (Ev.ite (fun e=>?_) (fun e=>?_))))
  ·refine Ev.step (fun k=>F91.j1.eq_2 ..) ?_;rw [e1];refine Ev.ite (fun e2=>?_) (fun e2=>?_)
   ·have e2' := of_decide_eq_true e2;refine Ev.bind (ih j o_ e) (Ev.pos o_ ?_);rw [kidsL_yes l w o_ ⟨e, e2'⟩, kidsR_no l w o_ (fun h=>h.2 e2'), List.flatMap_cons, ← List.append_assoc x];exact next _ _ (by rw [List.length_append]; omega)
   ·(have e2' : ¬ (j:Int)+1<w := by simpa using e2);refine Ev.pos e (Ev.bind (ih j o_ e) (Ev.pos o_ ?_));rw [kidsL_no l w o_ (fun h=>e2' h.2), kidsR_yes l w o_ ⟨e, e2'⟩, List.flatMap_cons, ← List.append_assoc y];exact next _ _ (by rw [List.length_append]; omega)
  ·refine Ev.step (fun k=>F91.j1.eq_2 ..) ?_;rw [e1];refine Ev.neg (by simp) (Ev.neg e ?_);rw [kidsL_no l w o_ (fun h=>e h.1), kidsR_no l w o_ (fun h=>e h.1)];exact next _ _ o_
theorem g49 (l : List Int) (h : g01 l=true) : ∀ (m d:Nat) (w:Int), 1≤w∧w≤l.length→Deep l d w→l.length≤d+m→m≤8→Ev (fun k=>F91.f k l w) (flatF l m w)
 | 0, d, w, hw, hd, hm, hm8 => by
  have := deep_lt h hw.1 hw.2 hd
  omega
 | m+1, d, w, hw, hd, hm, hm8 => by
  have hl := tOl h
  have hp := pow20_le (m := m) o_
  refine Ev.step (fun k=>F91.f.eq_2 ..) ?_
  refine impl_flat_l0 l w hl.2 m o_ (fun i hi e => g49 l h m (d+1) _ ⟨by omega,by omega⟩ (g52 hw hd e) o_ o_) l.length 0 [] [w] o_ ?_
  have : (l.length+1) * 20 ^ m≤9 * 20 ^ m := Nat.mul_le_mul_right _ o_
  simp only [List.length_nil, List.length_singleton]
  omega
theorem impl_FlatOrder_ev (l : List Int) : Ev (fun k=>F56.f k l) (g16 l):=by
 unfold F56.f g16;refine Ev.bind (g07 l) (Ev.ite (fun h=>?_) (fun h=>?_))
 ·have hl := tOl h;obtain ⟨i, h1, h2, h3⟩:=g53 h;rw [if_pos h];refine Ev.bind (impl_RootOf_ev l) (Ev.bind (g49 l h l.length 0 _ ⟨by omega,by omega⟩ ?_ o_ o_) (Ev.bind0 rfl (Ev.ret rfl)));rw [h3];show rd l ((i:Int)+1 - 1)=0;rw [show (i:Int)+1 - 1=(i:Int) by omega];exact h2
 ·rw [if_neg h]; exact Ev.ret rfl
theorem impl_MadeFlat_ev (l : List Int) : Ev (fun k=>F112.f k l) (madeFlat l):=by
 unfold F112.f;exact Ev.bind (impl_FlatOrder_ev l) (Ev.bind (impl_PutInOrder_ev l _) (Ev.ret rfl))
theorem impl_copied_l0 (r : List (List Int)) (hr : r.length≤1048576) (hx : ∀ x ∈ r, x.length≤1048576) (m : List Int) (d:Nat) : ∀ (j:Nat), j+d=r.length →
  Ev (fun k=>F30.l0 k r (r.length:Int) (j:Int) m (r.take j)) (m, r):=by
 induction d with
 | zero =>
  intro j hj;refine Ev.step (fun k=>F30.l0.eq_2 ..) (Ev.neg o_ (Ev.ret ?_));rw [List.take_of_length_le o_]
 | succ d ih =>
  intro j hj;(have hjl : j<r.length := by omega);(have e : rd_L4 r (j:Int)=r[j] := by rw [g50, List.getD_eq_getElem?_getD, List.getElem?_eq_getElem hjl]; rfl);(have hlen : (rd_L4 r (j:Int)).length≤1048576 := by rw [e]; exact hx _ (List.getElem_mem ..));refine Ev.step (fun k=>F30.l0.eq_2 ..) (Ev.pos o_ (Ev.pos o_ (Ev.pos o_ (Ev.bind0 (g27 _ hlen) (Ev.pos (by rw [List.length_take]; omega) ?_)))));rw [wA o_, e, ← List.take_succ_eq_append_getElem hjl];exact ih (j+1) o_
theorem impl_copied_ev (l : List Int) (r : List (List Int)) (hl : l.length≤1048576) (hr : r.length≤1048576) (hx : ∀ x ∈ r, x.length≤1048576) : Ev (fun k=>F30.f k l r) (l, r):=by
 unfold F30.f;refine Ev.bind0 (g27 l hl) ?_;have := impl_copied_l0 r hr hx l r.length 0 o_;rw [List.take_zero] at this;exact this
@[reducible] def deedNamed (a b c:Int) : Prop := a=0 ∨ (a=1∧c=0) ∨ ((a=2 ∨ a=3 ∨ a=4 ∨ a=5)∧b=0∧c=0)
theorem impl_named_some (a b c:Int) : F33.f a b c=some (decide (deedNamed a b c)):=by
 unfold F33.f;by_cases h0 : a=0
 ·rw [if_pos h0]; congr 1; symm; rw [decide_eq_true_iff]; exact .inl h0
 rw [if_neg h0];by_cases h1 : a=1
 ·rw [if_pos h1]; congr 1;by_cases hc : c=0
  ·rw [decide_eq_true (show deedNamed a b c from .inr (.inl ⟨h1, hc⟩))]; simpa using hc
  ·rw [decide_eq_false (show ¬ deedNamed a b c by omega)]; simpa using hc
 rw [if_neg h1];have go : (a=2 ∨ a=3 ∨ a=4 ∨ a=5)→(if b=0 then (some (c == 0)) else (some false))=some (decide (deedNamed a b c)):=by
  intro h;by_cases hb : b=0
  ·rw [if_pos hb]; congr 1;by_cases hc : c=0
   ·rw [decide_eq_true (show deedNamed a b c from .inr (.inr ⟨h, hb, hc⟩))]; simpa using hc
   ·rw [decide_eq_false (show ¬ deedNamed a b c by omega)]; simpa using hc
  ·rw [if_neg hb, decide_eq_false (show ¬ deedNamed a b c by omega)]
 by_cases h2 : a=2
 ·rw [if_pos h2]; exact go (.inl h2)
 rw [if_neg h2];by_cases h3 : a=3
 ·rw [if_pos h3]; exact go (.inr (.inl h3))
 rw [if_neg h3];by_cases h4 : a=4
 ·rw [if_pos h4]; exact go (.inr (.inr (.inl h4)))
 rw [if_neg h4];by_cases h5 : a=5
 ·rw [if_pos h5]; exact go (.inr (.inr (.inr h5)))
 rw [if_neg h5, decide_eq_false (show ¬ deedNamed a b c by omega)]
theorem dm0 {l : List Int} {a b c : Int} (h : a=0∧1≤b∧b≤l.length) : dM l a b c=l.set (b - 1).toNat c:=by
 unfold dM; rw [if_pos h]
theorem dm1 {l : List Int} {a b c : Int} (h : a=1∧c=0) : dM l a b c=l ++ [b]:=by
 unfold dM; rw [if_neg o_, if_pos h]
theorem dm2 {l : List Int} {a b c : Int} (h : a=2∧b=0∧c=0) : dM l a b c=l.take (l.length - 1):=by
 unfold dM; rw [if_neg o_, if_neg o_, if_pos h]
theorem dm3 {l : List Int} {a b c : Int} (h : a=3∧b=0∧c=0) : dM l a b c=g21 l:=by
 unfold dM; rw [if_neg o_, if_neg o_, if_neg o_, if_pos h]
theorem dm4 {l : List Int} {a b c : Int} (h : a=4∧b=0∧c=0) : dM l a b c=madeFlat l:=by
 unfold dM; rw [if_neg o_, if_neg o_, if_neg o_, if_neg o_, if_pos h]
theorem dm5 {l : List Int} {a b c : Int} (h0 : ¬ (a=0∧1≤b∧b≤l.length)) (h1 : ¬ (a=1∧c=0)) (h2 : ¬ (a=2∧b=0∧c=0)) (h3 : ¬ (a=3∧b=0∧c=0)) (h4 : ¬ (a=4∧b=0∧c=0)) : dM l a b c=[]:=by
 unfold dM; rw [if_neg h0, if_neg h1, if_neg h2, if_neg h3, if_neg h4]
theorem deskMade_unnamed {l : List Int} {a b c : Int} (h : ¬ deedNamed a b c) : dM l a b c=[] := dm5 o_ o_ o_ o_ o_
theorem impl_after_ev (l : List Int) (hl1 : 1≤l.length) (hl : l.length≤8) (a b c:Int) (h : deedNamed a b c) (h5 : a≠5) : Ev (fun k=>F72.f k l a b c) (dM l a b c):=by
 unfold F72.f;refine Ev.ite (fun h0=>Ev.bind0 (g27 l o_) (Ev.ite (fun h1=>Ev.ret ?_) (fun h1=>Ev.ite (fun h2=>Ev.ret ?_) (fun h2=>?_)))) (fun h0=>?_)
 ·exact (dm5 o_ o_ o_ o_ o_).symm
 ·exact (dm5 o_ o_ o_ o_ o_).symm
 ·have e : wrap64 (b - 1)=b - 1 := g00 o_ o_;rw [e];exact Ev.pos o_ (Ev.pos o_ (Ev.ret (dm0 o_).symm))
 ·refine Ev.ite (fun h1=>Ev.bind0 (g27 l o_) ?_) (fun h1=>?_)
  ·simp only [Option.bind_some];exact Ev.pos (by simp only [List.length_singleton]; omega) (Ev.bind0 rfl (Ev.ret (dm1 o_).symm))
  ·refine Ev.ite (fun h2=>?_) (fun h2=>?_)
   ·(have e : wrap64 ((l.length:Int) - 1)=((l.length - 1:Nat):Int) := by rw [g00 o_ o_]; omega);rw [e];exact Ev.pos o_ (Ev.pos o_ (Ev.bind0 (g27 _ (by rw [List.length_take]; omega)) (Ev.ret (by rw [Int.toNat_natCast]; exact (dm2 o_).symm))))
   ·refine Ev.ite (fun h3=>?_) (fun h3=>?_)
    ·exact Ev.bind (impl_BackOf_ev l) (Ev.ret (dm3 o_).symm)
    ·exact Ev.bind (impl_MadeFlat_ev l) (Ev.ret (dm4 o_).symm)
theorem slicesEqual_l0 (l m : List Int) (hl : l.length≤1048576) (hm : l.length=m.length) (d:Nat) : ∀ (j:Nat), j+d=l.length→(∀ i, i<j→l[i]?=m[i]?)→Ev (fun k=>F73.l0 k l m (l.length:Int) (j:Int)) (decide (l=m)):=by
 induction d with
 | zero =>
  intro j hj h;refine Ev.step (fun k=>F73.l0.eq_2 ..) (Ev.neg o_ (Ev.ret ?_));symm;rw [decide_eq_true_iff];apply List.ext_getElem?;intro i;by_cases hi : i<j
  ·exact h i hi
  ·rw [List.getElem?_eq_none o_, List.getElem?_eq_none o_]
 | succ d ih =>
  intro j hj h;refine Ev.step (fun k=>F73.l0.eq_2 ..) (Ev.pos o_ (Ev.pos o_ (Ev.pos o_ (Ev.pos o_ (Ev.ite (fun e=>?_) (fun e=>Ev.ret ?_))))))
  ·rw [wA o_];refine ih (j+1) o_ (fun i hi => ?_);by_cases e2 : i=j
   ·subst e2;rw [g47, g47, List.getD_eq_getElem?_getD, List.getD_eq_getElem?_getD, List.getElem?_eq_getElem o_, List.getElem?_eq_getElem o_] at e;rw [List.getElem?_eq_getElem o_, List.getElem?_eq_getElem o_];simpa using e
   ·exact h i o_
  ·symm;rw [decide_eq_false_iff_not];intro z;exact e (by rw [z])
theorem slicesEqual_ev (l m : List Int) (hl : l.length≤1048576) : Ev (fun k=>F73.f k l m) (decide (l=m)):=by
 unfold F73.f;refine Ev.ite (fun h=>slicesEqual_l0 l m hl o_ l.length 0 o_ (fun i h => by omega)) (fun h=>Ev.ret ?_);symm;rw [decide_eq_false_iff_not];intro z;exact h (by rw [z])
theorem impl_DeskDo_j0 (m l : List Int) (r : List (List Int)) (hr : r.length≤8) (s : Bool) : Ev (fun k=>F32.j0 k m s l r) (if s=true then (l, r, false) else (m, if r.length+1 > 8 then (r ++ [l]).drop 1 else r ++ [l], true)):=by
 refine Ev.step (fun k=>F32.j0.eq_2 ..) (Ev.ite (fun h=>Ev.ret (by rw [if_pos h])) (fun h=>?_));rw [if_neg h];refine Ev.pos o_ ?_;simp only [Option.bind_some];(have hlen : (r ++ [l]).length=r.length+1 := by simp);by_cases c : r.length+1 > 8
 ·rw [if_pos c];exact Ev.pos (by rw [hlen]; omega) (Ev.ret (by rw [hlen, show r.length+1 - 8=1 by omega]))
 ·rw [if_neg c];exact Ev.neg (by rw [hlen]; omega) (Ev.ret rfl)
theorem impl_DeskDo_ev (l : List Int) (r : List (List Int)) (a b c:Int) (hl : l.length≤1048576) (hr : r.length≤1048576) (hx : ∀ x ∈ r, x.length≤1048576) : Ev (fun k=>F32.f k l r a b c) (g06 l r a b c):=by
 unfold F32.f;refine Ev.bind (g29 l r hr) (Ev.ite (fun h=>?_) (fun h=>Ev.ret (by unfold g06; rw [if_neg h])));obtain ⟨p1, p2, p3⟩:=g25 h;have hn := tOl p1;(have eb : (a=5∧b=0∧c=0)∧0<r.length→g06 l r a b c=(r.getD (r.length - 1) [], r.take (r.length - 1), true) := fun z=>by unfold g06; rw [if_pos h, if_pos z]);(have en : ¬ ((a=5∧b=0∧c=0)∧0<r.length)→g06 l r a b c=g33 l (dM l a b c) r := fun z=>by unfold g06; rw [if_pos h, if_neg z]);(have e0 : g33 l [] r=(l, r, false) := by unfold g33; rw [if_pos (.inr (by decide))]);refine Ev.bind (impl_copied_ev l r hl hr hx) (Ev.bind0 (impl_named_some a b c) (Ev.ite (fun hd=>?_) (fun hd=>Ev.ret ?_)))
 ·have hd := of_decide_eq_true hd;refine Ev.ite (fun h5=>Ev.ite (fun h6=>Ev.ret ?_) (fun h6=>?_)) (fun h5=>?_)
  ·have h6 : (r.length:Int)=0 := h6;rw [en o_, dm5 o_ o_ o_ o_ o_, e0]
  ·have h6 : ¬ (r.length:Int)=0 := h6;(have e : wrap64 ((r.length:Int) - 1)=((r.length - 1:Nat):Int) := by rw [g00 o_ o_]; omega);rw [eb o_];show Ev (fun k=>if 0≤wrap64 ((r.length:Int) - 1) then (if wrap64 ((r.length:Int) - 1)<(r.length:Int) then (some (rd_L4 r (wrap64 ((r.length:Int) - 1)), r.take (wrap64 ((r.length:Int) - 1)).toNat, true)) else none) else none) _;rw [e];refine Ev.pos o_ (Ev.pos o_ (Ev.ret ?_));rw [g50, Int.toNat_natCast]
  ·rw [en o_];refine Ev.bind (impl_after_ev l hn.1 hn.2 a b c hd h5) (Ev.bind (g07 _) (Ev.ite (fun ht=>Ev.bind (slicesEqual_ev _ l (by have := tOl ht; omega)) ?_) (fun ht=>?_)))
   ·refine Ev.eq (impl_DeskDo_j0 _ l r p2 _) ?_;unfold g33;by_cases q : dM l a b c=l
    ·rw [if_pos (decide_eq_true q), if_pos (.inl q)]
    ·(have q2 : ¬ (dM l a b c=l ∨ g01 (dM l a b c)=false) := by rintro (z | z); exact q z; rw [ht] at z; cases z);rw [if_neg q2, if_neg (by simpa using q)]
   ·refine Ev.eq (impl_DeskDo_j0 _ l r p2 true) ?_;unfold g33;rw [if_pos rfl, if_pos (.inr (by simpa using ht))]
 ·(have hd : ¬ deedNamed a b c := by simpa using hd);rw [en o_, deskMade_unnamed hd, e0]
theorem implDeskRun_loop (L : List S39) (hL : L.length≤1000) : ∀ d j : Nat, j+d=L.length→∀ (l : List Int) (r : List (List Int)) (n:Nat), g15 l r=true→n≤j→Ev (fun k=>F12.l0 k (n:Int) L (L.length:Int) (j:Int) l r) (runD (L.drop j) l r n):=by
 intro d
 induction d with
 | zero =>
  intro j hj l r n _ _;refine Ev.step (fun k=>by rw [F12.l0]) (Ev.neg o_ (Ev.ret ?_));rw [List.drop_of_length_le o_];rfl
 | succ d ih =>
  intro j hj l r n ho hn;obtain ⟨p1, p2, p3⟩:=g25 ho;have q1 := tOl p1;have hd := impl_DeskDo_ev l r (r9 L (j:Int)).f0 (r9 L (j:Int)).f1 (r9 L (j:Int)).f2 o_ o_ (fun x hx => by have := tOl (p3 x hx); omega);refine Ev.step (fun k=>by rw [F12.l0]) (Ev.pos o_ (Ev.pos o_ (Ev.pos o_ (Ev.bind hd ?_))));rw [drop_cons25 (show j<L.length by omega), runD, ← rd25];have hk := deskDo_keeps (r9 L (j:Int)).f0 (r9 L (j:Int)).f1 (r9 L (j:Int)).f2 ho;have w1 : wrap64 ((j:Int)+1)=((j+1:Nat):Int) := wA o_;have w2 : wrap64 ((n:Int)+1)=((n+1:Nat):Int) := wA o_;by_cases h : (g06 l r (r9 L (j:Int)).f0 (r9 L (j:Int)).f1 (r9 L (j:Int)).f2).2.2=true
  ·refine Ev.pos h ?_;rw [if_pos h, w1, w2];exact ih (j+1) o_ _ _ (n+1) hk o_
  ·refine Ev.neg h ?_;rw [if_neg h, w1];exact ih (j+1) o_ _ _ n hk o_
theorem implDeskRun_ev (l : List Int) (r : List (List Int)) (L : List S39) (hl : l.length≤1048576) (hr : r.length≤1048576) (hx : ∀ x ∈ r, x.length≤1048576) (hL : L.length≤1048577) : Ev (fun k=>F12.f k l r L) (g30 l r L):=by
 unfold F12.f;have h0 : Ev (fun k=>F12.j0 k L true l r) ([], [], 0) := Ev.step (fun k=>by rw [F12.j0]) (Ev.pos rfl (Ev.ret rfl));refine Ev.bind (g29 l r hr) (Ev.ite (fun h=>?_) (fun h=>Ev.eq h0 (by unfold g30; rw [if_neg (fun z=>h z.1)])));by_cases c : L.length≤40
 ·rw [decide_eq_false (show ¬ (L.length:Int) > 40 by omega)];refine Ev.step (fun k=>by rw [F12.j0]) (Ev.neg (by simp) (Ev.bind (impl_copied_ev l r hl hr hx) ?_));unfold g30;rw [if_pos ⟨h, c⟩];exact implDeskRun_loop L o_ L.length 0 o_ l r 0 h o_
 ·rw [decide_eq_true (show (L.length:Int) > 40 by omega)];exact Ev.eq h0 (by unfold g30; rw [if_neg (fun z=>c z.2)])
def cutL : List UInt8→List (List UInt8)
 | [] => [[]]
 | c :: r => if c=32 then [] :: cutL r else match cutL r with | [] => [[c]] | h :: t => (c :: h) :: t
theorem cutL_ne : ∀ l : List UInt8, cutL l≠[]
 | [] => by simp [cutL]
 | c :: r => by
  rw [cutL]
  split
  ·simp
  ·split <;> simp
theorem cutL_word : ∀ {w : List UInt8}, 32 ∉ w→cutL w=[w]
 | [], _ => rfl
 | c :: r, h => by
  rw [cutL, if_neg (fun e=>h (by simp [e])), cutL_word (w := r) (fun e=>h (List.mem_cons_of_mem _ e))]
theorem cutL_app : ∀ {w r : List UInt8}, 32 ∉ w→cutL (w ++ 32 :: r)=w :: cutL r
 | [], r, _ => by simp [cutL]
 | c :: w, r, h => by
  rw [List.cons_append, cutL, if_neg (fun e=>h (by simp [e])), cutL_app (w := w) (fun e=>h (List.mem_cons_of_mem _ e))]
theorem cutL_len : ∀ (l : List UInt8) (w : List UInt8), w ∈ cutL l→w.length≤l.length
 | [], w, h => by simp [cutL] at h; simp [h]
 | c :: r, w, h => by
  rw [cutL] at h
  split at h
  ·rcases List.mem_cons.1 h with h | h
   ·simp [h]
   ·have := cutL_len r w h; simp; omega
  ·split at h
   ·simp at h; simp [h]
   ·rename_i a t e
    rcases List.mem_cons.1 h with h | h
    ·have := cutL_len r a (by rw [e]; simp); simp [h]; omega
    ·have := cutL_len r w (by rw [e]; simp [h]); simp; omega
theorem splitK_cutL : ∀ l : List UInt8, Lib.splitK [32] 0 (l.count 32) l=cutL l
 | [] => rfl
 | b :: l => by
  have ih := splitK_cutL l
  by_cases h : b=32
  ·subst h
   have hix : Lib.index ((32 : UInt8) :: l) [32]=0 := by rw [Lib.index]; simp [List.isPrefixOf]
   rw [List.count_cons_self, Lib.splitK, hix, if_neg (by decide), cutL, if_pos rfl]
   simp [ih]
  ·have hp : ([32] : List UInt8).isPrefixOf (b :: l)=false := by simp [List.isPrefixOf, Ne.symm h]
   have hix : Lib.index (b :: l) [32]=if Lib.index l [32] == -1 then -1 else Lib.index l [32]+1 := by rw [Lib.index,hp]; simp
   rw [List.count_cons_of_ne (by simpa using h), cutL, if_neg h, ← ih]
   cases hc : l.count 32 with
   | zero => rfl
   | succ m =>
    have hge := Lib.index_ge l [32]
    by_cases hm : Lib.index l [32]=-1
    ·rw [Lib.splitK, Lib.splitK, hix, hm]; simp
    ·obtain ⟨j, hj⟩ : ∃ j : Nat, Lib.index l [32]=j := ⟨(Lib.index l [32]).toNat,by omega⟩
     rw [Lib.splitK, Lib.splitK, hix, hj, if_neg (show ¬ ((j:Int) == -1)=true by simp), if_neg (show ¬ ((j:Int) == -1)=true by simp)]
     rw [if_neg (show ¬ ((j:Int)+1 == -1)=true by simp; omega)]
     have e1 : ((j:Int)+1).toNat=j+1 := by omega
     simp [e1]
theorem split_cutL (s : ByteArray) : (Lib.splitB (⟨#[32]⟩ : ByteArray) 0 (Lib.countB s (⟨#[32]⟩ : ByteArray)) s).map (·.data.toList)=cutL s.data.toList:=by
 rw [Lib.splitB_data];have : Lib.countB s (⟨#[32]⟩ : ByteArray)=s.data.toList.count 32:=by
  show Lib.count s.data.toList [32]=_;exact Lib.count_one 32 _
 rw [this];exact splitK_cutL _
theorem g13 (s : ByteArray) (a b:Nat) : (s.extract a b).data.toList=(s.data.toList.drop a).take (b - a) := by rw [Lib.extract_eq]
def namedP (a b c:Int) : Prop := a=0 ∨ (a=1∧c=0) ∨ ((a=2 ∨ a=3 ∨ a=4 ∨ a=5)∧b=0∧c=0)
instance (a b c:Int) : Decidable (namedP a b c) := by unfold namedP; infer_instance
theorem named_eq (a b c:Int) : F33.f a b c=some (decide (namedP a b c)):=by
 unfold F33.f namedP;by_cases h0 : a=0
 ·rw [if_pos h0]; simp [h0]
 rw [if_neg h0];by_cases h1 : a=1
 ·subst h1; simp; by_cases hc : c=0 <;> simp [hc]
 rw [if_neg h1];have go : ∀ (x:Int), (x=2 ∨ x=3 ∨ x=4 ∨ x=5)→(if b=0 then some (c == 0) else some false)=some (decide (x=0 ∨ (x=1∧c=0) ∨ ((x=2 ∨ x=3 ∨ x=4 ∨ x=5)∧b=0∧c=0))):=by
  intro x hx;(have n0 : x≠0 := by omega);(have n1 : x≠1 := by omega);by_cases hb : b=0
  ·by_cases hc : c=0 <;> simp [hb, hc, n0, n1, hx]
  ·simp [hb, n0, n1]
 by_cases h2 : a=2
 ·rw [if_pos h2]; exact go a o_
 rw [if_neg h2];by_cases h3 : a=3
 ·rw [if_pos h3]; exact go a o_
 rw [if_neg h3];by_cases h4 : a=4
 ·rw [if_pos h4]; exact go a o_
 rw [if_neg h4];by_cases h5 : a=5
 ·rw [if_pos h5]; exact go a o_
 rw [if_neg h5];simp [h0, h1, h2, h3, h4, h5]
theorem itoa_eq {n : Int} (h0 : 0≤n) (h1 : n≤99) : F34.f n=some (num n.toNat):=by
 unfold F34.f;rw [if_pos o_, digits_num o_]
theorem g37 (a b c:Int) : Ev (fun k=>F11.f k a b c) (g02 a b c):=by
 have j0 : ∀ x : Bool, (x=false→namedP a b c∧(0≤b∧b≤99)∧(0≤c∧c≤99))→(x=true→¬ (namedP a b c∧(0≤b∧b≤99)∧(0≤c∧c≤99)))→Ev (fun k=>F11.j0 k x a b c) (g02 a b c):=by
  intro x hx hy;refine Ev.step (fun k=>by rw [F11.j0]) ?_;cases x with
  | true =>
   have h := hy rfl;unfold namedP at h;refine Ev.pos rfl (Ev.ret ?_);unfold g02;rw [if_neg o_, if_neg o_, if_neg o_, if_neg o_, if_neg o_, if_neg o_]
  | false =>
   obtain ⟨hn, hb, hc⟩:=hx rfl;refine Ev.neg (by simp) ?_;have s1 := g38 b.toNat;have s2 := g38 c.toNat;have s3 : (⟨#[104, 101, 97, 100, 32]⟩ : ByteArray).size=5 := rfl;have s4 : (⟨#[32]⟩ : ByteArray).size=1 := rfl;by_cases h0 : a=0
   ·refine Ev.pos h0 (Ev.bind0 (itoa_eq hb.1 hb.2) (Ev.pos o_ (Ev.pos (by rw [ByteArray.size_append]; omega) (Ev.bind0 (itoa_eq hc.1 hc.2) (Ev.pos (by rw [ByteArray.size_append, ByteArray.size_append]; omega) (Ev.ret ?_))))));unfold g02; rw [if_pos ⟨h0, hb, hc⟩]
   ·refine Ev.neg h0 ?_;unfold namedP at hn;by_cases h1 : a=1
    ·refine Ev.pos h1 (Ev.bind0 (itoa_eq hb.1 hb.2) (Ev.pos o_ (Ev.ret ?_)));unfold g02;rw [if_neg o_, if_pos o_]
    ·refine Ev.neg h1 ⟨0, fun _ _ => ?_⟩;(have hz : b=0∧c=0 := by omega);obtain ⟨rfl, rfl⟩:=hz;(have h4 : a=2 ∨ a=3 ∨ a=4 ∨ a=5 := by omega);(rcases h4 with rfl | rfl | rfl | rfl <;> rfl)
 unfold F11.f;refine Ev.bind0 (named_eq a b c) ?_;by_cases hn : namedP a b c
 ·refine Ev.pos (by simpa using hn) ?_;by_cases h1 : b<0
  ·exact Ev.pos h1 (j0 _ (by simp) (fun _ h => by omega))
  refine Ev.neg h1 ?_;by_cases h2 : b > 99
  ·exact Ev.pos h2 (j0 _ (by simp) (fun _ h => by omega))
  refine Ev.neg h2 ?_;by_cases h3 : c<0
  ·exact Ev.pos h3 (j0 _ (by simp) (fun _ h => by omega))
  refine Ev.neg h3 (j0 _ (fun e=>?_) (fun e h => ?_))
  ·have := of_decide_eq_false e; exact ⟨hn,by omega,by omega⟩
  ·have := of_decide_eq_true e; omega
 ·exact Ev.neg (by simpa using hn) (j0 _ (by simp) (fun _ h => hn h.1))
theorem num_all : (List.range 100).all (fun b=>decide (32 ∉ (num b).data.toList) && decide (atoiVal (num b)=(b:Int)))=true := by decide +kernel
theorem g48 {b : Int} (h0 : 0≤b) (h1 : b≤99) : 32 ∉ (num b.toNat).data.toList∧atoiVal (num b.toNat)=b:=by
 obtain ⟨u, rfl⟩ : ∃ u : Nat, b=(u:Int) := ⟨b.toNat,by omega⟩;simp only [Int.toNat_natCast];have h := List.all_eq_true.1 num_all u (List.mem_range.2 o_);simp only [Bool.and_eq_true, decide_eq_true_eq] at h;exact ⟨h.1, h.2⟩
def findI (w : ByteArray) : Nat→Nat→Int
 | 0, _ => -1
 | d+1, i => if w.toList=(rdOf ByteArray.empty wordsL (i:Int)).toList then (i:Int) else findI w d (i+1)
theorem index_ev (w : ByteArray) : Ev (fun k=>F42.f k wordsL w) (findI w 6 0):=by
 have loop : ∀ d i : Nat, i+d=6→Ev (fun k=>F42.l0 k wordsL w (wordsL.length:Int) (i:Int)) (findI w d i):=by
  intro d
  induction d with
  | zero =>
   intro i hi;refine Ev.step (fun k=>by rw [F42.l0]) ?_;exact Ev.neg (by show ¬ ((i:Int)<6); omega) (Ev.ret rfl)
  | succ d ih =>
   intro i hi;refine Ev.step (fun k=>by rw [F42.l0]) ?_;refine Ev.pos (by show (i:Int)<6; omega) (Ev.pos o_ (Ev.pos (by show (i:Int)<6; omega) ?_));unfold findI;by_cases h : w.toList=(rdOf ByteArray.empty wordsL (i:Int)).toList
   ·rw [if_pos h]; exact Ev.pos h (Ev.ret rfl)
   ·rw [if_neg h];refine Ev.neg h ?_;rw [wA o_];exact ih (i+1) o_
 unfold F42.f;exact loop 6 0 rfl
theorem rdS (l : List ByteArray) (i:Nat) : rdOf ByteArray.empty l (i:Int)=l.getD i ByteArray.empty := by simp [rdOf]
def g18 (s : ByteArray) : List ByteArray := Lib.splitB (⟨#[32]⟩ : ByteArray) 0 (Lib.countB s (⟨#[32]⟩ : ByteArray)) s
theorem pieces_data (s : ByteArray) : (g18 s).map (·.data.toList)=cutL s.data.toList := split_cutL s
theorem pieces_pos (s : ByteArray) : 0<(g18 s).length:=by
 have h := congrArg List.length (pieces_data s);rw [List.length_map] at h;have := cutL_ne s.data.toList;cases e : cutL s.data.toList with
 | nil => exact absurd e this
 | cons a t => rw [e] at h; simp at h; omega
theorem piece_size (s : ByteArray) (i:Nat) : ((g18 s).getD i ByteArray.empty).size≤s.size:=by
 by_cases h : i<(g18 s).length
 ·rw [List.getD_eq_getElem?_getD, List.getElem?_eq_getElem h, Option.getD_some, Lib.size_eq, Lib.size_eq];refine cutL_len _ _ ?_;rw [← pieces_data];exact List.mem_map.2 ⟨_, List.getElem_mem h, rfl⟩
 ·rw [List.getD_eq_getElem?_getD, List.getElem?_eq_none o_];exact Nat.zero_le _
def candA (s : ByteArray) : Int := findI ((g18 s).getD 0 ByteArray.empty) 6 0
def candB (s : ByteArray) : Int := if 1<(g18 s).length then atoiVal ((g18 s).getD 1 ByteArray.empty) else 0
def candC (s : ByteArray) : Int := if 2<(g18 s).length then atoiVal ((g18 s).getD 2 ByteArray.empty) else 0
def readI (s : ByteArray) : Int × Int × Int × Bool :=
 if s.toList=([] : List UInt8) then (0, 0, 0, false) else if (g02 (candA s) (candB s) (candC s)).toList=s.toList then (candA s, candB s, candC s, true) else (0, 0, 0, false)
theorem g36 (s : ByteArray) (hs : s.size≤1048577) : Ev (fun k=>F22.f k s) (readI s):=by
 have at1 : ∀ i : Nat, F43.f (rdOf ByteArray.empty (g18 s) (i:Int))=some (atoiVal ((g18 s).getD i ByteArray.empty), 0):=by
  intro i;unfold F43.f;have := piece_size s i;rw [rdS, if_pos o_]
 have tail : ∀ c : Int, Ev (fun k=>if s.toList=([] : List UInt8) then (some ((0:Int), (0:Int), (0:Int), false)) else ((F11.f k (candA s) (candB s) c).bind fun t121=>(if t121.toList=s.toList then (some (candA s, candB s, c, true)) else (some (0, 0, 0, false)))))
   (if s.toList=([] : List UInt8) then (0, 0, 0, false) else if (g02 (candA s) (candB s) c).toList=s.toList then (candA s, candB s, c, true) else (0, 0, 0, false)):=by
  intro c;by_cases h : s.toList=([] : List UInt8)
  ·rw [if_pos h]; exact Ev.pos h (Ev.ret rfl)
  ·rw [if_neg h];refine Ev.neg h (Ev.bind (g37 _ _ _) ?_);by_cases h2 : (g02 (candA s) (candB s) c).toList=s.toList
   ·simp only [if_pos h2]; exact Ev.ret rfl
   ·simp only [if_neg h2]; exact Ev.ret rfl
 have j0 : Ev (fun k=>F22.j0 k s (g18 s) (candA s) (candB s) 0) (readI s):=by
  refine Ev.step (fun k=>by rw [F22.j0]) ?_;unfold readI;by_cases h2 : 2<(g18 s).length
  ·(have hc : candC s=atoiVal ((g18 s).getD 2 ByteArray.empty) := by unfold candC; rw [if_pos h2]);rw [hc];exact Ev.pos o_ (Ev.pos o_ (Ev.bind0 (at1 2) (tail _)))
  ·(have hc : candC s=0 := by unfold candC; rw [if_neg h2]);rw [hc];exact Ev.neg o_ (tail 0)
 unfold F22.f;refine Ev.bind0 (a := g18 s) (by unfold F41.f; rw [if_pos ⟨by omega, by decide⟩]; rfl) ?_;have hp := pieces_pos s;refine Ev.pos o_ (Ev.bind (a := candA s) ?_ ?_)
 ·have := index_ev ((g18 s).getD 0 ByteArray.empty);rw [show rdOf ByteArray.empty (g18 s) 0=(g18 s).getD 0 ByteArray.empty from rdS _ 0];exact this
 ·by_cases h1 : 1<(g18 s).length
  ·(have hb : candB s=atoiVal ((g18 s).getD 1 ByteArray.empty) := by unfold candB; rw [if_pos h1]);refine Ev.pos o_ (Ev.pos o_ (Ev.bind0 (at1 1) ?_));rw [hb] at j0;exact j0
  ·(have hb : candB s=0 := by unfold candB; rw [if_neg h1]);refine Ev.neg o_ ?_;rw [hb] at j0;exact j0
theorem data_inj {s t : ByteArray} (h : s.data.toList=t.data.toList) : s=t:=by
 obtain ⟨⟨l⟩⟩:=s;obtain ⟨⟨m⟩⟩:=t;simp at h;rw [h]
theorem toList_inj {s t : ByteArray} (h : s.toList=t.toList) : s=t := data_inj (by rw [← Lib.toList_data, ← Lib.toList_data]; exact h)
theorem toList_nil {s : ByteArray} (h : s=⟨#[]⟩) : s.toList=([] : List UInt8) := by rw [h, Lib.toList_data]
theorem cut_head {b c : Int} (hb : 0≤b∧b≤99) (hc : 0≤c∧c≤99) :
  cutL ((((⟨#[104, 101, 97, 100, 32]⟩ : ByteArray) ++ num b.toNat) ++ (⟨#[32]⟩ : ByteArray)) ++ num c.toNat).data.toList=[[104, 101, 97, 100], (num b.toNat).data.toList, (num c.toNat).data.toList]:=by
 have e : ((((⟨#[104, 101, 97, 100, 32]⟩ : ByteArray) ++ num b.toNat) ++ (⟨#[32]⟩ : ByteArray)) ++ num c.toNat).data.toList=[104, 101, 97, 100] ++ 32 :: ((num b.toNat).data.toList ++ 32 :: (num c.toNat).data.toList):=by
  simp [ByteArray.data_append]
 rw [e, cutL_app (by decide), cutL_app (g48 hb.1 hb.2).1, cutL_word (g48 hc.1 hc.2).1]
theorem cut_add {b : Int} (hb : 0≤b∧b≤99) : cutL ((⟨#[97, 100, 100, 32]⟩ : ByteArray) ++ num b.toNat).data.toList=[[97, 100, 100], (num b.toNat).data.toList]:=by
 have e : ((⟨#[97, 100, 100, 32]⟩ : ByteArray) ++ num b.toNat).data.toList=[97, 100, 100] ++ 32 :: (num b.toNat).data.toList:=by
  simp [ByteArray.data_append]
 rw [e, cutL_app (by decide), cutL_word (g48 hb.1 hb.2).1]
theorem list_of_data {L M : List ByteArray} (h : L.map (·.data.toList)=M.map (·.data.toList)) : L=M:=by
 induction L generalizing M with
 | nil => cases M with
  | nil => rfl
  | cons => simp at h
 | cons a l ih => cases M with
  | nil => simp at h
  | cons b m =>
   simp only [List.map_cons, List.cons.injEq] at h;rw [data_inj h.1, ih h.2]
def hasText (a b c:Int) : Prop := (a=0∧(0≤b∧b≤99)∧(0≤c∧c≤99)) ∨ (a=1∧(0≤b∧b≤99)∧c=0) ∨ ((a=2 ∨ a=3 ∨ a=4 ∨ a=5)∧b=0∧c=0)
theorem hasText_of {a b c : Int} (h : (g02 a b c).toList≠([] : List UInt8)) : hasText a b c:=by
 unfold hasText;by_cases h1 : a=0∧(0≤b∧b≤99)∧(0≤c∧c≤99)
 ·exact Or.inl h1
 by_cases h2 : a=1∧(0≤b∧b≤99)∧c=0
 ·exact Or.inr (Or.inl h2)
 by_cases h3 : (a=2 ∨ a=3 ∨ a=4 ∨ a=5)∧b=0∧c=0
 ·exact Or.inr (Or.inr h3)
 ·exfalso;apply h;apply toList_nil;unfold g02;rw [if_neg h1, if_neg h2, if_neg (fun e=>h3 ⟨Or.inl e.1, e.2⟩), if_neg (fun e=>h3 ⟨Or.inr (Or.inl e.1), e.2⟩), if_neg (fun e=>h3 ⟨Or.inr (Or.inr (Or.inl e.1)), e.2⟩), if_neg (fun e=>h3 ⟨Or.inr (Or.inr (Or.inr e.1)), e.2⟩)]
theorem deedOf0 {b c : Int} (hb : 0≤b∧b≤99) (hc : 0≤c∧c≤99) : g02 0 b c=(((⟨#[104, 101, 97, 100, 32]⟩ : ByteArray) ++ num b.toNat) ++ (⟨#[32]⟩ : ByteArray)) ++ num c.toNat:=by
 unfold g02; rw [if_pos ⟨rfl, hb, hc⟩]
theorem deedOf1 {b : Int} (hb : 0≤b∧b≤99) : g02 1 b 0=(⟨#[97, 100, 100, 32]⟩ : ByteArray) ++ num b.toNat:=by
 unfold g02; rw [if_neg o_, if_pos ⟨rfl, hb, rfl⟩]
theorem pieces_of {s : ByteArray} {M : List ByteArray} (h : cutL s.data.toList=M.map (·.data.toList)) : g18 s=M := list_of_data (by rw [pieces_data, h])
theorem cand_of {a b c : Int} (h : hasText a b c) : candA (g02 a b c)=a∧candB (g02 a b c)=b∧candC (g02 a b c)=c:=by
 rcases h with ⟨rfl, hb, hc⟩ | ⟨rfl, hb, rfl⟩ | ⟨ha, rfl, rfl⟩
 ·have p : g18 (g02 0 b c)=[⟨#[104, 101, 97, 100]⟩, num b.toNat, num c.toNat] := pieces_of (by rw [deedOf0 hb hc, cut_head hb hc]; rfl);unfold candA candB candC;rw [p];exact ⟨by show findI (⟨#[104, 101, 97, 100]⟩ : ByteArray) 6 0=0; decide +kernel, (g48 hb.1 hb.2).2, (g48 hc.1 hc.2).2⟩
 ·have p : g18 (g02 1 b 0)=[⟨#[97, 100, 100]⟩, num b.toNat] := pieces_of (by rw [deedOf1 hb, cut_add hb]; rfl);unfold candA candB candC;rw [p];exact ⟨by show findI (⟨#[97, 100, 100]⟩ : ByteArray) 6 0=1; decide +kernel, (g48 hb.1 hb.2).2, rfl⟩
 ·have go : ∀ w : ByteArray, 32 ∉ w.data.toList→g18 w=[w] := fun w hw => pieces_of (by rw [cutL_word hw]; rfl);rcases ha with rfl | rfl | rfl | rfl
  ·have p := go (g02 2 0 0) (by decide +kernel);unfold candA candB candC;rw [p];exact ⟨by decide +kernel, rfl, rfl⟩
  ·have p := go (g02 3 0 0) (by decide +kernel);unfold candA candB candC;rw [p];exact ⟨by decide +kernel, rfl, rfl⟩
  ·have p := go (g02 4 0 0) (by decide +kernel);unfold candA candB candC;rw [p];exact ⟨by decide +kernel, rfl, rfl⟩
  ·have p := go (g02 5 0 0) (by decide +kernel);unfold candA candB candC;rw [p];exact ⟨by decide +kernel, rfl, rfl⟩
theorem readI_text {a b c : Int} (h : (g02 a b c).toList≠([] : List UInt8)) : readI (g02 a b c)=(a, b, c, true):=by
 have hc := cand_of (hasText_of h);unfold readI;rw [if_neg h, hc.1, hc.2.1, hc.2.2, if_pos rfl]
theorem readI_none {s : ByteArray} (h : ∀ a b c : Int, (g02 a b c).toList≠([] : List UInt8)→g02 a b c≠s) : readI s=(0, 0, 0, false):=by
 unfold readI;by_cases h0 : s.toList=([] : List UInt8)
 ·rw [if_pos h0]
 ·rw [if_neg h0, if_neg];intro e;have e' := toList_inj e;exact h _ _ _ (by rw [e]; exact h0) e'
theorem deedOf_inj {a b c a' b' c' : Int} (h : (g02 a b c).toList≠([] : List UInt8)) (e : g02 a b c=g02 a' b' c') : a=a'∧b=b'∧c=c':=by
 have h1 := readI_text h;have h2 := readI_text (a := a') (b := b') (c := c') (by rw [← e]; exact h);rw [e, h2] at h1;simp only [Prod.mk.injEq, and_true] at h1;exact ⟨h1.1.symm, h1.2.1.symm, h1.2.2.symm⟩
def nl : List UInt8→Option Nat
 | [] => none
 | c :: r => if c=10 then some 0 else (nl r).map (·+1)
theorem nl_index : ∀ l : List UInt8, Lib.index l [10]=match nl l with | none => -1 | some i => (i:Int)
 | [] => rfl
 | c :: r => by
  have ih := nl_index r
  rw [Lib.index_one] at ih ⊢
  rw [Lib.indexByte, nl]
  by_cases h : c=10
  ·subst h; simp
  ·rw [if_neg (by simpa using h), if_neg h]
   cases e : nl r with
   | none => rw [e] at ih; rw [ih]; rfl
   | some i =>
    rw [e] at ih
    rw [ih]
    rw [if_neg (by simp)]
    rfl
theorem nl_lt : ∀ {l : List UInt8} {i : Nat}, nl l=some i→i<l.length
 | [], i, h => by simp [nl] at h
 | c :: r, i, h => by
  rw [nl] at h
  split at h
  ·cases h; simp
  ·cases e : nl r with
   | none => rw [e] at h; cases h
   | some j =>
    rw [e] at h
    have := nl_lt e
    simp at h
    simp; omega
theorem cut_nl (l : List UInt8) : Lib.cut l [10]=match nl l with | none => (l, [], false) | some i => (l.take i, l.drop (i+1), true):=by
 unfold Lib.cut;rw [nl_index];cases e : nl l with
 | none => rfl
 | some i => simp
def JR : Nat→ByteArray→Nat→List S39→List S39 × Int
 | 0, _, i, out => (out, (i:Int))
 | n+1, s, i, out => match nl (s.data.toList.drop i) with
  | none => (out, (i:Int))
  | some j => if (readI (s.extract i (i+j))).2.2.2=true then JR n s (i+j+1) (out ++ [(⟨(readI (s.extract i (i+j))).1, (readI (s.extract i (i+j))).2.1, (readI (s.extract i (i+j))).2.2.1⟩ : S39)]) else (out, (i:Int))
theorem drop_len (s : ByteArray) (i:Nat) : (s.data.toList.drop i).length=s.size - i := by rw [List.length_drop, ← Lib.size_eq]
theorem JR_len (s : ByteArray) : ∀ (n i:Nat) (out : List S39), i≤s.size→out.length≤i→(JR n s i out).1.length≤s.size
 | 0, i, out, h, h2 => by show out.length≤_; omega
 | n+1, i, out, h, h2 => by
  rw [JR]
  cases e : nl (s.data.toList.drop i) with
  | none => show out.length≤_; omega
  | some j =>
   have hj := nl_lt e
   rw [drop_len] at hj
   simp only
   split
   ·exact JR_len s n _ _ o_ (by simp; omega)
   ·show out.length≤_; omega
theorem implJournalRead_loop (s : ByteArray) (hs : s.size≤1048577) : ∀ (n i:Nat) (out : List S39), i≤s.size→s.size - i<n→out.length≤i →
  Ev (fun k=>F5.l0 k s out (i:Int)) (JR n s i out):=by
 intro n
 induction n with
 | zero => intro i out _ h _; omega
 | succ n ih =>
  intro i out hi hn ho;refine Ev.step (fun k=>by rw [F5.l0]) ?_;(have hsz : (s.extract (i:Int).toNat s.size).size=s.size - i := by rw [ByteArray.size_extract]; simp);have hd : (s.extract (i:Int).toNat s.size).data.toList=s.data.toList.drop i:=by
   rw [g13, Int.toNat_natCast];exact List.take_of_length_le (by rw [drop_len]; omega)
  have hcut : F21.f (s.extract (i:Int).toNat s.size) (⟨#[10]⟩ : ByteArray)=some (⟨(Lib.cut (s.data.toList.drop i) [10]).1.toArray⟩, ⟨(Lib.cut (s.data.toList.drop i) [10]).2.1.toArray⟩, (Lib.cut (s.data.toList.drop i) [10]).2.2):=by
   unfold F21.f;rw [if_pos (by rw [hsz]; omega), hd]
  refine Ev.pos o_ (Ev.pos o_ (Ev.bind0 hcut ?_));rw [cut_nl, JR];cases e : nl (s.data.toList.drop i) with
  | none =>
   simp only;refine Ev.bind (g36 _ ?_) (Ev.neg (by simp) (Ev.bind0 (o := F23.f out) rfl (Ev.ret rfl)));rw [Lib.size_eq]; simp only [drop_len]; omega
  | some j =>
   have hj := nl_lt e;rw [drop_len] at hj;have hx : (⟨((s.data.toList.drop i).take j).toArray⟩ : ByteArray)=s.extract i (i+j):=by
    rw [Lib.extract_eq, show i+j - i=j by omega]
   (have hz : (s.extract i (i+j)).size=j := by rw [ByteArray.size_extract]; omega);simp only [hx];refine Ev.bind (g36 _ (by rw [hz]; omega)) (Ev.pos trivial ?_);by_cases hr : (readI (s.extract i (i+j))).2.2.2=true
   ·rw [if_pos hr];refine Ev.pos hr (Ev.pos o_ ?_);rw [hz, show wrap64 ((i:Int)+wrap64 ((j:Int)+1))=((i+j+1:Nat):Int) by unfold wrap64; omega];exact ih (i+j+1) _ o_ o_ (by simp; omega)
   ·rw [if_neg hr];exact Ev.neg hr (Ev.bind0 (o := F23.f out) rfl (Ev.ret rfl))
def readJ (s : ByteArray) : List S39 × Int := JR (s.size+1) s 0 []
theorem g43 (s : ByteArray) (hs : s.size≤1048577) : Ev (fun k=>F5.f k s) (readJ s):=by
 unfold F5.f;exact implJournalRead_loop s hs (s.size+1) 0 [] o_ o_ (by simp)
theorem readJ_len (s : ByteArray) : (readJ s).1.length≤s.size := JR_len s _ 0 [] o_ (by simp)
def g44 (d : S39) : ByteArray := g02 d.f0 d.f1 d.f2
def jOf : List S39→ByteArray→ByteArray
 | [], acc => acc
 | d :: r, acc => if (g44 d).toList=([] : List UInt8) then ⟨#[]⟩ else jOf r ((acc ++ g44 d) ++ (⟨#[10]⟩ : ByteArray))
theorem getD_drop25 {l : List S39} {i : Nat} (h : i<l.length) : l.drop i=l.getD i z39 :: l.drop (i+1):=by
 rw [getD_lt h]; exact List.drop_eq_getElem_cons h
theorem specJournal_loop (l : List S39) (hl : l.length≤1048576) : ∀ d i : Nat, i+d=l.length→∀ acc : ByteArray, acc.size≤11 * i→Ev (fun k=>F17.l0 k l acc (i:Int)) (jOf (l.drop i) acc):=by
 intro d
 induction d with
 | zero =>
  intro i hi acc _;rw [List.drop_eq_nil_of_le o_];refine Ev.step (fun k=>by rw [F17.l0]) ?_;exact Ev.neg o_ (Ev.ret rfl)
 | succ d ih =>
  intro i hi acc ha;rw [getD_drop25 o_];refine Ev.step (fun k=>by rw [F17.l0]) ?_;rw [rd25];refine Ev.pos o_ (Ev.pos o_ (Ev.bind (g19 _ _ _) ?_));have hs : (g44 (l.getD i z39)).size≤10 := g56 _ _ _;have s1 : (⟨#[10]⟩ : ByteArray).size=1 := rfl;by_cases he : (g44 (l.getD i z39)).toList=([] : List UInt8)
  ·refine Ev.pos he (Ev.ret ?_);show _=jOf (_ :: _) _;rw [jOf, if_pos he]
  ·refine Ev.neg he (Ev.bind (g19 _ _ _) (Ev.pos (by have : (g02 (l.getD i z39).f0 (l.getD i z39).f1 (l.getD i z39).f2).size≤10 := hs; omega) (Ev.pos (by rw [ByteArray.size_append]; have : (g02 (l.getD i z39).f0 (l.getD i z39).f1 (l.getD i z39).f2).size≤10 := hs; omega) ?_)));rw [wA o_, jOf, if_neg he];refine ih (i+1) o_ _ ?_;rw [ByteArray.size_append, ByteArray.size_append];have : (g02 (l.getD i z39).f0 (l.getD i z39).f1 (l.getD i z39).f2).size≤10 := hs;omega
theorem implJournal_loop (l : List S39) (hl : l.length≤1048576) : ∀ d i : Nat, i+d=l.length→∀ acc : ByteArray, acc.size≤11 * i→Ev (fun k=>F13.l0 k acc l (l.length:Int) (i:Int)) (jOf (l.drop i) acc):=by
 intro d
 induction d with
 | zero =>
  intro i hi acc _;rw [List.drop_eq_nil_of_le o_];refine Ev.step (fun k=>by rw [F13.l0]) ?_;exact Ev.neg o_ (Ev.ret rfl)
 | succ d ih =>
  intro i hi acc ha;rw [getD_drop25 o_];refine Ev.step (fun k=>by rw [F13.l0]) ?_;rw [rd25];refine Ev.pos o_ (Ev.pos o_ (Ev.pos o_ (Ev.bind (g37 _ _ _) ?_)));have hs : (g02 (l.getD i z39).f0 (l.getD i z39).f1 (l.getD i z39).f2).size≤10 := g56 _ _ _;have s1 : (⟨#[10]⟩ : ByteArray).size=1 := rfl;by_cases he : (g44 (l.getD i z39)).toList=([] : List UInt8)
  ·refine Ev.pos he (Ev.ret ?_);rw [jOf, if_pos he]
  ·refine Ev.neg he (Ev.pos o_ (Ev.pos (by rw [ByteArray.size_append]; omega) ?_));rw [wA o_, jOf, if_neg he, ← ByteArray.append_assoc];refine ih (i+1) o_ _ ?_;rw [ByteArray.size_append, ByteArray.size_append];omega
def g51 : List S39→List UInt8
 | [] => []
 | d :: r => (g44 d).data.toList ++ 10 :: g51 r
def allText (l : List S39) : Prop := ∀ d ∈ l, (g44 d).toList≠([] : List UInt8)
theorem jOf_lines : ∀ (l : List S39) (acc : ByteArray), allText l→(jOf l acc).data.toList=acc.data.toList ++ g51 l
 | [], acc, _ => by simp [jOf, g51]
 | d :: r, acc, h => by
  rw [jOf, if_neg (h d (by simp)), jOf_lines r _ (fun x hx => h x (List.mem_cons_of_mem _ hx)), g51]
  simp [ByteArray.data_append]
theorem jOf_size : ∀ (l : List S39) (acc : ByteArray), (jOf l acc).size≤acc.size+11 * l.length
 | [], acc => by show acc.size≤_; simp
 | d :: r, acc => by
  rw [jOf]
  split
  ·exact Nat.zero_le _
  ·have := jOf_size r ((acc ++ g44 d) ++ (⟨#[10]⟩ : ByteArray))
   rw [ByteArray.size_append, ByteArray.size_append] at this
   have h1 : (g44 d).size≤10 := g56 _ _ _
   have h2 : (⟨#[10]⟩ : ByteArray).size=1 := rfl
   simp only [List.length_cons]
   omega
theorem sameDeeds_loop (l : List S39) (hl : l.length<1099511627776) : ∀ d i : Nat, i+d=l.length→Ev (fun k=>F7.l0 k l l (i:Int)) true:=by
 intro d
 induction d with
 | zero =>
  intro i hi;refine Ev.step (fun k=>by rw [F7.l0]) ?_;exact Ev.neg o_ (Ev.ret rfl)
 | succ d ih =>
  intro i hi;refine Ev.step (fun k=>by rw [F7.l0]) ?_;refine Ev.pos o_ (Ev.pos o_ (Ev.pos o_ (Ev.neg (by simp) ?_)));rw [wA o_];exact ih (i+1) o_
theorem sameDeeds_ev (l : List S39) (hl : l.length<1099511627776) : Ev (fun k=>F7.f k l l) true:=by
 unfold F7.f;exact Ev.pos rfl (sameDeeds_loop l hl l.length 0 o_)
theorem readI_true {s : ByteArray} (h : (readI s).2.2.2=true) : g02 (readI s).1 (readI s).2.1 (readI s).2.2.1=s∧s.toList≠([] : List UInt8):=by
 unfold readI at h ⊢;by_cases h0 : s.toList=([] : List UInt8)
 ·rw [if_pos h0] at h; cases h
 ·rw [if_neg h0] at h ⊢;by_cases h1 : (g02 (candA s) (candB s) (candC s)).toList=s.toList
  ·rw [if_pos h1];exact ⟨toList_inj h1, h0⟩
  ·rw [if_neg h1] at h; cases h
theorem nl_take : ∀ (l : List UInt8) (m j:Nat), nl (l.take m)=some j ↔ nl l=some j∧j<m
 | [], m, j => by simp [nl]
 | c :: r, 0, j => by simp [nl]
 | c :: r, m+1, j => by
  rw [List.take_succ_cons, nl, nl]
  by_cases h : c=10
  ·rw [if_pos h, if_pos h, Option.some.injEq]
   constructor
   ·rintro rfl; exact ⟨rfl,by omega⟩
   ·exact fun e=>e.1
  ·rw [if_neg h, if_neg h, Option.map_eq_some_iff, Option.map_eq_some_iff]
   constructor
   ·rintro ⟨q, h1, rfl⟩
    have := (nl_take r m q).mp h1
    exact ⟨⟨q, this.1, rfl⟩,by omega⟩
   ·rintro ⟨⟨q, h1, rfl⟩, h2⟩
    exact ⟨q, (nl_take r m q).mpr ⟨h1,by omega⟩, rfl⟩
theorem nl_at : ∀ {l : List UInt8} {j : Nat}, nl l=some j→l[j]?=some 10
 | [], j, h => by simp [nl] at h
 | c :: r, j, h => by
  rw [nl] at h
  by_cases hc : c=10
  ·rw [if_pos hc] at h
   obtain rfl := Option.some.inj h
   rw [hc]; rfl
  ·rw [if_neg hc, Option.map_eq_some_iff] at h
   obtain ⟨q, h1, rfl⟩:=h
   rw [List.getElem?_cons_succ]
   exact nl_at h1
theorem cut_data (s : ByteArray) (k i:Nat) : (s.extract 0 k).data.toList.drop i=(s.data.toList.drop i).take (k - i):=by
 rw [g13, List.drop_zero, Nat.sub_zero, List.drop_take]
theorem cut_line (s : ByteArray) {k i j : Nat} (h : i+j≤k) : (s.extract 0 k).extract i (i+j)=s.extract i (i+j):=by
 apply data_inj;rw [g13, cut_data, g13, List.take_take, Nat.min_eq_left o_]
theorem JR_begins (s : ByteArray) : ∀ (n i:Nat) (out : List S39), ∃ L, (JR n s i out).1=out ++ L
 | 0, i, out => ⟨[], by simp [JR]⟩
 | n+1, i, out => by
  rw [JR]
  cases e : nl (s.data.toList.drop i) with
  | none => exact ⟨[], by simp⟩
  | some j =>
   simp only
   split
   ·obtain ⟨L, h⟩:=JR_begins s n (i+j+1) (out ++ [(⟨(readI (s.extract i (i+j))).1, (readI (s.extract i (i+j))).2.1, (readI (s.extract i (i+j))).2.2.1⟩ : S39)])
    exact ⟨_ :: L, by rw [h, List.append_assoc]; rfl⟩
   ·exact ⟨[], by simp⟩
theorem JR_cut (s : ByteArray) (k:Nat) : ∀ (n i:Nat) (out : List S39), i≤k→(∃ L, (JR n s i out).1=(JR n (s.extract 0 k) i out).1 ++ L)∧∃ q : Nat, (JR n (s.extract 0 k) i out).2=(q:Int)∧q≤k
 | 0, i, out, hi => ⟨⟨[], by simp [JR]⟩, i, rfl, hi⟩
 | n+1, i, out, hi => by
  rw [JR, JR]
  cases e : nl ((s.extract 0 k).data.toList.drop i) with
  | none =>
   refine ⟨?_, i, rfl, hi⟩
   have := JR_begins s (n+1) i out
   rwa [JR] at this
  | some j =>
   have e2 := e
   rw [cut_data] at e2
   obtain ⟨e3, hj⟩:=(nl_take _ _ _).mp e2
   rw [e3]
   simp only
   rw [cut_line s (show i+j≤k by omega)]
   split
   ·exact JR_cut s k n (i+j+1) _ o_
   ·exact ⟨⟨[], by simp⟩, i, rfl, hi⟩
theorem JR_fuel (s : ByteArray) : ∀ (n m i:Nat) (out : List S39), i≤s.size→s.size - i<n→s.size - i<m→JR n s i out=JR m s i out
 | 0, m, i, out, _, h, _ => by omega
 | n+1, 0, i, out, _, _, h => by omega
 | n+1, m+1, i, out, hi, h1, h2 => by
  rw [JR, JR]
  cases e : nl (s.data.toList.drop i) with
  | none => rfl
  | some j =>
   have hj := nl_lt e
   rw [drop_len] at hj
   simp only
   split
   ·exact JR_fuel s n m _ _ o_ o_ o_
   ·rfl
theorem readJ_cut (s : ByteArray) {k : Nat} (hk : k≤s.size) : (∃ L, (readJ s).1=(readJ (s.extract 0 k)).1 ++ L)∧∃ q : Nat, (readJ (s.extract 0 k)).2=(q:Int)∧q≤k:=by
 (have hz : (s.extract 0 k).size=k := by rw [ByteArray.size_extract]; omega);have := JR_cut s k (s.size+1) 0 [] (Nat.zero_le _);unfold readJ;rw [hz, JR_fuel (s.extract 0 k) (k+1) (s.size+1) 0 [] (Nat.zero_le _) (by rw [hz]; omega) (by rw [hz]; omega)];exact this
theorem JR_text (s : ByteArray) : ∀ (n i:Nat) (out : List S39), i≤s.size→∃ L, (JR n s i out).1=out ++ L∧allText L∧∃ q : Nat, (JR n s i out).2=(q:Int)∧i≤q∧q≤s.size∧g51 L=(s.data.toList.drop i).take (q - i)
 | 0, i, out, hi => ⟨[], by simp [JR], (fun d hd => absurd hd (by simp)), i, rfl, Nat.le_refl _, hi, by simp [g51]⟩
 | n+1, i, out, hi => by
  have stop : ∃ L, (out, (i:Int)).1=out ++ L∧allText L∧∃ q : Nat, (out, (i:Int)).2=(q:Int)∧i≤q∧q≤s.size∧g51 L=(s.data.toList.drop i).take (q - i) := ⟨[], by simp, (fun d hd => absurd hd (by simp)), i, rfl, Nat.le_refl _, hi, by simp [g51]⟩
  rw [JR]
  cases e : nl (s.data.toList.drop i) with
  | none => exact stop
  | some j =>
   have hj := nl_lt e
   rw [drop_len] at hj
   simp only
   split
   ·rename_i hr
    obtain ⟨L, h1, h2, q, h3, h4, h5, h6⟩:=JR_text s n (i+j+1) (out ++ [(⟨(readI (s.extract i (i+j))).1, (readI (s.extract i (i+j))).2.1, (readI (s.extract i (i+j))).2.2.1⟩ : S39)]) o_
    obtain ⟨g1, g2⟩:=readI_true hr
    refine ⟨(⟨(readI (s.extract i (i+j))).1, (readI (s.extract i (i+j))).2.1, (readI (s.extract i (i+j))).2.2.1⟩ : S39) :: L, by rw [h1, List.append_assoc]; rfl, fun d hd => ?_, q, h3,by omega, h5, ?_⟩
    ·rcases List.mem_cons.mp hd with rfl | hd
     ·show (g02 _ _ _).toList≠_
      rw [g1]; exact g2
     ·exact h2 d hd
    ·have hline : (g44 (⟨(readI (s.extract i (i+j))).1, (readI (s.extract i (i+j))).2.1, (readI (s.extract i (i+j))).2.2.1⟩ : S39)).data.toList=(s.data.toList.drop i).take j:=by
      show (g02 _ _ _).data.toList=_;rw [g1, g13, show i+j - i=j by omega]
     have hnl : (s.data.toList.drop i)[j]?=some 10 := nl_at e;rw [g51, hline, h6, show q - i=j+1+(q - (i+j+1)) by omega, List.take_add, show i+j+1=i+(j+1) by omega, ← List.drop_drop, List.take_add_one, hnl];simp
   ·exact stop
theorem readJ_text (s : ByteArray) : allText (readJ s).1∧∃ q : Nat, (readJ s).2=(q:Int)∧q≤s.size∧jOf (readJ s).1 ⟨#[]⟩=s.extract 0 q:=by
 obtain ⟨L, h1, h2, q, h3, _, h5, h6⟩:=JR_text s (s.size+1) 0 [] (Nat.zero_le _);(have e : (readJ s).1=L := by unfold readJ; rw [h1]; rfl);refine ⟨by rw [e]; exact h2, q, h3, h5, ?_⟩;apply data_inj;rw [e, jOf_lines L _ h2, h6, g13];simp
def cutP (p l : List UInt8) : List (List UInt8) := match cutL l with | [] => [p] | h :: t => (p ++ h) :: t
theorem cutP_nil (l : List UInt8) : cutP [] l=cutL l:=by
 unfold cutP;cases h : cutL l with
 | nil => exact absurd h (cutL_ne l)
 | cons a t => rfl
theorem cutP_end (p : List UInt8) : cutP p []=[p] := by simp [cutP, cutL]
theorem cutP_space (p r : List UInt8) : cutP p (32 :: r)=p :: cutP [] r := by rw [cutP_nil]; simp [cutP, cutL]
theorem cutP_byte (p r : List UInt8) {c : UInt8} (h : c≠32) : cutP p (c :: r)=cutP (p ++ [c]) r:=by
 unfold cutP;rw [cutL, if_neg h];cases e : cutL r with
 | nil => exact absurd e (cutL_ne r)
 | cons a t => simp
theorem bt_get {s : ByteArray} {i : Nat} (h : i<s.size) : ∃ c : UInt8, s.data.toList[i]?=some c∧bt s (i:Int)=(c.toNat:Int):=by
 refine ⟨s[i], ?_, ?_⟩
 ·rw [List.getElem?_eq_getElem (by rw [← Lib.size_eq]; exact h)];rfl
 ·rw [← bt_at s (i:Int) (by simpa using h)];simp
theorem l1Cut_loop (s : ByteArray) (hs : s.size≤1048577) : ∀ d i : Nat, i+d=s.size→∀ (from_:Nat) (out : List ByteArray), from_≤i→out.length≤i →
  ∃ r, Ev (fun k=>F44.l0 k s 32 out (from_:Int) (i:Int)) r∧r.map (·.data.toList)=out.map (·.data.toList) ++ cutP ((s.data.toList.drop from_).take (i - from_)) (s.data.toList.drop i):=by
 intro d
 induction d with
 | zero =>
  intro i hi from_ out hf ho;refine ⟨_, Ev.step (fun k=>by rw [F44.l0]) (Ev.neg o_ (Ev.pos o_ (Ev.pos o_ (Ev.pos o_ (Ev.ret rfl))))), ?_⟩;have e : s.data.toList.drop i=[] := List.drop_eq_nil_of_le (by rw [← Lib.size_eq]; omega);rw [List.map_append, e, cutP_end];simp only [List.map_cons, List.map_nil, g13, Int.toNat_natCast];rw [show i=s.size by omega]
 | succ d ih =>
  intro i hi from_ out hf ho;obtain ⟨c, hc, hb⟩:=bt_get (s := s) (i := i) o_;have hd : s.data.toList.drop i=c :: s.data.toList.drop (i+1):=by
   obtain ⟨hl, he⟩:=List.getElem?_eq_some_iff.1 hc;rw [List.drop_eq_getElem_cons hl, he]
  by_cases h32 : c=32
  ·subst h32;obtain ⟨r, h1, h2⟩:=ih (i+1) o_ (i+1) (out ++ [s.extract from_ i]) (Nat.le_refl _) (by simp; omega);refine ⟨r, Ev.step (fun k=>by rw [F44.l0]) (Ev.pos o_ (Ev.pos o_ (Ev.pos (by rw [hb]; rfl) (Ev.pos o_ (Ev.pos o_ (Ev.pos o_ (Ev.pos o_ ?_))))))), ?_⟩
   ·rw [wA o_]; simpa using h1
   ·rw [h2, hd, cutP_space];simp [g13]
  ·obtain ⟨r, h1, h2⟩:=ih (i+1) o_ from_ out o_ o_;refine ⟨r, Ev.step (fun k=>by rw [F44.l0]) (Ev.pos o_ (Ev.pos o_ (Ev.neg (by rw [hb]; intro e; apply h32; apply UInt8.toNat_inj.1; show c.toNat=32; omega) ?_))), ?_⟩
   ·rw [wA o_]; exact h1
   ·rw [h2, hd, cutP_byte _ _ h32];congr 2;rw [show i+1 - from_=(i - from_)+1 by omega, List.take_add_one, List.getElem?_drop, show from_+(i - from_)=i by omega, hc];rfl
theorem l1Cut_ev (s : ByteArray) (hs : s.size≤1048577) : ∃ r, Ev (fun k=>F44.f k s 32) r∧r.map (·.data.toList)=cutL s.data.toList:=by
 obtain ⟨r, h1, h2⟩:=l1Cut_loop s hs s.size 0 o_ 0 [] (Nat.le_refl _) (Nat.le_refl _);refine ⟨r, by unfold F44.f; exact h1, ?_⟩;simpa [cutP_nil] using h2
theorem num_dig_all : (List.range 100).all (fun b=>decide (F45.f 6 (num b)=some (b:Int)))=true := by decide +kernel
theorem num_dig {b : Int} (h0 : 0≤b) (h1 : b≤99) : Ev (fun k=>F45.f k (num b.toNat)) b:=by
 obtain ⟨u, rfl⟩ : ∃ u : Nat, b=(u:Int) := ⟨b.toNat,by omega⟩;simp only [Int.toNat_natCast];have h := List.all_eq_true.1 num_dig_all u (List.mem_range.2 o_);simp only [decide_eq_true_eq] at h;exact Ev.of (fun k=>F45.mono _ k) h
theorem l1Digits_ev (s : ByteArray) : ∃ v, Ev (fun k=>F45.f k s) v:=by
 have loop : ∀ d i : Nat, i+d=s.size→s.size≤6→∀ n : Int, ∃ v, Ev (fun k=>F45.l0 k s n (i:Int)) v:=by
  intro d
  induction d with
  | zero =>
   intro i hi _ n;exact ⟨_, Ev.step (fun k=>by rw [F45.l0]) (Ev.neg (show ¬ ((i:Int)<(s.size:Int)) by omega) (Ev.ret rfl))⟩
  | succ d ih =>
   intro i hi h6 n;by_cases h1 : bt s (i:Int)<48
   ·exact ⟨_, Ev.step (fun k=>by rw [F45.l0]) (Ev.pos (show (i:Int)<(s.size:Int) by omega) (Ev.pos (show (0:Int)≤(i:Int) by omega) (Ev.pos h1 (Ev.ret rfl))))⟩
   by_cases h2 : bt s (i:Int) > 57
   ·exact ⟨_, Ev.step (fun k=>by rw [F45.l0]) (Ev.pos (show (i:Int)<(s.size:Int) by omega) (Ev.pos (show (0:Int)≤(i:Int) by omega) (Ev.neg h1 (Ev.pos h2 (Ev.ret rfl)))))⟩
   obtain ⟨v, hv⟩:=ih (i+1) o_ h6 (wrap64 ((wrap64 (10 * n))+(((bt s (i:Int)) - 48) % 256)));refine ⟨v, Ev.step (fun k=>by rw [F45.l0]) (Ev.pos (show (i:Int)<(s.size:Int) by omega) (Ev.pos (show (0:Int)≤(i:Int) by omega) (Ev.neg h1 (Ev.neg h2 ?_))))⟩;rw [wA o_];exact hv
 have j0 : s.size≤6→∀ x : Bool, ∃ v, Ev (fun k=>F45.j0 k s x) v:=by
  intro h6 x;cases x with
  | true => exact ⟨_, Ev.step (fun k=>by rw [F45.j0]) (Ev.pos rfl (Ev.ret rfl))⟩
  | false =>
   obtain ⟨v, hv⟩:=loop s.size 0 o_ h6 0;refine ⟨v, ?_⟩;refine Ev.step (fun k=>by rw [F45.j0]) ?_;refine Ev.neg (by simp) ?_;simpa using hv
 unfold F45.f;by_cases h : (1:Int)≤(s.size:Int)∧(s.size:Int)≤6
 ·by_cases h1 : (s.size:Int) > 1
  ·obtain ⟨v, hv⟩:=j0 o_ (bt s 0 == 48);exact ⟨v, Ev.bind0 (g32 _ _ _) (Ev.pos (by simpa using h) (Ev.pos h1 (Ev.pos o_ hv)))⟩
  ·obtain ⟨v, hv⟩:=j0 o_ false;exact ⟨v, Ev.bind0 (g32 _ _ _) (Ev.pos (by simpa using h) (Ev.neg h1 hv))⟩
 ·exact ⟨-1, Ev.bind0 (g32 _ _ _) (Ev.neg (by simpa using h) (Ev.step (fun k=>by rw [F45.j0]) (Ev.pos rfl (Ev.ret rfl))))⟩
def firstR (s : ByteArray) : List S39→Int × Int × Int × Bool
 | [] => (0, 0, 0, false)
 | d :: r => if s.toList=([] : List UInt8) then firstR s r else if (g02 d.f0 d.f1 d.f2).toList=s.toList then (d.f0, d.f1, d.f2, true) else firstR s r
theorem firstR_ev (s : ByteArray) (l : List S39) (hl : l.length<1099511627776) : ∀ d i : Nat, i+d=l.length→Ev (fun k=>F24.l0 k s l (i:Int)) (firstR s (l.drop i)):=by
 intro d
 induction d with
 | zero =>
  intro i hi;rw [List.drop_eq_nil_of_le o_];refine Ev.step (fun k=>by rw [F24.l0]) ?_;exact Ev.neg o_ (Ev.ret rfl)
 | succ d ih =>
  intro i hi;(have hd : l.drop i=l.getD i z39 :: l.drop (i+1) := by rw [getD_lt (show i<l.length by omega)]; exact List.drop_eq_getElem_cons o_);rw [hd, firstR];refine Ev.step (fun k=>by rw [F24.l0]) ?_;rw [rd25];refine Ev.pos o_ ?_;by_cases h : s.toList=([] : List UInt8)
  ·rw [if_pos h];refine Ev.pos h ?_;rw [wA o_];exact ih (i+1) o_
  ·rw [if_neg h];refine Ev.neg h (Ev.pos o_ (Ev.bind (g19 _ _ _) ?_));by_cases h2 : (g02 (l.getD i z39).f0 (l.getD i z39).f1 (l.getD i z39).f2).toList=s.toList
   ·rw [if_pos h2]; exact Ev.pos h2 (Ev.ret rfl)
   ·rw [if_neg h2];refine Ev.neg h2 ?_;rw [wA o_];exact ih (i+1) o_
theorem firstR_none (s : ByteArray) (h : ∀ a b c : Int, (g02 a b c).toList≠([] : List UInt8)→g02 a b c≠s) : ∀ l, firstR s l=(0, 0, 0, false)
 | [] => rfl
 | d :: r => by
  rw [firstR]
  by_cases h0 : s.toList=([] : List UInt8)
  ·rw [if_pos h0]; exact firstR_none s h r
  ·rw [if_neg h0, if_neg]
   ·exact firstR_none s h r
   ·intro e
    exact h _ _ _ (by rw [e]; exact h0) (toList_inj e)
theorem firstR_text {a b c : Int} (h : (g02 a b c).toList≠([] : List UInt8)) : ∀ l, (⟨a, b, c⟩ : S39) ∈ l→firstR (g02 a b c) l=(a, b, c, true)
 | [], hm => by cases hm
 | d :: r, hm => by
  rw [firstR, if_neg h]
  by_cases h2 : (g02 d.f0 d.f1 d.f2).toList=(g02 a b c).toList
  ·rw [if_pos h2]
   obtain ⟨rfl, rfl, rfl⟩:=deedOf_inj (a := a) (b := b) (c := c) h (toList_inj h2).symm
   rfl
  ·rw [if_neg h2]
   rcases List.mem_cons.1 hm with e | e
   ·rw [← e] at h2; exact absurd rfl h2
   ·exact firstR_text h r e
theorem specReadDeed_ev (s : ByteArray) (hs : s.size≤1048577) : Ev (fun k=>F24.f k s) (readI s):=by
 obtain ⟨L, hL, hd⟩:=l1Cut_ev s hs;obtain ⟨v1, e1⟩:=l1Digits_ev (L.getD 1 ByteArray.empty);obtain ⟨v2, e2⟩:=l1Digits_ev (L.getD 2 ByteArray.empty);have uniq : ∀ {g : Nat→Option Int} {x y : Int}, Ev g x→Ev g y→x=y:=by
  rintro g x y ⟨K, h1⟩ ⟨K', h2⟩;have a := h1 (max K K') o_;have b := h2 (max K K') o_;rw [a] at b;exact Option.some.inj b
 have fin : ∀ l : List S39, l.length<1099511627776→(∀ a b c : Int, (g02 a b c).toList≠([] : List UInt8)→g02 a b c=s→(⟨a, b, c⟩ : S39) ∈ l)→firstR s l=readI s:=by
  intro l _ hm;by_cases hx : ∃ a b c : Int, (g02 a b c).toList≠([] : List UInt8)∧g02 a b c=s
  ·obtain ⟨a, b, c, h0, rfl⟩:=hx;rw [readI_text h0, firstR_text h0 l (hm a b c h0 rfl)]
  ·have hn : ∀ a b c : Int, (g02 a b c).toList≠([] : List UInt8)→g02 a b c≠s := fun a b c h0 e => hx ⟨a, b, c, h0, e⟩;rw [readI_none hn, firstR_none s hn]
 have j1 : ∀ l : List S39, l.length<1099511627776→(∀ a b c : Int, (g02 a b c).toList≠([] : List UInt8)→g02 a b c=s→(⟨a, b, c⟩ : S39) ∈ l)→Ev (fun k=>F24.j1 k s l) (readI s):=by
  intro l hl hm;refine Ev.step (fun k=>by rw [F24.j1]) ?_;rw [← fin l hl hm];have := firstR_ev s l hl l.length 0 o_;simpa using this
 have hlist : ∀ {M : List ByteArray}, cutL s.data.toList=M.map (·.data.toList)→L=M := fun h=>list_of_data (by rw [hd, h]);have four : ∀ {a b c : Int}, (a=2 ∨ a=3 ∨ a=4 ∨ a=5)∧b=0∧c=0→(⟨a, b, c⟩ : S39) ∈ [(⟨2, 0, 0⟩ : S39), (⟨3, 0, 0⟩ : S39), (⟨4, 0, 0⟩ : S39), (⟨5, 0, 0⟩ : S39)]:=by
  rintro a b c ⟨h | h | h | h, rfl, rfl⟩ <;> subst h <;> simp
 have head3 : ∀ {b c : Int}, (0≤b∧b≤99)→(0≤c∧c≤99)→g02 0 b c=s→L.length=3∧v1=b∧v2=c:=by
  rintro b c hb hc rfl;have p : L=[⟨#[104, 101, 97, 100]⟩, num b.toNat, num c.toNat] := hlist (by rw [deedOf0 hb hc, cut_head hb hc]; rfl);subst p;exact ⟨rfl, uniq e1 (num_dig hb.1 hb.2), uniq e2 (num_dig hc.1 hc.2)⟩
 have add2 : ∀ {b : Int}, (0≤b∧b≤99)→g02 1 b 0=s→L.length=2∧v1=b:=by
  rintro b hb rfl;have p : L=[⟨#[97, 100, 100]⟩, num b.toNat] := hlist (by rw [deedOf1 hb, cut_add hb]; rfl);subst p;exact ⟨rfl, uniq e1 (num_dig hb.1 hb.2)⟩
 unfold F24.f;refine Ev.bind hL (Ev.bind0 rfl ?_);have r1 : rdOf ByteArray.empty L 1=L.getD 1 ByteArray.empty := rdS L 1;have r2 : rdOf ByteArray.empty L 2=L.getD 2 ByteArray.empty := rdS L 2;by_cases h3 : (L.length:Int)=3
 ·refine Ev.pos h3 (Ev.pos o_ (Ev.bind (a := v1) (by rw [r1]; exact e1) (Ev.pos o_ (Ev.bind (a := v2) (by rw [r2]; exact e2) (Ev.pos (by decide) ?_)))));refine Ev.step (fun k=>by rw [F24.j0]) ?_;refine Ev.neg o_ (j1 _ (by simp) ?_);intro a b c h0 e;rcases hasText_of h0 with ⟨rfl, hb, hc⟩ | ⟨rfl, hb, rfl⟩ | h
  ·obtain ⟨_, rfl, rfl⟩:=head3 hb hc e;simp
  ·have := add2 hb e; omega
  ·exact List.mem_append_left _ (four h)
 ·refine Ev.neg h3 ?_;by_cases h2 : (L.length:Int)=2
  ·refine Ev.step (fun k=>by rw [F24.j0]) ?_;refine Ev.pos h2 (Ev.pos o_ (Ev.bind (a := v1) (by rw [r1]; exact e1) (Ev.pos (by decide) (j1 _ (by simp) ?_))));intro a b c h0 e;rcases hasText_of h0 with ⟨rfl, hb, hc⟩ | ⟨rfl, hb, rfl⟩ | h
   ·have := head3 hb hc e; omega
   ·obtain ⟨_, rfl⟩:=add2 hb e;simp
   ·exact List.mem_append_left _ (four h)
  ·refine Ev.step (fun k=>by rw [F24.j0]) ?_;refine Ev.neg h2 (j1 _ (by simp) ?_);intro a b c h0 e;rcases hasText_of h0 with ⟨rfl, hb, hc⟩ | ⟨rfl, hb, rfl⟩ | h
   ·have := head3 hb hc e; omega
   ·have := add2 hb e; omega
   ·exact four h
theorem specJournalRead_loop (s : ByteArray) (hs : s.size≤1048577) : ∀ d i : Nat, i+d=s.size→∀ (n a:Nat) (out : List S39), a≤i→s.size - a<n→out.length≤a →
  nl (s.data.toList.drop a)=(nl (s.data.toList.drop i)).map (·+(i - a))→Ev (fun k=>F6.l0 k s out (a:Int) (i:Int)) (JR n s a out):=by
 intro d
 induction d with
 | zero =>
  intro i hi n a out ha hn ho hnl;have e : s.data.toList.drop i=[] := List.drop_eq_nil_of_le (by rw [← Lib.size_eq]; omega);rw [e] at hnl;refine Ev.step (fun k=>by rw [F6.l0]) ?_;refine Ev.neg o_ (Ev.ret ?_);cases n with
  | zero => omega
  | succ n => rw [JR, hnl]; rfl
 | succ d ih =>
  intro i hi n a out ha hn ho hnl;obtain ⟨c, hc, hb⟩:=bt_get (s := s) (i := i) o_;have hd : s.data.toList.drop i=c :: s.data.toList.drop (i+1):=by
   obtain ⟨hl, he⟩:=List.getElem?_eq_some_iff.1 hc;rw [List.drop_eq_getElem_cons hl, he]
  refine Ev.step (fun k=>by rw [F6.l0]) ?_;refine Ev.pos o_ (Ev.pos o_ ?_);by_cases h10 : c=10
  ·subst h10;(have h0 : nl (s.data.toList.drop a)=some (i - a) := by rw [hnl, hd, nl, if_pos rfl]; simp);(have hz : (s.extract (a:Int).toNat (i:Int).toNat).size=i - a := by rw [ByteArray.size_extract]; simp; omega);refine Ev.pos (by rw [hb]; rfl) (Ev.pos o_ (Ev.pos o_ (Ev.pos o_ (Ev.bind (specReadDeed_ev _ (by rw [hz]; omega)) ?_))));cases n with
   | zero => omega
   | succ n =>
    rw [JR, h0];simp only [Int.toNat_natCast, show a+(i - a)=i by omega];by_cases hr : (readI (s.extract a i)).2.2.2=true
    ·rw [if_pos hr];refine Ev.pos hr (Ev.pos o_ ?_);rw [wA o_];exact ih (i+1) o_ n (i+1) _ (Nat.le_refl _) o_ (by simp; omega) (by simp)
    ·rw [if_neg hr];exact Ev.neg hr (Ev.ret rfl)
  ·refine Ev.neg (by rw [hb]; intro e; apply h10; apply UInt8.toNat_inj.1; show c.toNat=10; omega) ?_;rw [wA o_];refine ih (i+1) o_ n a out o_ hn ho ?_;rw [hnl, hd, nl, if_neg h10, Option.map_map];congr 1;funext x;show x+1+(i - a)=x+(i+1 - a);omega
theorem specReadJournal_ev (s : ByteArray) (hs : s.size≤1048577) : Ev (fun k=>F6.f k s) (readJ s):=by
 unfold F6.f;exact specJournalRead_loop s hs s.size 0 o_ (s.size+1) 0 [] o_ o_ (by simp) (by simp)
theorem alive_ev : Ev (fun k=>F15.f k) true:=by
 unfold F15.f;refine Ev.bind (g07 _) (Ev.pos (by decide +kernel) (Ev.bind (g07 _) (Ev.ret (by decide +kernel))))
theorem sameInts_l0 (l m : List Int) (hl : l.length≤1099511627776) (hm : l.length=m.length) (d:Nat) : ∀ (j:Nat), j+d=l.length→(∀ i, i<j→l[i]?=m[i]?)→Ev (fun k=>F35.l0 k l m (j:Int)) (decide (l=m)):=by
 induction d with
 | zero =>
  intro j hj h;refine Ev.step (fun k=>F35.l0.eq_2 ..) ?_;refine Ev.neg o_ (Ev.ret ?_);symm;rw [decide_eq_true_iff];apply List.ext_getElem?;intro i;by_cases hi : i<j
  ·exact h i hi
  ·rw [List.getElem?_eq_none o_, List.getElem?_eq_none o_]
 | succ d ih =>
  intro j hj h;refine Ev.step (fun k=>F35.l0.eq_2 ..) ?_;refine Ev.pos o_ (Ev.pos o_ (Ev.pos o_ (Ev.ite ?_ ?_)))
  ·intro e;rw [wA o_];refine ih (j+1) o_ ?_;intro i hi;by_cases e' : i=j
   ·subst e';rw [g47, g47] at e;rw [List.getElem?_eq_getElem o_, List.getElem?_eq_getElem o_];simpa [List.getD_eq_getElem?_getD, show i<l.length by omega, show i<m.length by omega] using e
   ·exact h i o_
  ·intro e;refine Ev.ret ?_;symm;rw [decide_eq_false_iff_not];intro e'; subst e'; exact e rfl
theorem sameInts_ev (l m : List Int) (hl : l.length≤1048576) : Ev (fun k=>F35.f k l m) (decide (l=m)):=by
 unfold F35.f;refine Ev.ite (fun h=>?_) (fun h=>?_)
 ·exact sameInts_l0 l m o_ o_ l.length 0 o_ (fun i h => by omega)
 ·refine Ev.ret ?_;symm;rw [decide_eq_false_iff_not];intro e; subst e; exact h rfl
theorem sameRows_l0 (l : List (List Int)) (hl : l.length≤1048576) (hx : ∀ i, i<l.length→(rd_L4 l (i:Int)).length≤1048576) (d:Nat) : ∀ (j:Nat), j+d=l.length→Ev (fun k=>F36.l0 k l l (j:Int)) true:=by
 induction d with
 | zero =>
  intro j hj;exact Ev.step (fun k=>F36.l0.eq_2 ..) (Ev.neg o_ (Ev.ret rfl))
 | succ d ih =>
  intro j hj;refine Ev.step (fun k=>F36.l0.eq_2 ..) (Ev.pos o_ (Ev.pos o_ (Ev.pos o_ (Ev.bind (sameInts_ev _ _ (hx j o_)) (Ev.pos (by simp) ?_)))));rw [wA o_];exact ih (j+1) o_
theorem sameRows_ev (l : List (List Int)) (hl : l.length≤1048576) (hx : ∀ i, i<l.length→(rd_L4 l (i:Int)).length≤1048576) : Ev (fun k=>F36.f k l l) true:=by
 unfold F36.f;exact Ev.pos rfl (sameRows_l0 l hl hx l.length 0 o_)
theorem sameDesk_ev (l m : List Int) (r : List (List Int)) (hl : l.length≤1048576) (hr : r.length≤1048576) (hx : ∀ i, i<r.length→(rd_L4 r (i:Int)).length≤1048576) : Ev (fun k=>F14.f k l r m r) (decide (l=m)):=by
 unfold F14.f;refine Ev.bind (sameInts_ev l m hl) (Ev.ite (fun h=>?_) (fun h=>Ev.ret (by simpa using h)));exact Ev.bind (sameRows_ev r hr hx) (Ev.ret h.symm)
theorem rows_small {r : List (List Int)} (h : ∀ x ∈ r, x.length≤1048576) : ∀ i, i<r.length→(rd_L4 r (i:Int)).length≤1048576:=by
 intro i hi;rw [g50, List.getD_eq_getElem?_getD, List.getElem?_eq_getElem hi];exact h _ (List.getElem_mem ..)
theorem runD_small {l : List Int} {r : List (List Int)} (h : g15 l r=true) : l.length≤8∧r.length≤8∧∀ x ∈ r, x.length≤8:=by
 obtain ⟨p1, p2, p3⟩:=g25 h;exact ⟨(tOl p1).2, p2, fun x hx => (tOl (p3 x hx)).2⟩
theorem same_self {l : List Int} {r : List (List Int)} (h : l.length≤8∧r.length≤8∧∀ x ∈ r, x.length≤8) : Ev (fun k=>F14.f k l r l r) true:=by
 refine Ev.eq (sameDesk_ev l l r o_ o_ (rows_small (fun x hx => by have := h.2.2 x hx; omega))) ?_;simp
theorem drawReadJournal_ev (l : List Int) (hb : ∀ x ∈ l, (Lit.int .u8 x).wf=true) : ∃ s, Ev (fun k=>F4.f k l) s∧s.size≤100:=by
 obtain ⟨b, hB, hopen⟩:=l20Open_ev l hb;obtain ⟨r, p, h1, h2, h3, h4⟩:=written_ev hB;have e1 : Ev (fun k=>F17.f k r) (jOf r ⟨#[]⟩):=by
  unfold F17.f;exact specJournal_loop _ o_ r.length 0 o_ _ (by decide)
 have hs := jOf_size r ⟨#[]⟩;have hz : (⟨#[]⟩ : ByteArray).size=0 := rfl;obtain ⟨v, hv0, hv1, hv⟩:=g04 hB p 3 o_ o_ o_ o_;unfold F4.f;by_cases h : v=0
 ·obtain ⟨t, q, ht, hts⟩:=spoil_ev hB (p+1) (jOf r ⟨#[]⟩) o_ o_ o_;exact ⟨t, Ev.bind0 hopen (Ev.bind h1 (Ev.bind e1 (Ev.bind hv (Ev.pos h (Ev.bind ht (Ev.ret rfl)))))),by omega⟩
 by_cases h5 : v=1
 ·obtain ⟨u, hu0, hu1, hu⟩:=g04 hB (p+1) (wrap64 (((jOf r ⟨#[]⟩).size:Int)+1)) o_ o_ (by rw [g00 o_ o_]; omega) (by rw [g00 o_ o_]; omega);rw [g00 o_ o_] at hu1;exact ⟨_, Ev.bind0 hopen (Ev.bind h1 (Ev.bind e1 (Ev.bind hv (Ev.neg h (Ev.pos h5 (Ev.bind hu (Ev.pos hu0 (Ev.pos o_ (Ev.ret rfl))))))))), by rw [ByteArray.size_extract]; omega⟩
 ·exact ⟨_, Ev.bind0 hopen (Ev.bind h1 (Ev.bind e1 (Ev.bind hv (Ev.neg h (Ev.neg h5 (Ev.ret rfl)))))),by omega⟩
theorem deskLine_ev (l : List Int) (r : List (List Int)) (a b c:Int) (h : g15 l r=true) (ht : (g02 a b c).toList≠([] : List UInt8)) : ∃ y : ByteArray, Ev (fun k=>F10.f k l r (g02 a b c)) ((g06 l r a b c).1, (g06 l r a b c).2.1, y)∧(y.toList=([111, 107] : List UInt8) ∨ y.toList=([110, 111, 116] : List UInt8)):=by
 have hs := runD_small h;have hz := g56 a b c;have hr : Ev (fun k=>F22.f k (g02 a b c)) (a, b, c, true):=by
  rw [← readI_text ht];exact g36 _ o_
 have hd := impl_DeskDo_ev l r a b c o_ o_ (fun x hx => by have := hs.2.2 x hx; omega);unfold F10.f;by_cases q : (g06 l r a b c).2.2=true
 ·exact ⟨_, Ev.bind (g29 l r o_) (Ev.pos h (Ev.bind hr (Ev.pos rfl (Ev.bind hd (Ev.pos q (Ev.ret rfl)))))), .inl (by decide +kernel)⟩
 ·exact ⟨_, Ev.bind (g29 l r o_) (Ev.pos h (Ev.bind hr (Ev.pos rfl (Ev.bind hd (Ev.neg q (Ev.ret rfl)))))), .inr (by decide +kernel)⟩
theorem say_ev (L : List S39) (hL : L.length≤1000) (ha : allText L) : ∀ d j : Nat, j+d=L.length→∀ (l : List Int) (r : List (List Int)) (n:Nat), g15 l r=true→∃ K, ∀ k q, K≤k→d+1≤q→F3.say k L true q l r (j:Int)=some ((runD (L.drop j) l r n).1, (runD (L.drop j) l r n).2.1):=by
 intro d
 induction d with
 | zero =>
  intro j hj l r n h;refine ⟨0, fun k q _ hq => ?_⟩;obtain ⟨q, rfl⟩:=Nat.exists_eq_add_of_le' hq;rw [F3.say, if_neg o_, List.drop_of_length_le o_];rfl
 | succ d ih =>
  intro j hj l r n h;(have hjl : j<L.length := by omega);(have e : r9 L (j:Int)=L[j] := by rw [rd25, getD_lt hjl]);have ht := ha _ (List.getElem_mem hjl);obtain ⟨y, hy, hyy⟩:=deskLine_ev l r L[j].f0 L[j].f1 L[j].f2 h ht;obtain ⟨K1, hK1⟩:=hy;obtain ⟨K2, hK2⟩:=g37 L[j].f0 L[j].f1 L[j].f2;obtain ⟨K3, hK3⟩:=ih (j+1) o_ (g06 l r L[j].f0 L[j].f1 L[j].f2).1 (g06 l r L[j].f0 L[j].f1 L[j].f2).2.1 (if (g06 l r L[j].f0 L[j].f1 L[j].f2).2.2=true then n+1 else n) (deskDo_keeps _ _ _ h);refine ⟨K1+K2+K3, fun k q hk hq => ?_⟩;have g1 := hK1 k o_;have g2 := hK2 k o_;dsimp only at g1 g2;obtain ⟨q, rfl⟩:=Nat.exists_eq_add_of_le' (show 1≤q by omega);rw [F3.say, if_pos o_, if_pos rfl, if_pos o_, e, g2, Option.bind_some, g1, Option.bind_some];dsimp only;rw [if_pos hyy, wA o_, hK3 k q o_ o_, drop_cons25 hjl, getD_lt hjl, runD]
theorem cut_ev (s : ByteArray) (hs : s.size≤1000) : ∀ d j : Nat, j+d=s.size+1→∃ K, ∀ k q, K≤k→d+1≤q→F3.cut k s (readJ s).1 q (j:Int)=some true:=by
 intro d
 induction d with
 | zero =>
  intro j hj;refine ⟨0, fun k q _ hq => ?_⟩;obtain ⟨q, rfl⟩:=Nat.exists_eq_add_of_le' hq;rw [F3.cut, if_neg o_]
 | succ d ih =>
  intro j hj;obtain ⟨⟨L, hL⟩, p,hp,hpj⟩:=readJ_cut s (show j≤s.size by omega);(have hz : (s.extract 0 j).size≤1048577 := by rw [ByteArray.size_extract]; omega);have hlen := readJ_len (s.extract 0 j);obtain ⟨K1, hK1⟩:=g43 (s.extract 0 j) hz;obtain ⟨K2, hK2⟩:=sameDeeds_ev (readJ (s.extract 0 j)).1 o_;obtain ⟨K3, hK3⟩:=ih (j+1) o_;refine ⟨K1+K2+K3, fun k q hk hq => ?_⟩;have g1 := hK1 k o_;have g2 := hK2 k o_;dsimp only at g1 g2;obtain ⟨q, rfl⟩:=Nat.exists_eq_add_of_le' (show 1≤q by omega);(have e : (readJ s).1.take (readJ (s.extract 0 j)).1.length=(readJ (s.extract 0 j)).1 := by rw [hL, List.take_left]);(have e2 : ¬ ((readJ (s.extract 0 j)).1.length:Int) > ((readJ s).1.length:Int) := by rw [hL, List.length_append]; omega);rw [F3.cut, if_pos o_, if_pos o_, Int.toNat_natCast, g1, Option.bind_some, if_neg e2, e, g2, Option.bind_some, if_pos rfl, if_neg o_, wA o_, hK3 k q o_ o_]
theorem FnReadJournal : ∀ (l0 : List (Int)) (l1 : List (Int)), l0.length≤maxLen→(∀ x ∈ l0, (Lit.int .u8 x).wf=true)→l1.length≤maxLen→(∀ x ∈ l1, (Lit.int .u8 x).wf=true)→∃ k, F3.f k l0 l1=some true:=by
 intro c0 c1 _ hb0 _ hb1;refine Ev.rounds (g := fun k=>F3.f k c0 c1) ?_;unfold F3.f;refine Ev.ite (fun _=>Ev.ret rfl) (fun _=>Ev.ite (fun _=>Ev.ret rfl) (fun _=>?_));obtain ⟨s, hd, hs⟩:=drawReadJournal_ev c0 hb0;obtain ⟨l, r, L, hD, hl, hr, hx, _⟩:=drawDeskRun_ev c1 hb1;have hlen := readJ_len s;obtain ⟨ha, p,hp,hps, hj⟩:=readJ_text s;(have hx2 : ∀ x ∈ r, x.length≤1048576 := fun x h => by have := hx x h; omega);have hcut : Ev (fun k=>F3.cut k s (readJ s).1 k 0) true:=by
  obtain ⟨K, hK⟩:=cut_ev s o_ (s.size+1) 0 o_;exact ⟨K+s.size+2, fun k hk => hK k k o_ o_⟩
 have hjt : Ev (fun k=>F13.f k (readJ s).1) (s.extract 0 p):=by
  rw [← hj];unfold F13.f;exact implJournal_loop _ o_ (readJ s).1.length 0 o_ _ (by decide)
 have him := implDeskRun_ev l r (readJ s).1 o_ o_ hx2 o_;refine Ev.bind hd (Ev.bind (g43 s o_) (Ev.bind (specReadJournal_ev s o_) (Ev.bind (sameDeeds_ev _ o_) (Ev.pos ⟨rfl, rfl,by omega,by omega⟩ (Ev.bind hcut (Ev.bind hD (Ev.bind (spec_DeskOk_ev l r o_) ?_)))))));have hend : ∀ (n : List Int × List (List Int)) (b : Bool), (b=true∧((readJ s).1.length:Int)≤40→n=((g30 l r (readJ s).1).1, (g30 l r (readJ s).1).2.1)∧g15 n.1 n.2=true) →
   Ev (fun k=>(F12.f k l r (readJ s).1).bind fun e=>(F13.f k (readJ s).1).bind fun jt=>(F15.f k).bind fun al=>if jt.toList=(s.extract 0 (readJ s).2.toNat).toList∧al=true then (if b=true∧((readJ s).1.length:Int)≤40 then (F14.f k n.1 n.2 e.1 e.2.1).bind fun sd=>if sd=true then some true else none else some true) else none) true:=by
  intro n b hn;refine Ev.bind him (Ev.bind hjt (Ev.bind alive_ev (Ev.pos ⟨by rw [hp, Int.toNat_natCast], rfl⟩ (Ev.ite (fun h=>?_) (fun _=>Ev.ret rfl)))));obtain ⟨h1, h2⟩:=hn h;rw [h1] at h2 ⊢;exact Ev.bind (same_self (runD_small h2)) (Ev.pos rfl (Ev.ret rfl))
 by_cases h : g15 l r=true
 ·have hsay : Ev (fun k=>F3.say k (readJ s).1 (g15 l r) k l r 0) ((runD (readJ s).1 l r 0).1, (runD (readJ s).1 l r 0).2.1):=by
   obtain ⟨K, hK⟩:=say_ev (readJ s).1 o_ ha (readJ s).1.length 0 o_ l r 0 h;rw [h];exact ⟨K+(readJ s).1.length+1, fun k hk => hK k k o_ o_⟩
  refine Ev.bind hsay (hend _ _ (fun h2=>?_));(have e : g30 l r (readJ s).1=runD (readJ s).1 l r 0 := by unfold g30; rw [if_pos ⟨h,by omega⟩]);rw [e];exact ⟨rfl, runD_ok _ l r 0 h⟩
 ·have hsay : Ev (fun k=>F3.say k (readJ s).1 (g15 l r) k l r 0) (l, r):=by
   refine Ev.step (fun k=>by rw [F3.say]) ?_;exact Ev.ite (fun _=>Ev.neg h (Ev.ret rfl)) (fun _=>Ev.ret rfl)
  exact Ev.bind hsay (hend _ _ (fun h2=>absurd h2.1 h))
end Go.Proofs.YtnpoeeliaolbaaaGreatDoor.Pure
