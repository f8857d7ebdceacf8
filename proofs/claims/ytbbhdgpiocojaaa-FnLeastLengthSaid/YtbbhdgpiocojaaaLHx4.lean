/- Printed by a program of this session (wip/lp/lp.py) out of the translation: functions with the same answers as the Go code, and their contracts; no conditions beyond those that each theorem names. -/
import Derived.Test.YtbbhdgpiocojaaaLHx0
import Derived.Test.YtbbhdgpiocojaaaLHx1
import Derived.Test.YtbbhdgpiocojaaaLHx2
import Derived.Test.YtbbhdgpiocojaaaLHx3
namespace Go.Proofs.Ytbbhdgpiocojaaa.LH
open Go.RowKit Go.Proofs.YtbbhdgpiocojaaaV.PrintWords Go.Proofs.YtbbhdgpiocojaaaV.PrintLast Go.Proofs.YtbbhdgpiocojaaaV.PrintMore
attribute [local go_sem] max2_int min2_int max_two min_two max_three min_three max_four min_four   -- for this text's walks alone
set_option linter.unusedVariables false
set_option linter.unusedSimpArgs false

/-! ### slices_Sort_int_int: function 134 -/
def slices_Sort_int_int.f (k : Nat) (l0 : List Int) : Option (List Int) := (bits_Len.f (IntKind.u64.wrap ((l0.length : Int)))).bind fun t137 => ((slices_pdqsortOrdered_int.f k l0 0 (l0.length : Int) t137).bind fun t138 => (some t138))
theorem slices_Sort_int_int.mono : ∀ a0 k, LeO (slices_Sort_int_int.f k a0) (slices_Sort_int_int.f (k + 1) a0) := by
 intro a0 k;unfold slices_Sort_int_int.f;have := @slices_pdqsortOrdered_int.mono; exact zmono
set_option maxHeartbeats 8000000 in
set_option maxRecDepth 100000 in
theorem slices_Sort_int_int.calls (k : Nat) (P0_ : Nat → Prop) (u9000_ : Value) (l0 : List Int) (r : List Int) (w0 w : World) (hB : Below w0.heap.size w0 w) (ho0 : Kd.R (Kd.int .i64) 3 w w0.heap.size P0_ u9000_ l0) (h : slices_Sort_int_int.f k l0 = some r) :
  Calls Try.prog 134 #[u9000_] w fun e w' => e = .returned (.tuple #[]) ∧ Kd.R (Kd.int .i64) 3 w' w0.heap.size (fun k_ => (P0_ k_ ∨ w.heap.size ≤ k_)) u9000_ r ∧ Below w0.heap.size w0 w' ∧ Kept w w' (fun k_ => P0_ k_) := by
 have HO0:=zM (show Kd.R (Kd.int .i64) 3 w w0.heap.size (fun k_ => (P0_ k_ ∨ w.heap.size ≤ k_)) u9000_ l0 from Kd.R_mono ho0 (fun k_ hk => (.inl hk)));have HK:=zM (Kept.refl w (fun k_ => P0_ k_));have HW0:=zM hB.size;have HB:=zM hB;clear hB;have H : ((bits_Len.f (IntKind.u64.wrap ((l0.length : Int)))).bind fun t137 => ((slices_pdqsortOrdered_int.f k l0 0 (l0.length : Int) t137).bind fun t138 => (some t138))) = some r := h;clear h;replace H := zb H; obtain ⟨t137, A2, H⟩ := H; (try dsimp only at H);replace H := zb H; obtain ⟨t138, A3, H⟩ := H; (try dsimp only at H);obtain rfl := Option.some.inj H;obtain ⟨Ao4, co4, eo4⟩ := Kd.R_slice HO0.out;subst eo4;go_enter Try.func134, Try.ntmps134;go_wp2_with (first | (refine zg 138 (some 9) Try.func138 #[.int .u64 (IntKind.u64.wrap ((l0.length : Int)))] ?_; (with_reducible refine (bits_Len.calls (IntKind.u64.wrap ((l0.length : Int))) t137 _ A2.out).mono ?_); rintro e w' ⟨rfl, ⟨nd, rfl⟩⟩; refine ⟨_, rfl, ?_⟩) | (refine zg 137 (some 10) Try.func137 #[.slice Ao4 l0.length co4, .int .i64 0, .int .i64 (l0.length : Int), .int .i64 t137] ?_; (with_reducible refine (slices_pdqsortOrdered_int.calls k (fun k_ => some k_ = (.slice Ao4 l0.length co4 : Value).ownBlock) (.slice Ao4 l0.length co4) l0 0 (l0.length : Int) t137 t138 w0 _ (zs6 HB) ?side2 A3.out).mono ?_); (case side2 => exact Kd.R_tight rfl HO0.out); rintro e w5 ⟨rfl, hy0, hb, hkp⟩; refine ⟨_, rfl, ?_⟩; replace HK:=zM (Kept.then_ (S := (fun k_ => P0_ k_)) (zs14 HK) hkp (fun k_ hs_ => (fun e_ => (HO0.out.1 k_ e_.symm)) hs_)); replace HO0:=zM (Kd.R_reok rfl hy0 (fun k_ e_ => HO0.out.1 k_ e_)); replace HB:=zM (hb); clear hb hkp hy0));(first | go_end0 | ((try simp only [Exit.inBlock, Exit.then]); refine bodyPost_ret (results_none rfl _ _ _) rfl ?_));exact ⟨zs9, (zs8 HO0), (zs6 HB), (zs14 HK)⟩

/-! ### impl_OrderOk: function 103, told by hand -/
def impl_OrderOk.ren : Go.Shelf.Ren := { f := fun x => if x = 11 then 136 else 0, t := fun x => if x = 0 then 0 else if x = 24 then 22 else if x = 26 then 3 else if x = 28 then 115 else if x = 33 then 79 else 0, g := fun x => x }
theorem impl_OrderOk.lays : SlLaysZI.n11 Try.prog impl_OrderOk.ren := {
 mixed := by kernel_rfl
 f11 := ⟨Try.f136.name, by decide, by kernel_rfl⟩
 t0 := by kernel_rfl
 a0 := fun _ => by kernel_rfl
 z0 := fun _ => by kernel_rfl
 v0 := fun _ => by kernel_rfl
 t24 := by kernel_rfl
 a24 := fun _ => by kernel_rfl
 z24 := fun _ => by kernel_rfl
 v24 := fun _ => by kernel_rfl
 t26 := by kernel_rfl
 a26 := fun _ => by kernel_rfl
 z26 := fun _ => by kernel_rfl
 v26 := fun _ => by kernel_rfl
 t28 := by kernel_rfl
 a28 := fun _ => by kernel_rfl
 z28 := fun _ => by kernel_rfl
 v28 := fun _ => by kernel_rfl
 i26 := by kernel_rfl }
set_option maxRecDepth 100000 in
set_option maxHeartbeats 1000000 in
theorem impl_OrderOk.values (l0 : List Int) (w0 : World) (fn : FuncId) (sv : Value) (Bs l D : Nat) (hBl : Bs ≠ l) (hDl : D ≠ l) (hDB : D ≠ Bs) (h0B : w0.heap.size ≤ Bs) (h0l : w0.heap.size ≤ l) (hlen : l0.length ≤ 1000) (A0 : Option Addr) (c0 : Nat) (hc0 : l0.length ≤ c0)
  (hr0 : Kd.C (Kd.int .i64) w0 A0 l0.length l0) (Bm : Nat) (hm : w0.cell? ⟨Bm, 0, none⟩ = some (.slice A0 l0.length c0)) (n : Nat) (hn : 1 ≤ n) (W : World) (h : AnyZI.ApAt impl_OrderOk.ren w0 fn sv Bs l D [] W) :
  CallsIn Fence.wide n Try.prog 135 #[.func (.yield l) #[] #[], .pointer (some ⟨Bm, 0, none⟩)] W fun e W' => (∃ v, e = .returned v) ∧ AnyZI.ApAt impl_OrderOk.ren w0 fn sv Bs l D l0 W' := by
 have hY : ∀ (k : Nat) (W1 : World), k < l0.length → AnyZI.ApAt impl_OrderOk.ren w0 fn sv Bs l D (l0.take k) W1 → YieldAt Fence.wide (n - 1) Try.prog l #[.int .i64 (rd l0 k)] W1 fun e W' => e = .returned (.bool true) ∧ AnyZI.ApAt impl_OrderOk.ren w0 fn sv Bs l D (l0.take k ++ [rd l0 k]) W' ∧ KeepsWalks W1 W' :=
  fun k W1 hk hJ => AnyZI.apYield impl_OrderOk.lays Fence.wide (n - 1) w0 fn trivial sv Bs l D hBl hDl hDB h0B h0l 2000 zd zd (l0.take k) (rd l0 k) W1 hJ (by rw [List.length_take]; omega)
 have hsnoc : ∀ k : Nat, k < l0.length → l0.take k ++ [rd l0 k] = l0.take (k + 1) := fun k hk => by
  rw [List.take_succ_eq_append_getElem hk];simp [rd, hk]
 have HR:=zM hr0;have HM:=zM hm;clear hr0 hm;have hcW : W.cell? ⟨Bm, 0, none⟩ = some (.slice A0 l0.length c0) := (h.below.cell (World.block_lt_of_cell? w0 _ HM.out)).trans HM.out;refine callsIn_of_wp Try.func135 rfl trivial ?_ rfl;simp only [Try.ntmps135, List.size_toArray, List.length_cons, List.length_nil, Nat.reduceAdd, Nat.reduceSub, Array.replicate_succ, Array.replicate_zero, List.push_toArray, List.append_toArray, List.nil_append, List.cons_append];gi_wp2;gi_loopw [7] (fun i wr => ∃ k : Nat, k ≤ l0.length ∧ i = .int .i64 k ∧ Aside0 (AnyZI.ApAt impl_OrderOk.ren w0 fn sv Bs l D (l0.take k) wr)) (fun i _ => l0.length - (Go.RowKit.intOf i).toNat)
 case atStart => exact ⟨0, Nat.zero_le _, rfl, ⟨by rw [List.take_zero]; exact h⟩⟩
 case round =>
  obtain ⟨k, hk, rfl, hJ⟩ := hrel;by_cases hlt : k < l0.length
  ·obtain ⟨ad, e1, hx⟩ := Kd.at_int HR.out (k : Int) zo_ zo_;cases e1;have hx2 : wr.cell? (ad.add k) = some (.int .i64 (rd l0 k)) := (hJ.out.below.cell (World.block_lt_of_cell? w0 _ hx)).trans hx;obtain ⟨fn2, tmps, assign, body, hy, hR⟩ := hY k wr hlt hJ.out;have b1 : decide ((k : Int) < (l0.length : Int)) = true := decide_eq_true zo_;(have b2 : (0 : Int) ≤ (k : Int) := by omega);gi_wp2;refine hR.mono ?_;rintro e W3 ⟨rfl, hJ3, hk3⟩;gi_wp2;rw [hsnoc k hlt] at hJ3;go_roundw
   case rel => exact ⟨k + 1, by omega, by go_num, ⟨hJ3⟩⟩
   case measure => simp [Go.RowKit.intOf]; omega
  ·(have hkl : k = l0.length := by omega);subst hkl;have hJ2 := hJ.out;rw [List.take_length] at hJ2;clear hJ;have b1 : decide ((l0.length : Int) < (l0.length : Int)) = false := decide_eq_false zo_;gi_wp2;go_end0;exact ⟨⟨_, rfl⟩, hJ2⟩
set_option maxRecDepth 100000 in
set_option maxHeartbeats 2000000 in
/-- AppendSeq(nil, slices.Values(l0)): l0 in new memory. -/
theorem impl_OrderOk.appends (l0 : List Int) (hlen : l0.length ≤ 1000) (A0 : Option Addr) (c0 : Nat) (hc0 : l0.length ≤ c0) (w : World) (hr0 : Kd.C (Kd.int .i64) w A0 l0.length l0) (Bm : Nat) (hm : w.cell? ⟨Bm, 0, none⟩ = some (.slice A0 l0.length c0)) (n : Nat) (hn : 2 ≤ n) :
  CallsIn Fence.wide n Try.prog 136 #[.slice none 0 0, .func (.func 135) #[] #[.pointer (some ⟨Bm, 0, none⟩)]] w fun e w' => ∃ v, e = .returned v ∧ w'.ownsRow w.heap.size 3 1 v l0.length (l0.map encZ) ∧ Below w.heap.size w w' := by
 have HR:=zM hr0;have HM:=zM hm;clear hr0 hm;refine callsIn_of_wp_marks Try.func136 rfl trivial ?_ rfl;simp only [Try.ntmps136, List.size_toArray, List.length_cons, List.length_nil, Nat.reduceAdd, Nat.reduceSub, Array.replicate_succ, Array.replicate_zero, List.push_toArray, List.append_toArray, List.nil_append, List.cons_append];gi_wp2;refine wpIn_rangeFunc ?_;intro fn _;have e98 : ∀ args w, (callFunc 135 args).run Try.prog w = .ok (.enter 135 args) w := enters_of Try.func135 zk rfl;obtain ⟨sv, hsv⟩ : ∃ sv, sv = Value.func (.func 135) #[] #[.pointer (some ⟨Bm, 0, none⟩)] := ⟨_, rfl⟩;obtain ⟨V, hV⟩ : ∃ V, w.alloc (.cells #[.slice none 0 0] 22) = V := ⟨_, rfl⟩;(have hVs : V.heap.size = w.heap.size + 1 := by rw [← hV]; simp);(have hVb : V.heap[w.heap.size]? = some (.cells #[.slice none 0 0] 22 (0, 0)) := by rw [← hV]; exact World.alloc_heap_new w _);(have hVw : Below w.heap.size w V := by rw [← hV]; exact (Below.refl _ w).alloc (Nat.le_refl _) _);obtain ⟨X, hX⟩ : ∃ X, (V.alloc (.deferred (some []))).alloc (.loop (AnyZI.apRec impl_OrderOk.ren fn sv w.heap.size V.heap.size .ready none)) = X := ⟨_, rfl⟩;(have hXs : X.heap.size = V.heap.size + 2 := by rw [← hX]; simp);(have hXw : Below w.heap.size w X := by rw [← hX]; exact (hVw.alloc hVw.size _).alloc (by have := hVw.size; simp; omega) _)
 have hXl : X.heap[V.heap.size + 1]? = some (.loop (AnyZI.apRec impl_OrderOk.ren fn sv w.heap.size V.heap.size .ready none)) := by
  rw [← hX];have := World.alloc_heap_new (V.alloc (.deferred (some []))) (.loop (AnyZI.apRec impl_OrderOk.ren fn sv w.heap.size V.heap.size .ready none));rwa [World.size_alloc] at this
 have hXd : X.heap[V.heap.size]? = some (.deferred (some [])) := by rw [← hX]; exact (Below.heap_alloc _ _ _ (by simp)).trans (World.alloc_heap_new V _)
 have hXb : X.heap[w.heap.size]? = some (.cells #[.slice none 0 0] 22 (0, 0)) := by
  rw [← hX]; exact (Below.heap_alloc _ _ _ (by simp; omega)).trans ((Below.heap_alloc _ _ _ zo_).trans hVb)
 have hM : AnyZI.ApAt impl_OrderOk.ren w fn sv w.heap.size (V.heap.size + 1) V.heap.size [] X := ⟨⟨_, hXb, ⟨rfl, .inl ⟨rfl, rfl⟩⟩, by simp⟩, hXl, hXd, hXw⟩;rw [← hsv, hV];refine ⟨V.heap.size + 1, [{ target := .collected V.heap.size, args := #[] }], X, { target := .fn (.func 135) #[.pointer (some ⟨Bm, 0, none⟩)], args := #[.func (.yield (V.heap.size + 1)) #[] #[]] }, X, 135, #[.func (.yield (V.heap.size + 1)) #[] #[], .pointer (some ⟨Bm, 0, none⟩)], X, ?_, ?_, fun _ _ => trivial, ?_, fun _ => by omega, ?_⟩
 ·rw [← hX]; exact run_enterLoop_outer _ _ _ _ _
 ·rw [hsv]; simp [resolve, go_sem]
 ·simp [invoke, go_sem, e98]
 ·refine (impl_OrderOk.values l0 w fn sv w.heap.size (V.heap.size + 1) V.heap.size zo_ zo_ zo_ (Nat.le_refl _) zo_ hlen A0 c0 hc0 HR.out Bm HM.out (n - 1) zo_ X hM).mono ?_;rintro e Y ⟨⟨v0, rfl⟩, h2⟩;obtain ⟨v, hv, hrow, hnil⟩ := h2.box;have hend := run_endLoop (P := Try.prog) h2.L (by simp [AnyZI.apRec]);obtain ⟨Z, hZ⟩ : ∃ Z, Y.putObj (V.heap.size + 1) (.loop { AnyZI.apRec impl_OrderOk.ren fn sv w.heap.size V.heap.size .ready none with state := .exhausted }) = Z := ⟨_, rfl⟩;rw [hZ] at hend;(have hg3 : Y.grownBy Z (some (V.heap.size + 1)) := by rw [← hZ]; exact grownBy_putObj_a _ _ _);(have hv3 : Z.heap[w.heap.size]? = some (.cells #[v] 22 (0, 0)) := by rw [← hZ]; exact (World.putObj_heap_other zo_).trans hv);(have hK3 : Z.heap[V.heap.size]? = some (.deferred (some [])) := by rw [← hZ]; exact (World.putObj_heap_other zo_).trans h2.K);have hrow3 := hrow.kept hg3 (ownsRow_ne_a hrow h2.L (fun cur e => by cases e));have hb3 : Below w.heap.size w Z := h2.below.grown hg3 h2.below.size (fun k e => by cases e; omega);obtain ⟨hc3, hf3⟩ := cell_of_box_a hv3;clear hZ;refine ⟨none, Z, hend, ?_⟩;gi_wp2;rw [← hVs];refine ⟨by simp, .inl ⟨_, _, rfl, run_takeDeferred hK3, ?_⟩⟩;exact ⟨_, results_tmp rfl _ _ _, v, rfl, hrow3.kept (grownBy_putObj_a _ _ _) (ownsRow_ne_a hrow3 hK3 (fun cur e => by cases e)), hb3.grown (grownBy_putObj_a _ _ _) hb3.size (fun k e => by cases e; omega)⟩
set_option maxHeartbeats 1000000 in
theorem impl_OrderOk.collects (l0 : List Int) (hlen : l0.length ≤ 1000) (A0 : Option Addr) (c0 : Nat) (hc0 : l0.length ≤ c0) (w : World) (hr0 : Kd.C (Kd.int .i64) w A0 l0.length l0) (Bm : Nat) (hm : w.cell? ⟨Bm, 0, none⟩ = some (.slice A0 l0.length c0)) :
  Calls Try.prog 133 #[.func (.func 135) #[] #[.pointer (some ⟨Bm, 0, none⟩)]] w fun e w' => ∃ v, e = .returned v ∧ Kd.R (Kd.int .i64) 3 w' w.heap.size (fun _ => True) v l0 ∧ Below w.heap.size w w' := by
 have HC := (callsIn_wide (n := 5)).1 (impl_OrderOk.appends l0 hlen A0 c0 hc0 w hr0 Bm hm 5 zo_);clear hr0 hm;go_enter Try.func133, Try.ntmps133;go_wp2_with (go_at_call 136; refine HC.mono ?_; rintro e w' ⟨v, rfl, hrow, hb⟩);go_ret;exact ⟨v, rfl, Kd.R_of_own (enc := Value.int .i64) hrow.loose (fun _ _ => trivial), hb⟩
set_option maxHeartbeats 1000000 in
theorem impl_OrderOk.sorted (k : Nat) (l0 : List Int) (hlen : l0.length ≤ 1000) (A0 : Option Addr) (c0 : Nat) (hc0 : l0.length ≤ c0) (w : World) (hr0 : Kd.C (Kd.int .i64) w A0 l0.length l0) (Bm : Nat) (hm : w.cell? ⟨Bm, 0, none⟩ = some (.slice A0 l0.length c0)) (s : List Int) (hs : slices_Sort_int_int.f k l0 = some s) :
  Calls Try.prog 128 #[.func (.func 135) #[] #[.pointer (some ⟨Bm, 0, none⟩)]] w fun e w' => ∃ v, e = .returned v ∧ Kd.R (Kd.int .i64) 3 w' w.heap.size (fun _ => True) v s ∧ Below w.heap.size w w' := by
 have HC := impl_OrderOk.collects l0 hlen A0 c0 hc0 w hr0 Bm hm;have HS:=zM hs;clear hr0 hm hs;go_enter Try.func128, Try.ntmps128
 go_wp2_with (first | (go_at_call 133; refine HC.mono ?_; rintro e w1 ⟨v, rfl, hR, hb⟩) | (go_at_call 134; refine (slices_Sort_int_int.calls k (fun _ => True) v l0 s w w1 hb hR HS.out).mono ?_; rintro e w2 ⟨rfl, hR2, hb2, hk2⟩))
 go_ret;exact ⟨v, rfl, Kd.R_mono hR2 (fun _ _ => trivial), hb2⟩
def impl_OrderOk.f (k : Nat) (l0 : List Int) (a1 : Int) : Option (Bool) := if 1 ≤ a1 ∧ a1 ≤ 8 ∧ (l0.length : Int) = a1 then (slices_Sort_int_int.f k l0).bind fun s => if s.length ≤ 8 then some (decide (∀ i : Nat, i < s.length → rd s i = (i : Int) + 1)) else none else some false
theorem impl_OrderOk.mono : ∀ a0 a1 k, LeO (impl_OrderOk.f k a0 a1) (impl_OrderOk.f (k + 1) a0 a1) := by
 intro a0 a1 k;unfold impl_OrderOk.f;exact LeO.ite (LeO.bind (slices_Sort_int_int.mono _ _) (fun _ => LeO.refl _)) (LeO.refl _)
set_option maxHeartbeats 2000000 in
set_option maxRecDepth 100000 in
theorem impl_OrderOk.calls (k : Nat) (A0 : Option Addr) (c0 : Nat) (l0 : List Int) (a1 : Int) (r : Bool) (w : World) (hr0 : Kd.C (Kd.int .i64) w A0 l0.length l0) (hc0 : l0.length ≤ c0) (h : impl_OrderOk.f k l0 a1 = some r) :
  Calls Try.prog 103 #[.slice A0 l0.length c0, .int .i64 a1] w fun e w' => e = .returned (.bool r) ∧ Below w.heap.size w w' := by
 unfold impl_OrderOk.f at h;have HR:=zM hr0;have HB:=zM hc0;clear hr0 hc0;by_cases c1 : a1 < 1
 ·rw [if_neg zo_] at h;obtain rfl := Option.some.inj h;clear h;have d1 : decide (a1 < 1) = true := decide_eq_true c1;clear c1;go_enter Try.func103, Try.ntmps103;go_wp2;go_ret;exact ⟨rfl, Below.refl _ _⟩
 ·have d1 : decide (a1 < 1) = false := decide_eq_false c1;by_cases c2 : a1 > 8
  ·rw [if_neg zo_] at h;obtain rfl := Option.some.inj h;clear h;have d2 : decide (8 < a1) = true := decide_eq_true c2;clear c1 c2;go_enter Try.func103, Try.ntmps103;go_wp2;go_ret;exact ⟨rfl, Below.refl _ _⟩
  ·have d2 : decide (8 < a1) = false := decide_eq_false c2;by_cases c3 : (l0.length : Int) = a1
   ·rw [if_pos ⟨by omega, by omega, c3⟩] at h;obtain ⟨s, hs, h⟩ := Option.bind_eq_some_iff.mp h;by_cases c4 : s.length ≤ 8
    ·rw [if_pos c4] at h;obtain rfl := Option.some.inj h;clear h;have d3 : ((l0.length : Int) == a1) = true := beq_iff_eq.mpr c3;have d4 : ((l0.length : Int) != a1) = false := bne_eq_false_iff_eq.mpr c3;(have hl8 : l0.length ≤ 1000 := by omega)
     have HV : Calls Try.prog 129 #[.slice A0 l0.length c0] w fun e w' => e = .returned (.func (.func 135) #[] #[.pointer (some ⟨w.heap.size, 0, none⟩)]) ∧ w' = w.alloc (.cells #[.slice A0 l0.length c0] 22) := by
      clear c1 c2 c3 d1 d2 d3 d4;go_enter Try.func129, Try.ntmps129;go_wp2;go_ret;exact ⟨rfl, rfl⟩
     have hR1 : Kd.C (Kd.int .i64) (w.alloc (.cells #[.slice A0 l0.length c0] 22)) A0 l0.length l0 := Kd.C_below HR.out ((Below.refl _ w).alloc (Nat.le_refl _) _);have HS := impl_OrderOk.sorted k l0 hl8 A0 c0 HB.out (w.alloc (.cells #[.slice A0 l0.length c0] 22)) hR1 w.heap.size (by go_simp) s hs;clear hs hR1 c3;go_enter Try.func103, Try.ntmps103
     go_wp2_with (first | (go_at_call 129; refine HV.mono ?_; rintro e w' ⟨rfl, rfl⟩) | (go_at_call 128; refine HS.mono ?_; rintro e w2 ⟨v, rfl, hR2, hb2⟩; obtain ⟨Ao, co, eo⟩ := Kd.R_slice hR2; subst eo))
     have HR2:=zM hR2;have HB2:=zM hb2;have HL:=zM c4;clear hR2 hb2 c4 c1 c2 d1 d2 d3 d4;go_loop [23] (fun i => ∃ j : Nat, j ≤ s.length ∧ i = .int .i64 j ∧ Aside0 (∀ q : Nat, q < j → rd s q = (q : Int) + 1)) (fun i => s.length - (Go.RowKit.intOf i).toNat)
     case atStart => exact ⟨0, Nat.zero_le _, rfl, ⟨fun q hq => by omega⟩⟩
     case round =>
      obtain ⟨j, hj, rfl, hJ⟩ := hrel;have hl8 := HL.out;by_cases hlt : j < s.length
      ·obtain ⟨ad, e1, hx0⟩ := Kd.at_int (Kd.R_reads' HR2.out).2.2 (j : Int) zo_ zo_;cases e1;have hx : w2.cell? (ad.add j) = some (.int .i64 (rd s (j : Int))) := hx0;clear hx0;(have hj1 : IntKind.i64.wrap ((j : Int) + 1) = (j : Int) + 1 := by rw [i64_w]; unfold wrap64; omega);have b1 : decide ((j : Int) < (s.length : Int)) = true := decide_eq_true zo_;(have b2 : (0 : Int) ≤ (j : Int) := by omega);by_cases e : rd s j = (j : Int) + 1
       ·have b3 : ((rd s (j : Int)) != (j : Int) + 1) = false := bne_eq_false_iff_eq.mpr e;have HE:=zM e;clear e;go_wp2;go_round
        case rel =>
         refine ⟨j + 1, by omega, by go_num, ⟨fun q hq => ?_⟩⟩;by_cases e2 : q = j
         ·subst e2; exact HE.out
         ·exact hJ.out q zo_
        case measure => simp [Go.RowKit.intOf]; omega
       ·have b3 : ((rd s (j : Int)) != (j : Int) + 1) = true := bne_iff_ne.mpr e;have HE:=zM e;clear e;go_wp2;go_ret;have hf : decide (∀ i : Nat, i < s.length → rd s i = (i : Int) + 1) = false := decide_eq_false (fun h => HE.out (h j hlt));rw [hf];exact ⟨rfl, ((Below.refl _ _).alloc (Nat.le_refl _) _).trans (HB2.out.mono (by simp))⟩
      ·have b1 : decide ((j : Int) < (s.length : Int)) = false := decide_eq_false zo_;go_wp2;go_ret;have hf : decide (∀ i : Nat, i < s.length → rd s i = (i : Int) + 1) = true := decide_eq_true (fun q hq => hJ.out q zo_);rw [hf];exact ⟨rfl, ((Below.refl _ _).alloc (Nat.le_refl _) _).trans (HB2.out.mono (by simp))⟩
    ·rw [if_neg c4] at h; cases h
   ·rw [if_neg (fun h => c3 h.2.2)] at h;obtain rfl := Option.some.inj h;clear h;have d3 : ((l0.length : Int) == a1) = false := beq_eq_false_iff_ne.mpr c3;have d4 : ((l0.length : Int) != a1) = true := bne_iff_ne.mpr c3;clear c1 c2 c3;go_enter Try.func103, Try.ntmps103;go_wp2;go_ret;exact ⟨rfl, Below.refl _ _⟩

/-! ### impl_PutInOrder: function 50 -/
def impl_PutInOrder.f (k : Nat) (l0 : List Int) (l1 : List Int) : Option (List Int × Bool) := (impl_TreeOk.f k l0).bind fun t139 => (if t139 = true then ((impl_OrderOk.f k l1 (l0.length : Int)).bind fun t140 => (if t140 = true then ((impl_put.f k l0 l1).bind fun t141 => (some (t141, true))) else (some (([] : List Int), false)))) else (some (([] : List Int), false)))
theorem impl_PutInOrder.mono : ∀ a0 a1 k, LeO (impl_PutInOrder.f k a0 a1) (impl_PutInOrder.f (k + 1) a0 a1) := by
 intro a0 a1 k;unfold impl_PutInOrder.f;have := @impl_OrderOk.mono; have := @impl_TreeOk.mono; have := @impl_put.mono; exact zmono
set_option maxHeartbeats 8000000 in
set_option maxRecDepth 100000 in
theorem impl_PutInOrder.calls (k : Nat) (A0 : Option Addr) (c0 : Nat) (l0 : List Int) (A1 : Option Addr) (c1 : Nat) (l1 : List Int) (r1 : List Int) (r2 : Bool) (w : World) (hr0 : Kd.C (Kd.int .i64) w A0 l0.length l0) (hc0 : l0.length ≤ c0) (hr1 : Kd.C (Kd.int .i64) w A1 l1.length l1) (hc1 : l1.length ≤ c1) (h : impl_PutInOrder.f k l0 l1 = some (r1, r2)) :
  Calls Try.prog 50 #[.slice A0 l0.length c0, .slice A1 l1.length c1] w fun e w' => ∃ v0_ : Value, e = .returned (.tuple #[v0_, .bool r2]) ∧ Kd.R (Kd.int .i64) 3 w' w.heap.size (fun _ => True) v0_ r1 ∧ Below w.heap.size w w' := by
 have HR0:=zM hr0;have HC0:=zM hc0;clear hr0 hc0;have HR1:=zM hr1;have HC1:=zM hc1;clear hr1 hc1;have HB:=zM (Below.refl w.heap.size w);have H : ((impl_TreeOk.f k l0).bind fun t139 => (if t139 = true then ((impl_OrderOk.f k l1 (l0.length : Int)).bind fun t140 => (if t140 = true then ((impl_put.f k l0 l1).bind fun t141 => (some (t141, true))) else (some (([] : List Int), false)))) else (some (([] : List Int), false)))) = some (r1, r2) := h;clear h;replace H := zb H; obtain ⟨t139, A3, H⟩ := H; (try dsimp only at H);by_cases c4 : t139 = true
 ·subst c4;(have H1 : ((impl_OrderOk.f k l1 (l0.length : Int)).bind fun t140 => (if t140 = true then ((impl_put.f k l0 l1).bind fun t141 => (some (t141, true))) else (some (([] : List Int), false)))) = some (r1, r2) := by rw [if_pos rfl] at H; exact H);clear H;have H := H1;clear H1;replace H := zb H; obtain ⟨t140, A5, H⟩ := H; (try dsimp only at H);by_cases c6 : t140 = true
  ·subst c6;(have H1 : ((impl_put.f k l0 l1).bind fun t141 => (some (t141, true))) = some (r1, r2) := by rw [if_pos rfl] at H; exact H);clear H;have H := H1;clear H1;replace H := zb H; obtain ⟨t141, A7, H⟩ := H; (try dsimp only at H);simp only [Option.some.injEq, Prod.mk.injEq] at H;obtain ⟨rfl, rfl⟩ := H;go_enter Try.func50, Try.ntmps50;go_wp2_with (first | (refine zg 38 (some 7) Try.func38 #[.slice A0 l0.length c0] ?_; (with_reducible refine (impl_TreeOk.calls k _ _ l0 true _ ?side1 ?side2 A3.out).mono ?_); (case side1 => exact (zs3 HR0)); (case side2 => exact HC0.out); rintro e w' ⟨rfl, ⟨nd, rfl⟩⟩; refine ⟨_, rfl, ?_⟩) | (go_at_call 103; (with_reducible refine (impl_OrderOk.calls k _ _ l1 (l0.length : Int) true _ ?side1 ?side2 A5.out).mono ?_); (case side1 => exact (zs3 HR1)); (case side2 => exact HC1.out); rintro e w8 ⟨rfl, hb⟩; replace HB:=zM (below_step (zs6 HB) hb); clear hb) | (refine zg 102 (some 18) Try.func102 #[.slice A0 l0.length c0, .slice A1 l1.length c1] ?_; (with_reducible refine (impl_put.calls k _ _ l0 _ _ l1 t141 _ ?side1 ?side2 ?side3 ?side4 A7.out).mono ?_); (case side1 => exact (zs10 HR0 HB)); (case side2 => exact HC0.out); (case side3 => exact (zs10 HR1 HB)); (case side4 => exact HC1.out); rintro e w9 ⟨v142, rfl, ho0, hb⟩; refine ⟨_, rfl, ?_⟩; have HO143:=zM (Kd.R_lower ho0 (below_size (zs6 HB))); replace HB:=zM (below_step (zs6 HB) hb); clear hb ho0));go_ret2;exact ⟨_, zs9, (zs8 HO143), (zs6 HB)⟩
  ·replace c6 := Bool.eq_false_iff.mpr c6;subst c6;(have H1 : (some (([] : List Int), false)) = some (r1, r2) := by rw [if_neg (show ¬ (false = true) by decide)] at H; exact H);clear H;have H := H1;clear H1;simp only [Option.some.injEq, Prod.mk.injEq] at H;obtain ⟨rfl, rfl⟩ := H;go_enter Try.func50, Try.ntmps50;go_wp2_with (first | (refine zg 38 (some 7) Try.func38 #[.slice A0 l0.length c0] ?_; (with_reducible refine (impl_TreeOk.calls k _ _ l0 true _ ?side1 ?side2 A3.out).mono ?_); (case side1 => exact (zs3 HR0)); (case side2 => exact HC0.out); rintro e w' ⟨rfl, ⟨nd, rfl⟩⟩; refine ⟨_, rfl, ?_⟩) | (go_at_call 103; (with_reducible refine (impl_OrderOk.calls k _ _ l1 (l0.length : Int) false _ ?side1 ?side2 A5.out).mono ?_); (case side1 => exact (zs3 HR1)); (case side2 => exact HC1.out); rintro e w10 ⟨rfl, hb⟩; replace HB:=zM (below_step (zs6 HB) hb); clear hb));go_ret2;exact ⟨_, zs9, by first | exact Kd.R_nil _ _ _ _ _ | exact Kd.N_nil _ _ _ _ _ | exact Kd.V_nil _ _ _ _ _ | exact Kd.Q_nil _ _ _ _ _ | exact Kd.S_nil _ _ _ _ _, (zs6 HB)⟩
 ·replace c4 := Bool.eq_false_iff.mpr c4;subst c4;(have H1 : (some (([] : List Int), false)) = some (r1, r2) := by rw [if_neg (show ¬ (false = true) by decide)] at H; exact H);clear H;have H := H1;clear H1;simp only [Option.some.injEq, Prod.mk.injEq] at H;obtain ⟨rfl, rfl⟩ := H;go_enter Try.func50, Try.ntmps50;go_wp2_with (first | (refine zg 38 (some 7) Try.func38 #[.slice A0 l0.length c0] ?_; (with_reducible refine (impl_TreeOk.calls k _ _ l0 false _ ?side1 ?side2 A3.out).mono ?_); (case side1 => exact (zs3 HR0)); (case side2 => exact HC0.out); rintro e w' ⟨rfl, ⟨nd, rfl⟩⟩; refine ⟨_, rfl, ?_⟩));go_ret2;exact ⟨_, zs9, by first | exact Kd.R_nil _ _ _ _ _ | exact Kd.N_nil _ _ _ _ _ | exact Kd.V_nil _ _ _ _ _ | exact Kd.Q_nil _ _ _ _ _ | exact Kd.S_nil _ _ _ _ _, (zs6 HB)⟩

/-! ### slices_Index_int_int: function 127 -/
def slices_Index_int_int.l0 : Nat → List Int → Int → Int → Int → Option (Int)
 | 0, _, _, _, _ => none
 | k + 1, x0, x1, x7, x8 => if x8 < x7 then (if 0 ≤ x8 then (if x8 < (x0.length : Int) then (if x1 = (rd x0 x8) then (some x8) else (slices_Index_int_int.l0 k x0 x1 x7 (wrap64 (x8 + 1)))) else (none)) else (none)) else (some (-1))
def slices_Index_int_int.f (k : Nat) (l0 : List Int) (a1 : Int) : Option (Int) := slices_Index_int_int.l0 k l0 a1 (l0.length : Int) 0
theorem slices_Index_int_int.mono_l : ∀ k, (∀ y0 y1 y2 y3, LeO (slices_Index_int_int.l0 k y0 y1 y2 y3) (slices_Index_int_int.l0 (k + 1) y0 y1 y2 y3))
 | 0 => fun _ _ _ _ r h => by simp [slices_Index_int_int.l0] at h
 | k + 1 => by
  have ih0 := slices_Index_int_int.mono_l k
  ·intro y0 y1 y2 y3
   unfold slices_Index_int_int.l0
   exact zmono
theorem slices_Index_int_int.mono : ∀ a0 a1 k, LeO (slices_Index_int_int.f k a0 a1) (slices_Index_int_int.f (k + 1) a0 a1) := by
 intro a0 a1 k;have ih0 := slices_Index_int_int.mono_l k;unfold slices_Index_int_int.f;exact zmono
set_option maxHeartbeats 8000000 in
set_option maxRecDepth 100000 in
theorem slices_Index_int_int.calls (k : Nat) (A0 : Option Addr) (c0 : Nat) (l0 : List Int) (a1 : Int) (r : Int) (w : World) (hr0 : Kd.C (Kd.int .i64) w A0 l0.length l0) (hc0 : l0.length ≤ c0) (h : slices_Index_int_int.f k l0 a1 = some r) :
  Calls Try.prog 127 #[.slice A0 l0.length c0, .int .i64 a1] w fun e w' => e = .returned (.int .i64 r) ∧ Drawn0 w w' := by
 have HR0:=zM hr0;have HC0:=zM hc0;clear hr0 hc0;have H : (slices_Index_int_int.l0 k l0 a1 (l0.length : Int) 0) = some r := h;clear h;have H':=zM H;clear H;go_enter Try.func127, Try.ntmps127;go_wp2;go_loopg [8] k (fun kq v8 w' => ∃ (x8_1 : Int), v8 = .int .i64 x8_1 ∧ Aside0 (slices_Index_int_int.l0 kq l0 a1 (l0.length : Int) x8_1 = some r) ∧ Aside0 (kq ≤ k) ∧ Drawn0 w w')
 case atStart => exact ⟨(0), zs0, H', ⟨Nat.le_refl _⟩, by repeat (first | exact Drawn0.refl _ | apply Drawn0.step)⟩
 case round =>
  clear H';obtain ⟨x8_1, rfl, HA, HK1, ⟨m1, rfl⟩⟩ := hrel;cases gk with
  | zero => exact absurd HA.out (by simp [slices_Index_int_int.l0])
  | succ k1 =>
   have H := HA.out;clear HA;simp only [slices_Index_int_int.l0] at H;by_cases c3 : x8_1 < (l0.length : Int)
   ·rw [if_pos c3] at H;have c3b0 := decide_eq_true c3;clear c3;replace H := zn H; obtain ⟨c4, H⟩ := H;have c4b0 := decide_eq_true c4;clear c4;replace H := zn H; obtain ⟨c5, H⟩ := H;have c5b0 := decide_eq_true c5;clear c5;by_cases c6 : a1 = (rd l0 x8_1)
    ·rw [if_pos c6] at H;have c6b0 := beq_iff_eq.mpr c6;have c6b1 := bne_eq_false_iff_eq.mpr c6;clear c6;obtain rfl := Option.some.inj H;have p144 : 0 ≤ (x8_1 : Int) := of_decide_eq_true zs1;have q144 : x8_1 < (l0.length : Int) := of_decide_eq_true zs1;obtain ⟨ad144, e144, hx144_0⟩ := Kd.at_int HR0.out x8_1 p144 q144;cases e144;replace p144 := eq_true p144;replace q144 := eq_true q144;go_wp2;go_ret;exact ⟨by first | rfl | (simp; done) | (simp [*]; done), by repeat (first | exact Drawn0.refl _ | apply Drawn0.step)⟩
    ·rw [if_neg c6] at H;have c6b0 := beq_eq_false_iff_ne.mpr c6;have c6b1 := bne_iff_ne.mpr c6;have H':=zM H;clear H;have p144 : 0 ≤ (x8_1 : Int) := of_decide_eq_true zs1;have q144 : x8_1 < (l0.length : Int) := of_decide_eq_true zs1;obtain ⟨ad144, e144, hx144_0⟩ := Kd.at_int HR0.out x8_1 p144 q144;cases e144;replace p144 := eq_true p144;replace q144 := eq_true q144;go_wp2;go_roundg k1
     case measure => have := HK1.out; omega
     case rel => exact ⟨(wrap64 (x8_1 + 1)), zs0, H', ⟨by have := HK1.out; omega⟩, by repeat (first | exact Drawn0.refl _ | apply Drawn0.step)⟩
   ·rw [if_neg c3] at H;have c3b0 := decide_eq_false c3;clear c3;obtain rfl := Option.some.inj H;go_wp2;go_ret;exact ⟨by first | rfl | (simp; done) | (simp [*]; done), by repeat (first | exact Drawn0.refl _ | apply Drawn0.step)⟩

/-! ### impl_RootOf: function 100 -/
def impl_RootOf.f (k : Nat) (l0 : List Int) : Option (Int) := (impl_TreeOk.f k l0).bind fun t145 => (if t145 = true then ((slices_Index_int_int.f k l0 0).bind fun t146 => (some (wrap64 (t146 + 1)))) else (some (-1)))
theorem impl_RootOf.mono : ∀ a0 k, LeO (impl_RootOf.f k a0) (impl_RootOf.f (k + 1) a0) := by
 intro a0 k;unfold impl_RootOf.f;have := @impl_TreeOk.mono; have := @slices_Index_int_int.mono; exact zmono
set_option maxHeartbeats 8000000 in
set_option maxRecDepth 100000 in
theorem impl_RootOf.calls (k : Nat) (A0 : Option Addr) (c0 : Nat) (l0 : List Int) (r : Int) (w : World) (hr0 : Kd.C (Kd.int .i64) w A0 l0.length l0) (hc0 : l0.length ≤ c0) (h : impl_RootOf.f k l0 = some r) :
  Calls Try.prog 100 #[.slice A0 l0.length c0] w fun e w' => e = .returned (.int .i64 r) ∧ Drawn0 w w' := by
 have HR0:=zM hr0;have HC0:=zM hc0;clear hr0 hc0;have H : ((impl_TreeOk.f k l0).bind fun t145 => (if t145 = true then ((slices_Index_int_int.f k l0 0).bind fun t146 => (some (wrap64 (t146 + 1)))) else (some (-1)))) = some r := h;clear h;replace H := zb H; obtain ⟨t145, A2, H⟩ := H; (try dsimp only at H);by_cases c3 : t145 = true
 ·subst c3;(have H1 : ((slices_Index_int_int.f k l0 0).bind fun t146 => (some (wrap64 (t146 + 1)))) = some r := by rw [if_pos rfl] at H; exact H);clear H;have H := H1;clear H1;replace H := zb H; obtain ⟨t146, A4, H⟩ := H; (try dsimp only at H);obtain rfl := Option.some.inj H;go_enter Try.func100, Try.ntmps100;go_wp2_with (first | (refine zg 38 (some 4) Try.func38 #[.slice A0 l0.length c0] ?_; (with_reducible refine (impl_TreeOk.calls k _ _ l0 true _ ?side1 ?side2 A2.out).mono ?_); (case side1 => exact (zs3 HR0)); (case side2 => exact HC0.out); rintro e w' ⟨rfl, ⟨nd, rfl⟩⟩; refine ⟨_, rfl, ?_⟩) | (refine zg 127 (some 7) Try.func127 #[.slice A0 l0.length c0, .int .i64 0] ?_; (with_reducible refine (slices_Index_int_int.calls k _ _ l0 0 t146 _ ?side1 ?side2 A4.out).mono ?_); (case side1 => exact (zs3 HR0)); (case side2 => exact HC0.out); rintro e w' ⟨rfl, ⟨nd, rfl⟩⟩; refine ⟨_, rfl, ?_⟩));go_ret;exact ⟨by first | rfl | (simp; done) | (simp [*]; done), by repeat (first | exact Drawn0.refl _ | apply Drawn0.step)⟩
 ·replace c3 := Bool.eq_false_iff.mpr c3;subst c3;(have H1 : (some (-1)) = some r := by rw [if_neg (show ¬ (false = true) by decide)] at H; exact H);clear H;have H := H1;clear H1;obtain rfl := Option.some.inj H;go_enter Try.func100, Try.ntmps100;go_wp2_with (first | (refine zg 38 (some 4) Try.func38 #[.slice A0 l0.length c0] ?_; (with_reducible refine (impl_TreeOk.calls k _ _ l0 false _ ?side1 ?side2 A2.out).mono ?_); (case side1 => exact (zs3 HR0)); (case side2 => exact HC0.out); rintro e w' ⟨rfl, ⟨nd, rfl⟩⟩; refine ⟨_, rfl, ?_⟩));go_ret;exact ⟨by first | rfl | (simp; done) | (simp [*]; done), by repeat (first | exact Drawn0.refl _ | apply Drawn0.step)⟩

/-! ### slices_Clip_int_int: function 106, told by hand -/
def slices_Clip_int_int.f (l0 : List Int) : Option (List Int) := some l0
set_option maxHeartbeats 8000000 in
theorem slices_Clip_int_int.calls (P0_ : Nat → Prop) (u9000_ : Value) (l0 : List Int) (r : List Int) (w0 w : World) (hB : Below w0.heap.size w0 w) (ho0 : Kd.R (Kd.int .i64) 3 w w0.heap.size P0_ u9000_ l0) (h : slices_Clip_int_int.f l0 = some r) :
  Calls Try.prog 106 #[u9000_] w fun e w' => ∃ v0_ : Value, e = .returned (v0_) ∧ Kd.R (Kd.int .i64) 3 w' w0.heap.size (fun k_ => (P0_ k_ ∨ w.heap.size ≤ k_)) v0_ r ∧ Below w0.heap.size w0 w' ∧ Kept w w' (fun k_ => P0_ k_) := by
 obtain rfl := Option.some.inj h;obtain ⟨A, c, rfl, hc⟩ := ho0.2.slice_;have HO:=zM ho0;have HB:=zM hB;clear ho0 hB h;go_enter Try.func106, Try.ntmps106;go_wp2;go_ret;exact ⟨_, rfl, Kd.R_clip (Kd.R_mono HO.out (fun _ h => .inl h)), HB.out, Kept.refl _ _⟩
set_option maxHeartbeats 8000000 in
theorem slices_Clip_int_int.plain (A0 : Option Addr) (n0 c0 : Nat) (w : World) (hc0 : n0 ≤ c0) :
  Calls Try.prog 106 #[.slice A0 n0 c0] w fun e w' => e = .returned (.slice A0 n0 n0) ∧ w' = w := by
 go_enter Try.func106, Try.ntmps106;go_wp2;go_ret;exact ⟨rfl, rfl⟩

/-! ### impl_flatOrder: function 114 -/
mutual
def impl_flatOrder.l0 : Nat → List Int → Int → List Int → List Int → List Int → Int → Int → Option (List Int)
 | 0, _, _, _, _, _, _, _ => none
 | k + 1, x0, x1, x5, x6, x12, x13, x14 => if x14 < x13 then (if 0 ≤ x14 then (if x14 < (x12.length : Int) then (if (rd x12 x14) = x1 then (impl_flatOrder.j1 k x0 x1 x5 x6 x14 (rd x12 x14) x12 x13 x14 (decide ((wrap64 (x14 + 1)) < x1))) else (impl_flatOrder.j1 k x0 x1 x5 x6 x14 (rd x12 x14) x12 x13 x14 false)) else (none)) else (none)) else (if x5.length + x6.length < 17592186044416 then (some (x5 ++ x6)) else (none))
def impl_flatOrder.j1 : Nat → List Int → Int → List Int → List Int → Int → Int → List Int → Int → Int → Bool → Option (List Int)
 | 0, _, _, _, _, _, _, _, _, _, _ => none
 | k + 1, x0, x1, x5, x6, x7, x8, x12, x13, x14, x19 => if x19 = true then ((impl_flatOrder.f k x0 (wrap64 (x7 + 1))).bind fun t157 => (if x5.length + t157.length < 17592186044416 then (impl_flatOrder.l0 k x0 x1 (x5 ++ t157) x6 x12 x13 (wrap64 (x14 + 1))) else (none))) else (if x8 = x1 then ((impl_flatOrder.f k x0 (wrap64 (x7 + 1))).bind fun t163 => (if x6.length + t163.length < 17592186044416 then (impl_flatOrder.l0 k x0 x1 x5 (x6 ++ t163) x12 x13 (wrap64 (x14 + 1))) else (none))) else (impl_flatOrder.l0 k x0 x1 x5 x6 x12 x13 (wrap64 (x14 + 1))))
def impl_flatOrder.f : Nat → List Int → Int → Option (List Int)
 | 0, _, _ => none
 | k + 1, l0, a1 => impl_flatOrder.l0 k l0 a1 (([] : List Int)) (([a1] : List Int)) l0 (l0.length : Int) 0
end
theorem impl_flatOrder.mono_l : ∀ k, (∀ y0 y1, LeO (impl_flatOrder.f k y0 y1) (impl_flatOrder.f (k + 1) y0 y1)) ∧ (∀ y0 y1 y2 y3 y4 y5 y6, LeO (impl_flatOrder.l0 k y0 y1 y2 y3 y4 y5 y6) (impl_flatOrder.l0 (k + 1) y0 y1 y2 y3 y4 y5 y6)) ∧ (∀ y0 y1 y2 y3 y4 y5 y6 y7 y8 y9, LeO (impl_flatOrder.j1 k y0 y1 y2 y3 y4 y5 y6 y7 y8 y9) (impl_flatOrder.j1 (k + 1) y0 y1 y2 y3 y4 y5 y6 y7 y8 y9))
 | 0 => ⟨fun _ _ r h => by simp [impl_flatOrder.f] at h, fun _ _ _ _ _ _ _ r h => by simp [impl_flatOrder.l0] at h, fun _ _ _ _ _ _ _ _ _ _ r h => by simp [impl_flatOrder.j1] at h⟩
 | k + 1 => by
  obtain ⟨ih0, ih1, ih2⟩ := impl_flatOrder.mono_l k
  refine ⟨?_, ?_, ?_⟩
  ·intro y0 y1
   unfold impl_flatOrder.f
   exact zmono
  ·intro y0 y1 y2 y3 y4 y5 y6
   unfold impl_flatOrder.l0
   exact zmono
  ·intro y0 y1 y2 y3 y4 y5 y6 y7 y8 y9
   unfold impl_flatOrder.j1
   exact zmono
theorem impl_flatOrder.mono : ∀ a0 a1 k, LeO (impl_flatOrder.f k a0 a1) (impl_flatOrder.f (k + 1) a0 a1) := by
 intro a0 a1 k;obtain ⟨ih0, ih1, ih2⟩ := impl_flatOrder.mono_l k;exact ih0 a0 a1
set_option maxHeartbeats 8000000 in
set_option maxRecDepth 100000 in
theorem impl_flatOrder.calls (k : Nat) : ∀ (A0 : Option Addr) (c0 : Nat) (l0 : List Int) (a1 : Int) (r : List Int) (w : World) (hr0 : Kd.C (Kd.int .i64) w A0 l0.length l0) (hc0 : l0.length ≤ c0) (h : impl_flatOrder.f k l0 a1 = some r),
  Calls Try.prog 114 #[.slice A0 l0.length c0, .int .i64 a1] w fun e w' => ∃ v0_ : Value, e = .returned (v0_) ∧ Kd.R (Kd.int .i64) 3 w' w.heap.size (fun _ => True) v0_ r ∧ Below w.heap.size w w' := by
 induction k using Nat.strongRecOn with
 | _ k ih =>
 intro A0 c0 l0 a1 r w hr0 hc0 h;cases k with
 | zero => exact absurd h (by simp [impl_flatOrder.f])
 | succ k =>
 simp only [impl_flatOrder.f] at h;have HR0:=zM hr0;have HC0:=zM hc0;clear hr0 hc0;have HB:=zM (Below.refl w.heap.size w);have H : (impl_flatOrder.l0 k l0 a1 (([] : List Int)) (([a1] : List Int)) l0 (l0.length : Int) 0) = some r := h;clear h;obtain ⟨y147, hy147⟩ : ∃ y_ : List Int, y_ = (([] : List Int)) := ⟨_, rfl⟩;(replace H : (impl_flatOrder.l0 k l0 a1 y147 (([a1] : List Int)) l0 (l0.length : Int) 0) = some r := by first | (rw [hy147]; with_reducible exact H) | (have H2_ := (Option.bind_some _ _).symm.trans H; rw [hy147]; with_reducible exact H2_) | (have H2_ := (Option.bind_some _ _).symm.trans H; with_reducible exact H2_) | with_reducible exact H | (rw [hy147]; exact H) | exact H);have Ny147:=zM hy147;clear hy147;obtain ⟨y150, hy150⟩ : ∃ y_ : List Int, y_ = (([a1] : List Int)) := ⟨_, rfl⟩;(replace H : (impl_flatOrder.l0 k l0 a1 y147 y150 l0 (l0.length : Int) 0) = some r := by first | (rw [hy150]; with_reducible exact H) | (have H2_ := (Option.bind_some _ _).symm.trans H; rw [hy150]; with_reducible exact H2_) | (have H2_ := (Option.bind_some _ _).symm.trans H; with_reducible exact H2_) | with_reducible exact H | (rw [hy150]; exact H) | exact H);have Ny150:=zM hy150;clear hy150;have H':=zM H;clear H;go_enter Try.func114, Try.ntmps114;go_wp2_with (first | ((with_reducible refine gate_dst (N := 9) rfl ?_); refine Kd.R_lit (Kd.int .i64) _ 3 zs4 (N := 9) zs4 (xs := ([] : List Int)) (inner := []) (ok := fun _ => True) (okp := fun _ => True) zs5 ?hp (fun _ hk => hk) trivial (Below.refl _ _) (Nat.le_refl _) (by simp) ?_; (case hp => exact (Reps.none _ _)); intro v148 w3 ho4 hb hg_ hnew_; clear hg_ hnew_; (first | rw [← Ny147.out] at ho4 | (simp only [Int.reduceToNat] at ho4; rw [← Ny147.out] at ho4)); have HO149:=zM (Kd.R_lower ho4 (below_size (zs6 HB))); replace HB:=zM (below_step (zs6 HB) hb); clear hb ho4) | ((with_reducible refine gate_dst (N := 11) rfl ?_); refine Kd.R_lit (Kd.int .i64) _ 3 zs4 (N := 11) zs4 (xs := ([a1] : List Int)) (inner := [.int .i64 a1]) (ok := fun _ => True) (okp := fun _ => True) zs5 ?hp (fun _ hk => hk) trivial (Below.refl _ _) (Nat.le_refl _) (by simp) ?_; (case hp => exact (zri _ fun _ => rfl)); intro v151 w5 ho6 hb hg_ hnew_; clear hg_ hnew_; (first | rw [← Ny150.out] at ho6 | (simp only [Int.reduceToNat] at ho6; rw [← Ny150.out] at ho6)); have HO152:=zM (Kd.R_lower (Kd.R_new' ho6 (Kd.R_lt (zs8 HO149))) (below_size (zs6 HB))); replace HO149:=zM (Kd.R_elder' (zs8 HO149) (Kd.R_base ho6) hb); replace HB:=zM (below_step (zs6 HB) hb); clear hb ho6));go_loopg [5, 6, 14] k (fun kq v5 v6 v14 w' => ∃ (x5_1 : List Int) (x6_1 : List Int) (x14_1 : Int), v14 = .int .i64 x14_1 ∧ Aside0 (impl_flatOrder.l0 kq l0 a1 x5_1 x6_1 l0 (l0.length : Int) x14_1 = some r) ∧ Aside0 (kq ≤ k) ∧ Aside0 (Kd.R (Kd.int .i64) 3 w' w.heap.size (fun k_ => some k_ ≠ (v6 : Value).ownBlock) v5 x5_1) ∧ Aside0 (Kd.R (Kd.int .i64) 3 w' w.heap.size (fun k_ => some k_ ≠ (v5 : Value).ownBlock) v6 x6_1) ∧ Aside0 (Below w.heap.size w w'))
 case atStart => exact ⟨(y147), (y150), (0), zs0, H', ⟨Nat.le_refl _⟩, ⟨(zs11 HO149)⟩, ⟨(zs11 HO152)⟩, ⟨(zs6 HB)⟩⟩
 case round =>
  clear H';obtain ⟨x5_1, x6_1, x14_1, rfl, HA, HK1, HO_5, HO_6, HB⟩ := hrel;cases gk with
  | zero => exact absurd HA.out (by simp [impl_flatOrder.l0])
  | succ k1 =>
   have H := HA.out;clear HA;simp only [impl_flatOrder.l0] at H;by_cases c7 : x14_1 < (l0.length : Int)
   ·rw [if_pos c7] at H;have c7b0 := decide_eq_true c7;clear c7;replace H := zn H; obtain ⟨c8, H⟩ := H;have c8b0 := decide_eq_true c8;clear c8;replace H := zn H; obtain ⟨c9, H⟩ := H;have c9b0 := decide_eq_true c9;clear c9;have HC10:=zM H;clear H;have p156 : 0 ≤ (x14_1 : Int) := of_decide_eq_true zs1;have q156 : x14_1 < (l0.length : Int) := of_decide_eq_true zs1;obtain ⟨ad156, e156, hx156_0⟩ := Kd.at_int HR0.out x14_1 p156 q156;cases e156;replace hx156_0 := (HB.out.cell (World.block_lt_of_cell? w _ hx156_0)).trans hx156_0;replace p156 := eq_true p156;replace q156 := eq_true q156;go_upto_region 5 with (fail);go_cut [19] (fun v19 wc => ∃ (kq : Nat) (x19_9 : Bool), v19 = .bool x19_9 ∧ Aside0 (impl_flatOrder.j1 kq l0 a1 x5_1 x6_1 x14_1 (rd l0 x14_1) l0 (l0.length : Int) x14_1 x19_9 = some r) ∧ Aside0 (kq ≤ k1) ∧ Aside0 (Kd.R (Kd.int .i64) 3 wc w.heap.size (fun k_ => some k_ ≠ (u6 : Value).ownBlock) u5 x5_1) ∧ Aside0 (Kd.R (Kd.int .i64) 3 wc w.heap.size (fun k_ => some k_ ≠ (u5 : Value).ownBlock) u6 x6_1) ∧ Aside0 (Below w.heap.size w wc))
    case first =>
     have H := HC10.out;clear HC10;by_cases c11 : (rd l0 x14_1) = a1
     ·rw [if_pos c11] at H;have c11b0 := beq_iff_eq.mpr c11;have c11b1 := bne_eq_false_iff_eq.mpr c11;clear c11;(first | rw [c11b0] | (simp only [i64_w, i32_w]; rw [c11b0]) | skip);have H':=zM H;clear H;go_wp2;go_meet
      case rel => exact ⟨_, (decide ((wrap64 (x14_1 + 1)) < a1)), zs0, H', ⟨by have := HK1.out; first | omega | exact Nat.le_refl _⟩, ⟨(zs8 HO_5)⟩, ⟨(zs8 HO_6)⟩, ⟨(zs6 HB)⟩⟩
     ·rw [if_neg c11] at H;have c11b0 := beq_eq_false_iff_ne.mpr c11;have c11b1 := bne_iff_ne.mpr c11;(first | rw [c11b0] | (simp only [i64_w, i32_w]; rw [c11b0]) | skip);have H':=zM H;clear H;go_wp2;go_meet
      case rel => exact ⟨_, (false), zs0, H', ⟨by have := HK1.out; first | omega | exact Nat.le_refl _⟩, ⟨(zs8 HO_5)⟩, ⟨(zs8 HO_6)⟩, ⟨(zs6 HB)⟩⟩
    case rest =>
     clear HC10;obtain ⟨kq, x19_9, rfl, HA, HJ9, HO_5, HO_6, HB⟩ := hcut;cases kq with
     | zero => exact absurd HA.out (by simp [impl_flatOrder.j1])
     | succ kj9 =>
      have H := HA.out;clear HA;simp only [impl_flatOrder.j1] at H;by_cases c12 : x19_9 = true
      ·subst c12;(have H1 : ((impl_flatOrder.f kj9 l0 (wrap64 (x14_1 + 1))).bind fun t157 => (if x5_1.length + t157.length < 17592186044416 then (impl_flatOrder.l0 kj9 l0 a1 (x5_1 ++ t157) x6_1 l0 (l0.length : Int) (wrap64 (x14_1 + 1))) else (none))) = some r := by rw [if_pos rfl] at H; exact H);clear H;have H := H1;clear H1;replace H := zb H; obtain ⟨t157, A13, H⟩ := H; (try dsimp only at H);replace H := zn H; obtain ⟨c14, H⟩ := H;have LMc14:=zM c14;clear c14;obtain ⟨y160, hy160⟩ : ∃ y_ : List Int, y_ = (x5_1 ++ t157) := ⟨_, rfl⟩; rw [← hy160] at H; have Ny160:=zM hy160; clear hy160;have H':=zM H;clear H;go_wp2_with (first | (refine zg 114 (some 33) Try.func114 #[.slice (some ad156) l0.length c0, .int .i64 (wrap64 (x14_1 + 1))] ?_; (with_reducible refine (ih kj9 (by have := HK1.out; have := HJ9.out; omega) _ _ l0 (wrap64 (x14_1 + 1)) t157 _ ?side1 ?side2 A13.out).mono ?_); (case side1 => exact (zs10 HR0 HB)); (case side2 => exact HC0.out); rintro e w15 ⟨v158, rfl, ho0, hb⟩; refine ⟨_, rfl, ?_⟩; have HO159:=zM (Kd.R_lower (Kd.R_new' (Kd.R_new' ho0 (Kd.R_lt (zs8 HO_5))) (Kd.R_lt (zs8 HO_6))) (below_size (zs6 HB))); replace HO_5:=zM (Kd.R_elder' (zs8 HO_5) (Kd.R_base ho0) hb); replace HO_6:=zM (Kd.R_elder' (zs8 HO_6) (Kd.R_base ho0) hb); replace HB:=zM (below_step (zs6 HB) hb); clear hb ho0; obtain ⟨Ao17, co17, eo17⟩ := Kd.R_slice HO159.out; subst eo17) | ((with_reducible refine gate_builtin (b := .append) (xs := #[.tmp 29, .tmp 33]) rfl ?_); at_builtin; refine Kd.R_append_rows (Kd.int .i64) (w0 := w) w.heap.size rfl (.tmp 29) (.tmp 33) 22 3 (.int .i64 0) 8 rfl Try.underlying22 info3 rfl zd zo_ u5 x5_1 t157 _ _ _ (fun k_ => some k_ ≠ (u6 : Value).ownBlock ∧ some k_ ≠ (.slice Ao17 t157.length co17 : Value).ownBlock) (fun _ => False) rfl rfl ?aO ?aR (fun _ _ h => h) (fun _ h => h.elim) ?aF ?aB ?aS ?aL ?_; (case aR => repeat (first | exact (Kd.R_reads' HO159.out).2.2 | (with_reducible refine Kd.C_alloc ?_ _) | (with_reducible refine Kd.C_drewN ?_ _) | (with_reducible refine Kd.C_drew ?_))); (case aB => exact (zs6 HB)); (case aF => exact (fun k_ hk => ⟨Kd.fresh' (Kd.R_lt (zs8 HO_6)) k_ hk, Kd.fresh' (Kd.R_lt (zs8 HO159)) k_ hk⟩)); (case aO => exact (zs8 HO_5)); (case aS => exact (below_size (zs6 HB))); (case aL => have := LMc14.out; omega); intro v161 w16 ho hb hg hat; rw [← Ny160.out] at ho; replace HO_6:=zM (Kd.R_after (ok := (fun k_ => some k_ ≠ (.slice Ao17 t157.length co17 : Value).ownBlock)) ((zs15 HO_6)) hg hat); replace HO159:=zM (Kd.R_after (ok := (fun k_ => some k_ ≠ (u6 : Value).ownBlock)) ((by (with_reducible repeat (first | apply Kd.R_alloc | apply Kd.R_drewN | apply Kd.R_drew)); exact Kd.R_mono HO159.out (fun _ hk => ⟨hk.2, hk.1.2⟩))) hg hat); replace HB:=zM (hb); have HO162:=zM (ho); clear HO_5; clear ho hb hg hat));go_roundg kj9
       case measure => have := HK1.out; have := HJ9.out; omega
       case rel => exact ⟨(y160), (x6_1), (wrap64 (x14_1 + 1)), zs0, H', ⟨by have := HK1.out; have := HJ9.out; omega⟩, ⟨(zs16 HO162)⟩, ⟨(zs11 HO_6)⟩, ⟨(zs6 HB)⟩⟩
      ·replace c12 := Bool.eq_false_iff.mpr c12;subst c12;(have H1 : (if (rd l0 x14_1) = a1 then ((impl_flatOrder.f kj9 l0 (wrap64 (x14_1 + 1))).bind fun t163 => (if x6_1.length + t163.length < 17592186044416 then (impl_flatOrder.l0 kj9 l0 a1 x5_1 (x6_1 ++ t163) l0 (l0.length : Int) (wrap64 (x14_1 + 1))) else (none))) else (impl_flatOrder.l0 kj9 l0 a1 x5_1 x6_1 l0 (l0.length : Int) (wrap64 (x14_1 + 1)))) = some r := by rw [if_neg (show ¬ (false = true) by decide)] at H; exact H);clear H;have H := H1;clear H1;by_cases c18 : (rd l0 x14_1) = a1
       ·rw [if_pos c18] at H;have c18b0 := beq_iff_eq.mpr c18;have c18b1 := bne_eq_false_iff_eq.mpr c18;clear c18;replace H := zb H; obtain ⟨t163, A19, H⟩ := H; (try dsimp only at H);replace H := zn H; obtain ⟨c20, H⟩ := H;have LMc20:=zM c20;clear c20;obtain ⟨y166, hy166⟩ : ∃ y_ : List Int, y_ = (x6_1 ++ t163) := ⟨_, rfl⟩; rw [← hy166] at H; have Ny166:=zM hy166; clear hy166;have H':=zM H;clear H;go_wp2_with (first | (refine zg 114 (some 43) Try.func114 #[.slice (some ad156) l0.length c0, .int .i64 (wrap64 (x14_1 + 1))] ?_; (with_reducible refine (ih kj9 (by have := HK1.out; have := HJ9.out; omega) _ _ l0 (wrap64 (x14_1 + 1)) t163 _ ?side1 ?side2 A19.out).mono ?_); (case side1 => exact (zs10 HR0 HB)); (case side2 => exact HC0.out); rintro e w21 ⟨v164, rfl, ho0, hb⟩; refine ⟨_, rfl, ?_⟩; have HO165:=zM (Kd.R_lower (Kd.R_new' (Kd.R_new' ho0 (Kd.R_lt (zs8 HO_5))) (Kd.R_lt (zs8 HO_6))) (below_size (zs6 HB))); replace HO_5:=zM (Kd.R_elder' (zs8 HO_5) (Kd.R_base ho0) hb); replace HO_6:=zM (Kd.R_elder' (zs8 HO_6) (Kd.R_base ho0) hb); replace HB:=zM (below_step (zs6 HB) hb); clear hb ho0; obtain ⟨Ao23, co23, eo23⟩ := Kd.R_slice HO165.out; subst eo23) | ((with_reducible refine gate_builtin (b := .append) (xs := #[.tmp 39, .tmp 43]) rfl ?_); at_builtin; refine Kd.R_append_rows (Kd.int .i64) (w0 := w) w.heap.size rfl (.tmp 39) (.tmp 43) 22 3 (.int .i64 0) 8 rfl Try.underlying22 info3 rfl zd zo_ u6 x6_1 t163 _ _ _ (fun k_ => some k_ ≠ (u5 : Value).ownBlock ∧ some k_ ≠ (.slice Ao23 t163.length co23 : Value).ownBlock) (fun _ => False) rfl rfl ?aO ?aR (fun _ _ h => h) (fun _ h => h.elim) ?aF ?aB ?aS ?aL ?_; (case aR => repeat (first | exact (Kd.R_reads' HO165.out).2.2 | (with_reducible refine Kd.C_alloc ?_ _) | (with_reducible refine Kd.C_drewN ?_ _) | (with_reducible refine Kd.C_drew ?_))); (case aB => exact (zs6 HB)); (case aF => exact (fun k_ hk => ⟨Kd.fresh' (Kd.R_lt (zs8 HO_5)) k_ hk, Kd.fresh' (Kd.R_lt (zs8 HO165)) k_ hk⟩)); (case aO => exact (zs8 HO_6)); (case aS => exact (below_size (zs6 HB))); (case aL => have := LMc20.out; omega); intro v167 w22 ho hb hg hat; rw [← Ny166.out] at ho; replace HO_5:=zM (Kd.R_after (ok := (fun k_ => some k_ ≠ (.slice Ao23 t163.length co23 : Value).ownBlock)) ((zs15 HO_5)) hg hat); replace HO165:=zM (Kd.R_after (ok := (fun k_ => some k_ ≠ (u5 : Value).ownBlock)) ((zs17 HO165)) hg hat); replace HB:=zM (hb); have HO168:=zM (ho); clear HO_6; clear ho hb hg hat));go_roundg kj9
        case measure => have := HK1.out; have := HJ9.out; omega
        case rel => exact ⟨(x5_1), (y166), (wrap64 (x14_1 + 1)), zs0, H', ⟨by have := HK1.out; have := HJ9.out; omega⟩, ⟨(zs11 HO_5)⟩, ⟨(zs16 HO168)⟩, ⟨(zs6 HB)⟩⟩
       ·rw [if_neg c18] at H;have c18b0 := beq_eq_false_iff_ne.mpr c18;have c18b1 := bne_iff_ne.mpr c18;have H':=zM H;clear H;go_wp2;go_roundg kj9
        case measure => have := HK1.out; have := HJ9.out; omega
        case rel => exact ⟨(x5_1), (x6_1), (wrap64 (x14_1 + 1)), zs0, H', ⟨by have := HK1.out; have := HJ9.out; omega⟩, ⟨(zs8 HO_5)⟩, ⟨(zs8 HO_6)⟩, ⟨(zs6 HB)⟩⟩
   ·rw [if_neg c7] at H;have c7b0 := decide_eq_false c7;clear c7;replace H := zn H; obtain ⟨c24, H⟩ := H;have LMc24:=zM c24;clear c24;obtain ⟨y153, hy153⟩ : ∃ y_ : List Int, y_ = (x5_1 ++ x6_1) := ⟨_, rfl⟩; rw [← hy153] at H; have Ny153:=zM hy153; clear hy153;obtain rfl := Option.some.inj H;obtain ⟨Ao26, co26, eo26⟩ := Kd.R_slice HO_6.out;subst eo26;go_wp2_with (first | ((with_reducible refine gate_builtin (b := .append) (xs := #[.tmp 46, .tmp 47]) rfl ?_); at_builtin; refine Kd.R_append_rows (Kd.int .i64) (w0 := w) w.heap.size rfl (.tmp 46) (.tmp 47) 22 3 (.int .i64 0) 8 rfl Try.underlying22 info3 rfl zd zo_ u5 x5_1 x6_1 _ _ _ (fun k_ => some k_ ≠ (.slice Ao26 x6_1.length co26 : Value).ownBlock) (fun _ => False) rfl rfl ?aO ?aR (fun _ _ h => h) (fun _ h => h.elim) ?aF ?aB ?aS ?aL ?_; (case aR => repeat (first | exact (Kd.R_reads' HO_6.out).2.2 | (with_reducible refine Kd.C_alloc ?_ _) | (with_reducible refine Kd.C_drewN ?_ _) | (with_reducible refine Kd.C_drew ?_))); (case aB => exact (zs6 HB)); (case aF => exact (fun k_ hk => Kd.fresh' (Kd.R_lt (zs8 HO_6)) k_ hk)); (case aO => exact (zs8 HO_5)); (case aS => exact (below_size (zs6 HB))); (case aL => have := LMc24.out; omega); intro v154 w25 ho hb hg hat; rw [← Ny153.out] at ho; replace HO_6:=zM (Kd.R_after (ok := (fun _ => True)) ((zs12 HO_6)) hg hat); replace HB:=zM (hb); have HO155:=zM (ho); clear HO_5; clear ho hb hg hat));go_ret;exact ⟨_, zs9, (zs13 HO155), (zs6 HB)⟩
end Go.Proofs.Ytbbhdgpiocojaaa.LH
