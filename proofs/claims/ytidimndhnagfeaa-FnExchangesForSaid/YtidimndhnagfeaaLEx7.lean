/- Printed by a program of this session (wip/lp/lp.py) out of the translation: functions with the same answers as the Go code, and their contracts; no conditions beyond those that each theorem names. -/
import Derived.Test.YtidimndhnagfeaaLEx0
import Derived.Test.YtidimndhnagfeaaLEx6
namespace Go.Proofs.Ytidimndhnagfeaa.LE
open Go.RowKit Go.Proofs.YtidimndhnagfeaaV.PrintWords Go.Proofs.YtidimndhnagfeaaV.PrintLast Go.Proofs.YtidimndhnagfeaaV.PrintMore
attribute [local go_sem] max2_int min2_int max_two min_two max_three min_three max_four min_four   -- for this text's walks alone
set_option linter.unusedVariables false
set_option linter.unusedSimpArgs false

/-! ### slices_Sort_int_int: function 150 -/
def slices_Sort_int_int.f (k : Nat) (l0 : List Int) : Option (List Int) := (bits_Len.f (IntKind.u64.wrap ((l0.length : Int)))).bind fun t319 => ((slices_pdqsortOrdered_int.f k l0 0 (l0.length : Int) t319).bind fun t320 => (some t320))
theorem slices_Sort_int_int.mono : ∀ a0 k, LeO (slices_Sort_int_int.f k a0) (slices_Sort_int_int.f (k + 1) a0) := by
  intro a0 k
  unfold slices_Sort_int_int.f
  repeat' first
      | (with_reducible exact slices_pdqsortOrdered_int.mono _ _ _ _ _)
      | (with_reducible exact LeO.refl _)
      | (with_reducible exact LeO.none _)
      | (with_reducible refine LeO.ite ?_ ?_)
      | (with_reducible refine LeO.bind ?_ (fun _ => ?_))
      | exact slices_pdqsortOrdered_int.mono _ _ _ _ _
      | exact LeO.none _
      | refine LeO.ite ?_ ?_
      | refine LeO.bind ?_ (fun _ => ?_)
set_option maxHeartbeats 8000000 in
set_option maxRecDepth 100000 in
theorem slices_Sort_int_int.calls (k : Nat) (P0_ : Nat → Prop) (u9000_ : Value) (l0 : List Int) (r : List Int) (w0 w : World) (hB : Below w0.heap.size w0 w) (ho0 : Kd.R (Kd.int .i64) 3 w w0.heap.size P0_ u9000_ l0) (h : slices_Sort_int_int.f k l0 = some r) :
    Calls Try.prog 150 #[u9000_] w fun e w' => e = .returned (.tuple #[]) ∧ Kd.R (Kd.int .i64) 3 w' w0.heap.size (fun k_ => (P0_ k_ ∨ w.heap.size ≤ k_)) u9000_ r ∧ Below w0.heap.size w0 w' ∧ Kept w w' (fun k_ => P0_ k_) := by
  have HO0 := Aside0.mk (show Kd.R (Kd.int .i64) 3 w w0.heap.size (fun k_ => (P0_ k_ ∨ w.heap.size ≤ k_)) u9000_ l0 from Kd.R_mono ho0 (fun k_ hk => (.inl hk)))
  have HK := Aside0.mk (Kept.refl w (fun k_ => P0_ k_))
  have HW0 := Aside0.mk hB.size
  have HB := Aside0.mk hB
  clear hB
  have H : ((bits_Len.f (IntKind.u64.wrap ((l0.length : Int)))).bind fun t319 => ((slices_pdqsortOrdered_int.f k l0 0 (l0.length : Int) t319).bind fun t320 => (some t320))) = some r := h
  clear h
  replace H := Option.bind_eq_some_iff.mp H
  obtain ⟨t319, A20, H⟩ := H
  replace H : ((slices_pdqsortOrdered_int.f k l0 0 (l0.length : Int) t319).bind fun t320 => (some t320)) = some r := H
  have A2 := Aside0.mk A20
  clear A20
  replace H := Option.bind_eq_some_iff.mp H
  obtain ⟨t320, A30, H⟩ := H
  replace H : (some t320) = some r := H
  have A3 := Aside0.mk A30
  clear A30
  obtain rfl := Option.some.inj H
  obtain ⟨Ao4, co4, eo4⟩ := Kd.R_slice HO0.out
  subst eo4
  go_enter Try.func150, Try.ntmps150
  go_wp2_with (first | ((with_reducible refine gate_callee (f := 154) rfl ?_); refine goesL_ (some 9) rfl rfl Try.func154 (by kernel_rfl) rfl #[.int .u64 (IntKind.u64.wrap ((l0.length : Int)))] rfl (by (try simp only [List.map_toArray, List.map_cons, List.map_nil]); first | done | rfl | (simp only [List.length_drop, List.length_take]; rfl)) ?_; (with_reducible refine (bits_Len.calls (IntKind.u64.wrap ((l0.length : Int))) t319 _ A2.out).mono ?_); rintro e w' ⟨rfl, ⟨nd, rfl⟩⟩; refine ⟨_, rfl, ?_⟩) | ((with_reducible refine gate_callee (f := 153) rfl ?_); refine goesL_ (some 10) rfl rfl Try.func153 (by kernel_rfl) rfl #[.slice Ao4 l0.length co4, .int .i64 0, .int .i64 (l0.length : Int), .int .i64 t319] rfl (by (try simp only [List.map_toArray, List.map_cons, List.map_nil]); first | done | rfl | (simp only [List.length_drop, List.length_take]; rfl)) ?_; (with_reducible refine (slices_pdqsortOrdered_int.calls k (fun k_ => some k_ = (.slice Ao4 l0.length co4 : Value).ownBlock) (.slice Ao4 l0.length co4) l0 0 (l0.length : Int) t319 t320 w0 _ ?side1 ?side2 A3.out).mono ?_); (case side1 => repeat (first | (with_reducible first | exact HB.out | apply below_alloc | apply pw_below_drewN | apply below_drew1) | exact HB.out)); (case side2 => exact Kd.R_tight rfl HO0.out); rintro e w5 ⟨rfl, hy0, hb, hkp⟩; refine ⟨_, rfl, ?_⟩; have n0_ := Aside0.mk (Kd.R_reok rfl hy0 (fun k_ e_ => HO0.out.1 k_ e_)); have n1_ := Aside0.mk (Kept.then_ (S := (fun k_ => P0_ k_)) (by repeat (first | (with_reducible first | exact HK.out | apply Kept.alloc | apply Kept.drewN | apply Kept.drew) | exact HK.out)) hkp (fun k_ hs_ => (fun e_ => (HO0.out.1 k_ e_.symm)) hs_)); have n2_ := Aside0.mk (hb); clear HO0; clear HK; clear HB; have HO0 := n0_; have HK := n1_; have HB := n2_; clear n0_ n1_ n2_; (try clear hb); (try clear hkp); (try clear hy0)))
  first | go_end0 | ((try simp only [Exit.inBlock, Exit.then]); refine bodyPost_ret (results_none rfl _ _ _) rfl ?_)
  exact ⟨by first | rfl | (simp [errW_none, errW_some] <;> rfl) | (simp [*, errW_none, errW_some] <;> rfl), by (with_reducible repeat (first | apply Kd.R_alloc | apply Kd.R_drewN | apply Kd.R_drew)); exact HO0.out, by repeat (first | (with_reducible first | exact HB.out | apply below_alloc | apply pw_below_drewN | apply below_drew1) | exact HB.out), by repeat (first | (with_reducible first | exact HK.out | apply Kept.alloc | apply Kept.drewN | apply Kept.drew) | exact HK.out)⟩

/-! ### impl_OrderOk: function 89, told by hand -/
def impl_OrderOk.ren : Go.Shelf.Ren := { f := fun x => if x = 11 then 152 else 0, t := fun x => if x = 0 then 0 else if x = 24 then 23 else if x = 26 then 3 else if x = 28 then 114 else if x = 33 then 96 else 0, g := fun x => x }
theorem impl_OrderOk.lays : SlLaysZI.n11 Try.prog impl_OrderOk.ren := {
  mixed := by kernel_rfl
  f11 := ⟨Try.f152.name, by decide, by kernel_rfl⟩
  t0 := by kernel_rfl
  a0 := fun _ => by kernel_rfl
  z0 := fun _ => by kernel_rfl
  v0 := fun _ => by kernel_rfl
  t24 := by kernel_rfl
  a24 := fun _ => by kernel_rfl
  z24 := fun _ => by kernel_rfl
  v24 := fun _ => by kernel_rfl
  t26 := by kernel_rfl
  a26 := fun _ => by kernel_rfl
  z26 := fun _ => by kernel_rfl
  v26 := fun _ => by kernel_rfl
  t28 := by kernel_rfl
  a28 := fun _ => by kernel_rfl
  z28 := fun _ => by kernel_rfl
  v28 := fun _ => by kernel_rfl
  i26 := by kernel_rfl }
set_option maxRecDepth 100000 in
set_option maxHeartbeats 1000000 in
theorem impl_OrderOk.values (l0 : List Int) (w0 : World) (fn : FuncId) (sv : Value) (Bs l D : Nat) (hBl : Bs ≠ l) (hDl : D ≠ l) (hDB : D ≠ Bs) (h0B : w0.heap.size ≤ Bs) (h0l : w0.heap.size ≤ l) (hlen : l0.length ≤ 1000) (A0 : Option Addr) (c0 : Nat) (hc0 : l0.length ≤ c0)
    (hr0 : Kd.C (Kd.int .i64) w0 A0 l0.length l0) (Bm : Nat) (hm : w0.cell? ⟨Bm, 0, none⟩ = some (.slice A0 l0.length c0)) (n : Nat) (hn : 1 ≤ n) (W : World) (h : AnyZI.ApAt impl_OrderOk.ren w0 fn sv Bs l D [] W) :
    CallsIn Fence.wide n Try.prog 151 #[.func (.yield l) #[] #[], .pointer (some ⟨Bm, 0, none⟩)] W fun e W' => (∃ v, e = .returned v) ∧ AnyZI.ApAt impl_OrderOk.ren w0 fn sv Bs l D l0 W' := by
  have hY : ∀ (k : Nat) (W1 : World), k < l0.length → AnyZI.ApAt impl_OrderOk.ren w0 fn sv Bs l D (l0.take k) W1 → YieldAt Fence.wide (n - 1) Try.prog l #[.int .i64 (rd l0 k)] W1 fun e W' => e = .returned (.bool true) ∧ AnyZI.ApAt impl_OrderOk.ren w0 fn sv Bs l D (l0.take k ++ [rd l0 k]) W' ∧ KeepsWalks W1 W' :=
    fun k W1 hk hJ => AnyZI.apYield impl_OrderOk.lays Fence.wide (n - 1) w0 fn trivial sv Bs l D hBl hDl hDB h0B h0l 2000 (by decide) (by decide) (l0.take k) (rd l0 k) W1 hJ (by rw [List.length_take]; omega)
  have hsnoc : ∀ k : Nat, k < l0.length → l0.take k ++ [rd l0 k] = l0.take (k + 1) := fun k hk => by
    rw [List.take_succ_eq_append_getElem hk]
    simp [rd, hk]
  have HR := Aside0.mk hr0
  have HM := Aside0.mk hm
  clear hr0 hm
  have hcW : W.cell? ⟨Bm, 0, none⟩ = some (.slice A0 l0.length c0) := (h.below.cell (World.block_lt_of_cell? w0 _ HM.out)).trans HM.out
  refine callsIn_of_wp Try.func151 rfl trivial ?_ rfl
  simp only [Try.ntmps151, List.size_toArray, List.length_cons, List.length_nil, Nat.reduceAdd, Nat.reduceSub, Array.replicate_succ, Array.replicate_zero, List.push_toArray, List.append_toArray, List.nil_append, List.cons_append]
  gi_wp2
  gi_loopw [7] (fun i wr => ∃ k : Nat, k ≤ l0.length ∧ i = .int .i64 k ∧ Aside0 (AnyZI.ApAt impl_OrderOk.ren w0 fn sv Bs l D (l0.take k) wr)) (fun i _ => l0.length - (Go.RowKit.intOf i).toNat)
  case atStart => exact ⟨0, Nat.zero_le _, rfl, ⟨by rw [List.take_zero]; exact h⟩⟩
  case round =>
    obtain ⟨k, hk, rfl, hJ⟩ := hrel
    by_cases hlt : k < l0.length
    · obtain ⟨ad, e1, hx⟩ := Kd.at_int HR.out (k : Int) (by omega) (by omega)
      cases e1
      have hx2 : wr.cell? (ad.add k) = some (.int .i64 (rd l0 k)) := (hJ.out.below.cell (World.block_lt_of_cell? w0 _ hx)).trans hx
      obtain ⟨fn2, tmps, assign, body, hy, hR⟩ := hY k wr hlt hJ.out
      have b1 : decide ((k : Int) < (l0.length : Int)) = true := decide_eq_true (by omega)
      have b2 : (0 : Int) ≤ (k : Int) := by omega
      gi_wp2
      refine hR.mono ?_
      rintro e W3 ⟨rfl, hJ3, hk3⟩
      gi_wp2
      rw [hsnoc k hlt] at hJ3
      go_roundw
      case rel => exact ⟨k + 1, by omega, by go_num, ⟨hJ3⟩⟩
      case measure => simp [Go.RowKit.intOf]; omega
    · have hkl : k = l0.length := by omega
      subst hkl
      have hJ2 := hJ.out
      rw [List.take_length] at hJ2
      clear hJ
      have b1 : decide ((l0.length : Int) < (l0.length : Int)) = false := decide_eq_false (by omega)
      gi_wp2
      go_end0
      exact ⟨⟨_, rfl⟩, hJ2⟩
set_option maxRecDepth 100000 in
set_option maxHeartbeats 2000000 in
/-- AppendSeq(nil, slices.Values(l0)): l0 in new memory. -/
theorem impl_OrderOk.appends (l0 : List Int) (hlen : l0.length ≤ 1000) (A0 : Option Addr) (c0 : Nat) (hc0 : l0.length ≤ c0) (w : World) (hr0 : Kd.C (Kd.int .i64) w A0 l0.length l0) (Bm : Nat) (hm : w.cell? ⟨Bm, 0, none⟩ = some (.slice A0 l0.length c0)) (n : Nat) (hn : 2 ≤ n) :
    CallsIn Fence.wide n Try.prog 152 #[.slice none 0 0, .func (.func 151) #[] #[.pointer (some ⟨Bm, 0, none⟩)]] w fun e w' => ∃ v, e = .returned v ∧ w'.ownsRow w.heap.size 3 1 v l0.length (l0.map encZ) ∧ Below w.heap.size w w' := by
  have HR := Aside0.mk hr0
  have HM := Aside0.mk hm
  clear hr0 hm
  refine callsIn_of_wp_marks Try.func152 rfl trivial ?_ rfl
  simp only [Try.ntmps152, List.size_toArray, List.length_cons, List.length_nil, Nat.reduceAdd, Nat.reduceSub, Array.replicate_succ, Array.replicate_zero, List.push_toArray, List.append_toArray, List.nil_append, List.cons_append]
  gi_wp2
  refine wpIn_rangeFunc ?_
  intro fn _
  have e98 : ∀ args w, (callFunc 151 args).run Try.prog w = .ok (.enter 151 args) w := enters_of Try.func151 (by kernel_rfl) rfl
  obtain ⟨sv, hsv⟩ : ∃ sv, sv = Value.func (.func 151) #[] #[.pointer (some ⟨Bm, 0, none⟩)] := ⟨_, rfl⟩
  obtain ⟨V, hV⟩ : ∃ V, w.alloc (.cells #[.slice none 0 0] 23) = V := ⟨_, rfl⟩
  have hVs : V.heap.size = w.heap.size + 1 := by rw [← hV]; simp
  have hVb : V.heap[w.heap.size]? = some (.cells #[.slice none 0 0] 23 (0, 0)) := by rw [← hV]; exact World.alloc_heap_new w _
  have hVw : Below w.heap.size w V := by rw [← hV]; exact (Below.refl _ w).alloc (Nat.le_refl _) _
  obtain ⟨X, hX⟩ : ∃ X, (V.alloc (.deferred (some []))).alloc (.loop (AnyZI.apRec impl_OrderOk.ren fn sv w.heap.size V.heap.size .ready none)) = X := ⟨_, rfl⟩
  have hXs : X.heap.size = V.heap.size + 2 := by rw [← hX]; simp
  have hXw : Below w.heap.size w X := by rw [← hX]; exact (hVw.alloc hVw.size _).alloc (by have := hVw.size; simp; omega) _
  have hXl : X.heap[V.heap.size + 1]? = some (.loop (AnyZI.apRec impl_OrderOk.ren fn sv w.heap.size V.heap.size .ready none)) := by
    rw [← hX]
    have := World.alloc_heap_new (V.alloc (.deferred (some []))) (.loop (AnyZI.apRec impl_OrderOk.ren fn sv w.heap.size V.heap.size .ready none))
    rwa [World.size_alloc] at this
  have hXd : X.heap[V.heap.size]? = some (.deferred (some [])) := by rw [← hX]; exact (Below.heap_alloc _ _ _ (by simp)).trans (World.alloc_heap_new V _)
  have hXb : X.heap[w.heap.size]? = some (.cells #[.slice none 0 0] 23 (0, 0)) := by
    rw [← hX]; exact (Below.heap_alloc _ _ _ (by simp; omega)).trans ((Below.heap_alloc _ _ _ (by omega)).trans hVb)
  have hM : AnyZI.ApAt impl_OrderOk.ren w fn sv w.heap.size (V.heap.size + 1) V.heap.size [] X := ⟨⟨_, hXb, ⟨rfl, .inl ⟨rfl, rfl⟩⟩, by simp⟩, hXl, hXd, hXw⟩
  rw [← hsv, hV]
  refine ⟨V.heap.size + 1, [{ target := .collected V.heap.size, args := #[] }], X, { target := .fn (.func 151) #[.pointer (some ⟨Bm, 0, none⟩)], args := #[.func (.yield (V.heap.size + 1)) #[] #[]] }, X, 151, #[.func (.yield (V.heap.size + 1)) #[] #[], .pointer (some ⟨Bm, 0, none⟩)], X, ?_, ?_, fun _ _ => trivial, ?_, fun _ => by omega, ?_⟩
  · rw [← hX]; exact run_enterLoop_outer _ _ _ _ _
  · rw [hsv]; simp [resolve, go_sem]
  · simp [invoke, go_sem, e98]
  · refine (impl_OrderOk.values l0 w fn sv w.heap.size (V.heap.size + 1) V.heap.size (by omega) (by omega) (by omega) (Nat.le_refl _) (by omega) hlen A0 c0 hc0 HR.out Bm HM.out (n - 1) (by omega) X hM).mono ?_
    rintro e Y ⟨⟨v0, rfl⟩, h2⟩
    obtain ⟨v, hv, hrow, hnil⟩ := h2.box
    have hend := run_endLoop (P := Try.prog) h2.L (by simp [AnyZI.apRec])
    obtain ⟨Z, hZ⟩ : ∃ Z, Y.putObj (V.heap.size + 1) (.loop { AnyZI.apRec impl_OrderOk.ren fn sv w.heap.size V.heap.size .ready none with state := .exhausted }) = Z := ⟨_, rfl⟩
    rw [hZ] at hend
    have hg3 : Y.grownBy Z (some (V.heap.size + 1)) := by rw [← hZ]; exact grownBy_putObj_a _ _ _
    have hv3 : Z.heap[w.heap.size]? = some (.cells #[v] 23 (0, 0)) := by rw [← hZ]; exact (World.putObj_heap_other (by omega)).trans hv
    have hK3 : Z.heap[V.heap.size]? = some (.deferred (some [])) := by rw [← hZ]; exact (World.putObj_heap_other (by omega)).trans h2.K
    have hrow3 := hrow.kept hg3 (ownsRow_ne_a hrow h2.L (fun cur e => by cases e))
    have hb3 : Below w.heap.size w Z := h2.below.grown hg3 h2.below.size (fun k e => by cases e; omega)
    obtain ⟨hc3, hf3⟩ := cell_of_box_a hv3
    clear hZ
    refine ⟨none, Z, hend, ?_⟩
    gi_wp2
    rw [← hVs]
    refine ⟨by simp, .inl ⟨_, _, rfl, run_takeDeferred hK3, ?_⟩⟩
    exact ⟨_, results_tmp rfl _ _ _, v, rfl, hrow3.kept (grownBy_putObj_a _ _ _) (ownsRow_ne_a hrow3 hK3 (fun cur e => by cases e)), hb3.grown (grownBy_putObj_a _ _ _) hb3.size (fun k e => by cases e; omega)⟩
set_option maxHeartbeats 1000000 in
theorem impl_OrderOk.collects (l0 : List Int) (hlen : l0.length ≤ 1000) (A0 : Option Addr) (c0 : Nat) (hc0 : l0.length ≤ c0) (w : World) (hr0 : Kd.C (Kd.int .i64) w A0 l0.length l0) (Bm : Nat) (hm : w.cell? ⟨Bm, 0, none⟩ = some (.slice A0 l0.length c0)) :
    Calls Try.prog 149 #[.func (.func 151) #[] #[.pointer (some ⟨Bm, 0, none⟩)]] w fun e w' => ∃ v, e = .returned v ∧ Kd.R (Kd.int .i64) 3 w' w.heap.size (fun _ => True) v l0 ∧ Below w.heap.size w w' := by
  have HC := (callsIn_wide (n := 5)).1 (impl_OrderOk.appends l0 hlen A0 c0 hc0 w hr0 Bm hm 5 (by omega))
  clear hr0 hm
  go_enter Try.func149, Try.ntmps149
  go_wp2_with (go_at_call 152; refine HC.mono ?_; rintro e w' ⟨v, rfl, hrow, hb⟩)
  go_ret
  exact ⟨v, rfl, Kd.R_of_own (enc := Value.int .i64) hrow.loose (fun _ _ => trivial), hb⟩
set_option maxHeartbeats 1000000 in
theorem impl_OrderOk.sorted (k : Nat) (l0 : List Int) (hlen : l0.length ≤ 1000) (A0 : Option Addr) (c0 : Nat) (hc0 : l0.length ≤ c0) (w : World) (hr0 : Kd.C (Kd.int .i64) w A0 l0.length l0) (Bm : Nat) (hm : w.cell? ⟨Bm, 0, none⟩ = some (.slice A0 l0.length c0)) (s : List Int) (hs : slices_Sort_int_int.f k l0 = some s) :
    Calls Try.prog 139 #[.func (.func 151) #[] #[.pointer (some ⟨Bm, 0, none⟩)]] w fun e w' => ∃ v, e = .returned v ∧ Kd.R (Kd.int .i64) 3 w' w.heap.size (fun _ => True) v s ∧ Below w.heap.size w w' := by
  have HC := impl_OrderOk.collects l0 hlen A0 c0 hc0 w hr0 Bm hm
  have HS := Aside0.mk hs
  clear hr0 hm hs
  go_enter Try.func139, Try.ntmps139
  go_wp2_with (first
    | (go_at_call 149; refine HC.mono ?_; rintro e w1 ⟨v, rfl, hR, hb⟩)
    | (go_at_call 150; refine (slices_Sort_int_int.calls k (fun _ => True) v l0 s w w1 hb hR HS.out).mono ?_; rintro e w2 ⟨rfl, hR2, hb2, hk2⟩))
  go_ret
  exact ⟨v, rfl, Kd.R_mono hR2 (fun _ _ => trivial), hb2⟩
def impl_OrderOk.f (k : Nat) (l0 : List Int) (a1 : Int) : Option (Bool) := if 1 ≤ a1 ∧ a1 ≤ 8 ∧ (l0.length : Int) = a1 then (slices_Sort_int_int.f k l0).bind fun s => if s.length ≤ 8 then some (decide (∀ i : Nat, i < s.length → rd s i = (i : Int) + 1)) else none else some false
theorem impl_OrderOk.mono : ∀ a0 a1 k, LeO (impl_OrderOk.f k a0 a1) (impl_OrderOk.f (k + 1) a0 a1) := by
  intro a0 a1 k
  unfold impl_OrderOk.f
  exact LeO.ite (LeO.bind (slices_Sort_int_int.mono _ _) (fun _ => LeO.refl _)) (LeO.refl _)
set_option maxHeartbeats 2000000 in
set_option maxRecDepth 100000 in
theorem impl_OrderOk.calls (k : Nat) (A0 : Option Addr) (c0 : Nat) (l0 : List Int) (a1 : Int) (r : Bool) (w : World) (hr0 : Kd.C (Kd.int .i64) w A0 l0.length l0) (hc0 : l0.length ≤ c0) (h : impl_OrderOk.f k l0 a1 = some r) :
    Calls Try.prog 89 #[.slice A0 l0.length c0, .int .i64 a1] w fun e w' => e = .returned (.bool r) ∧ Below w.heap.size w w' := by
  unfold impl_OrderOk.f at h
  have HR := Aside0.mk hr0
  have HB := Aside0.mk hc0
  clear hr0 hc0
  by_cases c1 : a1 < 1
  · rw [if_neg (by omega)] at h
    obtain rfl := Option.some.inj h
    clear h
    have d1 : decide (a1 < 1) = true := decide_eq_true c1
    clear c1
    go_enter Try.func89, Try.ntmps89
    go_wp2
    go_ret
    exact ⟨rfl, Below.refl _ _⟩
  · have d1 : decide (a1 < 1) = false := decide_eq_false c1
    by_cases c2 : a1 > 8
    · rw [if_neg (by omega)] at h
      obtain rfl := Option.some.inj h
      clear h
      have d2 : decide (8 < a1) = true := decide_eq_true c2
      clear c1 c2
      go_enter Try.func89, Try.ntmps89
      go_wp2
      go_ret
      exact ⟨rfl, Below.refl _ _⟩
    · have d2 : decide (8 < a1) = false := decide_eq_false c2
      by_cases c3 : (l0.length : Int) = a1
      · rw [if_pos ⟨by omega, by omega, c3⟩] at h
        obtain ⟨s, hs, h⟩ := Option.bind_eq_some_iff.mp h
        by_cases c4 : s.length ≤ 8
        · rw [if_pos c4] at h
          obtain rfl := Option.some.inj h
          clear h
          have d3 : ((l0.length : Int) == a1) = true := beq_iff_eq.mpr c3
          have d4 : ((l0.length : Int) != a1) = false := bne_eq_false_iff_eq.mpr c3
          have hl8 : l0.length ≤ 1000 := by omega
          have HV : Calls Try.prog 140 #[.slice A0 l0.length c0] w fun e w' => e = .returned (.func (.func 151) #[] #[.pointer (some ⟨w.heap.size, 0, none⟩)]) ∧ w' = w.alloc (.cells #[.slice A0 l0.length c0] 23) := by
            clear c1 c2 c3 d1 d2 d3 d4
            go_enter Try.func140, Try.ntmps140
            go_wp2
            go_ret
            exact ⟨rfl, rfl⟩
          have hR1 : Kd.C (Kd.int .i64) (w.alloc (.cells #[.slice A0 l0.length c0] 23)) A0 l0.length l0 := Kd.C_below HR.out ((Below.refl _ w).alloc (Nat.le_refl _) _)
          have HS := impl_OrderOk.sorted k l0 hl8 A0 c0 HB.out (w.alloc (.cells #[.slice A0 l0.length c0] 23)) hR1 w.heap.size (by go_simp) s hs
          clear hs hR1 c3
          go_enter Try.func89, Try.ntmps89
          go_wp2_with (first
            | (go_at_call 140; refine HV.mono ?_; rintro e w' ⟨rfl, rfl⟩)
            | (go_at_call 139; refine HS.mono ?_; rintro e w2 ⟨v, rfl, hR2, hb2⟩; obtain ⟨Ao, co, eo⟩ := Kd.R_slice hR2; subst eo))
          have HR2 := Aside0.mk hR2
          have HB2 := Aside0.mk hb2
          have HL := Aside0.mk c4
          clear hR2 hb2 c4 c1 c2 d1 d2 d3 d4
          go_loop [23] (fun i => ∃ j : Nat, j ≤ s.length ∧ i = .int .i64 j ∧ Aside0 (∀ q : Nat, q < j → rd s q = (q : Int) + 1)) (fun i => s.length - (Go.RowKit.intOf i).toNat)
          case atStart => exact ⟨0, Nat.zero_le _, rfl, ⟨fun q hq => by omega⟩⟩
          case round =>
            obtain ⟨j, hj, rfl, hJ⟩ := hrel
            have hl8 := HL.out
            by_cases hlt : j < s.length
            · obtain ⟨ad, e1, hx0⟩ := Kd.at_int (Kd.R_reads' HR2.out).2.2 (j : Int) (by omega) (by omega)
              cases e1
              have hx : w2.cell? (ad.add j) = some (.int .i64 (rd s (j : Int))) := hx0
              clear hx0
              have hj1 : IntKind.i64.wrap ((j : Int) + 1) = (j : Int) + 1 := by rw [i64_w]; unfold wrap64; omega
              have b1 : decide ((j : Int) < (s.length : Int)) = true := decide_eq_true (by omega)
              have b2 : (0 : Int) ≤ (j : Int) := by omega
              by_cases e : rd s j = (j : Int) + 1
              · have b3 : ((rd s (j : Int)) != (j : Int) + 1) = false := bne_eq_false_iff_eq.mpr e
                have HE := Aside0.mk e
                clear e
                go_wp2
                go_round
                case rel =>
                  refine ⟨j + 1, by omega, by go_num, ⟨fun q hq => ?_⟩⟩
                  by_cases e2 : q = j
                  · subst e2; exact HE.out
                  · exact hJ.out q (by omega)
                case measure => simp [Go.RowKit.intOf]; omega
              · have b3 : ((rd s (j : Int)) != (j : Int) + 1) = true := bne_iff_ne.mpr e
                have HE := Aside0.mk e
                clear e
                go_wp2
                go_ret
                have hf : decide (∀ i : Nat, i < s.length → rd s i = (i : Int) + 1) = false := decide_eq_false (fun h => HE.out (h j hlt))
                rw [hf]
                exact ⟨rfl, ((Below.refl _ _).alloc (Nat.le_refl _) _).trans (HB2.out.mono (by simp))⟩
            · have b1 : decide ((j : Int) < (s.length : Int)) = false := decide_eq_false (by omega)
              go_wp2
              go_ret
              have hf : decide (∀ i : Nat, i < s.length → rd s i = (i : Int) + 1) = true := decide_eq_true (fun q hq => hJ.out q (by omega))
              rw [hf]
              exact ⟨rfl, ((Below.refl _ _).alloc (Nat.le_refl _) _).trans (HB2.out.mono (by simp))⟩
        · rw [if_neg c4] at h; cases h
      · rw [if_neg (fun h => c3 h.2.2)] at h
        obtain rfl := Option.some.inj h
        clear h
        have d3 : ((l0.length : Int) == a1) = false := beq_eq_false_iff_ne.mpr c3
        have d4 : ((l0.length : Int) != a1) = true := bne_iff_ne.mpr c3
        clear c1 c2 c3
        go_enter Try.func89, Try.ntmps89
        go_wp2
        go_ret
        exact ⟨rfl, Below.refl _ _⟩

/-! ### impl_CountTurned: function 72, told by hand -/
/-- of the words from place p on, how many are less than n -/
def impl_CountTurned.less (l : List Int) (n : Int) (p : Nat) : Int := ((List.range p).filter (fun q : Nat => decide (rd l q < n))).length
def impl_CountTurned.row (l : List Int) (i : Nat) : Int := impl_CountTurned.less (l.drop i) (rd l i) (l.length - i)
def impl_CountTurned.upTo (l : List Int) : Nat → Int
  | 0 => 0
  | i + 1 => impl_CountTurned.upTo l i + impl_CountTurned.row l i
def impl_CountTurned.f (k : Nat) (l0 : List Int) : Option (Int) := (impl_OrderOk.f k l0 (l0.length : Int)).bind fun t => if t = true then (if l0.length ≤ 8 then some (impl_CountTurned.upTo l0 l0.length) else none) else some (-1)
theorem impl_CountTurned.mono : ∀ a0 k, LeO (impl_CountTurned.f k a0) (impl_CountTurned.f (k + 1) a0) := by
  intro a0 k
  unfold impl_CountTurned.f
  exact LeO.bind (impl_OrderOk.mono _ _ _) (fun _ => LeO.refl _)
theorem impl_CountTurned.less_le (l : List Int) (n : Int) (p : Nat) : 0 ≤ impl_CountTurned.less l n p ∧ impl_CountTurned.less l n p ≤ p := by
  unfold impl_CountTurned.less
  have := List.length_filter_le (fun q : Nat => decide (rd l q < n)) (List.range p)
  rw [List.length_range] at this
  omega
theorem impl_CountTurned.less_succ (l : List Int) (n : Int) (p : Nat) : impl_CountTurned.less l n (p + 1) = impl_CountTurned.less l n p + if rd l p < n then 1 else 0 := by
  unfold impl_CountTurned.less
  rw [List.range_succ, List.filter_append]
  by_cases h : rd l p < n <;> simp [h, List.filter_cons]
theorem impl_CountTurned.upTo_le (l : List Int) (h : l.length ≤ 8) : ∀ i : Nat, i ≤ 8 → 0 ≤ impl_CountTurned.upTo l i ∧ impl_CountTurned.upTo l i ≤ 8 * i
  | 0, _ => by simp [impl_CountTurned.upTo]
  | i + 1, hi => by
    have h1 := impl_CountTurned.upTo_le l h i (by omega)
    have h2 := impl_CountTurned.less_le (l.drop i) (rd l i) (l.length - i)
    show 0 ≤ impl_CountTurned.upTo l i + impl_CountTurned.less (l.drop i) (rd l i) (l.length - i) ∧ impl_CountTurned.upTo l i + impl_CountTurned.less (l.drop i) (rd l i) (l.length - i) ≤ 8 * ((i + 1 : Nat) : Int)
    omega
set_option maxHeartbeats 2000000 in
set_option maxRecDepth 100000 in
theorem impl_CountTurned.calls (k : Nat) (A0 : Option Addr) (c0 : Nat) (l0 : List Int) (r : Int) (w : World) (hr0 : Kd.C (Kd.int .i64) w A0 l0.length l0) (hc0 : l0.length ≤ c0) (h : impl_CountTurned.f k l0 = some r) :
    Calls Try.prog 72 #[.slice A0 l0.length c0] w fun e w' => e = .returned (.int .i64 r) ∧ Below w.heap.size w w' := by
  unfold impl_CountTurned.f at h
  obtain ⟨t, ht, h⟩ := Option.bind_eq_some_iff.mp h
  have HC := impl_OrderOk.calls k A0 c0 l0 (l0.length : Int) t w hr0 hc0 ht
  have HR := Aside0.mk hr0
  have HB := Aside0.mk hc0
  clear hr0 hc0 ht
  by_cases c1 : t = true
  · subst c1
    rw [if_pos rfl] at h
    by_cases c2 : l0.length ≤ 8
    · rw [if_pos c2] at h
      obtain rfl := Option.some.inj h
      clear h
      have HL := Aside0.mk c2
      clear c2
      go_enter Try.func72, Try.ntmps72
      go_wp2_with (go_at_call 89; refine HC.mono ?_; rintro e w1 ⟨rfl, hb1⟩)
      have HB1 := Aside0.mk hb1
      clear hb1 HC
      go_loop [3, 15] (fun m i => ∃ q : Nat, q ≤ l0.length ∧ i = .int .i64 q ∧ m = .int .i64 (impl_CountTurned.upTo l0 q)) (fun _ i => l0.length - (Go.RowKit.intOf i).toNat)
      case atStart => exact ⟨0, Nat.zero_le _, rfl, rfl⟩
      case round =>
        obtain ⟨q, hq, rfl, rfl⟩ := hrel
        have hl8 := HL.out
        have hc0 := HB.out
        by_cases hlt : q < l0.length
        · obtain ⟨ad, e1, hx0⟩ := Kd.at_int HR.out (q : Int) (by omega) (by omega)
          cases e1
          have hx : w1.cell? (ad.add q) = some (.int .i64 (rd l0 (q : Int))) := (HB1.out.cell (World.block_lt_of_cell? w _ hx0)).trans hx0
          clear hx0
          have b1 : decide ((q : Int) < (l0.length : Int)) = true := decide_eq_true (by omega)
          have b2 : (0 : Int) ≤ (q : Int) := by omega
          have b4 : (q : Int) ≤ (l0.length : Int) := by omega
          have hup := impl_CountTurned.upTo_le l0 hl8 q (by omega)
          have HX := Aside0.mk hx
          go_wp2
          clear hx b1 b4
          go_loop [3, 24] (fun m i => ∃ p : Nat, p ≤ l0.length - q ∧ i = .int .i64 p ∧ m = .int .i64 (impl_CountTurned.upTo l0 q + impl_CountTurned.less (l0.drop q) (rd l0 q) p)) (fun _ i => l0.length - q - (Go.RowKit.intOf i).toNat)
          case atStart => exact ⟨0, Nat.zero_le _, rfl, by rw [show impl_CountTurned.less (l0.drop q) (rd l0 q) 0 = 0 from rfl, Int.add_zero]⟩
          case round =>
            obtain ⟨p, hp, rfl, rfl⟩ := hrel
            have hless := impl_CountTurned.less_le (l0.drop q) (rd l0 q) p
            by_cases hlt2 : p < l0.length - q
            · obtain ⟨ad2, e2, hy0⟩ := Kd.at_int HR.out ((q + p : Nat) : Int) (by omega) (by omega)
              cases e2
              have hy : w1.cell? ((ad.add q).add p) = some (.int .i64 (rd (l0.drop q) (p : Int))) := by
                have e3 : rd (l0.drop q) (p : Int) = rd l0 ((q + p : Nat) : Int) := by unfold rd; rw [Int.toNat_natCast, Int.toNat_natCast]; simp [List.getD_eq_getElem?_getD]
                rw [Addr.add_add, e3]
                exact (HB1.out.cell (World.block_lt_of_cell? w _ hy0)).trans hy0
              clear hy0
              have c1 : decide ((p : Int) < ((l0.length - q : Nat) : Int)) = true := decide_eq_true (by omega)
              have c2 : (0 : Int) ≤ (p : Int) := by omega
              have hs := impl_CountTurned.less_succ (l0.drop q) (rd l0 q) p
              by_cases e : rd (l0.drop q) (p : Int) < rd l0 (q : Int)
              · have c3 : decide (rd (l0.drop q) (p : Int) < rd l0 (q : Int)) = true := decide_eq_true e
                rw [if_pos e] at hs
                have HS := Aside0.mk hs
                clear hs e
                go_wp2
                go_round
                case rel => exact ⟨p + 1, by omega, by go_num, by rw [HS.out]; go_num⟩
                case measure => simp [Go.RowKit.intOf]; omega
              · have c3 : decide (rd (l0.drop q) (p : Int) < rd l0 (q : Int)) = false := decide_eq_false e
                rw [if_neg e] at hs
                have HS := Aside0.mk hs
                clear hs e
                go_wp2
                go_round
                case rel => exact ⟨p + 1, by omega, by go_num, by rw [HS.out, Int.add_zero]⟩
                case measure => simp [Go.RowKit.intOf]; omega
            · have c1 : decide ((p : Int) < ((l0.length - q : Nat) : Int)) = false := decide_eq_false (by omega)
              have hpl : p = l0.length - q := by omega
              subst hpl
              go_wp2
              go_round
              case rel => exact ⟨q + 1, by omega, by go_num, rfl⟩
              case measure => simp [Go.RowKit.intOf]; omega
        · have b1 : decide ((q : Int) < (l0.length : Int)) = false := decide_eq_false (by omega)
          have hql : q = l0.length := by omega
          subst hql
          go_wp2
          go_ret
          exact ⟨rfl, HB1.out⟩
    · rw [if_neg c2] at h; cases h
  · have c2 : t = false := by simpa using c1
    subst c2
    rw [if_neg c1] at h
    obtain rfl := Option.some.inj h
    clear h c1
    go_enter Try.func72, Try.ntmps72
    go_wp2_with (go_at_call 89; refine HC.mono ?_; rintro e w1 ⟨rfl, hb1⟩)
    go_ret
    exact ⟨rfl, hb1⟩

/-! ### impl_steps: function 77 -/
def impl_steps.l0 : Nat → List Int → Int → Int → Int → Option (Int)
  | 0, _, _, _, _ => none
  | k + 1, x0, x1, x7, x8 => if x8 < x7 then (if 0 ≤ (wrap64 (x1 - 1)) then (if (wrap64 (x1 - 1)) < (x0.length : Int) then (if (rd x0 (wrap64 (x1 - 1))) = 0 then (some x8) else (impl_steps.l0 k x0 (rd x0 (wrap64 (x1 - 1))) x7 (wrap64 (x8 + 1)))) else (none)) else (none)) else (some (-1))
def impl_steps.f (k : Nat) (l0 : List Int) (a1 : Int) : Option (Int) := impl_steps.l0 k l0 a1 (l0.length : Int) 0
theorem impl_steps.mono_l : ∀ k, (∀ y0 y1 y2 y3, LeO (impl_steps.l0 k y0 y1 y2 y3) (impl_steps.l0 (k + 1) y0 y1 y2 y3))
  | 0 => fun _ _ _ _ r h => by simp [impl_steps.l0] at h
  | k + 1 => by
    have ih0 := impl_steps.mono_l k
    · intro y0 y1 y2 y3
      unfold impl_steps.l0
      repeat' first
      | (with_reducible exact ih0 _ _ _ _)
      | (with_reducible exact LeO.refl _)
      | (with_reducible exact LeO.none _)
      | (with_reducible refine LeO.ite ?_ ?_)
      | (with_reducible refine LeO.bind ?_ (fun _ => ?_))
      | exact ih0 _ _ _ _
      | exact LeO.none _
      | refine LeO.ite ?_ ?_
      | refine LeO.bind ?_ (fun _ => ?_)
theorem impl_steps.mono : ∀ a0 a1 k, LeO (impl_steps.f k a0 a1) (impl_steps.f (k + 1) a0 a1) := by
  intro a0 a1 k
  have ih0 := impl_steps.mono_l k
  unfold impl_steps.f
  repeat' first
      | (with_reducible exact ih0 _ _ _ _)
      | (with_reducible exact LeO.refl _)
      | (with_reducible exact LeO.none _)
      | (with_reducible refine LeO.ite ?_ ?_)
      | (with_reducible refine LeO.bind ?_ (fun _ => ?_))
      | exact ih0 _ _ _ _
      | exact LeO.none _
      | refine LeO.ite ?_ ?_
      | refine LeO.bind ?_ (fun _ => ?_)
set_option maxHeartbeats 8000000 in
set_option maxRecDepth 100000 in
theorem impl_steps.calls (k : Nat) (A0 : Option Addr) (c0 : Nat) (l0 : List Int) (a1 : Int) (r : Int) (w : World) (hr0 : Kd.C (Kd.int .i64) w A0 l0.length l0) (hc0 : l0.length ≤ c0) (h : impl_steps.f k l0 a1 = some r) :
    Calls Try.prog 77 #[.slice A0 l0.length c0, .int .i64 a1] w fun e w' => e = .returned (.int .i64 r) ∧ Drawn0 w w' := by
  have HR0 := Aside0.mk hr0
  have HC0 := Aside0.mk hc0
  clear hr0 hc0
  have H : (impl_steps.l0 k l0 a1 (l0.length : Int) 0) = some r := h
  clear h
  have H' := Aside0.mk H
  clear H
  go_enter Try.func77, Try.ntmps77
  go_wp2
  go_loopg [1, 8] k (fun kq v1 v8 w' => ∃ (x1_1 : Int) (x8_1 : Int), v1 = .int .i64 x1_1 ∧ v8 = .int .i64 x8_1 ∧ Aside0 (impl_steps.l0 kq l0 x1_1 (l0.length : Int) x8_1 = some r) ∧ Aside0 (kq ≤ k) ∧ Drawn0 w w')
  case atStart => exact ⟨(a1), (0), (by first | rfl | (simp; done) | (simp [*]; done)), (by first | rfl | (simp; done) | (simp [*]; done)), H', ⟨Nat.le_refl _⟩, by repeat (first | exact Drawn0.refl _ | apply Drawn0.step)⟩
  case round =>
    clear H'
    try clear p2
    obtain ⟨x1_1, x8_1, rfl, rfl, HA, HK1, ⟨m1, rfl⟩⟩ := hrel
    cases gk with
    | zero => exact absurd HA.out (by simp [impl_steps.l0])
    | succ k1 =>
      have H := HA.out
      clear HA
      simp only [impl_steps.l0] at H
      by_cases c3 : x8_1 < (l0.length : Int)
      · rw [if_pos c3] at H
        have c3b0 : decide (x8_1 < (l0.length : Int)) = true := decide_eq_true c3
        clear c3
        obtain ⟨ji4, hji4⟩ : ∃ j_ : Int, (wrap64 (x1_1 - 1)) = j_ := ⟨_, rfl⟩
        replace H : (if 0 ≤ (ji4) then (if (ji4) < (l0.length : Int) then (if (rd l0 (ji4)) = 0 then (some x8_1) else (impl_steps.l0 k1 l0 (rd l0 (ji4)) (l0.length : Int) (wrap64 (x8_1 + 1)))) else (none)) else (none)) = some r := by first | (rw [hji4] at H; exact H) | (simp only [hji4] at H ⊢; exact H)
        have hji4w : (IntKind.i64.wrap (x1_1 - 1)) = ji4 := (i64_w _).trans hji4
        by_cases c5 : 0 ≤ (ji4)
        · rw [if_pos c5] at H
          have c5b0 : decide (0 ≤ (ji4)) = true := decide_eq_true c5
          clear c5
          by_cases c6 : (ji4) < (l0.length : Int)
          · rw [if_pos c6] at H
            have c6b0 : decide ((ji4) < (l0.length : Int)) = true := decide_eq_true c6
            clear c6
            by_cases c7 : (rd l0 (ji4)) = 0
            · rw [if_pos c7] at H
              have c7b0 : ((rd l0 (ji4)) == 0) = true := beq_iff_eq.mpr c7
              have c7b1 : ((rd l0 (ji4)) != 0) = false := bne_eq_false_iff_eq.mpr c7
              clear c7
              obtain rfl := Option.some.inj H
              have p321 : 0 ≤ ((ji4) : Int) := of_decide_eq_true (by first | (with_reducible assumption) | assumption)
              have q321 : (ji4) < (l0.length : Int) := of_decide_eq_true (by first | (with_reducible assumption) | assumption)
              obtain ⟨ad321, e321, hx321_0⟩ := Kd.at_int HR0.out (ji4) p321 q321
              cases e321
              replace p321 := eq_true p321
              replace q321 := eq_true q321
              go_wp2
              go_ret
              exact ⟨by first | rfl | (simp; done) | (simp only [← hji4] <;> (first | rfl | simp)) | (simp [*]; done), by repeat (first | exact Drawn0.refl _ | apply Drawn0.step)⟩
            · rw [if_neg c7] at H
              have c7b0 : ((rd l0 (ji4)) == 0) = false := beq_eq_false_iff_ne.mpr c7
              have c7b1 : ((rd l0 (ji4)) != 0) = true := bne_iff_ne.mpr c7
              have H' := Aside0.mk H
              clear H
              have p321 : 0 ≤ ((ji4) : Int) := of_decide_eq_true (by first | (with_reducible assumption) | assumption)
              have q321 : (ji4) < (l0.length : Int) := of_decide_eq_true (by first | (with_reducible assumption) | assumption)
              obtain ⟨ad321, e321, hx321_0⟩ := Kd.at_int HR0.out (ji4) p321 q321
              cases e321
              replace p321 := eq_true p321
              replace q321 := eq_true q321
              go_wp2
              go_roundg k1
              case measure => have := HK1.out; omega
              case rel => exact ⟨(rd l0 (ji4)), (wrap64 (x8_1 + 1)), (by first | rfl | (simp; done) | (simp only [← hji4] <;> (first | rfl | simp)) | (simp [*]; done)), (by first | rfl | (simp; done) | (simp [*]; done)), H', ⟨by have := HK1.out; omega⟩, by repeat (first | exact Drawn0.refl _ | apply Drawn0.step)⟩
          · rw [if_neg c6] at H
            exact absurd H (by simp)
        · rw [if_neg c5] at H
          exact absurd H (by simp)
      · rw [if_neg c3] at H
        have c3b0 : decide (x8_1 < (l0.length : Int)) = false := decide_eq_false c3
        clear c3
        obtain rfl := Option.some.inj H
        go_wp2
        go_ret
        exact ⟨by first | rfl | (simp; done) | (simp [*]; done), by repeat (first | exact Drawn0.refl _ | apply Drawn0.step)⟩

end Go.Proofs.Ytidimndhnagfeaa.LE
