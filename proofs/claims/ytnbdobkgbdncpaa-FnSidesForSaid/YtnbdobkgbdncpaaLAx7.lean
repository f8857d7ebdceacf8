/- Printed by a program of this session (wip/lp/lp.py) out of the translation: functions with the same answers as the Go code, and their contracts; no conditions beyond those that each theorem names. -/
import Derived.Test.YtnbdobkgbdncpaaLAx0
import Derived.Test.YtnbdobkgbdncpaaLAx6
namespace Go.Proofs.Ytnbdobkgbdncpaa.LA
open Go.RowKit Go.Proofs.YtnbdobkgbdncpaaV.PrintWords Go.Proofs.YtnbdobkgbdncpaaV.PrintLast Go.Proofs.YtnbdobkgbdncpaaV.PrintMore
attribute [local go_sem] max2_int min2_int max_two min_two max_three min_three max_four min_four   -- for this text's walks alone
set_option linter.unusedVariables false
set_option linter.unusedSimpArgs false

/-! ### impl_crosses: function 15 -/
def impl_crosses.f (k : Nat) (l0 : List Int) (a1 : Int) (a2 : Int) : Option (Bool) := if 0 ≤ a1 then (if a1 < (l0.length : Int) then (if 0 ≤ a2 then (if a2 < (l0.length : Int) then ((impl_CrossOk.f k (wrap64 (a1 + 1)) (rd l0 a1) (wrap64 (a2 + 1)) (rd l0 a2)).bind fun t321 => (some t321)) else (none)) else (none)) else (none)) else (none)
theorem impl_crosses.mono : ∀ a0 a1 a2 k, LeO (impl_crosses.f k a0 a1 a2) (impl_crosses.f (k + 1) a0 a1 a2) := by
 intro a0 a1 a2 k
 unfold impl_crosses.f
 repeat' first
   | (with_reducible exact impl_CrossOk.mono _ _ _ _ _)
   | (with_reducible exact LeO.refl _)
   | (with_reducible exact LeO.none _)
   | (with_reducible refine LeO.ite ?_ ?_)
   | (with_reducible refine LeO.bind ?_ (fun _ => ?_))
   | refine LeO.ite ?_ ?_
   | refine LeO.bind ?_ (fun _ => ?_)
def impl_crosses.T1 : Bool × List (List Nat × List Nat) := (true, [([], []), ([0], [0]), ([], []), ([], []), ([2, 3], [2, 3]), ([4], [4]), ([], []), ([6], [6]), ([], []), ([], []), ([8, 9], [8, 9]), ([10], [10]), ([1, 5, 7, 11], [1, 5, 7, 11]), ([12, 12, 0, 1, 2, 3, 4, 5, 6, 7, 8, 9, 10, 11, 12], [12])])
def impl_crosses.B1 : List Nat := [0, 1, 0, 0, 12, 28, 0, 64, 0, 0, 768, 1792, 4095, 8191]
theorem impl_crosses.tab1 : rtab .any (opsOf Try.f15 1) = impl_crosses.T1 := by kernel_rfl
theorem impl_crosses.bits1 : waitsOk impl_crosses.T1.2 impl_crosses.B1 = true := by kernel_rfl
set_option maxHeartbeats 8000000 in
set_option maxRecDepth 100000 in
theorem impl_crosses.calls (k : Nat) (A0 : Option Addr) (c0 : Nat) (l0 : List Int) (a1 : Int) (a2 : Int) (r : Bool) (w : World) (hr0 : Kd.C (Kd.int .i64) w A0 l0.length l0) (hc0 : l0.length ≤ c0) (h : impl_crosses.f k l0 a1 a2 = some r) :
  Calls Try.prog 15 #[.slice A0 l0.length c0, .int .i64 a1, .int .i64 a2] w fun e w' => e = .returned (.bool r) ∧ Below w.heap.size w w' := by
 have HR0 := zM hr0
 have HC0 := zM hc0
 clear hr0 hc0
 have HB := zM (Below.refl w.heap.size w)
 have H : (if 0 ≤ a1 then (if a1 < (l0.length : Int) then (if 0 ≤ a2 then (if a2 < (l0.length : Int) then ((impl_CrossOk.f k (wrap64 (a1 + 1)) (rd l0 a1) (wrap64 (a2 + 1)) (rd l0 a2)).bind fun t321 => (some t321)) else (none)) else (none)) else (none)) else (none)) = some r := h
 clear h
 by_cases c4 : 0 ≤ a1
 ·rw [if_pos c4] at H
  have c4b0 : decide (0 ≤ a1) = true := decide_eq_true c4
  clear c4
  by_cases c5 : a1 < (l0.length : Int)
  ·rw [if_pos c5] at H
   have c5b0 : decide (a1 < (l0.length : Int)) = true := decide_eq_true c5
   clear c5
   by_cases c6 : 0 ≤ a2
   ·rw [if_pos c6] at H
    have c6b0 : decide (0 ≤ a2) = true := decide_eq_true c6
    clear c6
    by_cases c7 : a2 < (l0.length : Int)
    ·rw [if_pos c7] at H
     have c7b0 : decide (a2 < (l0.length : Int)) = true := decide_eq_true c7
     clear c7
     replace H := Option.bind_eq_some_iff.mp H
     obtain ⟨t321, A80, H⟩ := H
     replace H : (some t321) = some r := H
     have A8 := zM A80
     clear A80
     obtain rfl := Option.some.inj H
     go_enter Try.func15, Try.ntmps15
     try go_wp2
     have n0_ := zM (zC HB.out)
     clear HB
     have HB := n0_
     clear n0_
     have p319 : 0 ≤ (a1 : Int) := of_decide_eq_true (by first | (with_reducible assumption) | assumption)
     have q319 : a1 < (l0.length : Int) := of_decide_eq_true (by first | (with_reducible assumption) | assumption)
     obtain ⟨ad319, e319, hx319_0⟩ := Kd.at_int HR0.out a1 p319 q319
     have hw319_0 := hx319_0
     cases e319
     replace hx319_0 := (HB.out.cell (World.block_lt_of_cell? w _ hx319_0)).trans hx319_0
     replace p319 := eq_true p319
     replace q319 := eq_true q319
     have p320 : 0 ≤ (a2 : Int) := of_decide_eq_true (by first | (with_reducible assumption) | assumption)
     have q320 : a2 < (l0.length : Int) := of_decide_eq_true (by first | (with_reducible assumption) | assumption)
     obtain ⟨ad320, e320, hx320_0⟩ := Kd.at_int HR0.out a2 p320 q320
     have hw320_0 := hx320_0
     obtain rfl : ad319 = ad320 := (by injection e320)
     replace hx320_0 := (HB.out.cell (World.block_lt_of_cell? w _ hx320_0)).trans hx320_0
     replace p320 := eq_true p320
     replace q320 := eq_true q320
     refine start_ (n := 14) (S := fun w' => w'.cell? (ad319.add (a1).toNat) = some (.int .i64 (rd l0 a1)) ∧ w'.cell? (ad319.add (a2).toNat) = some (.int .i64 (rd l0 a2))) (ds := []) #[false, false, false, false, false, false, false, false, false, false, false, false, false, false] (by kernel_rfl) rfl rfl ⟨((HB.out.cell (World.block_lt_of_cell? w _ hw319_0)).trans hw319_0), ((HB.out.cell (World.block_lt_of_cell? w _ hw320_0)).trans hw320_0)⟩ (fun hHeld => ?_); refine with_tabW impl_crosses.tab1 impl_crosses.bits1 (fun HT_ HW_ => ?_)
     generalize w.drew = w9 at HB hx319_0 hx320_0 hHeld ⊢
     refine pure_ (i := 0) (N := some 7) (v := ?_) (a' := ?_) #[true, false, false, false, false, false, false, false, false, false, false, false, false, false] rfl rfl (any_of HT_.out (by kernel_rfl)) (fun _ _ _ h => h) (Or.inl ⟨by rfl, ?_⟩) ?_ ?_
     rotate_left
     ·intro w'
      go_simp
      with_reducible rfl
     rotate_left
     ·simp only [Act.put, zE, zF, zG, i64_w, i32_w]
      rfl
     refine pure_ (i := 1) (N := some 8) (v := ?_) (a' := ?_) #[true, true, false, false, false, false, false, false, false, false, false, false, false, false] rfl rfl (any_of HT_.out (by kernel_rfl)) (fun _ _ _ h => h) (Or.inl ⟨by rfl, ?_⟩) ?_ ?_
     rotate_left
     ·intro w'
      go_simp
      with_reducible rfl
     rotate_left
     ·simp only [Act.put, zE, zF, zG, i64_w, i32_w]
      rfl
     refine pure_ (i := 2) (N := some 9) (v := ?_) (a' := ?_) #[true, true, true, false, false, false, false, false, false, false, false, false, false, false] rfl rfl (any_of HT_.out (by kernel_rfl)) (fun _ _ _ h => h) (Or.inl ⟨by rfl, ?_⟩) ?_ ?_
     rotate_left
     ·intro w'
      go_simp
      with_reducible rfl
     rotate_left
     ·simp only [Act.put, zE, zF, zG, i64_w, i32_w]
      rfl
     refine pure_ (i := 3) (N := some 10) (v := ?_) (a' := ?_) #[true, true, true, true, false, false, false, false, false, false, false, false, false, false] rfl rfl (any_of HT_.out (by kernel_rfl)) (fun _ _ _ h => h) (Or.inl ⟨by rfl, ?_⟩) ?_ ?_
     rotate_left
     ·intro w'
      go_simp
      with_reducible rfl
     rotate_left
     ·simp only [Act.put, zE, zF, zG, i64_w, i32_w]
      rfl
     refine pure_ (i := 4) (N := some 11) (v := ?_) (a' := ?_) #[true, true, true, true, true, false, false, false, false, false, false, false, false, false] rfl rfl (any_of HT_.out (by kernel_rfl)) (fun _ _ _ h => h) (Or.inl ⟨by rfl, ?_⟩) ?_ ?_
     rotate_left
     ·intro w'
      go_simp
      with_reducible rfl
     rotate_left
     ·simp only [Act.put, zE, zF, zG, i64_w, i32_w]
      rfl
     refine pure_ (i := 6) (N := some 13) (v := ?_) (a' := ?_) #[true, true, true, true, true, false, true, false, false, false, false, false, false, false] rfl rfl (any_of HT_.out (by kernel_rfl)) (fun _ _ _ h => h) (Or.inl ⟨by rfl, ?_⟩) ?_ ?_
     rotate_left
     ·intro w'
      go_simp
      with_reducible rfl
     rotate_left
     ·simp only [Act.put, zE, zF, zG, i64_w, i32_w]
      rfl
     refine pure_ (i := 7) (N := some 14) (v := ?_) (a' := ?_) #[true, true, true, true, true, false, true, true, false, false, false, false, false, false] rfl rfl (any_of HT_.out (by kernel_rfl)) (fun _ _ _ h => h) (Or.inl ⟨by rfl, ?_⟩) ?_ ?_
     rotate_left
     ·intro w'
      go_simp
      with_reducible rfl
     rotate_left
     ·simp only [Act.put, zE, zF, zG, i64_w, i32_w]
      rfl
     refine pure_ (i := 8) (N := some 15) (v := ?_) (a' := ?_) #[true, true, true, true, true, false, true, true, true, false, false, false, false, false] rfl rfl (any_of HT_.out (by kernel_rfl)) (fun _ _ _ h => h) (Or.inl ⟨by rfl, ?_⟩) ?_ ?_
     rotate_left
     ·intro w'
      go_simp
      with_reducible rfl
     rotate_left
     ·simp only [Act.put, zE, zF, zG, i64_w, i32_w]
      rfl
     refine pure_ (i := 9) (N := some 16) (v := ?_) (a' := ?_) #[true, true, true, true, true, false, true, true, true, true, false, false, false, false] rfl rfl (any_of HT_.out (by kernel_rfl)) (fun _ _ _ h => h) (Or.inl ⟨by rfl, ?_⟩) ?_ ?_
     rotate_left
     ·intro w'
      go_simp
      with_reducible rfl
     rotate_left
     ·simp only [Act.put, zE, zF, zG, i64_w, i32_w]
      rfl
     refine pure_ (i := 10) (N := some 17) (v := ?_) (a' := ?_) #[true, true, true, true, true, false, true, true, true, true, true, false, false, false] rfl rfl (any_of HT_.out (by kernel_rfl)) (fun _ _ _ h => h) (Or.inl ⟨by rfl, ?_⟩) ?_ ?_
     rotate_left
     ·intro w'
      go_simp
      with_reducible rfl
     rotate_left
     ·simp only [Act.put, zE, zF, zG, i64_w, i32_w]
      rfl
     refine take_ (i := 5) (N := some 12) (v := ?_) (a' := ?_) #[true, true, true, true, true, true, true, true, true, true, true, false, false, false] rfl rfl (take_ofW HT_.out HW_.out (by kernel_rfl)) (fun _ _ _ h => h) (Or.inl ⟨by rfl, ?_⟩) hHeld ?_ ?_
     rotate_left
     ·rintro w' ⟨s0, s1⟩
      go_simp
      with_reducible rfl
     rotate_left
     ·simp only [Act.put, zE, zF, zG, i64_w, i32_w]
      rfl
     refine take_ (i := 11) (N := some 18) (v := ?_) (a' := ?_) #[true, true, true, true, true, true, true, true, true, true, true, true, false, false] rfl rfl (take_ofW HT_.out HW_.out (by kernel_rfl)) (fun _ _ _ h => h) (Or.inl ⟨by rfl, ?_⟩) hHeld ?_ ?_
     rotate_left
     ·rintro w' ⟨s0, s1⟩
      go_simp
      with_reducible rfl
     rotate_left
     ·simp only [Act.put, zE, zF, zG, i64_w, i32_w]
      rfl
     refine one_ (i := 12) (N := some 19) #[true, true, true, true, true, true, true, true, true, true, true, true, true, false] rfl rfl (one_of HT_.out (by kernel_rfl)) (by decide) (fun K hK => ?_)
     refine goes_ Try.func11 (by kernel_rfl) rfl #[.int .i64 (wrap64 (a1 + 1)), .int .i64 (rd l0 a1), .int .i64 (wrap64 (a2 + 1)), .int .i64 (rd l0 a2)] (by rfl) rfl rfl (by (try simp only [List.map_toArray, List.map_cons, List.map_nil]); first | done | rfl | (simp only [List.length_drop, List.length_take]; rfl)) ?_
     with_reducible refine (impl_CrossOk.calls k (wrap64 (a1 + 1)) (rd l0 a1) (wrap64 (a2 + 1)) (rd l0 a2) t321 _ A8.out).mono ?_
     rintro e w10 ⟨rfl, hb⟩
     refine ⟨_, rfl, ?_⟩
     have n0_ := zM (below_step (by repeat (first | (with_reducible first | exact HB.out | apply zB | apply zA | apply zC) | exact HB.out)) hb)
     clear HB
     have HB := n0_
     clear n0_
     (try clear hb)
     (try clear hb2)
     (try clear hk)
     (try clear hi)
     refine hK.out _ _ ⟨((HB.out.cell (World.block_lt_of_cell? w _ hw319_0)).trans hw319_0), ((HB.out.cell (World.block_lt_of_cell? w _ hw320_0)).trans hw320_0)⟩ (fun hHeld => ?_)
     clear hK K
     refine norm_ (a' := ?_) ?_ ?_
     rotate_left
     ·show Act.put _ (some 19) _ = _
      simp only [Act.put, zE, zF, zG, i64_w, i32_w]
      rfl
     refine pure_ (i := 13) (N := some 6) (v := ?_) (a' := ?_) #[true, true, true, true, true, true, true, true, true, true, true, true, true, true] rfl rfl (any_of HT_.out (by kernel_rfl)) (fun _ _ _ h => h) (Or.inl ⟨by rfl, ?_⟩) ?_ ?_
     rotate_left
     ·intro w'
      go_simp
      with_reducible rfl
     rotate_left
     ·simp only [Act.put, zE, zF, zG, i64_w, i32_w]
      rfl
     refine done_ (done_of HT_.out (by kernel_rfl)) ?_
     try go_wp2
     go_ret
     exact ⟨by first | rfl | (simp [errW_none, errW_some] <;> rfl) | (simp [*, errW_none, errW_some] <;> rfl), by repeat (first | (with_reducible first | exact HB.out | apply zB | apply zA | apply zC) | exact HB.out)⟩
    ·rw [if_neg c7] at H
     exact absurd H (by simp)
   ·rw [if_neg c6] at H
    exact absurd H (by simp)
  ·rw [if_neg c5] at H
   exact absurd H (by simp)
 ·rw [if_neg c4] at H
  exact absurd H (by simp)

/-! ### slices_Clip_int_int: function 16, told by hand -/
def slices_Clip_int_int.f (l0 : List Int) : Option (List Int) := some l0
set_option maxHeartbeats 8000000 in
theorem slices_Clip_int_int.calls (P0_ : Nat → Prop) (u9000_ : Value) (l0 : List Int) (r : List Int) (w0 w : World) (hB : Below w0.heap.size w0 w) (ho0 : Kd.R (Kd.int .i64) 3 w w0.heap.size P0_ u9000_ l0) (h : slices_Clip_int_int.f l0 = some r) :
  Calls Try.prog 16 #[u9000_] w fun e w' => ∃ v0_ : Value, e = .returned (v0_) ∧ Kd.R (Kd.int .i64) 3 w' w0.heap.size (fun k_ => (P0_ k_ ∨ w.heap.size ≤ k_)) v0_ r ∧ Below w0.heap.size w0 w' ∧ Kept w w' (fun k_ => P0_ k_) := by
 obtain rfl := Option.some.inj h
 obtain ⟨A, c, rfl, hc⟩ := ho0.2.slice_
 have HO := zM ho0
 have HB := zM hB
 clear ho0 hB h
 go_enter Try.func16, Try.ntmps16
 go_wp2
 go_ret
 exact ⟨_, rfl, Kd.R_clip (Kd.R_mono HO.out (fun _ h => .inl h)), HB.out, Kept.refl _ _⟩
set_option maxHeartbeats 8000000 in
theorem slices_Clip_int_int.plain (A0 : Option Addr) (n0 c0 : Nat) (w : World) (hc0 : n0 ≤ c0) :
  Calls Try.prog 16 #[.slice A0 n0 c0] w fun e w' => e = .returned (.slice A0 n0 n0) ∧ w' = w := by
 go_enter Try.func16, Try.ntmps16
 go_wp2
 go_ret
 exact ⟨rfl, rfl⟩

/-! ### impl_SidesFor: function 5, told by hand -/
mutual
def impl_SidesFor.d : Nat → List Int → List Int → Int → Int → Option (List Int × Bool)
 | 0, _, _, _, _ => none
 | k + 1, l, s, i, on => if 0 ≤ i then (if i < (s.length : Int) then (if rd s i ≥ 0 then some (s, rd s i == on) else impl_SidesFor.q k l (s.set i.toNat on) i on (l.length : Int) 0) else none) else none
def impl_SidesFor.q : Nat → List Int → List Int → Int → Int → Int → Int → Option (List Int × Bool)
 | 0, _, _, _, _, _, _ => none
 | k + 1, l, s, i, on, n, j => if j < n then ((impl_crosses.f k l i j).bind fun t => if t = true then ((impl_SidesFor.d k l s j (wrap64 (1 - on))).bind fun x => if x.2 = true then impl_SidesFor.q k l x.1 i on n (wrap64 (j + 1)) else some (x.1, false)) else impl_SidesFor.q k l s i on n (wrap64 (j + 1))) else some (s, true)
end
def impl_SidesFor.m : Nat → List Int → List Int → List Int → Int → Int → Option (List Int × Bool)
 | 0, _, _, _, _, _ => none
 | k + 1, l, s, o, n, j => if j < n then (if 0 ≤ j then (if j < (l.length : Int) then (if rd l j = 0 then impl_SidesFor.m k l s o n (wrap64 (j + 1)) else (if j < (s.length : Int) then (if rd s j < 0 then ((impl_SidesFor.d k l s j 0).bind fun x => if x.2 = true then (if j < (x.1.length : Int) then (if o.length < 17592186044416 then impl_SidesFor.m k l x.1 (o ++ [rd x.1 j]) n (wrap64 (j + 1)) else none) else none) else some ([], false)) else (if o.length < 17592186044416 then impl_SidesFor.m k l s (o ++ [rd s j]) n (wrap64 (j + 1)) else none)) else none)) else none) else none) else some (o, true)
def impl_SidesFor.z : Nat → List Int → List Int → Int → Int → Option (List Int × Bool)
 | 0, _, _, _, _ => none
 | k + 1, l, s, n, j => if j < n then (if 0 ≤ j then (if j < (s.length : Int) then impl_SidesFor.z k l (s.set j.toNat (-1)) n (wrap64 (j + 1)) else none) else none) else impl_SidesFor.m k l s [] (l.length : Int) 0
def impl_SidesFor.f (k : Nat) (l : List Int) : Option (List Int × Bool) := (impl_TreeOk.f k l).bind fun t => if t = true then (if l.length < 17592186044416 then impl_SidesFor.z k l (List.replicate (l.length : Int).toNat 0) ((List.replicate (l.length : Int).toNat (0 : Int)).length : Int) 0 else none) else some ([], false)
theorem impl_SidesFor.mono_l : ∀ k, (∀ a b c d, LeO (impl_SidesFor.d k a b c d) (impl_SidesFor.d (k + 1) a b c d)) ∧ (∀ a b c d e f, LeO (impl_SidesFor.q k a b c d e f) (impl_SidesFor.q (k + 1) a b c d e f))
 | 0 => ⟨fun _ _ _ _ r h => by simp [impl_SidesFor.d] at h, fun _ _ _ _ _ _ r h => by simp [impl_SidesFor.q] at h⟩
 | k + 1 => by
  obtain ⟨ih0, ih1⟩ := impl_SidesFor.mono_l k
  refine ⟨?_, ?_⟩
  ·intro a b c d
   unfold impl_SidesFor.d
   repeat' first
   | (with_reducible exact ih0 _ _ _ _)
   | (with_reducible exact ih1 _ _ _ _ _ _)
   | (with_reducible exact LeO.refl _)
   | (with_reducible exact LeO.none _)
   | (with_reducible refine LeO.ite ?_ ?_)
   | (with_reducible refine LeO.bind ?_ (fun _ => ?_))
  ·intro a b c d e f
   unfold impl_SidesFor.q
   repeat' first
   | (with_reducible exact ih0 _ _ _ _)
   | (with_reducible exact ih1 _ _ _ _ _ _)
   | (with_reducible exact impl_crosses.mono _ _ _ _)
   | (with_reducible exact LeO.refl _)
   | (with_reducible exact LeO.none _)
   | (with_reducible refine LeO.ite ?_ ?_)
   | (with_reducible refine LeO.bind ?_ (fun _ => ?_))
theorem impl_SidesFor.mono_m : ∀ k a b c d e, LeO (impl_SidesFor.m k a b c d e) (impl_SidesFor.m (k + 1) a b c d e)
 | 0 => fun _ _ _ _ _ r h => by simp [impl_SidesFor.m] at h
 | k + 1 => by
  have ih0 := impl_SidesFor.mono_m k
  have ih1 := (impl_SidesFor.mono_l k).1
  intro a b c d e
  unfold impl_SidesFor.m
  repeat' first
   | (with_reducible exact ih0 _ _ _ _ _)
   | (with_reducible exact ih1 _ _ _ _)
   | (with_reducible exact LeO.refl _)
   | (with_reducible exact LeO.none _)
   | (with_reducible refine LeO.ite ?_ ?_)
   | (with_reducible refine LeO.bind ?_ (fun _ => ?_))
theorem impl_SidesFor.mono_z : ∀ k a b c d, LeO (impl_SidesFor.z k a b c d) (impl_SidesFor.z (k + 1) a b c d)
 | 0 => fun _ _ _ _ r h => by simp [impl_SidesFor.z] at h
 | k + 1 => by
  have ih0 := impl_SidesFor.mono_z k
  have ih1 := impl_SidesFor.mono_m k
  intro a b c d
  unfold impl_SidesFor.z
  repeat' first
   | (with_reducible exact ih0 _ _ _ _)
   | (with_reducible exact ih1 _ _ _ _ _)
   | (with_reducible exact LeO.refl _)
   | (with_reducible exact LeO.none _)
   | (with_reducible refine LeO.ite ?_ ?_)
   | (with_reducible refine LeO.bind ?_ (fun _ => ?_))
theorem impl_SidesFor.mono : ∀ a k, LeO (impl_SidesFor.f k a) (impl_SidesFor.f (k + 1) a) := by
 intro a k
 unfold impl_SidesFor.f
 repeat' first
   | (with_reducible exact impl_TreeOk.mono _ _)
   | (with_reducible exact impl_SidesFor.mono_z _ _ _ _ _)
   | (with_reducible exact LeO.refl _)
   | (with_reducible exact LeO.none _)
   | (with_reducible refine LeO.ite ?_ ?_)
   | (with_reducible refine LeO.bind ?_ (fun _ => ?_))
set_option maxHeartbeats 16000000 in
set_option maxRecDepth 100000 in
theorem impl_SidesFor.drawn (l : List Int) (A0 As : Option Addr) (c0 cs gS gH gD n : Nat) (P0 : Nat → Prop) (w0 : World) (hc0 : l.length ≤ c0) (hgS : ¬ P0 gS) (hgH : ¬ P0 gH) (hgD : ¬ P0 gD) (k : Nat) : ∀ (s : List Int) (i on : Int) (t : List Int) (b : Bool) (w : World), Below w0.heap.size w0 w → Kd.C (Kd.int .i64) w0 A0 l.length l →
  Kd.R (Kd.int .i64) 3 w w0.heap.size P0 (.slice As n cs) s → w.heap[gS]? = some (.cells #[.slice As n cs] 23 (0, 0)) → w.heap[gH]? = some (.cells #[.slice A0 l.length c0] 23 (0, 0)) →
  w.heap[gD]? = some (.cells #[.func (.func 14) #[] #[.pointer (some ⟨gS, 0, none⟩), .pointer (some ⟨gH, 0, none⟩), .pointer (some ⟨gD, 0, none⟩)]] 36 (0, 0)) →
  impl_SidesFor.d k l s i on = some (t, b) →
  Calls Try.prog 14 #[.int .i64 i, .int .i64 on, .pointer (some ⟨gS, 0, none⟩), .pointer (some ⟨gH, 0, none⟩), .pointer (some ⟨gD, 0, none⟩)] w fun e w' =>
   e = .returned (.bool b) ∧ Kd.R (Kd.int .i64) 3 w' w0.heap.size P0 (.slice As n cs) t ∧ Below w0.heap.size w0 w' ∧ Kept w w' P0 := by
 induction k using Nat.strongRecOn with
 | _ k ih =>
 intro s i on t b w hB hr0 ho hbS hbH hbD h
 obtain rfl := (Kd.R_reads' ho).1
 have HR0 := zM hr0
 have HC0 := zM hc0
 have HB := zM hB
 have HO := zM ho
 have BKS := zM hbS
 have BKH := zM hbH
 have BKD := zM hbD
 have HGS := zM hgS
 have HGH := zM hgH
 have HGD := zM hgD
 have HK := zM (Kept.refl w P0)
 clear hr0 hc0 hB ho hbS hbH hbD hgS hgH hgD
 cases k with
 | zero => simp [impl_SidesFor.d] at h
 | succ k1 =>
 have H := h
 clear h
 simp only [impl_SidesFor.d] at H
 by_cases c1 : 0 ≤ i
 ·rw [if_pos c1] at H
  have c1b : decide (0 ≤ i) = true := decide_eq_true c1
  by_cases c2 : i < (s.length : Int)
  ·rw [if_pos c2] at H
   have c2b : decide (i < (s.length : Int)) = true := decide_eq_true c2
   obtain ⟨go, co, eo, gb, gl, cl, HG⟩ := Kd.R_form HO.out (by omega)
   (first | cases eo | (injection eo with ea_ en_ ec_; (first | subst ea_ | (injection ea_ with ea_; subst ea_)); subst ec_; clear en_))
   have GB := zM gb
   clear gb gl HG
   obtain ⟨hx0_, hf0⟩ := Kd.R_celln 0 HO.out i c1 c2
   have hx0 : w.cell? ⟨go, i.toNat, none⟩ = some (.int .i64 (rd s i)) := hx0_
   clear hx0_
   have hcS : w.cell? ⟨gS, 0, none⟩ = some (.slice (some ⟨go, 0, none⟩) s.length cs) := (blk_cell BKS.out 0).trans rfl
   have hcH : w.cell? ⟨gH, 0, none⟩ = some (.slice A0 l.length c0) := (blk_cell BKH.out 0).trans rfl
   have p1 := eq_true c1
   have q1 := eq_true c2
   clear c1 c2
   by_cases c3 : rd s i ≥ 0
   ·rw [if_pos c3] at H
    have c3b : decide (0 ≤ rd s i) = true := decide_eq_true c3
    clear c3
    simp only [Option.some.injEq, Prod.mk.injEq] at H
    obtain ⟨rfl, rfl⟩ := H
    go_enter Try.func14, Try.ntmps14
    go_wp2
    go_ret
    exact ⟨by first | rfl | (simp; done) | (simp [*]; done), HO.out, HB.out, HK.out⟩
   ·rw [if_neg c3] at H
    have c3b : decide (0 ≤ rd s i) = false := decide_eq_false c3
    clear c3
    have H' := zM H
    clear H
    have HP := zM (Kd.R_putg HO.out i on)
    have HOB := zM HO.out
    go_enter Try.func14, Try.ntmps14
    go_wp2_with (first | ((with_reducible refine gate_store (t := 3) (p := 23) rfl ?_); refine store_event (t := 3) (p := 23) (v := ?vo_w8) (w1 := (w.setCell ⟨go, (i : Int).toNat, none⟩ (.int .i64 on))) ?hg ?ho ?hn ?hr ?_; (case ho => rfl); (case hg => rfl); (case hn => rfl); (case hr => first | (go_simp; done) | (go_simp; rfl)); intro w8 hw; have hg : w.grownBy w8 (some go) := (by rw [hw]; exact HP.out.2); have hk : Kept w w8 P0 := Kept.of_grown (S := P0) hg HK.out (fun k_ e_ => .inl (HO.out.1 k_ e_)); have n0_ := zM (show Kd.R (Kd.int .i64) 3 w8 w0.heap.size P0 (.slice (some ⟨go, 0, none⟩) s.length cs) (s.set i.toNat on) by rw [hw]; exact HP.out.1); have n1_ := zM (by rw [hw]; exact zD (HB.out) GB.out : Below w0.heap.size w0 w8); have n2_ := zM (blk_kept BKS.out hk HGS.out); have n3_ := zM (blk_kept BKH.out hk HGH.out); have n4_ := zM (blk_kept BKD.out hk HGD.out); have n5_ := zM hk; clear HO HB BKS BKH BKD HK; have HO := n0_; have HB := n1_; have BKS := n2_; have BKH := n3_; have BKD := n4_; have HK := n5_; clear n0_ n1_ n2_ n3_ n4_ n5_; have hcS2 : w8.cell? ⟨gS, 0, none⟩ = some (.slice (some ⟨go, 0, none⟩) s.length cs) := (blk_cell BKS.out 0).trans rfl; have hcH2 : w8.cell? ⟨gH, 0, none⟩ = some (.slice A0 l.length c0) := (blk_cell BKH.out 0).trans rfl; clear hg hw hk))
    go_loopg [26] k1 (fun kq v26 w' => ∃ (s1 : List Int) (j1 : Int), v26 = .int .i64 j1 ∧ Aside0 (impl_SidesFor.q kq l s1 i on (l.length : Int) j1 = some (t, b)) ∧ Aside0 (kq ≤ k1) ∧ Aside0 (Kd.R (Kd.int .i64) 3 w' w0.heap.size P0 (.slice (some ⟨go, 0, none⟩) s.length cs) s1) ∧ Aside0 (w'.heap[gS]? = some (.cells #[.slice (some ⟨go, 0, none⟩) s.length cs] 23 (0, 0))) ∧ Aside0 (w'.heap[gH]? = some (.cells #[.slice A0 l.length c0] 23 (0, 0))) ∧ Aside0 (w'.heap[gD]? = some (.cells #[.func (.func 14) #[] #[.pointer (some ⟨gS, 0, none⟩), .pointer (some ⟨gH, 0, none⟩), .pointer (some ⟨gD, 0, none⟩)]] 36 (0, 0))) ∧ Aside0 (Kept w w' P0) ∧ Aside0 (Below w0.heap.size w0 w'))
    case atStart => exact ⟨_, 0, rfl, H', ⟨Nat.le_refl _⟩, HO, BKS, BKH, BKD, HK, HB⟩
    case round =>
     clear H' HO BKS BKH BKD HK HB HP
     (try clear hx0); (try clear hf0); (try clear hcS); (try clear hcH); (try clear hcS2); (try clear hcH2); (try clear c1b); (try clear c2b); (try clear c3b)
     obtain ⟨s1, j1, rfl, HA, HK1, HO, BKS, BKH, BKD, HK, HB⟩ := hrel
     cases gk with
     | zero => exact absurd HA.out (by simp [impl_SidesFor.q])
     | succ k2 =>
      have H := HA.out
      clear HA
      simp only [impl_SidesFor.q] at H
      have hcH : wr.cell? ⟨gH, 0, none⟩ = some (.slice A0 l.length c0) := (blk_cell BKH.out 0).trans rfl
      by_cases d1 : j1 < (l.length : Int)
      ·rw [if_pos d1] at H
       have d1b : decide (j1 < (l.length : Int)) = true := decide_eq_true d1
       clear d1
       obtain ⟨t1, e1, H⟩ := Option.bind_eq_some_iff.mp H
       have E1 := zM e1
       clear e1
       cases t1 with
       | true =>
        rw [if_pos rfl] at H
        obtain ⟨⟨s2, b2⟩, e2, H⟩ := Option.bind_eq_some_iff.mp H
        obtain ⟨on2, hon2⟩ : ∃ o_ : Int, wrap64 (1 - on) = o_ := ⟨_, rfl⟩
        rw [hon2] at e2
        have hon2w : IntKind.i64.wrap (1 - on) = on2 := (i64_w _).trans hon2
        have E2 := zM e2
        clear e2
        cases b2 with
        | true =>
         have H := H
         rw [if_pos rfl] at H
         have H' := zM H
         clear H
         go_wp2_with (first | (go_at_call 15; (with_reducible refine (impl_crosses.calls k2 _ _ l i j1 true _ (Kd.C_below HR0.out HB.out) HC0.out E1.out).mono ?_); rintro e w9 ⟨rfl, hb⟩; have n0_ := zM (Kd.R_below HO.out hb); have n1_ := zM (below_weaken HB.out HB.out.size hb); have n2_ := zM (blk_below BKS.out hb); have n3_ := zM (blk_below BKH.out hb); have n4_ := zM (blk_below BKD.out hb); have n5_ := zM (Kept.below HK.out hb); clear HO HB BKS BKH BKD HK hb; have HO := n0_; have HB := n1_; have BKS := n2_; have BKH := n3_; have BKD := n4_; have HK := n5_; clear n0_ n1_ n2_ n3_ n4_ n5_; have hcD : w9.cell? ⟨gD, 0, none⟩ = some (.func (.func 14) #[] #[.pointer (some ⟨gS, 0, none⟩), .pointer (some ⟨gH, 0, none⟩), .pointer (some ⟨gD, 0, none⟩)]) := (blk_cell BKD.out 0).trans rfl) | (go_at_call 14; (with_reducible refine (ih k2 (by have := HK1.out; omega) s1 j1 on2 s2 true _ HB.out HR0.out HO.out BKS.out BKH.out BKD.out E2.out).mono ?_); rintro e w10 ⟨rfl, ho, hb, hk⟩; have n0_ := zM ho; have n1_ := zM hb; have n2_ := zM (blk_kept BKS.out hk HGS.out); have n3_ := zM (blk_kept BKH.out hk HGH.out); have n4_ := zM (blk_kept BKD.out hk HGD.out); have n5_ := zM (Kept.then_ HK.out hk (fun _ h_ => .inl h_)); clear HO HB BKS BKH BKD HK hb ho hk; have HO := n0_; have HB := n1_; have BKS := n2_; have BKH := n3_; have BKD := n4_; have HK := n5_; clear n0_ n1_ n2_ n3_ n4_ n5_))
         go_roundg k2
         case measure => have := HK1.out; omega
         case rel => exact ⟨_, wrap64 (j1 + 1), (by first | rfl | (simp; done) | (simp [*]; done)), H', ⟨by have := HK1.out; omega⟩, HO, BKS, BKH, BKD, HK, HB⟩
        | false =>
         rw [if_neg (by simp)] at H
         simp only [Option.some.injEq, Prod.mk.injEq] at H
         obtain ⟨rfl, rfl⟩ := H
         go_wp2_with (first | (go_at_call 15; (with_reducible refine (impl_crosses.calls k2 _ _ l i j1 true _ (Kd.C_below HR0.out HB.out) HC0.out E1.out).mono ?_); rintro e w9 ⟨rfl, hb⟩; have n0_ := zM (Kd.R_below HO.out hb); have n1_ := zM (below_weaken HB.out HB.out.size hb); have n2_ := zM (blk_below BKS.out hb); have n3_ := zM (blk_below BKH.out hb); have n4_ := zM (blk_below BKD.out hb); have n5_ := zM (Kept.below HK.out hb); clear HO HB BKS BKH BKD HK hb; have HO := n0_; have HB := n1_; have BKS := n2_; have BKH := n3_; have BKD := n4_; have HK := n5_; clear n0_ n1_ n2_ n3_ n4_ n5_; have hcD : w9.cell? ⟨gD, 0, none⟩ = some (.func (.func 14) #[] #[.pointer (some ⟨gS, 0, none⟩), .pointer (some ⟨gH, 0, none⟩), .pointer (some ⟨gD, 0, none⟩)]) := (blk_cell BKD.out 0).trans rfl) | (go_at_call 14; (with_reducible refine (ih k2 (by have := HK1.out; omega) s1 j1 on2 s2 false _ HB.out HR0.out HO.out BKS.out BKH.out BKD.out E2.out).mono ?_); rintro e w10 ⟨rfl, ho, hb, hk⟩; have n0_ := zM ho; have n1_ := zM hb; have n2_ := zM (blk_kept BKS.out hk HGS.out); have n3_ := zM (blk_kept BKH.out hk HGH.out); have n4_ := zM (blk_kept BKD.out hk HGD.out); have n5_ := zM (Kept.then_ HK.out hk (fun _ h_ => .inl h_)); clear HO HB BKS BKH BKD HK hb ho hk; have HO := n0_; have HB := n1_; have BKS := n2_; have BKH := n3_; have BKD := n4_; have HK := n5_; clear n0_ n1_ n2_ n3_ n4_ n5_))
         go_ret
         exact ⟨by first | rfl | (simp; done) | (simp [*]; done), HO.out, HB.out, HK.out⟩
       | false =>
        rw [if_neg (by simp)] at H
        have H' := zM H
        clear H
        go_wp2_with (first | (go_at_call 15; (with_reducible refine (impl_crosses.calls k2 _ _ l i j1 false _ (Kd.C_below HR0.out HB.out) HC0.out E1.out).mono ?_); rintro e w9 ⟨rfl, hb⟩; have n0_ := zM (Kd.R_below HO.out hb); have n1_ := zM (below_weaken HB.out HB.out.size hb); have n2_ := zM (blk_below BKS.out hb); have n3_ := zM (blk_below BKH.out hb); have n4_ := zM (blk_below BKD.out hb); have n5_ := zM (Kept.below HK.out hb); clear HO HB BKS BKH BKD HK hb; have HO := n0_; have HB := n1_; have BKS := n2_; have BKH := n3_; have BKD := n4_; have HK := n5_; clear n0_ n1_ n2_ n3_ n4_ n5_; have hcD : w9.cell? ⟨gD, 0, none⟩ = some (.func (.func 14) #[] #[.pointer (some ⟨gS, 0, none⟩), .pointer (some ⟨gH, 0, none⟩), .pointer (some ⟨gD, 0, none⟩)]) := (blk_cell BKD.out 0).trans rfl))
        go_roundg k2
        case measure => have := HK1.out; omega
        case rel => exact ⟨_, wrap64 (j1 + 1), (by first | rfl | (simp; done) | (simp [*]; done)), H', ⟨by have := HK1.out; omega⟩, HO, BKS, BKH, BKD, HK, HB⟩
      ·rw [if_neg d1] at H
       have d1b : decide (j1 < (l.length : Int)) = false := decide_eq_false d1
       clear d1
       simp only [Option.some.injEq, Prod.mk.injEq] at H
       obtain ⟨rfl, rfl⟩ := H
       go_wp2
       go_ret
       exact ⟨by first | rfl | (simp; done) | (simp [*]; done), HO.out, HB.out, HK.out⟩
  ·rw [if_neg c2] at H
   exact absurd H (by simp)
 ·rw [if_neg c1] at H
  exact absurd H (by simp)
set_option maxHeartbeats 16000000 in
set_option maxRecDepth 100000 in
theorem impl_SidesFor.calls (k : Nat) (A0 : Option Addr) (c0 : Nat) (l0 : List Int) (r1 : List Int) (r2 : Bool) (w : World) (hr0 : Kd.C (Kd.int .i64) w A0 l0.length l0) (hc0 : l0.length ≤ c0) (h : impl_SidesFor.f k l0 = some (r1, r2)) :
  Calls Try.prog 5 #[.slice A0 l0.length c0] w fun e w' => ∃ v0_ : Value, e = .returned (.tuple #[v0_, .bool r2]) ∧ Kd.R (Kd.int .i64) 3 w' w.heap.size (fun _ => True) v0_ r1 ∧ Below w.heap.size w w' := by
 have hmf : ∀ (fn : Fn) (first cap : Array Value) (w : World), (Instr.makeFunc fn first cap).run Try.prog w = .ok (.func fn first cap) w := fun _ _ _ _ => rfl
 have hsf := fun (a : Addr) (c : Array Value) (w : World) => run_store Try.prog w a (.func (.func 14) #[] c) .plain rfl
 have HR0 := zM hr0
 have HC0 := zM hc0
 have HB := zM (Below.refl w.heap.size w)
 clear hr0 hc0
 unfold impl_SidesFor.f at h
 obtain ⟨t, e1, h⟩ := Option.bind_eq_some_iff.mp h
 have E1 := zM e1
 clear e1
 cases t with
 | false =>
  rw [if_neg (by simp)] at h
  simp only [Option.some.injEq, Prod.mk.injEq] at h
  obtain ⟨rfl, rfl⟩ := h
  go_enter Try.func5, Try.ntmps5
  go_wp2_with (first | ((with_reducible refine gate_dst (N := 1) rfl ?_); refine box_event ?hg (N := 1) ?hd (cs := #[.slice A0 l0.length c0]) (t := 23) ?hr ?_; (case hd => rfl); (case hg => rfl); (case hr => first | (go_simp; done) | (go_simp; rfl)); intro gH hg w1 hbox hb; have n0_ := zM (below_step HB.out hb); clear HB; have HB := n0_; clear n0_; have BKH := zM hbox; have GEH := zM (show w.heap.size ≤ gH by rw [hg]; exact Nat.le_refl _); have hcH : w1.cell? ⟨gH, 0, none⟩ = some (.slice A0 l0.length c0) := (blk_cell hbox 0).trans rfl; clear hbox hb hg) | (go_at_call 8; (with_reducible refine (impl_TreeOk.calls k _ _ l0 false _ (Kd.C_below HR0.out HB.out) HC0.out E1.out).mono ?_); rintro e w2 ⟨rfl, hd⟩; have hb := below_drawn hd; clear hd; have n0_ := zM (below_step HB.out hb); have n1_ := zM (blk_below BKH.out hb); clear HB BKH hb; have HB := n0_; have BKH := n1_; clear n0_ n1_; have hcH2 : w2.cell? ⟨gH, 0, none⟩ = some (.slice A0 l0.length c0) := (blk_cell BKH.out 0).trans rfl))
  go_ret2
  exact ⟨_, rfl, Kd.R_nil _ _ _ _ _, HB.out⟩
 | true =>
 rw [if_pos rfl] at h
 by_cases hl : l0.length < 17592186044416
 ·rw [if_pos hl] at h
  have HL := zM hl
  clear hl
  obtain ⟨y, hy⟩ : ∃ y_ : List Int, y_ = List.replicate (l0.length : Int).toNat 0 := ⟨_, rfl⟩
  rw [← hy] at h
  have Ny := zM hy
  clear hy
  have H' := zM h
  clear h
  go_enter Try.func5, Try.ntmps5
  go_wp2_with (first | ((with_reducible refine gate_dst (N := 1) rfl ?_); refine box_event ?hg (N := 1) ?hd (cs := #[.slice A0 l0.length c0]) (t := 23) ?hr ?_; (case hd => rfl); (case hg => rfl); (case hr => first | (go_simp; done) | (go_simp; rfl)); intro gH hg w1 hbox hb; have n0_ := zM (below_step HB.out hb); clear HB; have HB := n0_; clear n0_; have BKH := zM hbox; have GEH := zM (show w.heap.size ≤ gH by rw [hg]; exact Nat.le_refl _); have hcH : w1.cell? ⟨gH, 0, none⟩ = some (.slice A0 l0.length c0) := (blk_cell hbox 0).trans rfl; clear hbox hb hg) | (go_at_call 8; (with_reducible refine (impl_TreeOk.calls k _ _ l0 true _ (Kd.C_below HR0.out HB.out) HC0.out E1.out).mono ?_); rintro e w2 ⟨rfl, hd⟩; have hb := below_drawn hd; clear hd; have n0_ := zM (below_step HB.out hb); have n1_ := zM (blk_below BKH.out hb); clear HB BKH hb; have HB := n0_; have BKH := n1_; clear n0_ n1_; have hcH2 : w2.cell? ⟨gH, 0, none⟩ = some (.slice A0 l0.length c0) := (blk_cell BKH.out 0).trans rfl) | ((with_reducible refine gate_dst (N := 15) rfl ?_); refine Kd.R_make (Kd.int .i64) _ 3 rfl (N := 15) rfl 23 _ _ rfl (l0.length : Int) rfl rfl Try.underlying23 (.int .i64 0) 8 info3 rfl (by decide) (by omega) 0 (ok := fun _ => True) (okp := fun _ => True) rfl (fun _ hk => hk) trivial (Int.natCast_nonneg _) (by have := HL.out; rw [Int.toNat_natCast]; omega) (Below.refl _ _) (Nat.le_refl _) ?_; intro v3 w3 ho hb hg_ hnew_; clear hg_ hnew_; rw [← Ny.out] at ho; have n0_ := zM (Kd.R_lower (Kd.R_tight rfl ho) (HB.out.size)); have n1_ := zM (below_step HB.out hb); have n2_ := zM (blk_below BKH.out hb); have HNH := zM (show ¬ (some gH = (v3 : Value).ownBlock) from fun e_ => by have h1 := Kd.R_base ho gH e_.symm; have h2 := blk_lt BKH.out; omega); clear HB BKH; have HO := n0_; have HB := n1_; have BKH := n2_; clear n0_ n1_ n2_ ho hb; obtain ⟨Ao, co, eo⟩ := Kd.R_slice HO.out; subst eo) | ((with_reducible refine gate_dst (N := 4) rfl ?_); refine box_event ?hg (N := 4) ?hd (cs := #[.slice none 0 0]) (t := 23) ?hr ?_; (case hd => rfl); (case hg => rfl); (case hr => first | (go_simp; done) | (go_simp; rfl)); intro gS hg w4 hbox hb; have n0_ := zM (below_step HB.out hb); have n1_ := zM (blk_below BKH.out hb); have n2_ := zM (Kd.R_below HO.out hb); have HNS := zM (show ¬ (some gS = (.slice Ao y.length co : Value).ownBlock) from fun e_ => by have h1 := Kd.R_lt HO.out gS e_.symm; omega); have NHS := zM (show gH ≠ gS by have h1 := blk_lt BKH.out; omega); have GES := zM (show w.heap.size ≤ gS by rw [hg]; exact HB.out.size); clear HB BKH HO; have HB := n0_; have BKH := n1_; have HO := n2_; have BKS := zM hbox; have hcS : w4.cell? ⟨gS, 0, none⟩ = some (.slice none 0 0) := (blk_cell hbox 0).trans rfl; have hfS := blk_frozen hbox 0; have hnS := NHS.out; have hnS2 := NHS.out.symm; clear n0_ n1_ n2_ hbox hb hg))
  go_loopg [18] k (fun kq v18 w' => ∃ (s1 : List Int) (j1 : Int), v18 = .int .i64 j1 ∧ Aside0 (impl_SidesFor.z kq l0 s1 (y.length : Int) j1 = some (r1, r2)) ∧ Aside0 (kq ≤ k) ∧ Aside0 (Kd.R (Kd.int .i64) 3 w' w.heap.size (fun k_ => some k_ = (.slice Ao y.length co : Value).ownBlock) (.slice Ao y.length co) s1) ∧ Aside0 (w'.heap[gS]? = some (.cells #[.slice Ao y.length co] 23 (0, 0))) ∧ Aside0 (w'.heap[gH]? = some (.cells #[.slice A0 l0.length c0] 23 (0, 0))) ∧ Aside0 (Below w.heap.size w w'))
  case atStart => exact ⟨y, 0, rfl, H', ⟨Nat.le_refl _⟩, ⟨Kd.R_far (p := ⟨gS, 0, none⟩) HO.out (fun k_ hk e_ => HNS.out (by have e2 : k_ = gS := e_; rw [← e2]; exact hk)) _⟩, ⟨blk_put (cs := #[.slice none 0 0]) BKS.out 0 _ rfl⟩, ⟨blk_far BKH.out NHS.out _⟩, ⟨zD HB.out GES.out⟩⟩
  case round =>
   clear H' HO BKS BKH HB
   (try clear hcH); (try clear hcH2); (try clear hcS); (try clear hfS)
   obtain ⟨s1, j1, rfl, HA, HK1, HO, BKS, BKH, HB⟩ := hrel
   cases gk with
   | zero => exact absurd HA.out (by simp [impl_SidesFor.z])
   | succ k1 =>
    have H := HA.out
    clear HA
    simp only [impl_SidesFor.z] at H
    have hn : y.length = s1.length := (Kd.R_reads' HO.out).1
    have hcS : wr.cell? ⟨gS, 0, none⟩ = some (.slice Ao y.length co) := (blk_cell BKS.out 0).trans rfl
    by_cases c1 : j1 < (y.length : Int)
    ·rw [if_pos c1] at H
     have c1b : decide (j1 < (y.length : Int)) = true := decide_eq_true c1
     by_cases c2 : 0 ≤ j1
     ·rw [if_pos c2] at H
      by_cases c3 : j1 < (s1.length : Int)
      ·rw [if_pos c3] at H
       have H' := zM H
       clear H
       obtain ⟨go, co2, eo, gb, gl, cl, HG⟩ := Kd.R_form HO.out (by omega)
       injection eo with ea_ en_ ec_
       subst ea_
       subst ec_
       clear en_ gl HG
       have GB := zM gb
       clear gb
       obtain ⟨hx0, hf0⟩ := Kd.R_celln 0 HO.out j1 c2 c1
       have HP := zM (Kd.R_putg HO.out j1 (-1))
       have p1 := eq_true c2
       have q1 := eq_true c1
       clear c1 c2 c3 hn
       go_wp2_with (first | ((with_reducible refine gate_store (t := 3) (p := 23) rfl ?_); refine store_event (t := 3) (p := 23) (v := ?vo_w8) (w1 := (wr.setCell ⟨go, (j1 : Int).toNat, none⟩ (.int .i64 (-1)))) ?hg ?ho ?hn ?hr ?_; (case ho => rfl); (case hg => rfl); (case hn => rfl); (case hr => first | (go_simp; done) | (go_simp; rfl)); intro w8 hw; have hg : wr.grownBy w8 (some go) := (by rw [hw]; exact HP.out.2); have n0_ := zM (show Kd.R (Kd.int .i64) 3 w8 w.heap.size (fun k_ => some k_ = (.slice (some ⟨go, 0, none⟩) y.length co : Value).ownBlock) (.slice (some ⟨go, 0, none⟩) y.length co) (s1.set j1.toNat (-1)) by rw [hw]; exact HP.out.1); have n1_ := zM (by rw [hw]; exact zD (HB.out) GB.out : Below w.heap.size w w8); have n2_ := zM (blk_grown BKS.out hg HNS.out); have n3_ := zM (blk_grown BKH.out hg HNH.out); clear HO HB BKS BKH; have HO := n0_; have HB := n1_; have BKS := n2_; have BKH := n3_; clear n0_ n1_ n2_ n3_ hg hw))
       go_roundg k1
       case measure => have := HK1.out; omega
       case rel => exact ⟨_, wrap64 (j1 + 1), (by first | rfl | (simp; done) | (simp [*]; done)), H', ⟨by have := HK1.out; omega⟩, HO, BKS, BKH, HB⟩
      ·rw [if_neg c3] at H
       exact absurd H (by simp)
     ·rw [if_neg c2] at H
      exact absurd H (by simp)
    ·rw [if_neg c1] at H
     have c1b : decide (j1 < (y.length : Int)) = false := decide_eq_false c1
     clear c1 hn
     have H' := zM H
     clear H
     have hcH : wr.cell? ⟨gH, 0, none⟩ = some (.slice A0 l0.length c0) := (blk_cell BKH.out 0).trans rfl
     go_wp2_with (first | ((with_reducible refine gate_dst (N := 6) rfl ?_); refine box_event ?hg (N := 6) ?hd (cs := #[.nilFunc]) (t := 36) ?hr ?_; (case hd => rfl); (case hg => rfl); (case hr => first | (go_simp; done) | (go_simp; rfl)); intro gD hg w5 hbox hb; have n0_ := zM (below_step HB.out hb); have n1_ := zM (blk_below BKH.out hb); have n2_ := zM (Kd.R_below HO.out hb); have n3_ := zM (blk_below BKS.out hb); have HND := zM (show ¬ (some gD = (.slice Ao y.length co : Value).ownBlock) from fun e_ => by have h1 := Kd.R_lt HO.out gD e_.symm; omega); have NHD := zM (show gH ≠ gD by have h1 := blk_lt BKH.out; omega); have NSD := zM (show gS ≠ gD by have h1 := blk_lt BKS.out; omega); have GED := zM (show w.heap.size ≤ gD by rw [hg]; exact HB.out.size); clear HB BKH HO BKS; have HB := n0_; have BKH := n1_; have HO := n2_; have BKS := n3_; have BKD := zM hbox; have hcD : w5.cell? ⟨gD, 0, none⟩ = some (.nilFunc) := (blk_cell hbox 0).trans rfl; have hfD := blk_frozen hbox 0; have hcH3 : w5.cell? ⟨gH, 0, none⟩ = some (.slice A0 l0.length c0) := (blk_cell BKH.out 0).trans rfl; have hnD := NHD.out; have hnD2 := NHD.out.symm; clear n0_ n1_ n2_ n3_ hbox hb hg) | ((with_reducible refine gate_dst (N := 26) rfl ?_); refine Kd.R_lit (Kd.int .i64) _ 3 ?hg (N := 26) ?hd (xs := ([] : List Int)) (inner := []) (ok := fun _ => True) (okp := fun _ => True) ?hr ?hp (fun _ hk => hk) trivial (Below.refl _ _) (Nat.le_refl _) (by simp) ?_; (case hd => rfl); (case hg => rfl); (case hr => first | (go_simp; done) | (go_simp; rfl)); (case hp => exact (Reps.none _ _)); intro v6 w6 ho hb hg_ hnew_; clear hg_ hnew_; have m0_ := Kd.R_far (p := ⟨gD, 0, none⟩) HO.out (fun k_ hk e_ => HND.out (by have e2 : k_ = gD := e_; rw [← e2]; exact hk)) (.func (.func 14) #[] #[.pointer (some ⟨gS, 0, none⟩), .pointer (some ⟨gH, 0, none⟩), .pointer (some ⟨gD, 0, none⟩)]); have m1_ := blk_far (p := ⟨gD, 0, none⟩) BKH.out NHD.out (.func (.func 14) #[] #[.pointer (some ⟨gS, 0, none⟩), .pointer (some ⟨gH, 0, none⟩), .pointer (some ⟨gD, 0, none⟩)]); have m2_ := blk_far (p := ⟨gD, 0, none⟩) BKS.out NSD.out (.func (.func 14) #[] #[.pointer (some ⟨gS, 0, none⟩), .pointer (some ⟨gH, 0, none⟩), .pointer (some ⟨gD, 0, none⟩)]); have m3_ := blk_put (cs := #[.nilFunc]) BKD.out 0 (.func (.func 14) #[] #[.pointer (some ⟨gS, 0, none⟩), .pointer (some ⟨gH, 0, none⟩), .pointer (some ⟨gD, 0, none⟩)]) rfl; have m4_ := (show Below w.heap.size w (w5.setCell ⟨gD, 0, none⟩ (.func (.func 14) #[] #[.pointer (some ⟨gS, 0, none⟩), .pointer (some ⟨gH, 0, none⟩), .pointer (some ⟨gD, 0, none⟩)])) from zD HB.out GED.out); have n0_ := zM (below_step m4_ hb); have n1_ := zM (blk_below m1_ hb); have n2_ := zM (Kd.R_below m0_ hb); have n3_ := zM (blk_below m2_ hb); have n4_ := zM (blk_below m3_ hb); have n5_ := zM (Kd.R_lower (Kd.R_mono (Kd.R_bound ho) (ok' := (fun k_ => ¬ (some k_ = (.slice Ao y.length co : Value).ownBlock) ∧ k_ ≠ gS ∧ k_ ≠ gH ∧ k_ ≠ gD)) (fun k_ hk => ⟨fun e_ => by have h1 := Kd.R_lt m0_ k_ e_.symm; have h2 := hk.2.1; omega, fun e_ => by have h1 := blk_lt m2_; have h2 := hk.2.1; omega, fun e_ => by have h1 := blk_lt m1_; have h2 := hk.2.1; omega, fun e_ => by have h1 := blk_lt m3_; have h2 := hk.2.1; omega⟩)) m4_.size); clear HB BKH HO BKS BKD m0_ m1_ m2_ m3_ m4_; have HB := n0_; have BKH := n1_; have HO := n2_; have BKS := n3_; have BKD := n4_; have HQ := n5_; clear n0_ n1_ n2_ n3_ n4_ n5_ ho hb; have hcH4 : w6.cell? ⟨gH, 0, none⟩ = some (.slice A0 l0.length c0) := (blk_cell BKH.out 0).trans rfl))
     go_loopg [7, 29] k1 (fun kq v7 v29 w' => ∃ (s2 o2 : List Int) (u7 : Value) (j2 : Int), v7 = u7 ∧ v29 = .int .i64 j2 ∧ Aside0 (impl_SidesFor.m kq l0 s2 o2 (l0.length : Int) j2 = some (r1, r2)) ∧ Aside0 (kq ≤ k1) ∧ Aside0 (Kd.R (Kd.int .i64) 3 w' w.heap.size (fun k_ => some k_ = (.slice Ao y.length co : Value).ownBlock) (.slice Ao y.length co) s2) ∧ Aside0 (Kd.R (Kd.int .i64) 3 w' w.heap.size (fun k_ => ¬ (some k_ = (.slice Ao y.length co : Value).ownBlock) ∧ k_ ≠ gS ∧ k_ ≠ gH ∧ k_ ≠ gD) u7 o2) ∧ Aside0 (w'.heap[gS]? = some (.cells #[.slice Ao y.length co] 23 (0, 0))) ∧ Aside0 (w'.heap[gH]? = some (.cells #[.slice A0 l0.length c0] 23 (0, 0))) ∧ Aside0 (w'.heap[gD]? = some (.cells #[.func (.func 14) #[] #[.pointer (some ⟨gS, 0, none⟩), .pointer (some ⟨gH, 0, none⟩), .pointer (some ⟨gD, 0, none⟩)]] 36 (0, 0))) ∧ Aside0 (Below w.heap.size w w'))
     case atStart => exact ⟨s1, [], _, 0, rfl, rfl, H', ⟨Nat.le_refl _⟩, HO, HQ, BKS, BKH, BKD, HB⟩
     case round =>
      clear H' HO HQ BKS BKH BKD HB
      (try clear hcH); (try clear hcS); (try clear hcD); (try clear hfD); (try clear hcH3); (try clear hcH4)
      obtain ⟨s2, o2, u7, j2, rfl, rfl, HA, HK2, HO, HQ, BKS, BKH, BKD, HB⟩ := hrel
      cases gk with
      | zero => exact absurd HA.out (by simp [impl_SidesFor.m])
      | succ k2 =>
       have H := HA.out
       clear HA
       simp only [impl_SidesFor.m] at H
       have hn : y.length = s2.length := (Kd.R_reads' HO.out).1
       by_cases c1 : j2 < (l0.length : Int)
       ·rw [if_pos c1] at H
        have c1b : decide (j2 < (l0.length : Int)) = true := decide_eq_true c1
        by_cases c2 : 0 ≤ j2
        ·rw [if_pos c2, if_pos c1] at H
         obtain ⟨adH, eH, hxH⟩ := Kd.at_int (Kd.C_below HR0.out HB.out) j2 c2 c1
         subst eH
         have p1 := eq_true c2
         have pH := eq_true c1
         by_cases c3 : rd l0 j2 = 0
         ·rw [if_pos c3] at H
          have c3b : (rd l0 j2 == 0) = true := beq_iff_eq.mpr c3
          have c3c : (rd l0 j2 != 0) = false := bne_eq_false_iff_eq.mpr c3
          clear c1 c2 c3 hn
          have H' := zM H
          clear H
          go_wp2
          go_roundg k2
          case measure => have := HK2.out; omega
          case rel => exact ⟨_, _, _, wrap64 (j2 + 1), rfl, (by first | rfl | (simp; done) | (simp [*]; done)), H', ⟨by have := HK2.out; omega⟩, HO, HQ, BKS, BKH, BKD, HB⟩
         ·rw [if_neg c3] at H
          have c3b : (rd l0 j2 == 0) = false := beq_eq_false_iff_ne.mpr c3
          have c3c : (rd l0 j2 != 0) = true := bne_iff_ne.mpr c3
          clear c3
          by_cases c4 : j2 < (s2.length : Int)
          ·rw [if_pos c4] at H
           have q0 : j2 < (y.length : Int) := by omega
           have q1 := eq_true q0
           have hcS : wr.cell? ⟨gS, 0, none⟩ = some (.slice Ao y.length co) := (blk_cell BKS.out 0).trans rfl
           obtain ⟨go, co2, eo, gb, gl, cl, HG⟩ := Kd.R_form HO.out (by omega)
           injection eo with ea_ en_ ec_
           subst ea_
           subst ec_
           clear en_ gl HG gb
           obtain ⟨hx0_, hf0⟩ := Kd.R_celln 0 HO.out j2 c2 q0
           have hx0 : wr.cell? ⟨go, j2.toNat, none⟩ = some (.int .i64 (rd s2 j2)) := hx0_
           clear hx0_ q0 c1 c2 c4 hn
           have hcD : wr.cell? ⟨gD, 0, none⟩ = some (.func (.func 14) #[] #[.pointer (some ⟨gS, 0, none⟩), .pointer (some ⟨gH, 0, none⟩), .pointer (some ⟨gD, 0, none⟩)]) := (blk_cell BKD.out 0).trans rfl
           obtain ⟨A7, c7, e7⟩ := Kd.R_slice HQ.out
           subst e7
           by_cases c5 : rd s2 j2 < 0
           ·rw [if_pos c5] at H
            have c5b : decide (rd s2 j2 < 0) = true := decide_eq_true c5
            clear c5
            obtain ⟨⟨s3, b3⟩, e3, H⟩ := Option.bind_eq_some_iff.mp H
            have E3 := zM e3
            clear e3
            cases b3 with
            | true =>
             have H := H
             rw [if_pos rfl] at H
             by_cases c6 : j2 < (s3.length : Int)
             ·have H := H
              rw [if_pos c6] at H
              clear c6
              by_cases c7_ : o2.length < 17592186044416
              ·rw [if_pos c7_] at H
               have HL2 := zM c7_
               clear c7_
               have H' := zM H
               clear H
               go_wp2_with (first | (go_at_call 14; (with_reducible refine (impl_SidesFor.drawn l0 _ (some ⟨go, 0, none⟩) c0 co gS gH gD y.length (fun k_ => some k_ = (.slice (some ⟨go, 0, none⟩) y.length co : Value).ownBlock) w HC0.out HNS.out HNH.out HND.out k2 s2 j2 0 s3 true _ HB.out HR0.out HO.out BKS.out BKH.out BKD.out E3.out).mono ?_); rintro e w7 ⟨rfl, ho, hb, hk⟩; have n0_ := zM ho; have n1_ := zM hb; have n2_ := zM (blk_kept BKS.out hk HNS.out); have n3_ := zM (blk_kept BKH.out hk HNH.out); have n4_ := zM (blk_kept BKD.out hk HND.out); have n5_ := zM (Kd.R_kept HQ.out hk (fun k_ h1 h2 => h1.1 h2)); clear HO HB BKS BKH BKD HQ hb ho hk; have HO := n0_; have HB := n1_; have BKS := n2_; have BKH := n3_; have BKD := n4_; have HQ := n5_; clear n0_ n1_ n2_ n3_ n4_ n5_; have hcS7 : w7.cell? ⟨gS, 0, none⟩ = some (.slice (some ⟨go, 0, none⟩) y.length co) := (blk_cell BKS.out 0).trans rfl; obtain ⟨hx7_, hf7⟩ := Kd.R_celln 0 HO.out j2 (of_eq_true p1) (of_eq_true q1); have hx7 : w7.cell? ⟨go, j2.toNat, none⟩ = some (.int .i64 (rd s3 j2)) := hx7_; clear hx7_) | ((with_reducible refine gate_builtin (b := .append) (xs := #[.tmp 47, .tmp 52]) rfl ?_); at_builtin; refine Kd.R_append (Kd.int .i64) (w0 := w) w.heap.size rfl (.tmp 47) (.tmp 52) 23 3 (.int .i64 0) 8 rfl Try.underlying23 info3 rfl (by decide) (by omega) (.slice A7 o2.length c7) o2 (rd s3 j2) [.int .i64 (rd s3 j2)] (fun k_ => ¬ (some k_ = (.slice (some ⟨go, 0, none⟩) y.length co : Value).ownBlock) ∧ k_ ≠ gS ∧ k_ ≠ gH ∧ k_ ≠ gD) (fun _ => False) rfl rfl ?aP (fun _ hk => hk.elim) ?aF ?aO ?aB ?aS ?aL ?_; (case aP => exact rfl); (case aB => exact HB.out); (case aF => exact (fun k_ hk => ⟨fun e_ => by have h1 := Kd.R_lt HO.out k_ e_.symm; omega, fun e_ => by have h1 := blk_lt BKS.out; omega, fun e_ => by have h1 := blk_lt BKH.out; omega, fun e_ => by have h1 := blk_lt BKD.out; omega⟩)); (case aO => exact HQ.out); (case aS => exact HB.out.size); (case aL => have := HL2.out; omega); intro v8 w8 ho hb hg hat; clear hat; have hne := HQ.out.1; have n0_ := zM hb; have n1_ := zM (Kd.R_grown HO.out hg (fun k_ hk e_ => (hne k_ e_.symm).1 hk)); have n2_ := zM (blk_grown BKS.out hg (fun e_ => (hne gS e_.symm).2.1 rfl)); have n3_ := zM (blk_grown BKH.out hg (fun e_ => (hne gH e_.symm).2.2.1 rfl)); have n4_ := zM (blk_grown BKD.out hg (fun e_ => (hne gD e_.symm).2.2.2 rfl)); have n5_ := zM ho; clear HO HB BKS BKH BKD HQ hb ho hg hne; have HB := n0_; have HO := n1_; have BKS := n2_; have BKH := n3_; have BKD := n4_; have HQ := n5_; clear n0_ n1_ n2_ n3_ n4_ n5_))
               go_roundg k2
               case measure => have := HK2.out; omega
               case rel => exact ⟨_, _, _, wrap64 (j2 + 1), rfl, (by first | rfl | (simp; done) | (simp [*]; done)), H', ⟨by have := HK2.out; omega⟩, HO, HQ, BKS, BKH, BKD, HB⟩
              ·rw [if_neg c7_] at H
               cases H
             ·have H := H
              rw [if_neg c6] at H
              cases H
            | false =>
             have H := H
             rw [if_neg (by simp)] at H
             simp only [Option.some.injEq, Prod.mk.injEq] at H
             obtain ⟨rfl, rfl⟩ := H
             go_wp2_with (first | (go_at_call 14; (with_reducible refine (impl_SidesFor.drawn l0 _ (some ⟨go, 0, none⟩) c0 co gS gH gD y.length (fun k_ => some k_ = (.slice (some ⟨go, 0, none⟩) y.length co : Value).ownBlock) w HC0.out HNS.out HNH.out HND.out k2 s2 j2 0 s3 false _ HB.out HR0.out HO.out BKS.out BKH.out BKD.out E3.out).mono ?_); rintro e w7 ⟨rfl, ho, hb, hk⟩; have n0_ := zM ho; have n1_ := zM hb; have n2_ := zM (blk_kept BKS.out hk HNS.out); have n3_ := zM (blk_kept BKH.out hk HNH.out); have n4_ := zM (blk_kept BKD.out hk HND.out); have n5_ := zM (Kd.R_kept HQ.out hk (fun k_ h1 h2 => h1.1 h2)); clear HO HB BKS BKH BKD HQ hb ho hk; have HO := n0_; have HB := n1_; have BKS := n2_; have BKH := n3_; have BKD := n4_; have HQ := n5_; clear n0_ n1_ n2_ n3_ n4_ n5_))
             go_ret2
             exact ⟨_, rfl, Kd.R_nil _ _ _ _ _, HB.out⟩
           ·rw [if_neg c5] at H
            have c5b : decide (rd s2 j2 < 0) = false := decide_eq_false c5
            clear c5
            by_cases c7_ : o2.length < 17592186044416
            ·rw [if_pos c7_] at H
             have HL2 := zM c7_
             clear c7_
             have H' := zM H
             clear H
             go_wp2_with (first | ((with_reducible refine gate_builtin (b := .append) (xs := #[.tmp 47, .tmp 52]) rfl ?_); at_builtin; refine Kd.R_append (Kd.int .i64) (w0 := w) w.heap.size rfl (.tmp 47) (.tmp 52) 23 3 (.int .i64 0) 8 rfl Try.underlying23 info3 rfl (by decide) (by omega) (.slice A7 o2.length c7) o2 (rd s2 j2) [.int .i64 (rd s2 j2)] (fun k_ => ¬ (some k_ = (.slice (some ⟨go, 0, none⟩) y.length co : Value).ownBlock) ∧ k_ ≠ gS ∧ k_ ≠ gH ∧ k_ ≠ gD) (fun _ => False) rfl rfl ?aP (fun _ hk => hk.elim) ?aF ?aO ?aB ?aS ?aL ?_; (case aP => exact rfl); (case aB => exact HB.out); (case aF => exact (fun k_ hk => ⟨fun e_ => by have h1 := Kd.R_lt HO.out k_ e_.symm; omega, fun e_ => by have h1 := blk_lt BKS.out; omega, fun e_ => by have h1 := blk_lt BKH.out; omega, fun e_ => by have h1 := blk_lt BKD.out; omega⟩)); (case aO => exact HQ.out); (case aS => exact HB.out.size); (case aL => have := HL2.out; omega); intro v8 w8 ho hb hg hat; clear hat; have hne := HQ.out.1; have n0_ := zM hb; have n1_ := zM (Kd.R_grown HO.out hg (fun k_ hk e_ => (hne k_ e_.symm).1 hk)); have n2_ := zM (blk_grown BKS.out hg (fun e_ => (hne gS e_.symm).2.1 rfl)); have n3_ := zM (blk_grown BKH.out hg (fun e_ => (hne gH e_.symm).2.2.1 rfl)); have n4_ := zM (blk_grown BKD.out hg (fun e_ => (hne gD e_.symm).2.2.2 rfl)); have n5_ := zM ho; clear HO HB BKS BKH BKD HQ hb ho hg hne; have HB := n0_; have HO := n1_; have BKS := n2_; have BKH := n3_; have BKD := n4_; have HQ := n5_; clear n0_ n1_ n2_ n3_ n4_ n5_))
             go_roundg k2
             case measure => have := HK2.out; omega
             case rel => exact ⟨_, _, _, wrap64 (j2 + 1), rfl, (by first | rfl | (simp; done) | (simp [*]; done)), H', ⟨by have := HK2.out; omega⟩, HO, HQ, BKS, BKH, BKD, HB⟩
            ·rw [if_neg c7_] at H
             cases H
          ·rw [if_neg c4] at H
           exact absurd H (by simp)
        ·rw [if_neg c2] at H
         exact absurd H (by simp)
       ·rw [if_neg c1] at H
        have c1b : decide (j2 < (l0.length : Int)) = false := decide_eq_false c1
        clear c1 hn
        simp only [Option.some.injEq, Prod.mk.injEq] at H
        obtain ⟨rfl, rfl⟩ := H
        obtain ⟨A7, c7, e7⟩ := Kd.R_slice HQ.out
        subst e7
        go_wp2_with (first | (go_at_call 16; (with_reducible refine (slices_Clip_int_int.plain _ _ _ _ ?sideC).mono ?_); (case sideC => exact (Kd.R_reads' HQ.out).2.1); rintro e w' ⟨rfl, rfl⟩))
        go_ret2
        exact ⟨_, rfl, Kd.R_clip (Kd.R_mono HQ.out (fun _ _ => trivial)), HB.out⟩
 ·rw [if_neg hl] at h
  cases h

/-! ### spec_CrossOk: function 29 -/
def spec_CrossOk.f (a0 : Int) (a1 : Int) (a2 : Int) (a3 : Int) : Option (Bool) := if a0 < 1 then (some false) else (if a1 < 1 then (some false) else (if a2 < 1 then (some false) else (if a3 < 1 then (some false) else (if a0 = a1 then (some false) else (if a2 = a3 then (some false) else (if (mn a0 a1) < (mn a2 a3) then (if (mn a2 a3) < (mx a0 a1) then (if (mx a0 a1) < (mx a2 a3) then (some true) else (if (mn a2 a3) < (mn a0 a1) then (if (mn a0 a1) < (mx a2 a3) then (some (decide ((mx a2 a3) < (mx a0 a1)))) else (some false)) else (some false))) else (if (mn a2 a3) < (mn a0 a1) then (if (mn a0 a1) < (mx a2 a3) then (some (decide ((mx a2 a3) < (mx a0 a1)))) else (some false)) else (some false))) else (if (mn a2 a3) < (mn a0 a1) then (if (mn a0 a1) < (mx a2 a3) then (some (decide ((mx a2 a3) < (mx a0 a1)))) else (some false)) else (some false))))))))
set_option maxHeartbeats 8000000 in
set_option maxRecDepth 100000 in
theorem spec_CrossOk.calls (a0 : Int) (a1 : Int) (a2 : Int) (a3 : Int) (r : Bool) (w : World) (h : spec_CrossOk.f a0 a1 a2 a3 = some r) :
  Calls Try.prog 29 #[.int .i64 a0, .int .i64 a1, .int .i64 a2, .int .i64 a3] w fun e w' => e = .returned (.bool r) ∧ Below w.heap.size w w' := by
 have HB := zM (Below.refl w.heap.size w)
 have H : (if a0 < 1 then (some false) else (if a1 < 1 then (some false) else (if a2 < 1 then (some false) else (if a3 < 1 then (some false) else (if a0 = a1 then (some false) else (if a2 = a3 then (some false) else (if (mn a0 a1) < (mn a2 a3) then (if (mn a2 a3) < (mx a0 a1) then (if (mx a0 a1) < (mx a2 a3) then (some true) else (if (mn a2 a3) < (mn a0 a1) then (if (mn a0 a1) < (mx a2 a3) then (some (decide ((mx a2 a3) < (mx a0 a1)))) else (some false)) else (some false))) else (if (mn a2 a3) < (mn a0 a1) then (if (mn a0 a1) < (mx a2 a3) then (some (decide ((mx a2 a3) < (mx a0 a1)))) else (some false)) else (some false))) else (if (mn a2 a3) < (mn a0 a1) then (if (mn a0 a1) < (mx a2 a3) then (some (decide ((mx a2 a3) < (mx a0 a1)))) else (some false)) else (some false))))))))) = some r := h
 clear h
 by_cases c5 : a0 < 1
 ·rw [if_pos c5] at H
  have c5b0 : decide (a0 < 1) = true := decide_eq_true c5
  clear c5
  obtain rfl := Option.some.inj H
  go_enter Try.func29, Try.ntmps29
  go_wp2
  go_ret
  exact ⟨by first | rfl | (simp [errW_none, errW_some] <;> rfl) | (simp [*, errW_none, errW_some] <;> rfl), by repeat (first | (with_reducible first | exact HB.out | apply zB | apply zA | apply zC) | exact HB.out)⟩
 ·rw [if_neg c5] at H
  have c5b0 : decide (a0 < 1) = false := decide_eq_false c5
  clear c5
  by_cases c6 : a1 < 1
  ·rw [if_pos c6] at H
   have c6b0 : decide (a1 < 1) = true := decide_eq_true c6
   clear c6
   obtain rfl := Option.some.inj H
   go_enter Try.func29, Try.ntmps29
   go_wp2
   go_ret
   exact ⟨by first | rfl | (simp [errW_none, errW_some] <;> rfl) | (simp [*, errW_none, errW_some] <;> rfl), by repeat (first | (with_reducible first | exact HB.out | apply zB | apply zA | apply zC) | exact HB.out)⟩
  ·rw [if_neg c6] at H
   have c6b0 : decide (a1 < 1) = false := decide_eq_false c6
   clear c6
   by_cases c7 : a2 < 1
   ·rw [if_pos c7] at H
    have c7b0 : decide (a2 < 1) = true := decide_eq_true c7
    clear c7
    obtain rfl := Option.some.inj H
    go_enter Try.func29, Try.ntmps29
    go_wp2
    go_ret
    exact ⟨by first | rfl | (simp [errW_none, errW_some] <;> rfl) | (simp [*, errW_none, errW_some] <;> rfl), by repeat (first | (with_reducible first | exact HB.out | apply zB | apply zA | apply zC) | exact HB.out)⟩
   ·rw [if_neg c7] at H
    have c7b0 : decide (a2 < 1) = false := decide_eq_false c7
    clear c7
    by_cases c8 : a3 < 1
    ·rw [if_pos c8] at H
     have c8b0 : decide (a3 < 1) = true := decide_eq_true c8
     clear c8
     obtain rfl := Option.some.inj H
     go_enter Try.func29, Try.ntmps29
     go_wp2
     go_ret
     exact ⟨by first | rfl | (simp [errW_none, errW_some] <;> rfl) | (simp [*, errW_none, errW_some] <;> rfl), by repeat (first | (with_reducible first | exact HB.out | apply zB | apply zA | apply zC) | exact HB.out)⟩
    ·rw [if_neg c8] at H
     have c8b0 : decide (a3 < 1) = false := decide_eq_false c8
     clear c8
     by_cases c9 : a0 = a1
     ·rw [if_pos c9] at H
      have c9b0 : (a0 == a1) = true := beq_iff_eq.mpr c9
      have c9b1 : (a0 != a1) = false := bne_eq_false_iff_eq.mpr c9
      clear c9
      obtain rfl := Option.some.inj H
      go_enter Try.func29, Try.ntmps29
      go_wp2
      go_ret
      exact ⟨by first | rfl | (simp [errW_none, errW_some] <;> rfl) | (simp [*, errW_none, errW_some] <;> rfl), by repeat (first | (with_reducible first | exact HB.out | apply zB | apply zA | apply zC) | exact HB.out)⟩
     ·rw [if_neg c9] at H
      have c9b0 : (a0 == a1) = false := beq_eq_false_iff_ne.mpr c9
      have c9b1 : (a0 != a1) = true := bne_iff_ne.mpr c9
      by_cases c10 : a2 = a3
      ·rw [if_pos c10] at H
       have c10b0 : (a2 == a3) = true := beq_iff_eq.mpr c10
       have c10b1 : (a2 != a3) = false := bne_eq_false_iff_eq.mpr c10
       clear c10
       obtain rfl := Option.some.inj H
       go_enter Try.func29, Try.ntmps29
       go_wp2
       go_ret
       exact ⟨by first | rfl | (simp [errW_none, errW_some] <;> rfl) | (simp [*, errW_none, errW_some] <;> rfl), by repeat (first | (with_reducible first | exact HB.out | apply zB | apply zA | apply zC) | exact HB.out)⟩
      ·rw [if_neg c10] at H
       have c10b0 : (a2 == a3) = false := beq_eq_false_iff_ne.mpr c10
       have c10b1 : (a2 != a3) = true := bne_iff_ne.mpr c10
       obtain ⟨ji11, hji11⟩ : ∃ j_ : Int, (mn a0 a1) = j_ := ⟨_, rfl⟩
       replace H : (if (ji11) < (mn a2 a3) then (if (mn a2 a3) < (mx a0 a1) then (if (mx a0 a1) < (mx a2 a3) then (some true) else (if (mn a2 a3) < (ji11) then (if (ji11) < (mx a2 a3) then (some (decide ((mx a2 a3) < (mx a0 a1)))) else (some false)) else (some false))) else (if (mn a2 a3) < (ji11) then (if (ji11) < (mx a2 a3) then (some (decide ((mx a2 a3) < (mx a0 a1)))) else (some false)) else (some false))) else (if (mn a2 a3) < (ji11) then (if (ji11) < (mx a2 a3) then (some (decide ((mx a2 a3) < (mx a0 a1)))) else (some false)) else (some false))) = some r := by first | (rw [hji11] at H; exact H) | (simp only [hji11] at H ⊢; exact H)
       have hji11_ : (if a1 < a0 then a1 else a0) = ji11 := hji11
       obtain ⟨ji12, hji12⟩ : ∃ j_ : Int, (mx a0 a1) = j_ := ⟨_, rfl⟩
       replace H : (if (ji11) < (mn a2 a3) then (if (mn a2 a3) < (ji12) then (if (ji12) < (mx a2 a3) then (some true) else (if (mn a2 a3) < (ji11) then (if (ji11) < (mx a2 a3) then (some (decide ((mx a2 a3) < (ji12)))) else (some false)) else (some false))) else (if (mn a2 a3) < (ji11) then (if (ji11) < (mx a2 a3) then (some (decide ((mx a2 a3) < (ji12)))) else (some false)) else (some false))) else (if (mn a2 a3) < (ji11) then (if (ji11) < (mx a2 a3) then (some (decide ((mx a2 a3) < (ji12)))) else (some false)) else (some false))) = some r := by first | (rw [hji12] at H; exact H) | (simp only [hji12] at H ⊢; exact H)
       have hji12_ : (if a0 < a1 then a1 else a0) = ji12 := hji12
       obtain ⟨ji13, hji13⟩ : ∃ j_ : Int, (mn a2 a3) = j_ := ⟨_, rfl⟩
       replace H : (if (ji11) < (ji13) then (if (ji13) < (ji12) then (if (ji12) < (mx a2 a3) then (some true) else (if (ji13) < (ji11) then (if (ji11) < (mx a2 a3) then (some (decide ((mx a2 a3) < (ji12)))) else (some false)) else (some false))) else (if (ji13) < (ji11) then (if (ji11) < (mx a2 a3) then (some (decide ((mx a2 a3) < (ji12)))) else (some false)) else (some false))) else (if (ji13) < (ji11) then (if (ji11) < (mx a2 a3) then (some (decide ((mx a2 a3) < (ji12)))) else (some false)) else (some false))) = some r := by first | (rw [hji13] at H; exact H) | (simp only [hji13] at H ⊢; exact H)
       have hji13_ : (if a3 < a2 then a3 else a2) = ji13 := hji13
       obtain ⟨ji14, hji14⟩ : ∃ j_ : Int, (mx a2 a3) = j_ := ⟨_, rfl⟩
       replace H : (if (ji11) < (ji13) then (if (ji13) < (ji12) then (if (ji12) < (ji14) then (some true) else (if (ji13) < (ji11) then (if (ji11) < (ji14) then (some (decide ((ji14) < (ji12)))) else (some false)) else (some false))) else (if (ji13) < (ji11) then (if (ji11) < (ji14) then (some (decide ((ji14) < (ji12)))) else (some false)) else (some false))) else (if (ji13) < (ji11) then (if (ji11) < (ji14) then (some (decide ((ji14) < (ji12)))) else (some false)) else (some false))) = some r := by first | (rw [hji14] at H; exact H) | (simp only [hji14] at H ⊢; exact H)
       have hji14_ : (if a2 < a3 then a3 else a2) = ji14 := hji14
       by_cases c15 : (ji11) < (ji13)
       ·rw [if_pos c15] at H
        have c15b0 : decide ((ji11) < (ji13)) = true := decide_eq_true c15
        clear c15
        by_cases c16 : (ji13) < (ji12)
        ·rw [if_pos c16] at H
         have c16b0 : decide ((ji13) < (ji12)) = true := decide_eq_true c16
         clear c16
         by_cases c17 : (ji12) < (ji14)
         ·rw [if_pos c17] at H
          have c17b0 : decide ((ji12) < (ji14)) = true := decide_eq_true c17
          clear c17
          obtain rfl := Option.some.inj H
          go_enter Try.func29, Try.ntmps29
          go_wp2
          go_ret
          exact ⟨by first | rfl | (simp [errW_none, errW_some] <;> rfl) | (simp only [← hji11, ← hji12, ← hji13, ← hji14]; first | rfl | (simp [errW_none, errW_some] <;> rfl)) | (simp [*, errW_none, errW_some] <;> rfl), by repeat (first | (with_reducible first | exact HB.out | apply zB | apply zA | apply zC) | exact HB.out)⟩
         ·rw [if_neg c17] at H
          have c17b0 : decide ((ji12) < (ji14)) = false := decide_eq_false c17
          clear c17
          by_cases c18 : (ji13) < (ji11)
          ·rw [if_pos c18] at H
           have c18b0 : decide ((ji13) < (ji11)) = true := decide_eq_true c18
           clear c18
           by_cases c19 : (ji11) < (ji14)
           ·rw [if_pos c19] at H
            have c19b0 : decide ((ji11) < (ji14)) = true := decide_eq_true c19
            clear c19
            obtain rfl := Option.some.inj H
            go_enter Try.func29, Try.ntmps29
            go_wp2
            go_ret
            exact ⟨by first | rfl | (simp [errW_none, errW_some] <;> rfl) | (simp only [← hji11, ← hji12, ← hji13, ← hji14]; first | rfl | (simp [errW_none, errW_some] <;> rfl)) | (simp [*, errW_none, errW_some] <;> rfl), by repeat (first | (with_reducible first | exact HB.out | apply zB | apply zA | apply zC) | exact HB.out)⟩
           ·rw [if_neg c19] at H
            have c19b0 : decide ((ji11) < (ji14)) = false := decide_eq_false c19
            clear c19
            obtain rfl := Option.some.inj H
            go_enter Try.func29, Try.ntmps29
            go_wp2
            go_ret
            exact ⟨by first | rfl | (simp [errW_none, errW_some] <;> rfl) | (simp only [← hji11, ← hji12, ← hji13, ← hji14]; first | rfl | (simp [errW_none, errW_some] <;> rfl)) | (simp [*, errW_none, errW_some] <;> rfl), by repeat (first | (with_reducible first | exact HB.out | apply zB | apply zA | apply zC) | exact HB.out)⟩
          ·rw [if_neg c18] at H
           have c18b0 : decide ((ji13) < (ji11)) = false := decide_eq_false c18
           clear c18
           obtain rfl := Option.some.inj H
           go_enter Try.func29, Try.ntmps29
           go_wp2
           go_ret
           exact ⟨by first | rfl | (simp [errW_none, errW_some] <;> rfl) | (simp only [← hji11, ← hji12, ← hji13, ← hji14]; first | rfl | (simp [errW_none, errW_some] <;> rfl)) | (simp [*, errW_none, errW_some] <;> rfl), by repeat (first | (with_reducible first | exact HB.out | apply zB | apply zA | apply zC) | exact HB.out)⟩
        ·rw [if_neg c16] at H
         have c16b0 : decide ((ji13) < (ji12)) = false := decide_eq_false c16
         clear c16
         by_cases c20 : (ji13) < (ji11)
         ·rw [if_pos c20] at H
          have c20b0 : decide ((ji13) < (ji11)) = true := decide_eq_true c20
          clear c20
          by_cases c21 : (ji11) < (ji14)
          ·rw [if_pos c21] at H
           have c21b0 : decide ((ji11) < (ji14)) = true := decide_eq_true c21
           clear c21
           obtain rfl := Option.some.inj H
           go_enter Try.func29, Try.ntmps29
           go_wp2
           go_ret
           exact ⟨by first | rfl | (simp [errW_none, errW_some] <;> rfl) | (simp only [← hji11, ← hji12, ← hji13, ← hji14]; first | rfl | (simp [errW_none, errW_some] <;> rfl)) | (simp [*, errW_none, errW_some] <;> rfl), by repeat (first | (with_reducible first | exact HB.out | apply zB | apply zA | apply zC) | exact HB.out)⟩
          ·rw [if_neg c21] at H
           have c21b0 : decide ((ji11) < (ji14)) = false := decide_eq_false c21
           clear c21
           obtain rfl := Option.some.inj H
           go_enter Try.func29, Try.ntmps29
           go_wp2
           go_ret
           exact ⟨by first | rfl | (simp [errW_none, errW_some] <;> rfl) | (simp only [← hji11, ← hji12, ← hji13, ← hji14]; first | rfl | (simp [errW_none, errW_some] <;> rfl)) | (simp [*, errW_none, errW_some] <;> rfl), by repeat (first | (with_reducible first | exact HB.out | apply zB | apply zA | apply zC) | exact HB.out)⟩
         ·rw [if_neg c20] at H
          have c20b0 : decide ((ji13) < (ji11)) = false := decide_eq_false c20
          clear c20
          obtain rfl := Option.some.inj H
          go_enter Try.func29, Try.ntmps29
          go_wp2
          go_ret
          exact ⟨by first | rfl | (simp [errW_none, errW_some] <;> rfl) | (simp only [← hji11, ← hji12, ← hji13, ← hji14]; first | rfl | (simp [errW_none, errW_some] <;> rfl)) | (simp [*, errW_none, errW_some] <;> rfl), by repeat (first | (with_reducible first | exact HB.out | apply zB | apply zA | apply zC) | exact HB.out)⟩
       ·rw [if_neg c15] at H
        have c15b0 : decide ((ji11) < (ji13)) = false := decide_eq_false c15
        clear c15
        by_cases c22 : (ji13) < (ji11)
        ·rw [if_pos c22] at H
         have c22b0 : decide ((ji13) < (ji11)) = true := decide_eq_true c22
         clear c22
         by_cases c23 : (ji11) < (ji14)
         ·rw [if_pos c23] at H
          have c23b0 : decide ((ji11) < (ji14)) = true := decide_eq_true c23
          clear c23
          obtain rfl := Option.some.inj H
          go_enter Try.func29, Try.ntmps29
          go_wp2
          go_ret
          exact ⟨by first | rfl | (simp [errW_none, errW_some] <;> rfl) | (simp only [← hji11, ← hji12, ← hji13, ← hji14]; first | rfl | (simp [errW_none, errW_some] <;> rfl)) | (simp [*, errW_none, errW_some] <;> rfl), by repeat (first | (with_reducible first | exact HB.out | apply zB | apply zA | apply zC) | exact HB.out)⟩
         ·rw [if_neg c23] at H
          have c23b0 : decide ((ji11) < (ji14)) = false := decide_eq_false c23
          clear c23
          obtain rfl := Option.some.inj H
          go_enter Try.func29, Try.ntmps29
          go_wp2
          go_ret
          exact ⟨by first | rfl | (simp [errW_none, errW_some] <;> rfl) | (simp only [← hji11, ← hji12, ← hji13, ← hji14]; first | rfl | (simp [errW_none, errW_some] <;> rfl)) | (simp [*, errW_none, errW_some] <;> rfl), by repeat (first | (with_reducible first | exact HB.out | apply zB | apply zA | apply zC) | exact HB.out)⟩
        ·rw [if_neg c22] at H
         have c22b0 : decide ((ji13) < (ji11)) = false := decide_eq_false c22
         clear c22
         obtain rfl := Option.some.inj H
         go_enter Try.func29, Try.ntmps29
         go_wp2
         go_ret
         exact ⟨by first | rfl | (simp [errW_none, errW_some] <;> rfl) | (simp only [← hji11, ← hji12, ← hji13, ← hji14]; first | rfl | (simp [errW_none, errW_some] <;> rfl)) | (simp [*, errW_none, errW_some] <;> rfl), by repeat (first | (with_reducible first | exact HB.out | apply zB | apply zA | apply zC) | exact HB.out)⟩

end Go.Proofs.Ytnbdobkgbdncpaa.LA
