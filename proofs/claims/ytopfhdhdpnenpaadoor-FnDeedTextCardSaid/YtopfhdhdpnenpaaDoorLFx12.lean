/- Printed by a program of this session (wip/lp/lp.py) out of the translation: functions with the same answers as the Go code, and their contracts; no conditions beyond those that each theorem names. -/
import Derived.Test.YtopfhdhdpnenpaaDoorLFx0
import Derived.Test.YtopfhdhdpnenpaaDoorLFx1
import Derived.Test.YtopfhdhdpnenpaaDoorLFx3
import Derived.Test.YtopfhdhdpnenpaaDoorLFx4
import Derived.Test.YtopfhdhdpnenpaaDoorLFx10
import Derived.Test.YtopfhdhdpnenpaaDoorLFx11
namespace Go.Proofs.YtopfhdhdpnenpaaDoor.LF
open Go.RowKit Go.Proofs.YtopfhdhdpnenpaaDoorV.PrintWords Go.Proofs.YtopfhdhdpnenpaaDoorV.PrintLast Go.Proofs.YtopfhdhdpnenpaaDoorV.PrintMore
attribute [local go_sem] max2_int min2_int max_two min_two max_three min_three max_four min_four   -- for this text's walks alone
set_option linter.unusedVariables false
set_option linter.unusedSimpArgs false

attribute [local go_sem high] eqA25
/-! ### impl_ReadDeed: function 15 -/
theorem words_row {w : World} {b off : Nat} (h0 : w.cell? ⟨b, off, none⟩ = some (.string ⟨#[104, 101, 97, 100]⟩)) (h1 : w.cell? ⟨b, off + 1, none⟩ = some (.string ⟨#[97, 100, 100]⟩))
  (h2 : w.cell? ⟨b, off + 2, none⟩ = some (.string ⟨#[100, 114, 111, 112]⟩)) (h3 : w.cell? ⟨b, off + 3, none⟩ = some (.string ⟨#[116, 117, 114, 110]⟩))
  (h4 : w.cell? ⟨b, off + 4, none⟩ = some (.string ⟨#[102, 108, 97, 116]⟩)) (h5 : w.cell? ⟨b, off + 5, none⟩ = some (.string ⟨#[98, 97, 99, 107]⟩)) :
  Kd.C Kd.string w (some ⟨b, off, none⟩) wordsL.length wordsL :=
 Kd.C_of_reads (d := ByteArray.empty) ⟨rfl, by decide, fun _ => ⟨_, rfl, fun j hj => by
  have hj' : j < 6 := hj
  match j, hj' with
  | 0, _ => simpa [Addr.add, wordsL] using h0
  | 1, _ => simpa [Addr.add, wordsL] using h1
  | 2, _ => simpa [Addr.add, wordsL] using h2
  | 3, _ => simpa [Addr.add, wordsL] using h3
  | 4, _ => simpa [Addr.add, wordsL] using h4
  | 5, _ => simpa [Addr.add, wordsL] using h5⟩⟩
def impl_ReadDeed.j0 : Nat → ByteArray → List ByteArray → Int → Int → Int → Option (Int × Int × Int × Bool)
 | 0, _, _, _, _, _ => none
 | k + 1, x0, x4, x380000, x380001, x380002 => if (x4.length : Int) > 2 then (if 2 < (x4.length : Int) then ((strconv_Atoi.f (rdOf ByteArray.empty x4 2)).bind fun bt384 => (if x0.toList = ([] : List UInt8) then (some (0, 0, 0, false)) else ((impl_DeedText.f k x380000 x380001 bt384.1).bind fun t386 => (if t386.toList = x0.toList then (some (x380000, x380001, bt384.1, true)) else (some (0, 0, 0, false)))))) else (none)) else (if x0.toList = ([] : List UInt8) then (some (0, 0, 0, false)) else ((impl_DeedText.f k x380000 x380001 x380002).bind fun t387 => (if t387.toList = x0.toList then (some (x380000, x380001, x380002, true)) else (some (0, 0, 0, false)))))
def impl_ReadDeed.f (k : Nat) (a0 : ByteArray) : Option (Int × Int × Int × Bool) := (strings_Split.f a0 (⟨#[32]⟩ : ByteArray)).bind fun t374 => (if 0 < (t374.length : Int) then ((slices_Index_string_string.f k wordsL (rdOf ByteArray.empty t374 0)).bind fun t378 => (if (t374.length : Int) > 1 then (if 1 < (t374.length : Int) then ((strconv_Atoi.f (rdOf ByteArray.empty t374 1)).bind fun bt381 => (impl_ReadDeed.j0 k a0 t374 t378 bt381.1 0)) else (none)) else (impl_ReadDeed.j0 k a0 t374 t378 0 0))) else (none))
theorem impl_ReadDeed.mono_l : ∀ k, (∀ y0 y1 y2 y3 y4, LeO (impl_ReadDeed.j0 k y0 y1 y2 y3 y4) (impl_ReadDeed.j0 (k + 1) y0 y1 y2 y3 y4))
 | 0 => fun _ _ _ _ _ r h => by simp [impl_ReadDeed.j0] at h
 | k + 1 => by
  have ih0 := impl_ReadDeed.mono_l k
  ·intro y0 y1 y2 y3 y4
   unfold impl_ReadDeed.j0
   repeat' first
   | (with_reducible exact ih0 _ _ _ _ _)
   | (with_reducible exact impl_DeedText.mono _ _ _ _)
   | (with_reducible exact slices_Index_string_string.mono _ _ _)
   | (with_reducible exact LeO.refl _)
   | (with_reducible exact LeO.none _)
   | (with_reducible refine LeO.ite ?_ ?_)
   | (with_reducible refine LeO.bind ?_ (fun _ => ?_))
   | refine LeO.ite ?_ ?_
   | refine LeO.bind ?_ (fun _ => ?_)
theorem impl_ReadDeed.mono : ∀ a0 k, LeO (impl_ReadDeed.f k a0) (impl_ReadDeed.f (k + 1) a0) := by
 intro a0 k
 have ih0 := impl_ReadDeed.mono_l k
 unfold impl_ReadDeed.f
 repeat' first
   | (with_reducible exact ih0 _ _ _ _ _)
   | (with_reducible exact impl_DeedText.mono _ _ _ _)
   | (with_reducible exact slices_Index_string_string.mono _ _ _)
   | (with_reducible exact LeO.refl _)
   | (with_reducible exact LeO.none _)
   | (with_reducible refine LeO.ite ?_ ?_)
   | (with_reducible refine LeO.bind ?_ (fun _ => ?_))
   | refine LeO.ite ?_ ?_
   | refine LeO.bind ?_ (fun _ => ?_)
def impl_ReadDeed.T2 : Bool × List (List Nat × List Nat) := (true, [([], []), ([], []), ([1], [1]), ([2], [2]), ([0, 3], [0, 3]), ([4], [4]), ([], []), ([6, 5, 4, 0, 1, 2, 3, 4, 5, 6], [5, 6])])
def impl_ReadDeed.B2 : List Nat := [0, 0, 2, 6, 15, 31, 0, 127]
theorem impl_ReadDeed.tab2 : rtab .any (opsOf Tryd.f15 2) = impl_ReadDeed.T2 := by kernel_rfl
theorem impl_ReadDeed.bits2 : waitsOk impl_ReadDeed.T2.2 impl_ReadDeed.B2 = true := by kernel_rfl
set_option maxHeartbeats 8000000 in
set_option maxRecDepth 100000 in
theorem impl_ReadDeed.calls (k : Nat) (a0 : ByteArray) (r1 : Int) (r2 : Int) (r3 : Int) (r4 : Bool) (w : World) (hT : TabR w) (h : impl_ReadDeed.f k a0 = some (r1, r2, r3, r4)) :
  Calls Tryd.prog 15 #[.string a0] w fun e w' => e = .returned (.tuple #[.agg #[.int .i64 r1, .int .i64 r2, .int .i64 r3], .bool r4]) ∧ Below w.heap.size w w' := by
 have hu25 := Tryd.underlying25
 have HB := zM (Below.refl w.heap.size w)
 have HT := zM hT
 clear hT
 obtain ⟨tb_, to_, tc_, hcap_, hg_, h0_, h1_, h2_, h3_, h4_, h5_⟩ := HT.out.1
 have HWr := zM (words_row h0_ h1_ h2_ h3_ h4_ h5_)
 have HCAP : Aside0 (wordsL.length ≤ tc_) := ⟨hcap_⟩
 have HG0 : Aside0 (w.cell? ⟨0, 0, none⟩ = some (.slice (some ⟨tb_, to_, none⟩) wordsL.length tc_)) := ⟨hg_⟩
 clear hcap_ hg_ h0_ h1_ h2_ h3_ h4_ h5_
 have H : ((strings_Split.f a0 (⟨#[32]⟩ : ByteArray)).bind fun t374 => (if 0 < (t374.length : Int) then ((slices_Index_string_string.f k wordsL (rdOf ByteArray.empty t374 0)).bind fun t378 => (if (t374.length : Int) > 1 then (if 1 < (t374.length : Int) then ((strconv_Atoi.f (rdOf ByteArray.empty t374 1)).bind fun bt381 => (impl_ReadDeed.j0 k a0 t374 t378 bt381.1 0)) else (none)) else (impl_ReadDeed.j0 k a0 t374 t378 0 0))) else (none))) = some (r1, r2, r3, r4) := h
 clear h
 replace H := Option.bind_eq_some_iff.mp H
 obtain ⟨t374, A20, H⟩ := H
 replace H : (if 0 < (t374.length : Int) then ((slices_Index_string_string.f k wordsL (rdOf ByteArray.empty t374 0)).bind fun t378 => (if (t374.length : Int) > 1 then (if 1 < (t374.length : Int) then ((strconv_Atoi.f (rdOf ByteArray.empty t374 1)).bind fun bt381 => (impl_ReadDeed.j0 k a0 t374 t378 bt381.1 0)) else (none)) else (impl_ReadDeed.j0 k a0 t374 t378 0 0))) else (none)) = some (r1, r2, r3, r4) := H
 have A2 := zM A20
 clear A20
 by_cases c3 : 0 < (t374.length : Int)
 ·rw [if_pos c3] at H
  have c3b0 : decide (0 < (t374.length : Int)) = true := decide_eq_true c3
  have c3b1 : decide (0 < t374.length) = true := decide_eq_true (by omega)
  clear c3
  replace H := Option.bind_eq_some_iff.mp H
  obtain ⟨t378, A40, H⟩ := H
  replace H : (if (t374.length : Int) > 1 then (if 1 < (t374.length : Int) then ((strconv_Atoi.f (rdOf ByteArray.empty t374 1)).bind fun bt381 => (impl_ReadDeed.j0 k a0 t374 t378 bt381.1 0)) else (none)) else (impl_ReadDeed.j0 k a0 t374 t378 0 0)) = some (r1, r2, r3, r4) := H
  have A4 := zM A40
  clear A40
  have HC5 := zM H
  clear H
  go_enter Tryd.func15, Tryd.ntmps15
  try go_wp2_with (first | ((with_reducible refine gate_dst (N := 2) rfl ?_); refine box_event ?hg (N := 2) ?hd (cs := #[.int .i64 0, .int .i64 0, .int .i64 0]) (t := 25) ?hr ?_; (case hd => rfl); (case hg => rfl); (case hr => first | (go_simp; done) | (go_simp; rfl)); intro gb373 hg w6 hbox hb; have n0_ := zM (below_step (by repeat (first | (with_reducible first | exact HB.out | apply zB | apply zA | apply zC) | exact HB.out)) hb); have n1_ := zM (hbox); have n2_ := zM ((by rw [hg]; exact (below_size (by repeat (first | (with_reducible first | exact HB.out | apply zB | apply zA | apply zC) | exact HB.out))) : w.heap.size ≤ gb373)); have n3_ := zM ((by rw [hg]; exact (below_size (by repeat (first | (with_reducible first | exact HB.out | apply zB | apply zA | apply zC) | exact HB.out))) : w.heap.size ≤ gb373)); clear HB; have HB := n0_; have BK373 := n1_; have GW373 := n2_; have GE373 := n3_; clear n0_ n1_ n2_ n3_; clear hb hbox hg) | ((with_reducible refine gate_callee (f := 38) rfl ?_); refine goesL_ (some 7) rfl rfl Tryd.func38 (by kernel_rfl) rfl #[.string a0, .string (⟨#[32]⟩ : ByteArray)] rfl (by (try simp only [List.map_toArray, List.map_cons, List.map_nil]); first | done | rfl | (simp only [List.length_drop, List.length_take]; rfl)) ?_; (with_reducible refine (strings_Split.calls a0 (⟨#[32]⟩ : ByteArray) t374 _ ?sideT A2.out).mono ?_); (case sideT => exact TabR.below HT.out (by repeat (first | (with_reducible first | exact HB.out | apply zB | apply zA | apply zC | refine zD ?_ GE373.out) | exact HB.out))); rintro e w7 ⟨v375, rfl, ho0, hb⟩; refine ⟨_, rfl, ?_⟩; have n0_ := zM (Kd.R_lower ho0 (below_size (by repeat (first | (with_reducible first | exact HB.out | apply zB | apply zA | apply zC | refine zD ?_ GE373.out) | exact HB.out)))); have n1_ := zM (blk_below (g := gb373) (o := .cells #[.int .i64 0, .int .i64 0, .int .i64 0] 25 (0, 0)) (by exact BK373.out) hb); have n2_ := zM (below_step (by repeat (first | (with_reducible first | exact HB.out | apply zB | apply zA | apply zC | refine zD ?_ GE373.out) | exact HB.out)) hb); clear BK373; clear HB; have HO376 := n0_; have BK373 := n1_; have HB := n2_; clear n0_ n1_ n2_; (try clear hb); (try clear hb2); (try clear hk); (try clear hi); (try clear ho0); obtain ⟨Ao8, co8, eo8⟩ := Kd.R_slice HO376.out; subst eo8))
  have n0_ := zM (Kd.R_drew HO376.out)
  have n1_ := zM (blk_drew BK373.out)
  have n2_ := zM (zC HB.out)
  clear HO376
  clear BK373
  clear HB
  have HO376 := n0_
  have BK373 := n1_
  have HB := n2_
  clear n0_ n1_ n2_
  have p377 : 0 ≤ (0 : Int) := (by omega)
  have q377 : 0 < (t374.length : Int) := of_decide_eq_true (by first | (with_reducible assumption) | assumption)
  obtain ⟨ad377, e377, hx377_0⟩ := Kd.at_string (Kd.R_reads' HO376.out).2.2 0 p377 q377
  cases e377
  have qi377 : (0 < t374.length) = True := eq_true (by omega)
  (try rw [show ((0 : Int)).toNat = 0 from rfl] at hx377_0)
  (try rw [Addr.add_zero'] at hx377_0)
  replace p377 := eq_true p377
  replace q377 := eq_true q377
  refine start_ (n := 8) (S := fun w' => w'.cell? ad377 = some (.string (rdOf ByteArray.empty t374 0)) ∧ w'.cell? ⟨0, 0, none⟩ = some (.slice (some ⟨tb_, to_, none⟩) wordsL.length tc_)) (ds := []) #[false, false, false, false, false, false, false, false] (by kernel_rfl) rfl rfl (⟨hx377_0, (HB.out.cell (World.block_lt_of_cell? w _ HG0.out)).trans HG0.out⟩) (fun hHeld => ?_); refine with_tabW impl_ReadDeed.tab2 impl_ReadDeed.bits2 (fun HT_ HW_ => ?_)
  generalize w7.drew = w9 at HO376 BK373 HB hx377_0 hHeld ⊢
  refine take_ (i := 0) (N := some 8) (v := ?_) (a' := ?_) #[true, false, false, false, false, false, false, false] rfl rfl (take_ofW HT_.out HW_.out (by kernel_rfl)) (fun _ _ _ h => h) (Or.inl ⟨by rfl, ?_⟩) hHeld ?_ ?_
  rotate_left
  ·rintro w' ⟨s0, s1⟩
   go_simp
   with_reducible rfl
  rotate_left
  ·simp only [Act.put, zE, zF, zG, i64_w, i32_w]
   rfl
  refine pure_ (i := 1) (N := some 9) (v := ?_) (a' := ?_) #[true, true, false, false, false, false, false, false] rfl rfl (any_of HT_.out (by kernel_rfl)) (fun _ _ _ h => h) (Or.inl ⟨by rfl, ?_⟩) ?_ ?_
  rotate_left
  ·intro w'
   go_simp
   with_reducible rfl
  rotate_left
  ·simp only [Act.put, zE, zF, zG, i64_w, i32_w]
   rfl
  refine pure_ (i := 2) (N := some 10) (v := ?_) (a' := ?_) #[true, true, true, false, false, false, false, false] rfl rfl (any_of HT_.out (by kernel_rfl)) (fun _ _ _ h => h) (Or.inl ⟨by rfl, ?_⟩) ?_ ?_
  rotate_left
  ·intro w'
   go_simp
   with_reducible rfl
  rotate_left
  ·simp only [Act.put, zE, zF, zG, i64_w, i32_w]
   rfl
  refine take_ (i := 3) (N := some 11) (v := ?_) (a' := ?_) #[true, true, true, true, false, false, false, false] rfl rfl (take_ofW HT_.out HW_.out (by kernel_rfl)) (fun _ _ _ h => h) (Or.inl ⟨by rfl, ?_⟩) hHeld ?_ ?_
  rotate_left
  ·rintro w' ⟨s0, s1⟩
   go_simp
   with_reducible rfl
  rotate_left
  ·simp only [Act.put, zE, zF, zG, i64_w, i32_w]
   rfl
  refine join_ (σ := Nat) 1 #[true, true, true, true, true, true, true, false] (fun s_ => [(12, .int .i64 t378), (5, .pointer (some ⟨s_, 0, none⟩)), (13, .agg #[.int .i64 t378, .int .i64 0, .int .i64 0])]) (fun s_ w' => (w'.cell? ad377 = some (.string (rdOf ByteArray.empty t374 0)) ∧ w'.cell? ⟨0, 0, none⟩ = some (.slice (some ⟨tb_, to_, none⟩) wordsL.length tc_)) ∧ (Kd.R Kd.string 9 w' w.heap.size (fun _ => True) (.slice (some ad377) t374.length co8) t374) ∧ (w'.heap[gb373]? = some (.cells #[.int .i64 0, .int .i64 0, .int .i64 0] 25 (0, 0))) ∧ (w'.heap[s_]? = some (.cells #[.int .i64 0, .int .i64 0, .int .i64 0] 25 (0, 0))) ∧ (w.heap.size ≤ s_) ∧ (w.heap.size ≤ s_) ∧ (gb373 ≠ s_) ∧ (s_ ≠ gb373) ∧ (Below w.heap.size w w')) ?_ ?_
  rotate_left
  ·intro hCont
   refine two_ (i := 4) (j := 6) (Ni := some 12) (Nj := some 5) #[true, true, true, true, true, false, false, false] #[true, true, true, true, false, false, true, false] rfl rfl rfl rfl (two_of HT_.out (by kernel_rfl)) (by decide) (by decide) (fun K hK => ?_) (fun K hK => ?_)
   ·skip
    refine goes_ Tryd.func39 (by kernel_rfl) rfl #[.slice (some ⟨tb_, to_, none⟩) wordsL.length tc_, .string (rdOf ByteArray.empty t374 0)] (by rfl) rfl rfl (by (try simp only [List.map_toArray, List.map_cons, List.map_nil]); first | done | rfl | (simp only [List.length_drop, List.length_take]; rfl)) ?_
    with_reducible refine (slices_Index_string_string.calls k _ _ wordsL (rdOf ByteArray.empty t374 0) t378 _ ?side1 ?side2 A4.out).mono ?_
    (case side1 => repeat (first | exact (Kd.C_below HWr.out HB.out) | (with_reducible refine Kd.C_alloc ?_ _) | (with_reducible refine Kd.C_drewN ?_ _) | (with_reducible refine Kd.C_drew ?_)))
    (case side2 => exact HCAP.out)
    rintro e w' ⟨rfl, ⟨nd, rfl⟩⟩
    refine ⟨_, rfl, ?_⟩
    refine hK.out _ _ (hHeld) (fun hHeld => ?_)
    clear hK K
    refine norm_ (a' := ?_) ?_ ?_
    rotate_left
    ·show Act.put _ (some 12) _ = _
     simp only [Act.put, zE, zF, zG, i64_w, i32_w]
     rfl
    refine pure_ (i := 5) (N := some 13) (v := ?_) (a' := ?_) #[true, true, true, true, true, true, false, false] rfl rfl (any_of HT_.out (by kernel_rfl)) (fun _ _ _ h => h) (Or.inl ⟨by rfl, ?_⟩) ?_ ?_
    rotate_left
    ·intro w'
     go_simp
     with_reducible rfl
    rotate_left
    ·simp only [Act.put, zE, zF, zG, i64_w, i32_w]
     rfl
    refine one_ (i := 6) (N := some 5) #[true, true, true, true, true, true, true, false] rfl rfl (one_of HT_.out (by kernel_rfl)) (by decide) (fun K hK => ?_)
    refine box_step ?hg (N := 5) ?hd (cs := #[.int .i64 0, .int .i64 0, .int .i64 0]) (t := 25) ?hr ?_; (case hd => rfl); (case hg => rfl); (case hr => first | (go_simp; done) | (go_simp; rfl))
    intro gb379 hg w10 hbox hb
    have HS0_ := And.intro ((hb.cell (World.block_lt_of_cell? _ _ hHeld.1)).trans hHeld.1) ((hb.cell (World.block_lt_of_cell? _ _ hHeld.2)).trans hHeld.2)
    have n0_ := zM (Kd.R_below (by exact HO376.out) hb)
    have n1_ := zM (blk_below (g := gb373) (o := .cells #[.int .i64 0, .int .i64 0, .int .i64 0] 25 (0, 0)) (by exact BK373.out) hb)
    have n2_ := zM (below_step (by repeat (first | (with_reducible first | exact HB.out | apply zB | apply zA | apply zC | refine zD ?_ GE373.out) | exact HB.out)) hb)
    have n3_ := zM (hbox)
    have n4_ := zM ((by rw [hg]; exact (below_size (by repeat (first | (with_reducible first | exact HB.out | apply zB | apply zA | apply zC | refine zD ?_ GE373.out) | exact HB.out))) : w.heap.size ≤ gb379))
    have n5_ := zM ((by rw [hg]; exact (below_size (by repeat (first | (with_reducible first | exact HB.out | apply zB | apply zA | apply zC | refine zD ?_ GE373.out) | exact HB.out))) : w.heap.size ≤ gb379))
    have n6_ := zM ((by rw [hg]; exact Nat.ne_of_lt (blk_lt (g := gb373) (o := .cells #[.int .i64 0, .int .i64 0, .int .i64 0] 25 (0, 0)) (by exact BK373.out)) : gb373 ≠ gb379))
    have n7_ := zM ((by rw [hg]; exact Nat.ne_of_gt (blk_lt (g := gb373) (o := .cells #[.int .i64 0, .int .i64 0, .int .i64 0] 25 (0, 0)) (by exact BK373.out)) : gb379 ≠ gb373))
    clear HO376
    clear BK373
    clear HB
    have HO376 := n0_
    have BK373 := n1_
    have HB := n2_
    have BK379 := n3_
    have GW379 := n4_
    have GE379 := n5_
    have NB373_379 := n6_
    have NB379_373 := n7_
    clear n0_ n1_ n2_ n3_ n4_ n5_ n6_ n7_
    clear hb hbox hg
    refine hK.out _ _ (HS0_) (fun hHeld => ?_)
    clear hK K
    refine norm_ (a' := ?_) ?_ ?_
    rotate_left
    ·show Act.put _ (some 5) _ = _
     simp only [Act.put, zE, zF, zG, i64_w, i32_w]
     rfl
    exact norm_ (by simp only [putAll, Act.put, zE, zF, zG]) (hCont (gb379) _ ⟨hHeld, (by exact HO376.out), (by exact BK373.out), (by exact BK379.out), GW379.out, GE379.out, NB373_379.out, NB379_373.out, (by repeat (first | (with_reducible first | exact HB.out | apply zB | apply zA | apply zC | refine zD ?_ GE373.out | refine zD ?_ GE379.out) | exact HB.out))⟩)
   ·skip
    refine box_step ?hg (N := 5) ?hd (cs := #[.int .i64 0, .int .i64 0, .int .i64 0]) (t := 25) ?hr ?_; (case hd => rfl); (case hg => rfl); (case hr => first | (go_simp; done) | (go_simp; rfl))
    intro gb379 hg w10 hbox hb
    have HS0_ := And.intro ((hb.cell (World.block_lt_of_cell? _ _ hHeld.1)).trans hHeld.1) ((hb.cell (World.block_lt_of_cell? _ _ hHeld.2)).trans hHeld.2)
    have n0_ := zM (Kd.R_below (by exact HO376.out) hb)
    have n1_ := zM (blk_below (g := gb373) (o := .cells #[.int .i64 0, .int .i64 0, .int .i64 0] 25 (0, 0)) (by exact BK373.out) hb)
    have n2_ := zM (below_step (by repeat (first | (with_reducible first | exact HB.out | apply zB | apply zA | apply zC | refine zD ?_ GE373.out) | exact HB.out)) hb)
    have n3_ := zM (hbox)
    have n4_ := zM ((by rw [hg]; exact (below_size (by repeat (first | (with_reducible first | exact HB.out | apply zB | apply zA | apply zC | refine zD ?_ GE373.out) | exact HB.out))) : w.heap.size ≤ gb379))
    have n5_ := zM ((by rw [hg]; exact (below_size (by repeat (first | (with_reducible first | exact HB.out | apply zB | apply zA | apply zC | refine zD ?_ GE373.out) | exact HB.out))) : w.heap.size ≤ gb379))
    have n6_ := zM ((by rw [hg]; exact Nat.ne_of_lt (blk_lt (g := gb373) (o := .cells #[.int .i64 0, .int .i64 0, .int .i64 0] 25 (0, 0)) (by exact BK373.out)) : gb373 ≠ gb379))
    have n7_ := zM ((by rw [hg]; exact Nat.ne_of_gt (blk_lt (g := gb373) (o := .cells #[.int .i64 0, .int .i64 0, .int .i64 0] 25 (0, 0)) (by exact BK373.out)) : gb379 ≠ gb373))
    clear HO376
    clear BK373
    clear HB
    have HO376 := n0_
    have BK373 := n1_
    have HB := n2_
    have BK379 := n3_
    have GW379 := n4_
    have GE379 := n5_
    have NB373_379 := n6_
    have NB379_373 := n7_
    clear n0_ n1_ n2_ n3_ n4_ n5_ n6_ n7_
    clear hb hbox hg
    refine hK.out _ _ (HS0_) (fun hHeld => ?_)
    clear hK K
    refine norm_ (a' := ?_) ?_ ?_
    rotate_left
    ·show Act.put _ (some 5) _ = _
     simp only [Act.put, zE, zF, zG, i64_w, i32_w]
     rfl
    refine one_ (i := 4) (N := some 12) #[true, true, true, true, true, false, true, false] rfl rfl (one_of HT_.out (by kernel_rfl)) (by decide) (fun K hK => ?_)
    refine goes_ Tryd.func39 (by kernel_rfl) rfl #[.slice (some ⟨tb_, to_, none⟩) wordsL.length tc_, .string (rdOf ByteArray.empty t374 0)] (by rfl) rfl rfl (by (try simp only [List.map_toArray, List.map_cons, List.map_nil]); first | done | rfl | (simp only [List.length_drop, List.length_take]; rfl)) ?_
    with_reducible refine (slices_Index_string_string.calls k _ _ wordsL (rdOf ByteArray.empty t374 0) t378 _ ?side1 ?side2 A4.out).mono ?_
    (case side1 => repeat (first | exact (Kd.C_below HWr.out HB.out) | (with_reducible refine Kd.C_alloc ?_ _) | (with_reducible refine Kd.C_drewN ?_ _) | (with_reducible refine Kd.C_drew ?_)))
    (case side2 => exact HCAP.out)
    rintro e w' ⟨rfl, ⟨nd, rfl⟩⟩
    refine ⟨_, rfl, ?_⟩
    refine hK.out _ _ (hHeld) (fun hHeld => ?_)
    clear hK K
    refine norm_ (a' := ?_) ?_ ?_
    rotate_left
    ·show Act.put _ (some 12) _ = _
     simp only [Act.put, zE, zF, zG, i64_w, i32_w]
     rfl
    refine pure_ (i := 5) (N := some 13) (v := ?_) (a' := ?_) #[true, true, true, true, true, true, true, false] rfl rfl (any_of HT_.out (by kernel_rfl)) (fun _ _ _ h => h) (Or.inl ⟨by rfl, ?_⟩) ?_ ?_
    rotate_left
    ·intro w'
     go_simp
     with_reducible rfl
    rotate_left
    ·simp only [Act.put, zE, zF, zG, i64_w, i32_w]
     rfl
    exact norm_ (by simp only [putAll, Act.put, zE, zF, zG]) (hCont (gb379) _ ⟨hHeld, (by exact HO376.out), (by exact BK373.out), (by exact BK379.out), GW379.out, GE379.out, NB373_379.out, NB379_373.out, (by repeat (first | (with_reducible first | exact HB.out | apply zB | apply zA | apply zC | refine zD ?_ GE373.out | refine zD ?_ GE379.out) | exact HB.out))⟩)
  rintro gb379 w11 ⟨hS_, h0_, h1_, h2_, h3_, h4_, h5_, h6_, h7_⟩
  have n0_ : Aside0 (Kd.R Kd.string 9 w11 w.heap.size (fun _ => True) (.slice (some ad377) t374.length co8) t374) := ⟨h0_⟩
  have n1_ : Aside0 (w11.heap[gb373]? = some (.cells #[.int .i64 0, .int .i64 0, .int .i64 0] 25 (0, 0))) := ⟨h1_⟩
  have n2_ : Aside0 (w11.heap[gb379]? = some (.cells #[.int .i64 0, .int .i64 0, .int .i64 0] 25 (0, 0))) := ⟨h2_⟩
  have n3_ : Aside0 (w.heap.size ≤ gb379) := ⟨h3_⟩
  have n4_ : Aside0 (w.heap.size ≤ gb379) := ⟨h4_⟩
  have n5_ : Aside0 (gb373 ≠ gb379) := ⟨h5_⟩
  have n6_ : Aside0 (gb379 ≠ gb373) := ⟨h6_⟩
  have n7_ : Aside0 (Below w.heap.size w w11) := ⟨h7_⟩
  clear HO376
  clear BK373
  clear HB
  clear h0_ h1_ h2_ h3_ h4_ h5_ h6_ h7_
  have HO376 := n0_
  have BK373 := n1_
  have BK379 := n2_
  have GW379 := n3_
  have GE379 := n4_
  have NB373_379 := n5_
  have NB379_373 := n6_
  have HB := n7_
  clear n0_ n1_ n2_ n3_ n4_ n5_ n6_ n7_
  have hHeld := hS_
  refine norm_ (a' := ?_) ?_ ?_
  rotate_left
  ·simp only [putAll, Act.put, zE, zF, zG]
   rfl
  refine one_ (i := 7) (N := none) #[true, true, true, true, true, true, true, true] rfl rfl (one_of HT_.out (by kernel_rfl)) (by decide) (fun K hK => ?_)
  have hs12 : w11.cell? ⟨gb379, 0, none⟩ = some (.int .i64 0) := (blk_cell BK379.out 0).trans rfl
  have hfs12 := blk_frozen BK379.out 0
  have hns12_0 := NB373_379.out
  have hms12_0 := NB379_373.out
  have hs13 : w11.cell? ⟨gb379, 1, none⟩ = some (.int .i64 0) := (blk_cell BK379.out 1).trans rfl
  have hfs13 := blk_frozen BK379.out 1
  have hns13_0 := NB373_379.out
  have hms13_0 := NB379_373.out
  have hs14 : w11.cell? ⟨gb379, 2, none⟩ = some (.int .i64 0) := (blk_cell BK379.out 2).trans rfl
  have hfs14 := blk_frozen BK379.out 2
  have hns14_0 := NB373_379.out
  have hms14_0 := NB379_373.out
  refine skip_ (w1 := ?_) (by rfl) rfl ?_ ?_
  rotate_left
  ·go_simp
   rfl
  refine hK.out _ _ (⟨((cell_far (p := ⟨gb379, _, none⟩) (by first | exact Kd.own_blk (Kd.R_ne HO376.out BK379.out (by decide)) | (rw [add_block]; exact Kd.own_blk (Kd.R_ne HO376.out BK379.out (by decide))) | (show (Addr.add _ _).block ≠ _; rw [add_block]; exact Kd.own_blk (Kd.R_ne HO376.out BK379.out (by decide))) | (dsimp only; exact Kd.own_blk (Kd.R_ne HO376.out BK379.out (by decide)))) _).trans (((cell_far (p := ⟨gb379, _, none⟩) (by first | exact Kd.own_blk (Kd.R_ne HO376.out BK379.out (by decide)) | (rw [add_block]; exact Kd.own_blk (Kd.R_ne HO376.out BK379.out (by decide))) | (show (Addr.add _ _).block ≠ _; rw [add_block]; exact Kd.own_blk (Kd.R_ne HO376.out BK379.out (by decide))) | (dsimp only; exact Kd.own_blk (Kd.R_ne HO376.out BK379.out (by decide)))) _).trans (((cell_far (p := ⟨gb379, _, none⟩) (by first | exact Kd.own_blk (Kd.R_ne HO376.out BK379.out (by decide)) | (rw [add_block]; exact Kd.own_blk (Kd.R_ne HO376.out BK379.out (by decide))) | (show (Addr.add _ _).block ≠ _; rw [add_block]; exact Kd.own_blk (Kd.R_ne HO376.out BK379.out (by decide))) | (dsimp only; exact Kd.own_blk (Kd.R_ne HO376.out BK379.out (by decide)))) _).trans (hHeld.1)))))), (cell_far (p := ⟨gb379, _, none⟩) (by have h1_ := GE379.out; have h2_ := World.block_lt_of_cell? w _ HG0.out; dsimp only at h2_ ⊢; omega) _).trans ((cell_far (p := ⟨gb379, _, none⟩) (by have h1_ := GE379.out; have h2_ := World.block_lt_of_cell? w _ HG0.out; dsimp only at h2_ ⊢; omega) _).trans ((cell_far (p := ⟨gb379, _, none⟩) (by have h1_ := GE379.out; have h2_ := World.block_lt_of_cell? w _ HG0.out; dsimp only at h2_ ⊢; omega) _).trans hHeld.2))⟩) (fun hHeld => ?_)
  clear hK K
  refine done_ (done_of HT_.out (by kernel_rfl)) ?_
  go_upto_if 16 with (fail)
  go_cut [] (fun wc => ∃ (kq : Nat) (x380001_4 : Int), Aside0 (impl_ReadDeed.j0 kq a0 t374 t378 x380001_4 0 = some (r1, r2, r3, r4)) ∧ Aside0 (kq ≤ k) ∧ Aside0 (Kd.R Kd.string 9 wc w.heap.size (fun _ => True) (.slice (some ad377) t374.length co8) t374) ∧ Aside0 (wc.heap[gb373]? = some (.cells #[.int .i64 0, .int .i64 0, .int .i64 0] 25 (0, 0))) ∧ Aside0 (wc.heap[gb379]? = some (.cells #[.int .i64 t378, .int .i64 x380001_4, .int .i64 0] 25 (0, 0))) ∧ Aside0 (Below w.heap.size w wc))
  case first =>
   have H := HC5.out
   clear HC5
   by_cases c15 : (t374.length : Int) > 1
   ·rw [if_pos c15] at H
    have c15b0 : decide (1 < (t374.length : Int)) = true := decide_eq_true c15
    have c15b1 : decide (1 < t374.length) = true := decide_eq_true (by omega)
    clear c15
    (first | rw [c15b0] | (simp only [i64_w, i32_w]; rw [c15b0]) | skip)
    by_cases c16 : 1 < (t374.length : Int)
    ·rw [if_pos c16] at H
     have c16b0 : decide (1 < (t374.length : Int)) = true := decide_eq_true c16
     have c16b1 : decide (1 < t374.length) = true := decide_eq_true (by omega)
     clear c16
     replace H := Option.bind_eq_some_iff.mp H
     obtain ⟨⟨t381, t382⟩, A170, H⟩ := H
     replace H : (impl_ReadDeed.j0 k a0 t374 t378 t381 0) = some (r1, r2, r3, r4) := H
     have A17 := zM A170
     clear A170
     have H' := zM H
     clear H
     have p380 : 0 ≤ (1 : Int) := (by omega)
     have q380 : 1 < (t374.length : Int) := of_decide_eq_true (by first | (with_reducible assumption) | assumption)
     obtain ⟨ad380, e380, hx380_0⟩ := Kd.at_string (Kd.R_reads' HO376.out).2.2 1 p380 q380
     obtain rfl : ad377 = ad380 := (by injection e380)
     (try simp only [show (1 : Int).toNat = 1 from rfl, Nat.reduceMul, Nat.reduceEqDiff, Go.Addr.add, ↓reduceIte] at hx380_0)
     have qi380 : (1 < t374.length) = True := eq_true (by omega)
     (try rw [show ((1 : Int)).toNat = 1 from rfl] at hx380_0)
     have hn380_0 : ad377.block ≠ gb379 := Kd.own_blk (Kd.R_ne HO376.out BK379.out (by decide))
     have hn380_1 : ad377.block ≠ gb379 := Kd.own_blk (Kd.R_ne HO376.out BK379.out (by decide))
     have hn380_2 : ad377.block ≠ gb379 := Kd.own_blk (Kd.R_ne HO376.out BK379.out (by decide))
     replace hx380_0 := (cell_far (p := ⟨gb379, 0, none⟩) (by first | (rw [add_block]; exact hn380_0) | (show (Addr.add _ _).block ≠ _; rw [add_block]; exact hn380_0) | exact hn380_0) (.int .i64 t378)).trans hx380_0
     replace hx380_0 := (cell_far (p := ⟨gb379, 1, none⟩) (by first | (rw [add_block]; exact hn380_1) | (show (Addr.add _ _).block ≠ _; rw [add_block]; exact hn380_1) | exact hn380_1) (.int .i64 0)).trans hx380_0
     replace hx380_0 := (cell_far (p := ⟨gb379, 2, none⟩) (by first | (rw [add_block]; exact hn380_2) | (show (Addr.add _ _).block ≠ _; rw [add_block]; exact hn380_2) | exact hn380_2) (.int .i64 0)).trans hx380_0
     clear hn380_0
     clear hn380_1
     clear hn380_2
     replace p380 := eq_true p380
     replace q380 := eq_true q380
     go_wp2_with (first | ((with_reducible refine gate_callee (f := 40) rfl ?_); refine goesL_ (some 21) rfl rfl Tryd.func40 (by kernel_rfl) rfl #[.string (rdOf ByteArray.empty t374 1)] rfl (by (try simp only [List.map_toArray, List.map_cons, List.map_nil]); first | done | rfl | (simp only [List.length_drop, List.length_take]; rfl)) ?_; (with_reducible refine (strconv_Atoi.calls (rdOf ByteArray.empty t374 1) t381 t382 _ ?sideT A17.out).mono ?_); (case sideT => exact TabR.below HT.out (by repeat (first | (with_reducible first | exact HB.out | apply zB | apply zA | apply zC | refine zD ?_ GE373.out | refine zD ?_ GE379.out) | exact HB.out))); rintro e w18 ⟨er_, rfl, hb⟩; refine ⟨_, rfl, ?_⟩; have n0_ := zM (Kd.R_below (by exact (Kd.R_mono (Kd.R_far (p := ⟨gb379, 2, none⟩) (Kd.R_far (p := ⟨gb379, 1, none⟩) (Kd.R_far (p := ⟨gb379, 0, none⟩) (Kd.R_types HO376.out BK379.out (by decide)) (fun _ hk => hk.2) (.int .i64 t378)) (fun _ hk => hk.2) (.int .i64 0)) (fun _ hk => hk.2) (.int .i64 0)) (fun _ h_ => h_.1))) hb); have n1_ := zM (blk_below (g := gb373) (o := .cells #[.int .i64 0, .int .i64 0, .int .i64 0] 25 (0, 0)) (by refine blk_far ?_ NB373_379.out _; refine blk_far ?_ NB373_379.out _; refine blk_far ?_ NB373_379.out _; exact BK373.out) hb); have n2_ := zM (blk_below (g := gb379) (o := .cells #[.int .i64 t378, .int .i64 0, .int .i64 0] 25 (0, 0)) (by refine blk_put (cs := #[.int .i64 t378, .int .i64 0, .int .i64 0]) ?_ 2 _ rfl; refine blk_put (cs := #[.int .i64 t378, .int .i64 0, .int .i64 0]) ?_ 1 _ rfl; refine blk_put (cs := #[.int .i64 0, .int .i64 0, .int .i64 0]) ?_ 0 _ rfl; exact BK379.out) hb); have n3_ := zM (below_step (by repeat (first | (with_reducible first | exact HB.out | apply zB | apply zA | apply zC | refine zD ?_ GE373.out | refine zD ?_ GE379.out) | exact HB.out)) hb); clear HO376; clear BK373; clear BK379; clear HB; have HO376 := n0_; have BK373 := n1_; have BK379 := n2_; have HB := n3_; clear n0_ n1_ n2_ n3_; (try clear hb); (try clear hb2); (try clear hk); (try clear hi); (try simp only [errW_none, errW_some]); have hnb19 := NB379_373.out; have hnc19 := NB373_379.out; have hcz20_0 : w18.cell? ⟨gb379, 0, none⟩ = some (.int .i64 t378) := (blk_cell BK379.out 0).trans rfl; have hcz20_1 : w18.cell? ⟨gb379, 1, none⟩ = some (.int .i64 0) := (blk_cell BK379.out 1).trans rfl; have hcz20_2 : w18.cell? ⟨gb379, 2, none⟩ = some (.int .i64 0) := (blk_cell BK379.out 2).trans rfl; have hfz20_0 := blk_frozen BK379.out 0; have hfz20_1 := blk_frozen BK379.out 1; have hfz20_2 := blk_frozen BK379.out 2))
     go_meet
     case rel => exact ⟨_, (t381), H', ⟨by first | omega | exact Nat.le_refl _⟩, ⟨by exact Kd.R_mono (Kd.R_far (p := ⟨gb379, 1, none⟩) (Kd.R_types HO376.out BK379.out (by decide)) (fun _ hk => hk.2) (.int .i64 t381)) (fun _ hk => trivial)⟩, ⟨by refine blk_far ?_ NB373_379.out _; exact BK373.out⟩, ⟨by refine blk_put (cs := #[.int .i64 t378, .int .i64 0, .int .i64 0]) ?_ 1 _ rfl; exact BK379.out⟩, ⟨by repeat (first | (with_reducible first | exact HB.out | apply zB | apply zA | apply zC | refine zD ?_ GE373.out | refine zD ?_ GE379.out) | exact HB.out)⟩⟩
    ·rw [if_neg c16] at H
     exact absurd H (by simp)
   ·rw [if_neg c15] at H
    have c15b0 : decide (1 < (t374.length : Int)) = false := decide_eq_false c15
    have c15b1 : decide (1 < t374.length) = false := decide_eq_false (by omega)
    clear c15
    (first | rw [c15b0] | (simp only [i64_w, i32_w]; rw [c15b0]) | skip)
    have H' := zM H
    clear H
    go_wp2
    go_meet
    case rel => exact ⟨_, (0), H', ⟨by first | omega | exact Nat.le_refl _⟩, ⟨by exact Kd.R_mono (Kd.R_far (p := ⟨gb379, 2, none⟩) (Kd.R_far (p := ⟨gb379, 1, none⟩) (Kd.R_far (p := ⟨gb379, 0, none⟩) (Kd.R_types HO376.out BK379.out (by decide)) (fun _ hk => hk.2) (.int .i64 t378)) (fun _ hk => hk.2) (.int .i64 0)) (fun _ hk => hk.2) (.int .i64 0)) (fun _ hk => trivial)⟩, ⟨by refine blk_far ?_ NB373_379.out _; refine blk_far ?_ NB373_379.out _; refine blk_far ?_ NB373_379.out _; exact BK373.out⟩, ⟨by refine blk_put (cs := #[.int .i64 t378, .int .i64 0, .int .i64 0]) ?_ 2 _ rfl; refine blk_put (cs := #[.int .i64 t378, .int .i64 0, .int .i64 0]) ?_ 1 _ rfl; refine blk_put (cs := #[.int .i64 0, .int .i64 0, .int .i64 0]) ?_ 0 _ rfl; exact BK379.out⟩, ⟨by repeat (first | (with_reducible first | exact HB.out | apply zB | apply zA | apply zC | refine zD ?_ GE373.out | refine zD ?_ GE379.out) | exact HB.out)⟩⟩
  case rest =>
   clear HC5
   try clear c1
   try clear p2
   try clear c3
   try clear c3b0
   try clear c3b1
   try clear p3
   try clear q3
   try clear hx3
   try clear qi3
   try clear c4
   try clear c15
   try clear c15b0
   try clear c15b1
   try clear c16
   try clear c16b0
   try clear c16b1
   try clear c19
   try clear hcz20_0
   try clear hcz20_1
   try clear hcz20_2
   try clear hfz20_0
   try clear hfz20_1
   try clear hfz20_2
   try clear hx377_0
   try clear hx380_0
   try clear p377
   try clear p380
   try clear q377
   try clear q380
   obtain ⟨kq, x380001_4, HA, HJ4, HO_4, BK373, BK379, HB⟩ := hcut
   cases kq with
   | zero => exact absurd HA.out (by simp [impl_ReadDeed.j0])
   | succ kj4 =>
    have H := HA.out
    clear HA
    simp only [impl_ReadDeed.j0] at H
    by_cases c21 : (t374.length : Int) > 2
    ·rw [if_pos c21] at H
     have c21b0 : decide (2 < (t374.length : Int)) = true := decide_eq_true c21
     have c21b1 : decide (2 < t374.length) = true := decide_eq_true (by omega)
     clear c21
     by_cases c22 : 2 < (t374.length : Int)
     ·rw [if_pos c22] at H
      have c22b0 : decide (2 < (t374.length : Int)) = true := decide_eq_true c22
      have c22b1 : decide (2 < t374.length) = true := decide_eq_true (by omega)
      clear c22
      replace H := Option.bind_eq_some_iff.mp H
      obtain ⟨⟨t384, t385⟩, A230, H⟩ := H
      replace H : (if a0.toList = ([] : List UInt8) then (some (0, 0, 0, false)) else ((impl_DeedText.f kj4 t378 x380001_4 t384).bind fun t386 => (if t386.toList = a0.toList then (some (t378, x380001_4, t384, true)) else (some (0, 0, 0, false))))) = some (r1, r2, r3, r4) := H
      have A23 := zM A230
      clear A230
      by_cases c24 : a0.toList = ([] : List UInt8)
      ·rw [if_pos c24] at H
       have c24b0 : (a0.toList == ([] : List UInt8)) = true := beq_iff_eq.mpr c24
       have c24b1 : (a0.toList != ([] : List UInt8)) = false := bne_eq_false_iff_eq.mpr c24
       clear c24
       simp only [Option.some.injEq, Prod.mk.injEq] at H
       obtain ⟨rfl, rfl, rfl, rfl⟩ := H
       have p383 : 0 ≤ (2 : Int) := (by omega)
       have q383 : 2 < (t374.length : Int) := of_decide_eq_true (by first | (with_reducible assumption) | assumption)
       obtain ⟨ad383, e383, hx383_0⟩ := Kd.at_string (Kd.R_reads' HO_4.out).2.2 2 p383 q383
       obtain rfl : ad377 = ad383 := (by injection e383)
       (try simp only [show (2 : Int).toNat = 2 from rfl, Nat.reduceMul, Nat.reduceEqDiff, Go.Addr.add, ↓reduceIte] at hx383_0)
       have qi383 : (2 < t374.length) = True := eq_true (by omega)
       (try rw [show ((2 : Int)).toNat = 2 from rfl] at hx383_0)
       replace p383 := eq_true p383
       replace q383 := eq_true q383
       go_wp2_with (first | ((with_reducible refine gate_callee (f := 40) rfl ?_); refine goesL_ (some 32) rfl rfl Tryd.func40 (by kernel_rfl) rfl #[.string (rdOf ByteArray.empty t374 2)] rfl (by (try simp only [List.map_toArray, List.map_cons, List.map_nil]); first | done | rfl | (simp only [List.length_drop, List.length_take]; rfl)) ?_; (with_reducible refine (strconv_Atoi.calls (rdOf ByteArray.empty t374 2) t384 t385 _ ?sideT A23.out).mono ?_); (case sideT => exact TabR.below HT.out (by repeat (first | (with_reducible first | exact HB.out | apply zB | apply zA | apply zC | refine zD ?_ GE373.out | refine zD ?_ GE379.out) | exact HB.out))); rintro e w25 ⟨er_, rfl, hb⟩; refine ⟨_, rfl, ?_⟩; have n0_ := zM (Kd.R_below (by exact HO_4.out) hb); have n1_ := zM (blk_below (g := gb373) (o := .cells #[.int .i64 0, .int .i64 0, .int .i64 0] 25 (0, 0)) (by exact BK373.out) hb); have n2_ := zM (blk_below (g := gb379) (o := .cells #[.int .i64 t378, .int .i64 x380001_4, .int .i64 0] 25 (0, 0)) (by exact BK379.out) hb); have n3_ := zM (below_step (by repeat (first | (with_reducible first | exact HB.out | apply zB | apply zA | apply zC | refine zD ?_ GE373.out | refine zD ?_ GE379.out) | exact HB.out)) hb); clear HO_4; clear BK373; clear BK379; clear HB; have HO_4 := n0_; have BK373 := n1_; have BK379 := n2_; have HB := n3_; clear n0_ n1_ n2_ n3_; (try clear hb); (try clear hb2); (try clear hk); (try clear hi); (try simp only [errW_none, errW_some]); have hnb26 := NB379_373.out; have hnc26 := NB373_379.out; have hcz27_0 : w25.cell? ⟨gb379, 0, none⟩ = some (.int .i64 t378) := (blk_cell BK379.out 0).trans rfl; have hcz27_1 : w25.cell? ⟨gb379, 1, none⟩ = some (.int .i64 x380001_4) := (blk_cell BK379.out 1).trans rfl; have hcz27_2 : w25.cell? ⟨gb379, 2, none⟩ = some (.int .i64 0) := (blk_cell BK379.out 2).trans rfl; have hfz27_0 := blk_frozen BK379.out 0; have hfz27_1 := blk_frozen BK379.out 1; have hfz27_2 := blk_frozen BK379.out 2; have hcz28_0 : w25.cell? ⟨gb373, 0, none⟩ = some (.int .i64 0) := (blk_cell BK373.out 0).trans rfl; have hcz28_1 : w25.cell? ⟨gb373, 1, none⟩ = some (.int .i64 0) := (blk_cell BK373.out 1).trans rfl; have hcz28_2 : w25.cell? ⟨gb373, 2, none⟩ = some (.int .i64 0) := (blk_cell BK373.out 2).trans rfl; have hfz28_0 := blk_frozen BK373.out 0; have hfz28_1 := blk_frozen BK373.out 1; have hfz28_2 := blk_frozen BK373.out 2))
       refine bodyPost_ret (results_ct rfl _ _ gb373 25 #[.int .i64 0, .int .i64 0, .int .i64 0] (0, 0) _ rfl (by refine blk_put (cs := #[.int .i64 0, .int .i64 0, .int .i64 0]) ?_ 2 _ rfl; refine blk_put (cs := #[.int .i64 0, .int .i64 0, .int .i64 0]) ?_ 1 _ rfl; refine blk_put (cs := #[.int .i64 0, .int .i64 0, .int .i64 0]) ?_ 0 _ rfl; refine blk_far ?_ NB373_379.out _; exact BK373.out) Tryd.underlying25 rfl (by kernel_rfl)) rfl ?_
       exact ⟨by first | rfl | (simp [errW_none, errW_some] <;> rfl) | (simp [*, errW_none, errW_some] <;> rfl), by repeat (first | (with_reducible first | exact HB.out | apply zB | apply zA | apply zC | refine zD ?_ GE373.out | refine zD ?_ GE379.out) | exact HB.out)⟩
      ·rw [if_neg c24] at H
       have c24b0 : (a0.toList == ([] : List UInt8)) = false := beq_eq_false_iff_ne.mpr c24
       have c24b1 : (a0.toList != ([] : List UInt8)) = true := bne_iff_ne.mpr c24
       replace H := Option.bind_eq_some_iff.mp H
       obtain ⟨t386, A290, H⟩ := H
       replace H : (if t386.toList = a0.toList then (some (t378, x380001_4, t384, true)) else (some (0, 0, 0, false))) = some (r1, r2, r3, r4) := H
       have A29 := zM A290
       clear A290
       by_cases c30 : t386.toList = a0.toList
       ·rw [if_pos c30] at H
        have c30b0 : (t386.toList == a0.toList) = true := beq_iff_eq.mpr c30
        have c30b1 : (t386.toList != a0.toList) = false := bne_eq_false_iff_eq.mpr c30
        clear c30
        simp only [Option.some.injEq, Prod.mk.injEq] at H
        obtain ⟨rfl, rfl, rfl, rfl⟩ := H
        have p383 : 0 ≤ (2 : Int) := (by omega)
        have q383 : 2 < (t374.length : Int) := of_decide_eq_true (by first | (with_reducible assumption) | assumption)
        obtain ⟨ad383, e383, hx383_0⟩ := Kd.at_string (Kd.R_reads' HO_4.out).2.2 2 p383 q383
        obtain rfl : ad377 = ad383 := (by injection e383)
        (try simp only [show (2 : Int).toNat = 2 from rfl, Nat.reduceMul, Nat.reduceEqDiff, Go.Addr.add, ↓reduceIte] at hx383_0)
        have qi383 : (2 < t374.length) = True := eq_true (by omega)
        (try rw [show ((2 : Int)).toNat = 2 from rfl] at hx383_0)
        replace p383 := eq_true p383
        replace q383 := eq_true q383
        go_wp2_with (first | ((with_reducible refine gate_callee (f := 40) rfl ?_); refine goesL_ (some 32) rfl rfl Tryd.func40 (by kernel_rfl) rfl #[.string (rdOf ByteArray.empty t374 2)] rfl (by (try simp only [List.map_toArray, List.map_cons, List.map_nil]); first | done | rfl | (simp only [List.length_drop, List.length_take]; rfl)) ?_; (with_reducible refine (strconv_Atoi.calls (rdOf ByteArray.empty t374 2) t384 t385 _ ?sideT A23.out).mono ?_); (case sideT => exact TabR.below HT.out (by repeat (first | (with_reducible first | exact HB.out | apply zB | apply zA | apply zC | refine zD ?_ GE373.out | refine zD ?_ GE379.out) | exact HB.out))); rintro e w31 ⟨er_, rfl, hb⟩; refine ⟨_, rfl, ?_⟩; have n0_ := zM (Kd.R_below (by exact HO_4.out) hb); have n1_ := zM (blk_below (g := gb373) (o := .cells #[.int .i64 0, .int .i64 0, .int .i64 0] 25 (0, 0)) (by exact BK373.out) hb); have n2_ := zM (blk_below (g := gb379) (o := .cells #[.int .i64 t378, .int .i64 x380001_4, .int .i64 0] 25 (0, 0)) (by exact BK379.out) hb); have n3_ := zM (below_step (by repeat (first | (with_reducible first | exact HB.out | apply zB | apply zA | apply zC | refine zD ?_ GE373.out | refine zD ?_ GE379.out) | exact HB.out)) hb); clear HO_4; clear BK373; clear BK379; clear HB; have HO_4 := n0_; have BK373 := n1_; have BK379 := n2_; have HB := n3_; clear n0_ n1_ n2_ n3_; (try clear hb); (try clear hb2); (try clear hk); (try clear hi); (try simp only [errW_none, errW_some]); have hnb32 := NB379_373.out; have hnc32 := NB373_379.out; have hcz33_0 : w31.cell? ⟨gb379, 0, none⟩ = some (.int .i64 t378) := (blk_cell BK379.out 0).trans rfl; have hcz33_1 : w31.cell? ⟨gb379, 1, none⟩ = some (.int .i64 x380001_4) := (blk_cell BK379.out 1).trans rfl; have hcz33_2 : w31.cell? ⟨gb379, 2, none⟩ = some (.int .i64 0) := (blk_cell BK379.out 2).trans rfl; have hfz33_0 := blk_frozen BK379.out 0; have hfz33_1 := blk_frozen BK379.out 1; have hfz33_2 := blk_frozen BK379.out 2) | (go_at_call 12; (with_reducible refine (impl_DeedText.calls kj4 t378 x380001_4 t384 t386 _ ?sideT A29.out).mono ?_); (case sideT => exact TabR.below HT.out (by repeat (first | (with_reducible first | exact HB.out | apply zB | apply zA | apply zC | refine zD ?_ GE373.out | refine zD ?_ GE379.out) | exact HB.out))); rintro e w34 ⟨rfl, hb⟩; have n0_ := zM (Kd.R_below (by exact (Kd.R_mono (Kd.R_far (p := ⟨gb379, 2, none⟩) (Kd.R_types HO_4.out BK379.out (by decide)) (fun _ hk => hk.2) (.int .i64 t384)) (fun _ h_ => h_.1))) hb); have n1_ := zM (blk_below (g := gb373) (o := .cells #[.int .i64 0, .int .i64 0, .int .i64 0] 25 (0, 0)) (by refine blk_far ?_ NB373_379.out _; exact BK373.out) hb); have n2_ := zM (blk_below (g := gb379) (o := .cells #[.int .i64 t378, .int .i64 x380001_4, .int .i64 t384] 25 (0, 0)) (by refine blk_put (cs := #[.int .i64 t378, .int .i64 x380001_4, .int .i64 0]) ?_ 2 _ rfl; exact BK379.out) hb); have n3_ := zM (below_step (by repeat (first | (with_reducible first | exact HB.out | apply zB | apply zA | apply zC | refine zD ?_ GE373.out | refine zD ?_ GE379.out) | exact HB.out)) hb); clear HO_4; clear BK373; clear BK379; clear HB; have HO_4 := n0_; have BK373 := n1_; have BK379 := n2_; have HB := n3_; clear n0_ n1_ n2_ n3_; (try clear hb); (try clear hb2); (try clear hk); (try clear hi); have hcz35_0 : w34.cell? ⟨gb379, 0, none⟩ = some (.int .i64 t378) := (blk_cell BK379.out 0).trans rfl; have hcz35_1 : w34.cell? ⟨gb379, 1, none⟩ = some (.int .i64 x380001_4) := (blk_cell BK379.out 1).trans rfl; have hcz35_2 : w34.cell? ⟨gb379, 2, none⟩ = some (.int .i64 t384) := (blk_cell BK379.out 2).trans rfl; have hfz35_0 := blk_frozen BK379.out 0; have hfz35_1 := blk_frozen BK379.out 1; have hfz35_2 := blk_frozen BK379.out 2; have hcz36_0 : w34.cell? ⟨gb373, 0, none⟩ = some (.int .i64 0) := (blk_cell BK373.out 0).trans rfl; have hcz36_1 : w34.cell? ⟨gb373, 1, none⟩ = some (.int .i64 0) := (blk_cell BK373.out 1).trans rfl; have hcz36_2 : w34.cell? ⟨gb373, 2, none⟩ = some (.int .i64 0) := (blk_cell BK373.out 2).trans rfl; have hfz36_0 := blk_frozen BK373.out 0; have hfz36_1 := blk_frozen BK373.out 1; have hfz36_2 := blk_frozen BK373.out 2))
        refine bodyPost_ret (results_ct rfl _ _ gb373 25 #[.int .i64 t378, .int .i64 x380001_4, .int .i64 t384] (0, 0) _ rfl (by refine blk_put (cs := #[.int .i64 t378, .int .i64 x380001_4, .int .i64 0]) ?_ 2 _ rfl; refine blk_put (cs := #[.int .i64 t378, .int .i64 0, .int .i64 0]) ?_ 1 _ rfl; refine blk_put (cs := #[.int .i64 0, .int .i64 0, .int .i64 0]) ?_ 0 _ rfl; exact BK373.out) Tryd.underlying25 rfl (by kernel_rfl)) rfl ?_
        exact ⟨by first | rfl | (simp [errW_none, errW_some] <;> rfl) | (simp [*, errW_none, errW_some] <;> rfl), by repeat (first | (with_reducible first | exact HB.out | apply zB | apply zA | apply zC | refine zD ?_ GE373.out | refine zD ?_ GE379.out) | exact HB.out)⟩
       ·rw [if_neg c30] at H
        have c30b0 : (t386.toList == a0.toList) = false := beq_eq_false_iff_ne.mpr c30
        have c30b1 : (t386.toList != a0.toList) = true := bne_iff_ne.mpr c30
        simp only [Option.some.injEq, Prod.mk.injEq] at H
        obtain ⟨rfl, rfl, rfl, rfl⟩ := H
        have p383 : 0 ≤ (2 : Int) := (by omega)
        have q383 : 2 < (t374.length : Int) := of_decide_eq_true (by first | (with_reducible assumption) | assumption)
        obtain ⟨ad383, e383, hx383_0⟩ := Kd.at_string (Kd.R_reads' HO_4.out).2.2 2 p383 q383
        obtain rfl : ad377 = ad383 := (by injection e383)
        (try simp only [show (2 : Int).toNat = 2 from rfl, Nat.reduceMul, Nat.reduceEqDiff, Go.Addr.add, ↓reduceIte] at hx383_0)
        have qi383 : (2 < t374.length) = True := eq_true (by omega)
        (try rw [show ((2 : Int)).toNat = 2 from rfl] at hx383_0)
        replace p383 := eq_true p383
        replace q383 := eq_true q383
        go_wp2_with (first | ((with_reducible refine gate_callee (f := 40) rfl ?_); refine goesL_ (some 32) rfl rfl Tryd.func40 (by kernel_rfl) rfl #[.string (rdOf ByteArray.empty t374 2)] rfl (by (try simp only [List.map_toArray, List.map_cons, List.map_nil]); first | done | rfl | (simp only [List.length_drop, List.length_take]; rfl)) ?_; (with_reducible refine (strconv_Atoi.calls (rdOf ByteArray.empty t374 2) t384 t385 _ ?sideT A23.out).mono ?_); (case sideT => exact TabR.below HT.out (by repeat (first | (with_reducible first | exact HB.out | apply zB | apply zA | apply zC | refine zD ?_ GE373.out | refine zD ?_ GE379.out) | exact HB.out))); rintro e w37 ⟨er_, rfl, hb⟩; refine ⟨_, rfl, ?_⟩; have n0_ := zM (Kd.R_below (by exact HO_4.out) hb); have n1_ := zM (blk_below (g := gb373) (o := .cells #[.int .i64 0, .int .i64 0, .int .i64 0] 25 (0, 0)) (by exact BK373.out) hb); have n2_ := zM (blk_below (g := gb379) (o := .cells #[.int .i64 t378, .int .i64 x380001_4, .int .i64 0] 25 (0, 0)) (by exact BK379.out) hb); have n3_ := zM (below_step (by repeat (first | (with_reducible first | exact HB.out | apply zB | apply zA | apply zC | refine zD ?_ GE373.out | refine zD ?_ GE379.out) | exact HB.out)) hb); clear HO_4; clear BK373; clear BK379; clear HB; have HO_4 := n0_; have BK373 := n1_; have BK379 := n2_; have HB := n3_; clear n0_ n1_ n2_ n3_; (try clear hb); (try clear hb2); (try clear hk); (try clear hi); (try simp only [errW_none, errW_some]); have hnb38 := NB379_373.out; have hnc38 := NB373_379.out; have hcz39_0 : w37.cell? ⟨gb379, 0, none⟩ = some (.int .i64 t378) := (blk_cell BK379.out 0).trans rfl; have hcz39_1 : w37.cell? ⟨gb379, 1, none⟩ = some (.int .i64 x380001_4) := (blk_cell BK379.out 1).trans rfl; have hcz39_2 : w37.cell? ⟨gb379, 2, none⟩ = some (.int .i64 0) := (blk_cell BK379.out 2).trans rfl; have hfz39_0 := blk_frozen BK379.out 0; have hfz39_1 := blk_frozen BK379.out 1; have hfz39_2 := blk_frozen BK379.out 2) | (go_at_call 12; (with_reducible refine (impl_DeedText.calls kj4 t378 x380001_4 t384 t386 _ ?sideT A29.out).mono ?_); (case sideT => exact TabR.below HT.out (by repeat (first | (with_reducible first | exact HB.out | apply zB | apply zA | apply zC | refine zD ?_ GE373.out | refine zD ?_ GE379.out) | exact HB.out))); rintro e w40 ⟨rfl, hb⟩; have n0_ := zM (Kd.R_below (by exact (Kd.R_mono (Kd.R_far (p := ⟨gb379, 2, none⟩) (Kd.R_types HO_4.out BK379.out (by decide)) (fun _ hk => hk.2) (.int .i64 t384)) (fun _ h_ => h_.1))) hb); have n1_ := zM (blk_below (g := gb373) (o := .cells #[.int .i64 0, .int .i64 0, .int .i64 0] 25 (0, 0)) (by refine blk_far ?_ NB373_379.out _; exact BK373.out) hb); have n2_ := zM (blk_below (g := gb379) (o := .cells #[.int .i64 t378, .int .i64 x380001_4, .int .i64 t384] 25 (0, 0)) (by refine blk_put (cs := #[.int .i64 t378, .int .i64 x380001_4, .int .i64 0]) ?_ 2 _ rfl; exact BK379.out) hb); have n3_ := zM (below_step (by repeat (first | (with_reducible first | exact HB.out | apply zB | apply zA | apply zC | refine zD ?_ GE373.out | refine zD ?_ GE379.out) | exact HB.out)) hb); clear HO_4; clear BK373; clear BK379; clear HB; have HO_4 := n0_; have BK373 := n1_; have BK379 := n2_; have HB := n3_; clear n0_ n1_ n2_ n3_; (try clear hb); (try clear hb2); (try clear hk); (try clear hi); have hcz41_0 : w40.cell? ⟨gb373, 0, none⟩ = some (.int .i64 0) := (blk_cell BK373.out 0).trans rfl; have hcz41_1 : w40.cell? ⟨gb373, 1, none⟩ = some (.int .i64 0) := (blk_cell BK373.out 1).trans rfl; have hcz41_2 : w40.cell? ⟨gb373, 2, none⟩ = some (.int .i64 0) := (blk_cell BK373.out 2).trans rfl; have hfz41_0 := blk_frozen BK373.out 0; have hfz41_1 := blk_frozen BK373.out 1; have hfz41_2 := blk_frozen BK373.out 2))
        refine bodyPost_ret (results_ct rfl _ _ gb373 25 #[.int .i64 0, .int .i64 0, .int .i64 0] (0, 0) _ rfl (by refine blk_put (cs := #[.int .i64 0, .int .i64 0, .int .i64 0]) ?_ 2 _ rfl; refine blk_put (cs := #[.int .i64 0, .int .i64 0, .int .i64 0]) ?_ 1 _ rfl; refine blk_put (cs := #[.int .i64 0, .int .i64 0, .int .i64 0]) ?_ 0 _ rfl; exact BK373.out) Tryd.underlying25 rfl (by kernel_rfl)) rfl ?_
        exact ⟨by first | rfl | (simp [errW_none, errW_some] <;> rfl) | (simp [*, errW_none, errW_some] <;> rfl), by repeat (first | (with_reducible first | exact HB.out | apply zB | apply zA | apply zC | refine zD ?_ GE373.out | refine zD ?_ GE379.out) | exact HB.out)⟩
     ·rw [if_neg c22] at H
      exact absurd H (by simp)
    ·rw [if_neg c21] at H
     have c21b0 : decide (2 < (t374.length : Int)) = false := decide_eq_false c21
     have c21b1 : decide (2 < t374.length) = false := decide_eq_false (by omega)
     clear c21
     by_cases c42 : a0.toList = ([] : List UInt8)
     ·rw [if_pos c42] at H
      have c42b0 : (a0.toList == ([] : List UInt8)) = true := beq_iff_eq.mpr c42
      have c42b1 : (a0.toList != ([] : List UInt8)) = false := bne_eq_false_iff_eq.mpr c42
      clear c42
      simp only [Option.some.injEq, Prod.mk.injEq] at H
      obtain ⟨rfl, rfl, rfl, rfl⟩ := H
      have hnb43 := NB373_379.out
      have hnc43 := NB379_373.out
      have hcz44_0 : wc.cell? ⟨gb373, 0, none⟩ = some (.int .i64 0) := (blk_cell BK373.out 0).trans rfl
      have hcz44_1 : wc.cell? ⟨gb373, 1, none⟩ = some (.int .i64 0) := (blk_cell BK373.out 1).trans rfl
      have hcz44_2 : wc.cell? ⟨gb373, 2, none⟩ = some (.int .i64 0) := (blk_cell BK373.out 2).trans rfl
      have hfz44_0 := blk_frozen BK373.out 0
      have hfz44_1 := blk_frozen BK373.out 1
      have hfz44_2 := blk_frozen BK373.out 2
      go_wp2
      refine bodyPost_ret (results_ct rfl _ _ gb373 25 #[.int .i64 0, .int .i64 0, .int .i64 0] (0, 0) _ rfl (by refine blk_put (cs := #[.int .i64 0, .int .i64 0, .int .i64 0]) ?_ 2 _ rfl; refine blk_put (cs := #[.int .i64 0, .int .i64 0, .int .i64 0]) ?_ 1 _ rfl; refine blk_put (cs := #[.int .i64 0, .int .i64 0, .int .i64 0]) ?_ 0 _ rfl; exact BK373.out) Tryd.underlying25 rfl (by kernel_rfl)) rfl ?_
      exact ⟨by first | rfl | (simp [errW_none, errW_some] <;> rfl) | (simp [*, errW_none, errW_some] <;> rfl), by repeat (first | (with_reducible first | exact HB.out | apply zB | apply zA | apply zC | refine zD ?_ GE373.out | refine zD ?_ GE379.out) | exact HB.out)⟩
     ·rw [if_neg c42] at H
      have c42b0 : (a0.toList == ([] : List UInt8)) = false := beq_eq_false_iff_ne.mpr c42
      have c42b1 : (a0.toList != ([] : List UInt8)) = true := bne_iff_ne.mpr c42
      replace H := Option.bind_eq_some_iff.mp H
      obtain ⟨t387, A450, H⟩ := H
      replace H : (if t387.toList = a0.toList then (some (t378, x380001_4, 0, true)) else (some (0, 0, 0, false))) = some (r1, r2, r3, r4) := H
      have A45 := zM A450
      clear A450
      by_cases c46 : t387.toList = a0.toList
      ·rw [if_pos c46] at H
       have c46b0 : (t387.toList == a0.toList) = true := beq_iff_eq.mpr c46
       have c46b1 : (t387.toList != a0.toList) = false := bne_eq_false_iff_eq.mpr c46
       clear c46
       simp only [Option.some.injEq, Prod.mk.injEq] at H
       obtain ⟨rfl, rfl, rfl, rfl⟩ := H
       have hnb47 := NB379_373.out
       have hnc47 := NB373_379.out
       have hcz48_0 : wc.cell? ⟨gb379, 0, none⟩ = some (.int .i64 t378) := (blk_cell BK379.out 0).trans rfl
       have hcz48_1 : wc.cell? ⟨gb379, 1, none⟩ = some (.int .i64 x380001_4) := (blk_cell BK379.out 1).trans rfl
       have hcz48_2 : wc.cell? ⟨gb379, 2, none⟩ = some (.int .i64 0) := (blk_cell BK379.out 2).trans rfl
       have hfz48_0 := blk_frozen BK379.out 0
       have hfz48_1 := blk_frozen BK379.out 1
       have hfz48_2 := blk_frozen BK379.out 2
       go_wp2_with (first | (go_at_call 12; (with_reducible refine (impl_DeedText.calls kj4 t378 x380001_4 0 t387 _ ?sideT A45.out).mono ?_); (case sideT => exact TabR.below HT.out (by repeat (first | (with_reducible first | exact HB.out | apply zB | apply zA | apply zC | refine zD ?_ GE373.out | refine zD ?_ GE379.out) | exact HB.out))); rintro e w49 ⟨rfl, hb⟩; have n0_ := zM (Kd.R_below (by exact HO_4.out) hb); have n1_ := zM (blk_below (g := gb373) (o := .cells #[.int .i64 0, .int .i64 0, .int .i64 0] 25 (0, 0)) (by exact BK373.out) hb); have n2_ := zM (blk_below (g := gb379) (o := .cells #[.int .i64 t378, .int .i64 x380001_4, .int .i64 0] 25 (0, 0)) (by exact BK379.out) hb); have n3_ := zM (below_step (by repeat (first | (with_reducible first | exact HB.out | apply zB | apply zA | apply zC | refine zD ?_ GE373.out | refine zD ?_ GE379.out) | exact HB.out)) hb); clear HO_4; clear BK373; clear BK379; clear HB; have HO_4 := n0_; have BK373 := n1_; have BK379 := n2_; have HB := n3_; clear n0_ n1_ n2_ n3_; (try clear hb); (try clear hb2); (try clear hk); (try clear hi); have hcz50_0 : w49.cell? ⟨gb379, 0, none⟩ = some (.int .i64 t378) := (blk_cell BK379.out 0).trans rfl; have hcz50_1 : w49.cell? ⟨gb379, 1, none⟩ = some (.int .i64 x380001_4) := (blk_cell BK379.out 1).trans rfl; have hcz50_2 : w49.cell? ⟨gb379, 2, none⟩ = some (.int .i64 0) := (blk_cell BK379.out 2).trans rfl; have hfz50_0 := blk_frozen BK379.out 0; have hfz50_1 := blk_frozen BK379.out 1; have hfz50_2 := blk_frozen BK379.out 2; have hcz51_0 : w49.cell? ⟨gb373, 0, none⟩ = some (.int .i64 0) := (blk_cell BK373.out 0).trans rfl; have hcz51_1 : w49.cell? ⟨gb373, 1, none⟩ = some (.int .i64 0) := (blk_cell BK373.out 1).trans rfl; have hcz51_2 : w49.cell? ⟨gb373, 2, none⟩ = some (.int .i64 0) := (blk_cell BK373.out 2).trans rfl; have hfz51_0 := blk_frozen BK373.out 0; have hfz51_1 := blk_frozen BK373.out 1; have hfz51_2 := blk_frozen BK373.out 2))
       refine bodyPost_ret (results_ct rfl _ _ gb373 25 #[.int .i64 t378, .int .i64 x380001_4, .int .i64 0] (0, 0) _ rfl (by refine blk_put (cs := #[.int .i64 t378, .int .i64 x380001_4, .int .i64 0]) ?_ 2 _ rfl; refine blk_put (cs := #[.int .i64 t378, .int .i64 0, .int .i64 0]) ?_ 1 _ rfl; refine blk_put (cs := #[.int .i64 0, .int .i64 0, .int .i64 0]) ?_ 0 _ rfl; exact BK373.out) Tryd.underlying25 rfl (by kernel_rfl)) rfl ?_
       exact ⟨by first | rfl | (simp [errW_none, errW_some] <;> rfl) | (simp [*, errW_none, errW_some] <;> rfl), by repeat (first | (with_reducible first | exact HB.out | apply zB | apply zA | apply zC | refine zD ?_ GE373.out | refine zD ?_ GE379.out) | exact HB.out)⟩
      ·rw [if_neg c46] at H
       have c46b0 : (t387.toList == a0.toList) = false := beq_eq_false_iff_ne.mpr c46
       have c46b1 : (t387.toList != a0.toList) = true := bne_iff_ne.mpr c46
       simp only [Option.some.injEq, Prod.mk.injEq] at H
       obtain ⟨rfl, rfl, rfl, rfl⟩ := H
       have hnb52 := NB379_373.out
       have hnc52 := NB373_379.out
       have hcz53_0 : wc.cell? ⟨gb379, 0, none⟩ = some (.int .i64 t378) := (blk_cell BK379.out 0).trans rfl
       have hcz53_1 : wc.cell? ⟨gb379, 1, none⟩ = some (.int .i64 x380001_4) := (blk_cell BK379.out 1).trans rfl
       have hcz53_2 : wc.cell? ⟨gb379, 2, none⟩ = some (.int .i64 0) := (blk_cell BK379.out 2).trans rfl
       have hfz53_0 := blk_frozen BK379.out 0
       have hfz53_1 := blk_frozen BK379.out 1
       have hfz53_2 := blk_frozen BK379.out 2
       go_wp2_with (first | (go_at_call 12; (with_reducible refine (impl_DeedText.calls kj4 t378 x380001_4 0 t387 _ ?sideT A45.out).mono ?_); (case sideT => exact TabR.below HT.out (by repeat (first | (with_reducible first | exact HB.out | apply zB | apply zA | apply zC | refine zD ?_ GE373.out | refine zD ?_ GE379.out) | exact HB.out))); rintro e w54 ⟨rfl, hb⟩; have n0_ := zM (Kd.R_below (by exact HO_4.out) hb); have n1_ := zM (blk_below (g := gb373) (o := .cells #[.int .i64 0, .int .i64 0, .int .i64 0] 25 (0, 0)) (by exact BK373.out) hb); have n2_ := zM (blk_below (g := gb379) (o := .cells #[.int .i64 t378, .int .i64 x380001_4, .int .i64 0] 25 (0, 0)) (by exact BK379.out) hb); have n3_ := zM (below_step (by repeat (first | (with_reducible first | exact HB.out | apply zB | apply zA | apply zC | refine zD ?_ GE373.out | refine zD ?_ GE379.out) | exact HB.out)) hb); clear HO_4; clear BK373; clear BK379; clear HB; have HO_4 := n0_; have BK373 := n1_; have BK379 := n2_; have HB := n3_; clear n0_ n1_ n2_ n3_; (try clear hb); (try clear hb2); (try clear hk); (try clear hi); have hcz55_0 : w54.cell? ⟨gb373, 0, none⟩ = some (.int .i64 0) := (blk_cell BK373.out 0).trans rfl; have hcz55_1 : w54.cell? ⟨gb373, 1, none⟩ = some (.int .i64 0) := (blk_cell BK373.out 1).trans rfl; have hcz55_2 : w54.cell? ⟨gb373, 2, none⟩ = some (.int .i64 0) := (blk_cell BK373.out 2).trans rfl; have hfz55_0 := blk_frozen BK373.out 0; have hfz55_1 := blk_frozen BK373.out 1; have hfz55_2 := blk_frozen BK373.out 2))
       refine bodyPost_ret (results_ct rfl _ _ gb373 25 #[.int .i64 0, .int .i64 0, .int .i64 0] (0, 0) _ rfl (by refine blk_put (cs := #[.int .i64 0, .int .i64 0, .int .i64 0]) ?_ 2 _ rfl; refine blk_put (cs := #[.int .i64 0, .int .i64 0, .int .i64 0]) ?_ 1 _ rfl; refine blk_put (cs := #[.int .i64 0, .int .i64 0, .int .i64 0]) ?_ 0 _ rfl; exact BK373.out) Tryd.underlying25 rfl (by kernel_rfl)) rfl ?_
       exact ⟨by first | rfl | (simp [errW_none, errW_some] <;> rfl) | (simp [*, errW_none, errW_some] <;> rfl), by repeat (first | (with_reducible first | exact HB.out | apply zB | apply zA | apply zC | refine zD ?_ GE373.out | refine zD ?_ GE379.out) | exact HB.out)⟩
 ·rw [if_neg c3] at H
  exact absurd H (by simp)

/-! ### laws_FnDeedText: function 4 -/
def laws_FnDeedText.f (k : Nat) (l0 : List Int) : Option (Bool) := if (l0.length : Int) > 1048576 then (some true) else ((spec_DrawDeedText.f k l0).bind fun bt388 => ((impl_DeedText.f k bt388.1 bt388.2.1 bt388.2.2).bind fun t392 => ((spec_DeedText.f k bt388.1 bt388.2.1 bt388.2.2).bind fun t393 => (if t392.toList = t393.toList then (if t392.toList = ([] : List UInt8) then ((laws_alive.f k).bind fun t394 => (some t394)) else ((impl_ReadDeed.f k t392).bind fun bt395 => (if bt395.2.2.2 = true then (some (bt395.1 == bt388.1 && (bt395.2.1 == bt388.2.1 && (bt395.2.2.1 == bt388.2.2)))) else (some false)))) else (some false)))))
theorem laws_FnDeedText.mono : ∀ a0 k, LeO (laws_FnDeedText.f k a0) (laws_FnDeedText.f (k + 1) a0) := by
 intro a0 k
 unfold laws_FnDeedText.f
 repeat' first
   | (with_reducible exact impl_DeedText.mono _ _ _ _)
   | (with_reducible exact impl_ReadDeed.mono _ _)
   | (with_reducible exact laws_alive.mono _)
   | (with_reducible exact spec_DeedText.mono _ _ _ _)
   | (with_reducible exact spec_DrawDeedText.mono _ _)
   | (with_reducible exact LeO.refl _)
   | (with_reducible exact LeO.none _)
   | (with_reducible refine LeO.ite ?_ ?_)
   | (with_reducible refine LeO.bind ?_ (fun _ => ?_))
   | refine LeO.ite ?_ ?_
   | refine LeO.bind ?_ (fun _ => ?_)
set_option maxHeartbeats 8000000 in
set_option maxRecDepth 100000 in
theorem laws_FnDeedText.calls (k : Nat) (A0 : Option Addr) (c0 : Nat) (l0 : List Int) (r : Bool) (w : World) (hr0 : Kd.C (Kd.int .u8) w A0 l0.length l0) (hc0 : l0.length ≤ c0) (hT : TabR w) (h : laws_FnDeedText.f k l0 = some r) :
  Calls Tryd.prog 4 #[.slice A0 l0.length c0] w fun e w' => e = .returned (.bool r) ∧ Below w.heap.size w w' := by
 have hu25 := Tryd.underlying25
 have HR0 := zM hr0
 have HC0 := zM hc0
 clear hr0 hc0
 have HB := zM (Below.refl w.heap.size w)
 have HT := zM hT
 clear hT
 have H : (if (l0.length : Int) > 1048576 then (some true) else ((spec_DrawDeedText.f k l0).bind fun bt388 => ((impl_DeedText.f k bt388.1 bt388.2.1 bt388.2.2).bind fun t392 => ((spec_DeedText.f k bt388.1 bt388.2.1 bt388.2.2).bind fun t393 => (if t392.toList = t393.toList then (if t392.toList = ([] : List UInt8) then ((laws_alive.f k).bind fun t394 => (some t394)) else ((impl_ReadDeed.f k t392).bind fun bt395 => (if bt395.2.2.2 = true then (some (bt395.1 == bt388.1 && (bt395.2.1 == bt388.2.1 && (bt395.2.2.1 == bt388.2.2)))) else (some false)))) else (some false)))))) = some r := h
 clear h
 by_cases c2 : (l0.length : Int) > 1048576
 ·rw [if_pos c2] at H
  have c2b0 : decide (1048576 < (l0.length : Int)) = true := decide_eq_true c2
  have c2b1 : decide (1048576 < l0.length) = true := decide_eq_true (by omega)
  clear c2
  obtain rfl := Option.some.inj H
  go_enter Tryd.func4, Tryd.ntmps4
  go_wp2
  go_ret
  exact ⟨by first | rfl | (simp [errW_none, errW_some] <;> rfl) | (simp [*, errW_none, errW_some] <;> rfl), by repeat (first | (with_reducible first | exact HB.out | apply zB | apply zA | apply zC) | exact HB.out)⟩
 ·rw [if_neg c2] at H
  have c2b0 : decide (1048576 < (l0.length : Int)) = false := decide_eq_false c2
  have c2b1 : decide (1048576 < l0.length) = false := decide_eq_false (by omega)
  clear c2
  replace H := Option.bind_eq_some_iff.mp H
  obtain ⟨⟨t388, t389, t390⟩, A30, H⟩ := H
  replace H : ((impl_DeedText.f k t388 t389 t390).bind fun t392 => ((spec_DeedText.f k t388 t389 t390).bind fun t393 => (if t392.toList = t393.toList then (if t392.toList = ([] : List UInt8) then ((laws_alive.f k).bind fun t394 => (some t394)) else ((impl_ReadDeed.f k t392).bind fun bt395 => (if bt395.2.2.2 = true then (some (bt395.1 == t388 && (bt395.2.1 == t389 && (bt395.2.2.1 == t390)))) else (some false)))) else (some false)))) = some r := H
  have A3 := zM A30
  clear A30
  replace H := Option.bind_eq_some_iff.mp H
  obtain ⟨t392, A40, H⟩ := H
  replace H : ((spec_DeedText.f k t388 t389 t390).bind fun t393 => (if t392.toList = t393.toList then (if t392.toList = ([] : List UInt8) then ((laws_alive.f k).bind fun t394 => (some t394)) else ((impl_ReadDeed.f k t392).bind fun bt395 => (if bt395.2.2.2 = true then (some (bt395.1 == t388 && (bt395.2.1 == t389 && (bt395.2.2.1 == t390)))) else (some false)))) else (some false))) = some r := H
  have A4 := zM A40
  clear A40
  replace H := Option.bind_eq_some_iff.mp H
  obtain ⟨t393, A50, H⟩ := H
  replace H : (if t392.toList = t393.toList then (if t392.toList = ([] : List UInt8) then ((laws_alive.f k).bind fun t394 => (some t394)) else ((impl_ReadDeed.f k t392).bind fun bt395 => (if bt395.2.2.2 = true then (some (bt395.1 == t388 && (bt395.2.1 == t389 && (bt395.2.2.1 == t390)))) else (some false)))) else (some false)) = some r := H
  have A5 := zM A50
  clear A50
  by_cases c6 : t392.toList = t393.toList
  ·rw [if_pos c6] at H
   have c6b0 : (t392.toList == t393.toList) = true := beq_iff_eq.mpr c6
   have c6b1 : (t392.toList != t393.toList) = false := bne_eq_false_iff_eq.mpr c6
   clear c6
   by_cases c7 : t392.toList = ([] : List UInt8)
   ·rw [if_pos c7] at H
    have c7b0 : (t392.toList == ([] : List UInt8)) = true := beq_iff_eq.mpr c7
    have c7b1 : (t392.toList != ([] : List UInt8)) = false := bne_eq_false_iff_eq.mpr c7
    clear c7
    replace H := Option.bind_eq_some_iff.mp H
    obtain ⟨t394, A80, H⟩ := H
    replace H : (some t394) = some r := H
    have A8 := zM A80
    clear A80
    obtain rfl := Option.some.inj H
    go_enter Tryd.func4, Tryd.ntmps4
    go_wp2_with (first | ((with_reducible refine gate_callee (f := 13) rfl ?_); refine goesL_ (some 11) rfl rfl Tryd.func13 (by kernel_rfl) rfl #[.slice A0 l0.length c0] rfl (by (try simp only [List.map_toArray, List.map_cons, List.map_nil]); first | done | rfl | (simp only [List.length_drop, List.length_take]; rfl)) ?_; (with_reducible refine (spec_DrawDeedText.calls k _ _ l0 t388 t389 t390 _ ?side1 ?side2 A3.out).mono ?_); (case side1 => repeat (first | exact HR0.out | (with_reducible refine Kd.C_alloc ?_ _) | (with_reducible refine Kd.C_drewN ?_ _) | (with_reducible refine Kd.C_drew ?_))); (case side2 => exact HC0.out); rintro e w9 ⟨rfl, hb⟩; refine ⟨_, rfl, ?_⟩; have n0_ := zM (below_step (by repeat (first | (with_reducible first | exact HB.out | apply zB | apply zA | apply zC) | exact HB.out)) hb); clear HB; have HB := n0_; clear n0_; (try clear hb); (try clear hb2); (try clear hk); (try clear hi)) | ((with_reducible refine gate_dst (N := 3) rfl ?_); refine box_event ?hg (N := 3) ?hd (cs := #[.int .i64 0, .int .i64 0, .int .i64 0]) (t := 25) ?hr ?_; (case hd => rfl); (case hg => rfl); (case hr => first | (go_simp; done) | (go_simp; rfl)); intro gb391 hg w10 hbox hb; have n0_ := zM (below_step (by repeat (first | (with_reducible first | exact HB.out | apply zB | apply zA | apply zC) | exact HB.out)) hb); have n1_ := zM (hbox); have n2_ := zM ((by rw [hg]; exact (below_size (by repeat (first | (with_reducible first | exact HB.out | apply zB | apply zA | apply zC) | exact HB.out))) : w.heap.size ≤ gb391)); have n3_ := zM ((by rw [hg]; exact (below_size (by repeat (first | (with_reducible first | exact HB.out | apply zB | apply zA | apply zC) | exact HB.out))) : w.heap.size ≤ gb391)); clear HB; have HB := n0_; have BK391 := n1_; have GW391 := n2_; have GE391 := n3_; clear n0_ n1_ n2_ n3_; clear hb hbox hg; have hcz11_0 : w10.cell? ⟨gb391, 0, none⟩ = some (.int .i64 0) := (blk_cell BK391.out 0).trans rfl; have hcz11_1 : w10.cell? ⟨gb391, 1, none⟩ = some (.int .i64 0) := (blk_cell BK391.out 1).trans rfl; have hcz11_2 : w10.cell? ⟨gb391, 2, none⟩ = some (.int .i64 0) := (blk_cell BK391.out 2).trans rfl; have hfz11_0 := blk_frozen BK391.out 0; have hfz11_1 := blk_frozen BK391.out 1; have hfz11_2 := blk_frozen BK391.out 2) | ((with_reducible refine gate_callee (f := 12) rfl ?_); refine goesL_ (some 13) rfl rfl Tryd.func12 (by kernel_rfl) rfl #[.agg #[.int .i64 t388, .int .i64 t389, .int .i64 t390]] rfl (by (try simp only [List.map_toArray, List.map_cons, List.map_nil]); first | done | rfl | (simp only [List.length_drop, List.length_take]; rfl)) ?_; (with_reducible refine (impl_DeedText.calls k t388 t389 t390 t392 _ ?sideT A4.out).mono ?_); (case sideT => exact TabR.below HT.out (by repeat (first | (with_reducible first | exact HB.out | apply zB | apply zA | apply zC | refine zD ?_ GE391.out) | exact HB.out))); rintro e w12 ⟨rfl, hb⟩; refine ⟨_, rfl, ?_⟩; have n0_ := zM (blk_below (g := gb391) (o := .cells #[.int .i64 t388, .int .i64 t389, .int .i64 t390] 25 (0, 0)) (by refine blk_put (cs := #[.int .i64 t388, .int .i64 t389, .int .i64 0]) ?_ 2 _ rfl; refine blk_put (cs := #[.int .i64 t388, .int .i64 0, .int .i64 0]) ?_ 1 _ rfl; refine blk_put (cs := #[.int .i64 0, .int .i64 0, .int .i64 0]) ?_ 0 _ rfl; exact BK391.out) hb); have n1_ := zM (below_step (by repeat (first | (with_reducible first | exact HB.out | apply zB | apply zA | apply zC | refine zD ?_ GE391.out) | exact HB.out)) hb); clear BK391; clear HB; have BK391 := n0_; have HB := n1_; clear n0_ n1_; (try clear hb); (try clear hb2); (try clear hk); (try clear hi); have hcz13_0 : w12.cell? ⟨gb391, 0, none⟩ = some (.int .i64 t388) := (blk_cell BK391.out 0).trans rfl; have hcz13_1 : w12.cell? ⟨gb391, 1, none⟩ = some (.int .i64 t389) := (blk_cell BK391.out 1).trans rfl; have hcz13_2 : w12.cell? ⟨gb391, 2, none⟩ = some (.int .i64 t390) := (blk_cell BK391.out 2).trans rfl; have hfz13_0 := blk_frozen BK391.out 0; have hfz13_1 := blk_frozen BK391.out 1; have hfz13_2 := blk_frozen BK391.out 2) | ((with_reducible refine gate_callee (f := 10) rfl ?_); refine goesL_ (some 16) rfl rfl Tryd.func10 (by kernel_rfl) rfl #[.agg #[.int .i64 t388, .int .i64 t389, .int .i64 t390]] rfl (by (try simp only [List.map_toArray, List.map_cons, List.map_nil]); first | done | rfl | (simp only [List.length_drop, List.length_take]; rfl)) ?_; (with_reducible refine (spec_DeedText.calls k t388 t389 t390 t393 _ A5.out).mono ?_); rintro e w14 ⟨rfl, hb⟩; refine ⟨_, rfl, ?_⟩; have n0_ := zM (blk_below (g := gb391) (o := .cells #[.int .i64 t388, .int .i64 t389, .int .i64 t390] 25 (0, 0)) (by exact BK391.out) hb); have n1_ := zM (below_step (by repeat (first | (with_reducible first | exact HB.out | apply zB | apply zA | apply zC | refine zD ?_ GE391.out) | exact HB.out)) hb); clear BK391; clear HB; have BK391 := n0_; have HB := n1_; clear n0_ n1_; (try clear hb); (try clear hb2); (try clear hk); (try clear hi)) | ((with_reducible refine gate_callee (f := 14) rfl ?_); refine goesL_ (some 20) rfl rfl Tryd.func14 (by kernel_rfl) rfl #[] rfl (by (try simp only [List.map_toArray, List.map_cons, List.map_nil]); first | done | rfl | (simp only [List.length_drop, List.length_take]; rfl)) ?_; (with_reducible refine (laws_alive.calls k  t394 _ A8.out).mono ?_); rintro e w15 ⟨rfl, hb⟩; refine ⟨_, rfl, ?_⟩; have n0_ := zM (blk_below (g := gb391) (o := .cells #[.int .i64 t388, .int .i64 t389, .int .i64 t390] 25 (0, 0)) (by exact BK391.out) hb); have n1_ := zM (below_step (by repeat (first | (with_reducible first | exact HB.out | apply zB | apply zA | apply zC | refine zD ?_ GE391.out) | exact HB.out)) hb); clear BK391; clear HB; have BK391 := n0_; have HB := n1_; clear n0_ n1_; (try clear hb); (try clear hb2); (try clear hk); (try clear hi)))
    go_ret
    exact ⟨by first | rfl | (simp [errW_none, errW_some] <;> rfl) | (simp [*, errW_none, errW_some] <;> rfl), by repeat (first | (with_reducible first | exact HB.out | apply zB | apply zA | apply zC | refine zD ?_ GE391.out) | exact HB.out)⟩
   ·rw [if_neg c7] at H
    have c7b0 : (t392.toList == ([] : List UInt8)) = false := beq_eq_false_iff_ne.mpr c7
    have c7b1 : (t392.toList != ([] : List UInt8)) = true := bne_iff_ne.mpr c7
    replace H := Option.bind_eq_some_iff.mp H
    obtain ⟨⟨t395, t396, t397, t398⟩, A160, H⟩ := H
    replace H : (if t398 = true then (some (t395 == t388 && (t396 == t389 && (t397 == t390)))) else (some false)) = some r := H
    have A16 := zM A160
    clear A160
    by_cases c17 : t398 = true
    ·subst c17
     have H1 : (some (t395 == t388 && (t396 == t389 && (t397 == t390)))) = some r := by rw [if_pos rfl] at H; exact H
     clear H
     have H := H1
     clear H1
     obtain rfl := Option.some.inj H
     go_enter Tryd.func4, Tryd.ntmps4
     go_wp2_with (first | ((with_reducible refine gate_callee (f := 13) rfl ?_); refine goesL_ (some 11) rfl rfl Tryd.func13 (by kernel_rfl) rfl #[.slice A0 l0.length c0] rfl (by (try simp only [List.map_toArray, List.map_cons, List.map_nil]); first | done | rfl | (simp only [List.length_drop, List.length_take]; rfl)) ?_; (with_reducible refine (spec_DrawDeedText.calls k _ _ l0 t388 t389 t390 _ ?side1 ?side2 A3.out).mono ?_); (case side1 => repeat (first | exact HR0.out | (with_reducible refine Kd.C_alloc ?_ _) | (with_reducible refine Kd.C_drewN ?_ _) | (with_reducible refine Kd.C_drew ?_))); (case side2 => exact HC0.out); rintro e w18 ⟨rfl, hb⟩; refine ⟨_, rfl, ?_⟩; have n0_ := zM (below_step (by repeat (first | (with_reducible first | exact HB.out | apply zB | apply zA | apply zC) | exact HB.out)) hb); clear HB; have HB := n0_; clear n0_; (try clear hb); (try clear hb2); (try clear hk); (try clear hi)) | ((with_reducible refine gate_dst (N := 3) rfl ?_); refine box_event ?hg (N := 3) ?hd (cs := #[.int .i64 0, .int .i64 0, .int .i64 0]) (t := 25) ?hr ?_; (case hd => rfl); (case hg => rfl); (case hr => first | (go_simp; done) | (go_simp; rfl)); intro gb391 hg w19 hbox hb; have n0_ := zM (below_step (by repeat (first | (with_reducible first | exact HB.out | apply zB | apply zA | apply zC) | exact HB.out)) hb); have n1_ := zM (hbox); have n2_ := zM ((by rw [hg]; exact (below_size (by repeat (first | (with_reducible first | exact HB.out | apply zB | apply zA | apply zC) | exact HB.out))) : w.heap.size ≤ gb391)); have n3_ := zM ((by rw [hg]; exact (below_size (by repeat (first | (with_reducible first | exact HB.out | apply zB | apply zA | apply zC) | exact HB.out))) : w.heap.size ≤ gb391)); clear HB; have HB := n0_; have BK391 := n1_; have GW391 := n2_; have GE391 := n3_; clear n0_ n1_ n2_ n3_; clear hb hbox hg; have hcz20_0 : w19.cell? ⟨gb391, 0, none⟩ = some (.int .i64 0) := (blk_cell BK391.out 0).trans rfl; have hcz20_1 : w19.cell? ⟨gb391, 1, none⟩ = some (.int .i64 0) := (blk_cell BK391.out 1).trans rfl; have hcz20_2 : w19.cell? ⟨gb391, 2, none⟩ = some (.int .i64 0) := (blk_cell BK391.out 2).trans rfl; have hfz20_0 := blk_frozen BK391.out 0; have hfz20_1 := blk_frozen BK391.out 1; have hfz20_2 := blk_frozen BK391.out 2) | ((with_reducible refine gate_callee (f := 12) rfl ?_); refine goesL_ (some 13) rfl rfl Tryd.func12 (by kernel_rfl) rfl #[.agg #[.int .i64 t388, .int .i64 t389, .int .i64 t390]] rfl (by (try simp only [List.map_toArray, List.map_cons, List.map_nil]); first | done | rfl | (simp only [List.length_drop, List.length_take]; rfl)) ?_; (with_reducible refine (impl_DeedText.calls k t388 t389 t390 t392 _ ?sideT A4.out).mono ?_); (case sideT => exact TabR.below HT.out (by repeat (first | (with_reducible first | exact HB.out | apply zB | apply zA | apply zC | refine zD ?_ GE391.out) | exact HB.out))); rintro e w21 ⟨rfl, hb⟩; refine ⟨_, rfl, ?_⟩; have n0_ := zM (blk_below (g := gb391) (o := .cells #[.int .i64 t388, .int .i64 t389, .int .i64 t390] 25 (0, 0)) (by refine blk_put (cs := #[.int .i64 t388, .int .i64 t389, .int .i64 0]) ?_ 2 _ rfl; refine blk_put (cs := #[.int .i64 t388, .int .i64 0, .int .i64 0]) ?_ 1 _ rfl; refine blk_put (cs := #[.int .i64 0, .int .i64 0, .int .i64 0]) ?_ 0 _ rfl; exact BK391.out) hb); have n1_ := zM (below_step (by repeat (first | (with_reducible first | exact HB.out | apply zB | apply zA | apply zC | refine zD ?_ GE391.out) | exact HB.out)) hb); clear BK391; clear HB; have BK391 := n0_; have HB := n1_; clear n0_ n1_; (try clear hb); (try clear hb2); (try clear hk); (try clear hi); have hcz22_0 : w21.cell? ⟨gb391, 0, none⟩ = some (.int .i64 t388) := (blk_cell BK391.out 0).trans rfl; have hcz22_1 : w21.cell? ⟨gb391, 1, none⟩ = some (.int .i64 t389) := (blk_cell BK391.out 1).trans rfl; have hcz22_2 : w21.cell? ⟨gb391, 2, none⟩ = some (.int .i64 t390) := (blk_cell BK391.out 2).trans rfl; have hfz22_0 := blk_frozen BK391.out 0; have hfz22_1 := blk_frozen BK391.out 1; have hfz22_2 := blk_frozen BK391.out 2) | ((with_reducible refine gate_callee (f := 10) rfl ?_); refine goesL_ (some 16) rfl rfl Tryd.func10 (by kernel_rfl) rfl #[.agg #[.int .i64 t388, .int .i64 t389, .int .i64 t390]] rfl (by (try simp only [List.map_toArray, List.map_cons, List.map_nil]); first | done | rfl | (simp only [List.length_drop, List.length_take]; rfl)) ?_; (with_reducible refine (spec_DeedText.calls k t388 t389 t390 t393 _ A5.out).mono ?_); rintro e w23 ⟨rfl, hb⟩; refine ⟨_, rfl, ?_⟩; have n0_ := zM (blk_below (g := gb391) (o := .cells #[.int .i64 t388, .int .i64 t389, .int .i64 t390] 25 (0, 0)) (by exact BK391.out) hb); have n1_ := zM (below_step (by repeat (first | (with_reducible first | exact HB.out | apply zB | apply zA | apply zC | refine zD ?_ GE391.out) | exact HB.out)) hb); clear BK391; clear HB; have BK391 := n0_; have HB := n1_; clear n0_ n1_; (try clear hb); (try clear hb2); (try clear hk); (try clear hi)) | ((with_reducible refine gate_callee (f := 15) rfl ?_); refine goesL_ (some 23) rfl rfl Tryd.func15 (by kernel_rfl) rfl #[.string t392] rfl (by (try simp only [List.map_toArray, List.map_cons, List.map_nil]); first | done | rfl | (simp only [List.length_drop, List.length_take]; rfl)) ?_; (with_reducible refine (impl_ReadDeed.calls k t392 t395 t396 t397 true _ ?sideT A16.out).mono ?_); (case sideT => exact TabR.below HT.out (by repeat (first | (with_reducible first | exact HB.out | apply zB | apply zA | apply zC | refine zD ?_ GE391.out) | exact HB.out))); rintro e w24 ⟨rfl, hb⟩; refine ⟨_, rfl, ?_⟩; have n0_ := zM (blk_below (g := gb391) (o := .cells #[.int .i64 t388, .int .i64 t389, .int .i64 t390] 25 (0, 0)) (by exact BK391.out) hb); have n1_ := zM (below_step (by repeat (first | (with_reducible first | exact HB.out | apply zB | apply zA | apply zC | refine zD ?_ GE391.out) | exact HB.out)) hb); clear BK391; clear HB; have BK391 := n0_; have HB := n1_; clear n0_ n1_; (try clear hb); (try clear hb2); (try clear hk); (try clear hi)) | ((with_reducible refine gate_dst (N := 5) rfl ?_); refine box_event ?hg (N := 5) ?hd (cs := #[.int .i64 0, .int .i64 0, .int .i64 0]) (t := 25) ?hr ?_; (case hd => rfl); (case hg => rfl); (case hr => first | (go_simp; done) | (go_simp; rfl)); intro gb399 hg w25 hbox hb; have n0_ := zM (blk_below (g := gb391) (o := .cells #[.int .i64 t388, .int .i64 t389, .int .i64 t390] 25 (0, 0)) (by exact BK391.out) hb); have n1_ := zM (below_step (by repeat (first | (with_reducible first | exact HB.out | apply zB | apply zA | apply zC | refine zD ?_ GE391.out) | exact HB.out)) hb); have n2_ := zM (hbox); have n3_ := zM ((by rw [hg]; exact (below_size (by repeat (first | (with_reducible first | exact HB.out | apply zB | apply zA | apply zC | refine zD ?_ GE391.out) | exact HB.out))) : w.heap.size ≤ gb399)); have n4_ := zM ((by rw [hg]; exact (below_size (by repeat (first | (with_reducible first | exact HB.out | apply zB | apply zA | apply zC | refine zD ?_ GE391.out) | exact HB.out))) : w.heap.size ≤ gb399)); have n5_ := zM ((by rw [hg]; exact Nat.ne_of_lt (blk_lt (g := gb391) (o := .cells #[.int .i64 t388, .int .i64 t389, .int .i64 t390] 25 (0, 0)) (by exact BK391.out)) : gb391 ≠ gb399)); have n6_ := zM ((by rw [hg]; exact Nat.ne_of_gt (blk_lt (g := gb391) (o := .cells #[.int .i64 t388, .int .i64 t389, .int .i64 t390] 25 (0, 0)) (by exact BK391.out)) : gb399 ≠ gb391)); clear BK391; clear HB; have BK391 := n0_; have HB := n1_; have BK399 := n2_; have GW399 := n3_; have GE399 := n4_; have NB391_399 := n5_; have NB399_391 := n6_; clear n0_ n1_ n2_ n3_ n4_ n5_ n6_; clear hb hbox hg; have hnb26 := NB399_391.out; have hnc26 := NB391_399.out; have hcz27_0 : w25.cell? ⟨gb399, 0, none⟩ = some (.int .i64 0) := (blk_cell BK399.out 0).trans rfl; have hcz27_1 : w25.cell? ⟨gb399, 1, none⟩ = some (.int .i64 0) := (blk_cell BK399.out 1).trans rfl; have hcz27_2 : w25.cell? ⟨gb399, 2, none⟩ = some (.int .i64 0) := (blk_cell BK399.out 2).trans rfl; have hfz27_0 := blk_frozen BK399.out 0; have hfz27_1 := blk_frozen BK399.out 1; have hfz27_2 := blk_frozen BK399.out 2; have hcz28_0 : w25.cell? ⟨gb391, 0, none⟩ = some (.int .i64 t388) := (blk_cell BK391.out 0).trans rfl; have hcz28_1 : w25.cell? ⟨gb391, 1, none⟩ = some (.int .i64 t389) := (blk_cell BK391.out 1).trans rfl; have hcz28_2 : w25.cell? ⟨gb391, 2, none⟩ = some (.int .i64 t390) := (blk_cell BK391.out 2).trans rfl; have hfz28_0 := blk_frozen BK391.out 0; have hfz28_1 := blk_frozen BK391.out 1; have hfz28_2 := blk_frozen BK391.out 2))
     go_ret
     exact ⟨by first | rfl | (simp [errW_none, errW_some] <;> rfl) | (simp [*, errW_none, errW_some] <;> rfl), by repeat (first | (with_reducible first | exact HB.out | apply zB | apply zA | apply zC | refine zD ?_ GE391.out | refine zD ?_ GE399.out) | exact HB.out)⟩
    ·replace c17 := Bool.eq_false_iff.mpr c17
     subst c17
     have H1 : (some false) = some r := by rw [if_neg (show ¬ (false = true) by decide)] at H; exact H
     clear H
     have H := H1
     clear H1
     obtain rfl := Option.some.inj H
     go_enter Tryd.func4, Tryd.ntmps4
     go_wp2_with (first | ((with_reducible refine gate_callee (f := 13) rfl ?_); refine goesL_ (some 11) rfl rfl Tryd.func13 (by kernel_rfl) rfl #[.slice A0 l0.length c0] rfl (by (try simp only [List.map_toArray, List.map_cons, List.map_nil]); first | done | rfl | (simp only [List.length_drop, List.length_take]; rfl)) ?_; (with_reducible refine (spec_DrawDeedText.calls k _ _ l0 t388 t389 t390 _ ?side1 ?side2 A3.out).mono ?_); (case side1 => repeat (first | exact HR0.out | (with_reducible refine Kd.C_alloc ?_ _) | (with_reducible refine Kd.C_drewN ?_ _) | (with_reducible refine Kd.C_drew ?_))); (case side2 => exact HC0.out); rintro e w29 ⟨rfl, hb⟩; refine ⟨_, rfl, ?_⟩; have n0_ := zM (below_step (by repeat (first | (with_reducible first | exact HB.out | apply zB | apply zA | apply zC) | exact HB.out)) hb); clear HB; have HB := n0_; clear n0_; (try clear hb); (try clear hb2); (try clear hk); (try clear hi)) | ((with_reducible refine gate_dst (N := 3) rfl ?_); refine box_event ?hg (N := 3) ?hd (cs := #[.int .i64 0, .int .i64 0, .int .i64 0]) (t := 25) ?hr ?_; (case hd => rfl); (case hg => rfl); (case hr => first | (go_simp; done) | (go_simp; rfl)); intro gb391 hg w30 hbox hb; have n0_ := zM (below_step (by repeat (first | (with_reducible first | exact HB.out | apply zB | apply zA | apply zC) | exact HB.out)) hb); have n1_ := zM (hbox); have n2_ := zM ((by rw [hg]; exact (below_size (by repeat (first | (with_reducible first | exact HB.out | apply zB | apply zA | apply zC) | exact HB.out))) : w.heap.size ≤ gb391)); have n3_ := zM ((by rw [hg]; exact (below_size (by repeat (first | (with_reducible first | exact HB.out | apply zB | apply zA | apply zC) | exact HB.out))) : w.heap.size ≤ gb391)); clear HB; have HB := n0_; have BK391 := n1_; have GW391 := n2_; have GE391 := n3_; clear n0_ n1_ n2_ n3_; clear hb hbox hg; have hcz31_0 : w30.cell? ⟨gb391, 0, none⟩ = some (.int .i64 0) := (blk_cell BK391.out 0).trans rfl; have hcz31_1 : w30.cell? ⟨gb391, 1, none⟩ = some (.int .i64 0) := (blk_cell BK391.out 1).trans rfl; have hcz31_2 : w30.cell? ⟨gb391, 2, none⟩ = some (.int .i64 0) := (blk_cell BK391.out 2).trans rfl; have hfz31_0 := blk_frozen BK391.out 0; have hfz31_1 := blk_frozen BK391.out 1; have hfz31_2 := blk_frozen BK391.out 2) | ((with_reducible refine gate_callee (f := 12) rfl ?_); refine goesL_ (some 13) rfl rfl Tryd.func12 (by kernel_rfl) rfl #[.agg #[.int .i64 t388, .int .i64 t389, .int .i64 t390]] rfl (by (try simp only [List.map_toArray, List.map_cons, List.map_nil]); first | done | rfl | (simp only [List.length_drop, List.length_take]; rfl)) ?_; (with_reducible refine (impl_DeedText.calls k t388 t389 t390 t392 _ ?sideT A4.out).mono ?_); (case sideT => exact TabR.below HT.out (by repeat (first | (with_reducible first | exact HB.out | apply zB | apply zA | apply zC | refine zD ?_ GE391.out) | exact HB.out))); rintro e w32 ⟨rfl, hb⟩; refine ⟨_, rfl, ?_⟩; have n0_ := zM (blk_below (g := gb391) (o := .cells #[.int .i64 t388, .int .i64 t389, .int .i64 t390] 25 (0, 0)) (by refine blk_put (cs := #[.int .i64 t388, .int .i64 t389, .int .i64 0]) ?_ 2 _ rfl; refine blk_put (cs := #[.int .i64 t388, .int .i64 0, .int .i64 0]) ?_ 1 _ rfl; refine blk_put (cs := #[.int .i64 0, .int .i64 0, .int .i64 0]) ?_ 0 _ rfl; exact BK391.out) hb); have n1_ := zM (below_step (by repeat (first | (with_reducible first | exact HB.out | apply zB | apply zA | apply zC | refine zD ?_ GE391.out) | exact HB.out)) hb); clear BK391; clear HB; have BK391 := n0_; have HB := n1_; clear n0_ n1_; (try clear hb); (try clear hb2); (try clear hk); (try clear hi); have hcz33_0 : w32.cell? ⟨gb391, 0, none⟩ = some (.int .i64 t388) := (blk_cell BK391.out 0).trans rfl; have hcz33_1 : w32.cell? ⟨gb391, 1, none⟩ = some (.int .i64 t389) := (blk_cell BK391.out 1).trans rfl; have hcz33_2 : w32.cell? ⟨gb391, 2, none⟩ = some (.int .i64 t390) := (blk_cell BK391.out 2).trans rfl; have hfz33_0 := blk_frozen BK391.out 0; have hfz33_1 := blk_frozen BK391.out 1; have hfz33_2 := blk_frozen BK391.out 2) | ((with_reducible refine gate_callee (f := 10) rfl ?_); refine goesL_ (some 16) rfl rfl Tryd.func10 (by kernel_rfl) rfl #[.agg #[.int .i64 t388, .int .i64 t389, .int .i64 t390]] rfl (by (try simp only [List.map_toArray, List.map_cons, List.map_nil]); first | done | rfl | (simp only [List.length_drop, List.length_take]; rfl)) ?_; (with_reducible refine (spec_DeedText.calls k t388 t389 t390 t393 _ A5.out).mono ?_); rintro e w34 ⟨rfl, hb⟩; refine ⟨_, rfl, ?_⟩; have n0_ := zM (blk_below (g := gb391) (o := .cells #[.int .i64 t388, .int .i64 t389, .int .i64 t390] 25 (0, 0)) (by exact BK391.out) hb); have n1_ := zM (below_step (by repeat (first | (with_reducible first | exact HB.out | apply zB | apply zA | apply zC | refine zD ?_ GE391.out) | exact HB.out)) hb); clear BK391; clear HB; have BK391 := n0_; have HB := n1_; clear n0_ n1_; (try clear hb); (try clear hb2); (try clear hk); (try clear hi)) | ((with_reducible refine gate_callee (f := 15) rfl ?_); refine goesL_ (some 23) rfl rfl Tryd.func15 (by kernel_rfl) rfl #[.string t392] rfl (by (try simp only [List.map_toArray, List.map_cons, List.map_nil]); first | done | rfl | (simp only [List.length_drop, List.length_take]; rfl)) ?_; (with_reducible refine (impl_ReadDeed.calls k t392 t395 t396 t397 false _ ?sideT A16.out).mono ?_); (case sideT => exact TabR.below HT.out (by repeat (first | (with_reducible first | exact HB.out | apply zB | apply zA | apply zC | refine zD ?_ GE391.out) | exact HB.out))); rintro e w35 ⟨rfl, hb⟩; refine ⟨_, rfl, ?_⟩; have n0_ := zM (blk_below (g := gb391) (o := .cells #[.int .i64 t388, .int .i64 t389, .int .i64 t390] 25 (0, 0)) (by exact BK391.out) hb); have n1_ := zM (below_step (by repeat (first | (with_reducible first | exact HB.out | apply zB | apply zA | apply zC | refine zD ?_ GE391.out) | exact HB.out)) hb); clear BK391; clear HB; have BK391 := n0_; have HB := n1_; clear n0_ n1_; (try clear hb); (try clear hb2); (try clear hk); (try clear hi)) | ((with_reducible refine gate_dst (N := 5) rfl ?_); refine box_event ?hg (N := 5) ?hd (cs := #[.int .i64 0, .int .i64 0, .int .i64 0]) (t := 25) ?hr ?_; (case hd => rfl); (case hg => rfl); (case hr => first | (go_simp; done) | (go_simp; rfl)); intro gb399 hg w36 hbox hb; have n0_ := zM (blk_below (g := gb391) (o := .cells #[.int .i64 t388, .int .i64 t389, .int .i64 t390] 25 (0, 0)) (by exact BK391.out) hb); have n1_ := zM (below_step (by repeat (first | (with_reducible first | exact HB.out | apply zB | apply zA | apply zC | refine zD ?_ GE391.out) | exact HB.out)) hb); have n2_ := zM (hbox); have n3_ := zM ((by rw [hg]; exact (below_size (by repeat (first | (with_reducible first | exact HB.out | apply zB | apply zA | apply zC | refine zD ?_ GE391.out) | exact HB.out))) : w.heap.size ≤ gb399)); have n4_ := zM ((by rw [hg]; exact (below_size (by repeat (first | (with_reducible first | exact HB.out | apply zB | apply zA | apply zC | refine zD ?_ GE391.out) | exact HB.out))) : w.heap.size ≤ gb399)); have n5_ := zM ((by rw [hg]; exact Nat.ne_of_lt (blk_lt (g := gb391) (o := .cells #[.int .i64 t388, .int .i64 t389, .int .i64 t390] 25 (0, 0)) (by exact BK391.out)) : gb391 ≠ gb399)); have n6_ := zM ((by rw [hg]; exact Nat.ne_of_gt (blk_lt (g := gb391) (o := .cells #[.int .i64 t388, .int .i64 t389, .int .i64 t390] 25 (0, 0)) (by exact BK391.out)) : gb399 ≠ gb391)); clear BK391; clear HB; have BK391 := n0_; have HB := n1_; have BK399 := n2_; have GW399 := n3_; have GE399 := n4_; have NB391_399 := n5_; have NB399_391 := n6_; clear n0_ n1_ n2_ n3_ n4_ n5_ n6_; clear hb hbox hg; have hnb37 := NB399_391.out; have hnc37 := NB391_399.out; have hcz38_0 : w36.cell? ⟨gb399, 0, none⟩ = some (.int .i64 0) := (blk_cell BK399.out 0).trans rfl; have hcz38_1 : w36.cell? ⟨gb399, 1, none⟩ = some (.int .i64 0) := (blk_cell BK399.out 1).trans rfl; have hcz38_2 : w36.cell? ⟨gb399, 2, none⟩ = some (.int .i64 0) := (blk_cell BK399.out 2).trans rfl; have hfz38_0 := blk_frozen BK399.out 0; have hfz38_1 := blk_frozen BK399.out 1; have hfz38_2 := blk_frozen BK399.out 2))
     go_ret
     exact ⟨by first | rfl | (simp [errW_none, errW_some] <;> rfl) | (simp [*, errW_none, errW_some] <;> rfl), by repeat (first | (with_reducible first | exact HB.out | apply zB | apply zA | apply zC | refine zD ?_ GE391.out | refine zD ?_ GE399.out) | exact HB.out)⟩
  ·rw [if_neg c6] at H
   have c6b0 : (t392.toList == t393.toList) = false := beq_eq_false_iff_ne.mpr c6
   have c6b1 : (t392.toList != t393.toList) = true := bne_iff_ne.mpr c6
   obtain rfl := Option.some.inj H
   go_enter Tryd.func4, Tryd.ntmps4
   go_wp2_with (first | ((with_reducible refine gate_callee (f := 13) rfl ?_); refine goesL_ (some 11) rfl rfl Tryd.func13 (by kernel_rfl) rfl #[.slice A0 l0.length c0] rfl (by (try simp only [List.map_toArray, List.map_cons, List.map_nil]); first | done | rfl | (simp only [List.length_drop, List.length_take]; rfl)) ?_; (with_reducible refine (spec_DrawDeedText.calls k _ _ l0 t388 t389 t390 _ ?side1 ?side2 A3.out).mono ?_); (case side1 => repeat (first | exact HR0.out | (with_reducible refine Kd.C_alloc ?_ _) | (with_reducible refine Kd.C_drewN ?_ _) | (with_reducible refine Kd.C_drew ?_))); (case side2 => exact HC0.out); rintro e w39 ⟨rfl, hb⟩; refine ⟨_, rfl, ?_⟩; have n0_ := zM (below_step (by repeat (first | (with_reducible first | exact HB.out | apply zB | apply zA | apply zC) | exact HB.out)) hb); clear HB; have HB := n0_; clear n0_; (try clear hb); (try clear hb2); (try clear hk); (try clear hi)) | ((with_reducible refine gate_dst (N := 3) rfl ?_); refine box_event ?hg (N := 3) ?hd (cs := #[.int .i64 0, .int .i64 0, .int .i64 0]) (t := 25) ?hr ?_; (case hd => rfl); (case hg => rfl); (case hr => first | (go_simp; done) | (go_simp; rfl)); intro gb391 hg w40 hbox hb; have n0_ := zM (below_step (by repeat (first | (with_reducible first | exact HB.out | apply zB | apply zA | apply zC) | exact HB.out)) hb); have n1_ := zM (hbox); have n2_ := zM ((by rw [hg]; exact (below_size (by repeat (first | (with_reducible first | exact HB.out | apply zB | apply zA | apply zC) | exact HB.out))) : w.heap.size ≤ gb391)); have n3_ := zM ((by rw [hg]; exact (below_size (by repeat (first | (with_reducible first | exact HB.out | apply zB | apply zA | apply zC) | exact HB.out))) : w.heap.size ≤ gb391)); clear HB; have HB := n0_; have BK391 := n1_; have GW391 := n2_; have GE391 := n3_; clear n0_ n1_ n2_ n3_; clear hb hbox hg; have hcz41_0 : w40.cell? ⟨gb391, 0, none⟩ = some (.int .i64 0) := (blk_cell BK391.out 0).trans rfl; have hcz41_1 : w40.cell? ⟨gb391, 1, none⟩ = some (.int .i64 0) := (blk_cell BK391.out 1).trans rfl; have hcz41_2 : w40.cell? ⟨gb391, 2, none⟩ = some (.int .i64 0) := (blk_cell BK391.out 2).trans rfl; have hfz41_0 := blk_frozen BK391.out 0; have hfz41_1 := blk_frozen BK391.out 1; have hfz41_2 := blk_frozen BK391.out 2) | ((with_reducible refine gate_callee (f := 12) rfl ?_); refine goesL_ (some 13) rfl rfl Tryd.func12 (by kernel_rfl) rfl #[.agg #[.int .i64 t388, .int .i64 t389, .int .i64 t390]] rfl (by (try simp only [List.map_toArray, List.map_cons, List.map_nil]); first | done | rfl | (simp only [List.length_drop, List.length_take]; rfl)) ?_; (with_reducible refine (impl_DeedText.calls k t388 t389 t390 t392 _ ?sideT A4.out).mono ?_); (case sideT => exact TabR.below HT.out (by repeat (first | (with_reducible first | exact HB.out | apply zB | apply zA | apply zC | refine zD ?_ GE391.out) | exact HB.out))); rintro e w42 ⟨rfl, hb⟩; refine ⟨_, rfl, ?_⟩; have n0_ := zM (blk_below (g := gb391) (o := .cells #[.int .i64 t388, .int .i64 t389, .int .i64 t390] 25 (0, 0)) (by refine blk_put (cs := #[.int .i64 t388, .int .i64 t389, .int .i64 0]) ?_ 2 _ rfl; refine blk_put (cs := #[.int .i64 t388, .int .i64 0, .int .i64 0]) ?_ 1 _ rfl; refine blk_put (cs := #[.int .i64 0, .int .i64 0, .int .i64 0]) ?_ 0 _ rfl; exact BK391.out) hb); have n1_ := zM (below_step (by repeat (first | (with_reducible first | exact HB.out | apply zB | apply zA | apply zC | refine zD ?_ GE391.out) | exact HB.out)) hb); clear BK391; clear HB; have BK391 := n0_; have HB := n1_; clear n0_ n1_; (try clear hb); (try clear hb2); (try clear hk); (try clear hi); have hcz43_0 : w42.cell? ⟨gb391, 0, none⟩ = some (.int .i64 t388) := (blk_cell BK391.out 0).trans rfl; have hcz43_1 : w42.cell? ⟨gb391, 1, none⟩ = some (.int .i64 t389) := (blk_cell BK391.out 1).trans rfl; have hcz43_2 : w42.cell? ⟨gb391, 2, none⟩ = some (.int .i64 t390) := (blk_cell BK391.out 2).trans rfl; have hfz43_0 := blk_frozen BK391.out 0; have hfz43_1 := blk_frozen BK391.out 1; have hfz43_2 := blk_frozen BK391.out 2) | ((with_reducible refine gate_callee (f := 10) rfl ?_); refine goesL_ (some 16) rfl rfl Tryd.func10 (by kernel_rfl) rfl #[.agg #[.int .i64 t388, .int .i64 t389, .int .i64 t390]] rfl (by (try simp only [List.map_toArray, List.map_cons, List.map_nil]); first | done | rfl | (simp only [List.length_drop, List.length_take]; rfl)) ?_; (with_reducible refine (spec_DeedText.calls k t388 t389 t390 t393 _ A5.out).mono ?_); rintro e w44 ⟨rfl, hb⟩; refine ⟨_, rfl, ?_⟩; have n0_ := zM (blk_below (g := gb391) (o := .cells #[.int .i64 t388, .int .i64 t389, .int .i64 t390] 25 (0, 0)) (by exact BK391.out) hb); have n1_ := zM (below_step (by repeat (first | (with_reducible first | exact HB.out | apply zB | apply zA | apply zC | refine zD ?_ GE391.out) | exact HB.out)) hb); clear BK391; clear HB; have BK391 := n0_; have HB := n1_; clear n0_ n1_; (try clear hb); (try clear hb2); (try clear hk); (try clear hi)))
   go_ret
   exact ⟨by first | rfl | (simp [errW_none, errW_some] <;> rfl) | (simp [*, errW_none, errW_some] <;> rfl), by repeat (first | (with_reducible first | exact HB.out | apply zB | apply zA | apply zC | refine zD ?_ GE391.out) | exact HB.out)⟩

/-- THE ONE PURE STATEMENT of laws_FnDeedText: yours. -/
def laws_FnDeedText.Pure : Prop := ∀ (l0 : List Int), l0.length ≤ maxLen → l0.length * 1 ≤ 140737488351232 → (∀ x ∈ l0, (Lit.int .u8 x).wf = true) → ∃ k, laws_FnDeedText.f k l0 = some true
theorem laws_FnDeedText.walk (P : laws_FnDeedText.Pure) (a0 : Option Addr) (len0 cap0 : Nat) (z0 : List Int) (w : World) (w0 : (a0 = none ∧ len0 = 0 ∧ cap0 = 0 ∧ z0 = []) ∨ ∃ x, a0 = some x ∧ len0 ≤ cap0 ∧ cap0 ≤ maxLen ∧ z0.length = cap0 ∧ (∀ i, i < z0.length → w.cell? (x.add i) = some (.int .u8 (z0.getD i 0))) ∧ ∀ n ∈ z0, (Lit.int .u8 n).wf = true) (y0 : len0 * 1 ≤ 140737488351232) (hT : TabR w) :
  Calls Tryd.prog 4 #[.slice a0 len0 cap0] w fun e w' => e = .returned (.bool true) ∧ Below w.heap.size w w' := by
 obtain ⟨l0, rfl, hr0, hm0, hw0, hc0⟩ := ReadsInt.ofRowC w0
 obtain ⟨k, h⟩ := P l0 hm0 y0 hw0
 refine (laws_FnDeedText.calls k _ _ l0 true w (Kd.C_of_reads (d := (0 : Int)) (h1 := fun _ => rfl) hr0) hc0 hT h).mono ?_
 rintro e w' ⟨rfl, hd⟩
 exact ⟨rfl, hd⟩

end Go.Proofs.YtopfhdhdpnenpaaDoor.LF
