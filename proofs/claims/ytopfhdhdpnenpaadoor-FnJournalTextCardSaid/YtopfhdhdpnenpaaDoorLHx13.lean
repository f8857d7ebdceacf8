/- Printed by a program of this session (wip/lp/lp.py) out of the translation: functions with the same answers as the Go code, and their contracts; no conditions beyond those that each theorem names. -/
import Derived.Test.YtopfhdhdpnenpaaDoorLHx0
import Derived.Test.YtopfhdhdpnenpaaDoorLHx5
import Derived.Test.YtopfhdhdpnenpaaDoorLHx12
namespace Go.Proofs.YtopfhdhdpnenpaaDoor.LH
open Go.RowKit Go.Proofs.YtopfhdhdpnenpaaDoorV.PrintWords Go.Proofs.YtopfhdhdpnenpaaDoorV.PrintLast Go.Proofs.YtopfhdhdpnenpaaDoorV.PrintMore
attribute [local go_sem] max2_int min2_int max_two min_two max_three min_three max_four min_four   -- for this text's walks alone
set_option linter.unusedVariables false
set_option linter.unusedSimpArgs false

/-! ### impl_ReadDeed: function 15 -/
theorem words_row {w : World} {b off : Nat} (h0 : w.cell? ⟨b, off, none⟩ = some (.string ⟨#[104, 101, 97, 100]⟩)) (h1 : w.cell? ⟨b, off + 1, none⟩ = some (.string ⟨#[97, 100, 100]⟩))
  (h2 : w.cell? ⟨b, off + 2, none⟩ = some (.string ⟨#[100, 114, 111, 112]⟩)) (h3 : w.cell? ⟨b, off + 3, none⟩ = some (.string ⟨#[116, 117, 114, 110]⟩))
  (h4 : w.cell? ⟨b, off + 4, none⟩ = some (.string ⟨#[102, 108, 97, 116]⟩)) (h5 : w.cell? ⟨b, off + 5, none⟩ = some (.string ⟨#[98, 97, 99, 107]⟩)) :
  Kd.C Kd.string w (some ⟨b, off, none⟩) wordsL.length wordsL :=
 Kd.C_of_reads (d := ByteArray.empty) ⟨rfl, by decide, fun _ => ⟨_, rfl, fun j hj => by
  have hj' : j < 6 := hj
  match j, hj' with
  | 0, _ => simpa [Addr.add, wordsL] using h0
  | 1, _ => simpa [Addr.add, wordsL] using h1
  | 2, _ => simpa [Addr.add, wordsL] using h2
  | 3, _ => simpa [Addr.add, wordsL] using h3
  | 4, _ => simpa [Addr.add, wordsL] using h4
  | 5, _ => simpa [Addr.add, wordsL] using h5⟩⟩
def impl_ReadDeed.j0 : Nat → ByteArray → List ByteArray → Int → Int → Int → Option (Int × Int × Int × Bool)
 | 0, _, _, _, _, _ => none
 | k + 1, x0, x4, x416000, x416001, x416002 => if (x4.length : Int) > 2 then (if 2 < (x4.length : Int) then ((strconv_Atoi.f (rdOf ByteArray.empty x4 2)).bind fun bt420 => (if x0.toList = ([] : List UInt8) then (some (0, 0, 0, false)) else ((impl_DeedText.f k x416000 x416001 bt420.1).bind fun t422 => (if t422.toList = x0.toList then (some (x416000, x416001, bt420.1, true)) else (some (0, 0, 0, false)))))) else (none)) else (if x0.toList = ([] : List UInt8) then (some (0, 0, 0, false)) else ((impl_DeedText.f k x416000 x416001 x416002).bind fun t423 => (if t423.toList = x0.toList then (some (x416000, x416001, x416002, true)) else (some (0, 0, 0, false)))))
def impl_ReadDeed.f (k : Nat) (a0 : ByteArray) : Option (Int × Int × Int × Bool) := (strings_Split.f a0 (⟨#[32]⟩ : ByteArray)).bind fun t410 => (if 0 < (t410.length : Int) then ((slices_Index_string_string.f k wordsL (rdOf ByteArray.empty t410 0)).bind fun t414 => (if (t410.length : Int) > 1 then (if 1 < (t410.length : Int) then ((strconv_Atoi.f (rdOf ByteArray.empty t410 1)).bind fun bt417 => (impl_ReadDeed.j0 k a0 t410 t414 bt417.1 0)) else (none)) else (impl_ReadDeed.j0 k a0 t410 t414 0 0))) else (none))
theorem impl_ReadDeed.mono_l : ∀ k, (∀ y0 y1 y2 y3 y4, LeO (impl_ReadDeed.j0 k y0 y1 y2 y3 y4) (impl_ReadDeed.j0 (k + 1) y0 y1 y2 y3 y4))
 | 0 => fun _ _ _ _ _ r h => by simp [impl_ReadDeed.j0] at h
 | k + 1 => by
  have ih0 := impl_ReadDeed.mono_l k
  ·intro y0 y1 y2 y3 y4
   unfold impl_ReadDeed.j0
   repeat' first
   | (with_reducible exact ih0 _ _ _ _ _)
   | (with_reducible exact impl_DeedText.mono _ _ _ _)
   | (with_reducible exact slices_Index_string_string.mono _ _ _)
   | (with_reducible exact LeO.refl _)
   | (with_reducible exact LeO.none _)
   | (with_reducible refine LeO.ite ?_ ?_)
   | (with_reducible refine LeO.bind ?_ (fun _ => ?_))
   | refine LeO.ite ?_ ?_
   | refine LeO.bind ?_ (fun _ => ?_)
theorem impl_ReadDeed.mono : ∀ a0 k, LeO (impl_ReadDeed.f k a0) (impl_ReadDeed.f (k + 1) a0) := by
 intro a0 k
 have ih0 := impl_ReadDeed.mono_l k
 unfold impl_ReadDeed.f
 repeat' first
   | (with_reducible exact ih0 _ _ _ _ _)
   | (with_reducible exact impl_DeedText.mono _ _ _ _)
   | (with_reducible exact slices_Index_string_string.mono _ _ _)
   | (with_reducible exact LeO.refl _)
   | (with_reducible exact LeO.none _)
   | (with_reducible refine LeO.ite ?_ ?_)
   | (with_reducible refine LeO.bind ?_ (fun _ => ?_))
   | refine LeO.ite ?_ ?_
   | refine LeO.bind ?_ (fun _ => ?_)
def impl_ReadDeed.T2 : Bool × List (List Nat × List Nat) := (true, [([], []), ([], []), ([1], [1]), ([2], [2]), ([0, 3], [0, 3]), ([4], [4]), ([], []), ([6, 5, 4, 0, 1, 2, 3, 4, 5, 6], [5, 6])])
def impl_ReadDeed.B2 : List Nat := [0, 0, 2, 6, 15, 31, 0, 127]
theorem impl_ReadDeed.tab2 : rtab .any (opsOf Tryd.f15 2) = impl_ReadDeed.T2 := by kernel_rfl
theorem impl_ReadDeed.bits2 : waitsOk impl_ReadDeed.T2.2 impl_ReadDeed.B2 = true := by kernel_rfl
set_option maxHeartbeats 8000000 in
set_option maxRecDepth 100000 in
theorem impl_ReadDeed.calls (k : Nat) (a0 : ByteArray) (r1 : Int) (r2 : Int) (r3 : Int) (r4 : Bool) (w : World) (hT : TabR w) (h : impl_ReadDeed.f k a0 = some (r1, r2, r3, r4)) :
  Calls Tryd.prog 15 #[.string a0] w fun e w' => e = .returned (.tuple #[.agg #[.int .i64 r1, .int .i64 r2, .int .i64 r3], .bool r4]) ∧ Below w.heap.size w w' := by
 have hu25 := Tryd.underlying25
 have HB:=zM (Below.refl w.heap.size w)
 have HT:=zM hT
 clear hT
 obtain ⟨tb_, to_, tc_, hcap_, hg_, h0_, h1_, h2_, h3_, h4_, h5_⟩ := HT.out.1
 have HWr:=zM (words_row h0_ h1_ h2_ h3_ h4_ h5_)
 have HCAP : Aside0 (wordsL.length ≤ tc_) := ⟨hcap_⟩
 have HG0 : Aside0 (w.cell? ⟨0, 0, none⟩ = some (.slice (some ⟨tb_, to_, none⟩) wordsL.length tc_)) := ⟨hg_⟩
 clear hcap_ hg_ h0_ h1_ h2_ h3_ h4_ h5_
 have H : ((strings_Split.f a0 (⟨#[32]⟩ : ByteArray)).bind fun t410 => (if 0 < (t410.length : Int) then ((slices_Index_string_string.f k wordsL (rdOf ByteArray.empty t410 0)).bind fun t414 => (if (t410.length : Int) > 1 then (if 1 < (t410.length : Int) then ((strconv_Atoi.f (rdOf ByteArray.empty t410 1)).bind fun bt417 => (impl_ReadDeed.j0 k a0 t410 t414 bt417.1 0)) else (none)) else (impl_ReadDeed.j0 k a0 t410 t414 0 0))) else (none))) = some (r1, r2, r3, r4) := h
 clear h
 obtain ⟨t410, A2, H⟩ := zb H; try dsimp only at H
 by_cases c3 : 0 < (t410.length : Int)
 ·rw [if_pos c3] at H
  have c3b0 : decide (0 < (t410.length : Int)) = true := decide_eq_true c3
  have c3b1 : decide (0 < t410.length) = true := decide_eq_true (by omega)
  clear c3
  obtain ⟨t414, A4, H⟩ := zb H; try dsimp only at H
  have HC5:=zM H
  clear H
  go_enter Tryd.func15, Tryd.ntmps15
  try go_wp2_with (first | ((with_reducible refine gate_dst (N := 2) rfl ?_); refine box_event q0 (N := 2) q0 (cs := #[.int .i64 0, .int .i64 0, .int .i64 0]) (t := 25) q1 ?_; intro gb409 hg w6 hbox hb; have BK409:=zM (hbox); have GW409:=zM ((by rw [hg]; exact (below_size (q2 HB.out)) : w.heap.size ≤ gb409)); have GE409:=zM ((by rw [hg]; exact (below_size (q2 HB.out)) : w.heap.size ≤ gb409)); replace HB:=zM (below_step (q2 HB.out) hb); clear hb hbox hg) | (refine zg 38 (some 7) Tryd.func38 #[.string a0, .string (⟨#[32]⟩ : ByteArray)] ?_; (with_reducible refine (strings_Split.calls a0 (⟨#[32]⟩ : ByteArray) t410 _ ?sideT A2.out).mono ?_); (case sideT => exact TabR.below HT.out (q4 HB.out GE409.out)); rintro e w7 ⟨v411, rfl, ho0, hb⟩; refine ⟨_, rfl, ?_⟩; have HO412:=zM (Kd.R_lower ho0 (below_size (q4 HB.out GE409.out))); replace BK409:=zM (blk_below (g := gb409) (o := .cells #[.int .i64 0, .int .i64 0, .int .i64 0] 25 (0, 0)) (q5 BK409.out) hb); replace HB:=zM (below_step (q4 HB.out GE409.out) hb); (try clear hb); (try clear hb2); (try clear hk); (try clear hi); (try clear ho0); obtain ⟨Ao8, co8, eo8⟩ := Kd.R_slice HO412.out; subst eo8))
  replace HO412:=zM (Kd.R_drew HO412.out)
  replace BK409:=zM (blk_drew BK409.out)
  replace HB:=zM (zC HB.out)
  have p413 : 0 ≤ (0 : Int) := (by omega)
  have q413 : 0 < (t410.length : Int) := of_decide_eq_true (by first | (with_reducible assumption) | assumption)
  obtain ⟨ad413, e413, hx413_0⟩ := Kd.at_string (Kd.R_reads' HO412.out).2.2 0 p413 q413
  cases e413
  have qi413 : (0 < t410.length) = True := eq_true (by omega)
  (try rw [show ((0 : Int)).toNat = 0 from rfl] at hx413_0)
  (try rw [Addr.add_zero'] at hx413_0)
  replace p413 := eq_true p413
  replace q413 := eq_true q413
  refine start_ (n := 8) (S := fun w' => w'.cell? ad413 = some (.string (rdOf ByteArray.empty t410 0)) ∧ w'.cell? ⟨0, 0, none⟩ = some (.slice (some ⟨tb_, to_, none⟩) wordsL.length tc_)) (ds := []) (zL 8 0) (by kernel_rfl) rfl rfl (⟨hx413_0, (HB.out.cell (World.block_lt_of_cell? w _ HG0.out)).trans HG0.out⟩) (fun hHeld => ?_); refine with_tabW impl_ReadDeed.tab2 impl_ReadDeed.bits2 (fun HT_ HW_ => ?_)
  generalize w7.drew = w9 at HO412 BK409 HB hx413_0 hHeld ⊢
  refine take_ (i := 0) (N := some 8) (v := ?_) (a' := ?_) (zL 8 1) rfl rfl (take_ofW HT_.out HW_.out (by kernel_rfl)) (fun _ _ _ h => h) (Or.inl ⟨by rfl, ?_⟩) hHeld ?_ ?_
  rotate_left
  ·rintro w' ⟨s0, s1⟩
   go_simp
   with_reducible rfl
  rotate_left
  ·simp only [Act.put, zE, zF, zG, i64_w, i32_w]
   rfl
  refine zp 1 (some 9) (zL 8 3) HT_ ?_
  refine zp 2 (some 10) (zL 8 7) HT_ ?_
  refine take_ (i := 3) (N := some 11) (v := ?_) (a' := ?_) (zL 8 15) rfl rfl (take_ofW HT_.out HW_.out (by kernel_rfl)) (fun _ _ _ h => h) (Or.inl ⟨by rfl, ?_⟩) hHeld ?_ ?_
  rotate_left
  ·rintro w' ⟨s0, s1⟩
   go_simp
   with_reducible rfl
  rotate_left
  ·simp only [Act.put, zE, zF, zG, i64_w, i32_w]
   rfl
  refine join_ (σ := Nat) 1 (zL 8 127) (fun s_ => [(12, .int .i64 t414), (5, .pointer (some ⟨s_, 0, none⟩)), (13, .agg #[.int .i64 t414, .int .i64 0, .int .i64 0])]) (fun s_ w' => (w'.cell? ad413 = some (.string (rdOf ByteArray.empty t410 0)) ∧ w'.cell? ⟨0, 0, none⟩ = some (.slice (some ⟨tb_, to_, none⟩) wordsL.length tc_)) ∧ (Kd.R Kd.string 9 w' w.heap.size (fun _ => True) (.slice (some ad413) t410.length co8) t410) ∧ (w'.heap[gb409]? = some (.cells #[.int .i64 0, .int .i64 0, .int .i64 0] 25 (0, 0))) ∧ (w'.heap[s_]? = some (.cells #[.int .i64 0, .int .i64 0, .int .i64 0] 25 (0, 0))) ∧ (w.heap.size ≤ s_) ∧ (w.heap.size ≤ s_) ∧ (gb409 ≠ s_) ∧ (s_ ≠ gb409) ∧ (Below w.heap.size w w')) ?_ ?_
  rotate_left
  ·intro hCont
   refine two_ (i := 4) (j := 6) (Ni := some 12) (Nj := some 5) (zL 8 31) (zL 8 79) rfl rfl rfl rfl (two_of HT_.out (by kernel_rfl)) (by decide) (by decide) (fun K hK => ?_) (fun K hK => ?_)
   ·skip
    refine goes_ Tryd.func39 (by kernel_rfl) rfl #[.slice (some ⟨tb_, to_, none⟩) wordsL.length tc_, .string (rdOf ByteArray.empty t410 0)] (by rfl) rfl rfl (by (try simp only [List.map_toArray, List.map_cons, List.map_nil]); first | done | rfl | (simp only [List.length_drop, List.length_take]; rfl)) ?_
    with_reducible refine (slices_Index_string_string.calls k _ _ wordsL (rdOf ByteArray.empty t410 0) t414 _ ?side1 ?side2 A4.out).mono ?_
    (case side1 => repeat (first | exact (Kd.C_below HWr.out HB.out) | (with_reducible refine Kd.C_alloc ?_ _) | (with_reducible refine Kd.C_drewN ?_ _) | (with_reducible refine Kd.C_drew ?_)))
    (case side2 => exact HCAP.out)
    rintro e w' ⟨rfl, ⟨nd, rfl⟩⟩
    refine ⟨_, rfl, ?_⟩
    refine hK.out _ _ (hHeld) (fun hHeld => ?_)
    clear hK K
    refine norm_ (a' := ?_) ?_ ?_
    rotate_left
    ·show Act.put _ (some 12) _ = _
     simp only [Act.put, zE, zF, zG, i64_w, i32_w]
     rfl
    refine zp 5 (some 13) (zL 8 63) HT_ ?_
    refine one_ (i := 6) (N := some 5) (zL 8 127) rfl rfl (one_of HT_.out (by kernel_rfl)) (by decide) (fun K hK => ?_)
    refine box_step q0 (N := 5) q0 (cs := #[.int .i64 0, .int .i64 0, .int .i64 0]) (t := 25) q1 ?_
    intro gb415 hg w10 hbox hb
    have HS0_ := And.intro ((hb.cell (World.block_lt_of_cell? _ _ hHeld.1)).trans hHeld.1) ((hb.cell (World.block_lt_of_cell? _ _ hHeld.2)).trans hHeld.2)
    replace HO412:=zM (Kd.R_below (q3 HO412.out) hb)
    have BK415:=zM (hbox)
    have GW415:=zM ((by rw [hg]; exact (below_size (q4 HB.out GE409.out)) : w.heap.size ≤ gb415))
    have GE415:=zM ((by rw [hg]; exact (below_size (q4 HB.out GE409.out)) : w.heap.size ≤ gb415))
    replace HB:=zM (below_step (q4 HB.out GE409.out) hb)
    have NB409_415:=zM ((by rw [hg]; exact Nat.ne_of_lt (blk_lt (g := gb409) (o := .cells #[.int .i64 0, .int .i64 0, .int .i64 0] 25 (0, 0)) (q5 BK409.out)) : gb409 ≠ gb415))
    have NB415_409:=zM ((by rw [hg]; exact Nat.ne_of_gt (blk_lt (g := gb409) (o := .cells #[.int .i64 0, .int .i64 0, .int .i64 0] 25 (0, 0)) (q5 BK409.out)) : gb415 ≠ gb409))
    replace BK409:=zM (blk_below (g := gb409) (o := .cells #[.int .i64 0, .int .i64 0, .int .i64 0] 25 (0, 0)) (q5 BK409.out) hb)
    clear hb hbox hg
    refine hK.out _ _ (HS0_) (fun hHeld => ?_)
    clear hK K
    refine norm_ (a' := ?_) ?_ ?_
    rotate_left
    ·show Act.put _ (some 5) _ = _
     simp only [Act.put, zE, zF, zG, i64_w, i32_w]
     rfl
    exact norm_ (by simp only [putAll, Act.put, zE, zF, zG]) (hCont (gb415) _ ⟨hHeld, (q3 HO412.out), (q5 BK409.out), (q5 BK415.out), GW415.out, GE415.out, NB409_415.out, NB415_409.out, (q18 HB.out GE409.out GE415.out)⟩)
   ·skip
    refine box_step q0 (N := 5) q0 (cs := #[.int .i64 0, .int .i64 0, .int .i64 0]) (t := 25) q1 ?_
    intro gb415 hg w10 hbox hb
    have HS0_ := And.intro ((hb.cell (World.block_lt_of_cell? _ _ hHeld.1)).trans hHeld.1) ((hb.cell (World.block_lt_of_cell? _ _ hHeld.2)).trans hHeld.2)
    replace HO412:=zM (Kd.R_below (q3 HO412.out) hb)
    have BK415:=zM (hbox)
    have GW415:=zM ((by rw [hg]; exact (below_size (q4 HB.out GE409.out)) : w.heap.size ≤ gb415))
    have GE415:=zM ((by rw [hg]; exact (below_size (q4 HB.out GE409.out)) : w.heap.size ≤ gb415))
    replace HB:=zM (below_step (q4 HB.out GE409.out) hb)
    have NB409_415:=zM ((by rw [hg]; exact Nat.ne_of_lt (blk_lt (g := gb409) (o := .cells #[.int .i64 0, .int .i64 0, .int .i64 0] 25 (0, 0)) (q5 BK409.out)) : gb409 ≠ gb415))
    have NB415_409:=zM ((by rw [hg]; exact Nat.ne_of_gt (blk_lt (g := gb409) (o := .cells #[.int .i64 0, .int .i64 0, .int .i64 0] 25 (0, 0)) (q5 BK409.out)) : gb415 ≠ gb409))
    replace BK409:=zM (blk_below (g := gb409) (o := .cells #[.int .i64 0, .int .i64 0, .int .i64 0] 25 (0, 0)) (q5 BK409.out) hb)
    clear hb hbox hg
    refine hK.out _ _ (HS0_) (fun hHeld => ?_)
    clear hK K
    refine norm_ (a' := ?_) ?_ ?_
    rotate_left
    ·show Act.put _ (some 5) _ = _
     simp only [Act.put, zE, zF, zG, i64_w, i32_w]
     rfl
    refine one_ (i := 4) (N := some 12) (zL 8 95) rfl rfl (one_of HT_.out (by kernel_rfl)) (by decide) (fun K hK => ?_)
    refine goes_ Tryd.func39 (by kernel_rfl) rfl #[.slice (some ⟨tb_, to_, none⟩) wordsL.length tc_, .string (rdOf ByteArray.empty t410 0)] (by rfl) rfl rfl (by (try simp only [List.map_toArray, List.map_cons, List.map_nil]); first | done | rfl | (simp only [List.length_drop, List.length_take]; rfl)) ?_
    with_reducible refine (slices_Index_string_string.calls k _ _ wordsL (rdOf ByteArray.empty t410 0) t414 _ ?side1 ?side2 A4.out).mono ?_
    (case side1 => repeat (first | exact (Kd.C_below HWr.out HB.out) | (with_reducible refine Kd.C_alloc ?_ _) | (with_reducible refine Kd.C_drewN ?_ _) | (with_reducible refine Kd.C_drew ?_)))
    (case side2 => exact HCAP.out)
    rintro e w' ⟨rfl, ⟨nd, rfl⟩⟩
    refine ⟨_, rfl, ?_⟩
    refine hK.out _ _ (hHeld) (fun hHeld => ?_)
    clear hK K
    refine norm_ (a' := ?_) ?_ ?_
    rotate_left
    ·show Act.put _ (some 12) _ = _
     simp only [Act.put, zE, zF, zG, i64_w, i32_w]
     rfl
    refine zp 5 (some 13) (zL 8 127) HT_ ?_
    exact norm_ (by simp only [putAll, Act.put, zE, zF, zG]) (hCont (gb415) _ ⟨hHeld, (q3 HO412.out), (q5 BK409.out), (q5 BK415.out), GW415.out, GE415.out, NB409_415.out, NB415_409.out, (q18 HB.out GE409.out GE415.out)⟩)
  rintro gb415 w11 ⟨hS_, h0_, h1_, h2_, h3_, h4_, h5_, h6_, h7_⟩
  replace HO412 : Aside0 (Kd.R Kd.string 9 w11 w.heap.size (fun _ => True) (.slice (some ad413) t410.length co8) t410) := ⟨h0_⟩
  replace BK409 : Aside0 (w11.heap[gb409]? = some (.cells #[.int .i64 0, .int .i64 0, .int .i64 0] 25 (0, 0))) := ⟨h1_⟩
  have BK415 : Aside0 (w11.heap[gb415]? = some (.cells #[.int .i64 0, .int .i64 0, .int .i64 0] 25 (0, 0))) := ⟨h2_⟩
  have GW415 : Aside0 (w.heap.size ≤ gb415) := ⟨h3_⟩
  have GE415 : Aside0 (w.heap.size ≤ gb415) := ⟨h4_⟩
  have NB409_415 : Aside0 (gb409 ≠ gb415) := ⟨h5_⟩
  have NB415_409 : Aside0 (gb415 ≠ gb409) := ⟨h6_⟩
  replace HB : Aside0 (Below w.heap.size w w11) := ⟨h7_⟩
  clear h0_ h1_ h2_ h3_ h4_ h5_ h6_ h7_
  have hHeld := hS_
  refine norm_ (a' := ?_) ?_ ?_
  rotate_left
  ·simp only [putAll, Act.put, zE, zF, zG]
   rfl
  refine one_ (i := 7) (N := none) (zL 8 255) rfl rfl (one_of HT_.out (by kernel_rfl)) (by decide) (fun K hK => ?_)
  have hs12 : w11.cell? ⟨gb415, 0, none⟩ = some (.int .i64 0) := (blk_cell BK415.out 0).trans rfl
  have hfs12 := blk_frozen BK415.out 0
  have hns12_0 := NB409_415.out
  have hms12_0 := NB415_409.out
  have hs13 : w11.cell? ⟨gb415, 1, none⟩ = some (.int .i64 0) := (blk_cell BK415.out 1).trans rfl
  have hfs13 := blk_frozen BK415.out 1
  have hns13_0 := NB409_415.out
  have hms13_0 := NB415_409.out
  have hs14 : w11.cell? ⟨gb415, 2, none⟩ = some (.int .i64 0) := (blk_cell BK415.out 2).trans rfl
  have hfs14 := blk_frozen BK415.out 2
  have hns14_0 := NB409_415.out
  have hms14_0 := NB415_409.out
  refine skip_ (w1 := ?_) (by rfl) rfl ?_ ?_
  rotate_left
  ·go_simp
   rfl
  refine hK.out _ _ (⟨((cell_far (p := ⟨gb415, _, none⟩) (by first | exact Kd.own_blk (Kd.R_ne HO412.out BK415.out (by decide)) | (rw [add_block]; exact Kd.own_blk (Kd.R_ne HO412.out BK415.out (by decide))) | (show (Addr.add _ _).block ≠ _; rw [add_block]; exact Kd.own_blk (Kd.R_ne HO412.out BK415.out (by decide))) | (dsimp only; exact Kd.own_blk (Kd.R_ne HO412.out BK415.out (by decide)))) _).trans (((cell_far (p := ⟨gb415, _, none⟩) (by first | exact Kd.own_blk (Kd.R_ne HO412.out BK415.out (by decide)) | (rw [add_block]; exact Kd.own_blk (Kd.R_ne HO412.out BK415.out (by decide))) | (show (Addr.add _ _).block ≠ _; rw [add_block]; exact Kd.own_blk (Kd.R_ne HO412.out BK415.out (by decide))) | (dsimp only; exact Kd.own_blk (Kd.R_ne HO412.out BK415.out (by decide)))) _).trans (((cell_far (p := ⟨gb415, _, none⟩) (by first | exact Kd.own_blk (Kd.R_ne HO412.out BK415.out (by decide)) | (rw [add_block]; exact Kd.own_blk (Kd.R_ne HO412.out BK415.out (by decide))) | (show (Addr.add _ _).block ≠ _; rw [add_block]; exact Kd.own_blk (Kd.R_ne HO412.out BK415.out (by decide))) | (dsimp only; exact Kd.own_blk (Kd.R_ne HO412.out BK415.out (by decide)))) _).trans (hHeld.1)))))), (cell_far (p := ⟨gb415, _, none⟩) (by have h1_ := GE415.out; have h2_ := World.block_lt_of_cell? w _ HG0.out; dsimp only at h2_ ⊢; omega) _).trans ((cell_far (p := ⟨gb415, _, none⟩) (by have h1_ := GE415.out; have h2_ := World.block_lt_of_cell? w _ HG0.out; dsimp only at h2_ ⊢; omega) _).trans ((cell_far (p := ⟨gb415, _, none⟩) (by have h1_ := GE415.out; have h2_ := World.block_lt_of_cell? w _ HG0.out; dsimp only at h2_ ⊢; omega) _).trans hHeld.2))⟩) (fun hHeld => ?_)
  clear hK K
  refine done_ (done_of HT_.out (by kernel_rfl)) ?_
  go_upto_if 16 with (fail)
  go_cut [] (fun wc => ∃ (kq : Nat) (x416001_4 : Int), Aside0 (impl_ReadDeed.j0 kq a0 t410 t414 x416001_4 0 = some (r1, r2, r3, r4)) ∧ Aside0 (kq ≤ k) ∧ Aside0 (Kd.R Kd.string 9 wc w.heap.size (fun _ => True) (.slice (some ad413) t410.length co8) t410) ∧ Aside0 (wc.heap[gb409]? = some (.cells #[.int .i64 0, .int .i64 0, .int .i64 0] 25 (0, 0))) ∧ Aside0 (wc.heap[gb415]? = some (.cells #[.int .i64 t414, .int .i64 x416001_4, .int .i64 0] 25 (0, 0))) ∧ Aside0 (Below w.heap.size w wc))
  case first =>
   have H := HC5.out
   clear HC5
   by_cases c15 : (t410.length : Int) > 1
   ·rw [if_pos c15] at H
    have c15b0 : decide (1 < (t410.length : Int)) = true := decide_eq_true c15
    have c15b1 : decide (1 < t410.length) = true := decide_eq_true (by omega)
    clear c15
    (first | rw [c15b0] | (simp only [i64_w, i32_w]; rw [c15b0]) | skip)
    by_cases c16 : 1 < (t410.length : Int)
    ·rw [if_pos c16] at H
     have c16b0 : decide (1 < (t410.length : Int)) = true := decide_eq_true c16
     have c16b1 : decide (1 < t410.length) = true := decide_eq_true (by omega)
     clear c16
     obtain ⟨⟨t417, t418⟩, A17, H⟩ := zb H; try dsimp only at H
     have H':=zM H
     clear H
     have p416 : 0 ≤ (1 : Int) := (by omega)
     have q416 : 1 < (t410.length : Int) := of_decide_eq_true (by first | (with_reducible assumption) | assumption)
     obtain ⟨ad416, e416, hx416_0⟩ := Kd.at_string (Kd.R_reads' HO412.out).2.2 1 p416 q416
     obtain rfl : ad413 = ad416 := (by injection e416)
     (try simp only [show (1 : Int).toNat = 1 from rfl, Nat.reduceMul, Nat.reduceEqDiff, Go.Addr.add, ↓reduceIte] at hx416_0)
     have qi416 : (1 < t410.length) = True := eq_true (by omega)
     (try rw [show ((1 : Int)).toNat = 1 from rfl] at hx416_0)
     have hn416_0 : ad413.block ≠ gb415 := Kd.own_blk (Kd.R_ne HO412.out BK415.out (by decide))
     have hn416_1 : ad413.block ≠ gb415 := Kd.own_blk (Kd.R_ne HO412.out BK415.out (by decide))
     have hn416_2 : ad413.block ≠ gb415 := Kd.own_blk (Kd.R_ne HO412.out BK415.out (by decide))
     replace hx416_0 := (cell_far (p := ⟨gb415, 0, none⟩) (by first | (rw [add_block]; exact hn416_0) | (show (Addr.add _ _).block ≠ _; rw [add_block]; exact hn416_0) | exact hn416_0) (.int .i64 t414)).trans hx416_0
     replace hx416_0 := (cell_far (p := ⟨gb415, 1, none⟩) (by first | (rw [add_block]; exact hn416_1) | (show (Addr.add _ _).block ≠ _; rw [add_block]; exact hn416_1) | exact hn416_1) (.int .i64 0)).trans hx416_0
     replace hx416_0 := (cell_far (p := ⟨gb415, 2, none⟩) (by first | (rw [add_block]; exact hn416_2) | (show (Addr.add _ _).block ≠ _; rw [add_block]; exact hn416_2) | exact hn416_2) (.int .i64 0)).trans hx416_0
     clear hn416_0
     clear hn416_1
     clear hn416_2
     replace p416 := eq_true p416
     replace q416 := eq_true q416
     go_wp2_with (first | (refine zg 40 (some 21) Tryd.func40 #[.string (rdOf ByteArray.empty t410 1)] ?_; (with_reducible refine (strconv_Atoi.calls (rdOf ByteArray.empty t410 1) t417 t418 _ ?sideT A17.out).mono ?_); (case sideT => exact TabR.below HT.out (q18 HB.out GE409.out GE415.out)); rintro e w18 ⟨er_, rfl, hb⟩; refine ⟨_, rfl, ?_⟩; replace HO412:=zM (Kd.R_below (by (with_reducible repeat (first | apply Kd.R_alloc | apply Kd.R_drewN | apply Kd.R_drew)); exact (Kd.R_mono (Kd.R_far (p := ⟨gb415, 2, none⟩) (Kd.R_far (p := ⟨gb415, 1, none⟩) (Kd.R_far (p := ⟨gb415, 0, none⟩) (Kd.R_types HO412.out BK415.out (by decide)) (fun _ hk => hk.2) (.int .i64 t414)) (fun _ hk => hk.2) (.int .i64 0)) (fun _ hk => hk.2) (.int .i64 0)) (fun _ h_ => h_.1))) hb); replace BK409:=zM (blk_below (g := gb409) (o := .cells #[.int .i64 0, .int .i64 0, .int .i64 0] 25 (0, 0)) (by refine blk_far ?_ NB409_415.out _; refine blk_far ?_ NB409_415.out _; refine blk_far ?_ NB409_415.out _; exact BK409.out) hb); replace BK415:=zM (blk_below (g := gb415) (o := .cells #[.int .i64 t414, .int .i64 0, .int .i64 0] 25 (0, 0)) (by refine blk_put (cs := #[.int .i64 t414, .int .i64 0, .int .i64 0]) ?_ 2 _ rfl; refine blk_put (cs := #[.int .i64 t414, .int .i64 0, .int .i64 0]) ?_ 1 _ rfl; refine blk_put (cs := #[.int .i64 0, .int .i64 0, .int .i64 0]) ?_ 0 _ rfl; exact BK415.out) hb); replace HB:=zM (below_step (q18 HB.out GE409.out GE415.out) hb); (try clear hb); (try clear hb2); (try clear hk); (try clear hi); (try simp only [errW_none, errW_some]); have hnb19 := NB415_409.out; have hnc19 := NB409_415.out; have hcz20_0 : w18.cell? ⟨gb415, 0, none⟩ = some (.int .i64 t414) := (blk_cell BK415.out 0).trans rfl; have hcz20_1 : w18.cell? ⟨gb415, 1, none⟩ = some (.int .i64 0) := (blk_cell BK415.out 1).trans rfl; have hcz20_2 : w18.cell? ⟨gb415, 2, none⟩ = some (.int .i64 0) := (blk_cell BK415.out 2).trans rfl; have hfz20_0 := blk_frozen BK415.out 0; have hfz20_1 := blk_frozen BK415.out 1; have hfz20_2 := blk_frozen BK415.out 2))
     go_meet
     case rel => exact ⟨_, (t417), H', ⟨by first | omega | exact Nat.le_refl _⟩, ⟨by (with_reducible repeat (first | apply Kd.R_alloc | apply Kd.R_drewN | apply Kd.R_drew)); exact Kd.R_mono (Kd.R_far (p := ⟨gb415, 1, none⟩) (Kd.R_types HO412.out BK415.out (by decide)) (fun _ hk => hk.2) (.int .i64 t417)) (fun _ hk => trivial)⟩, ⟨by refine blk_far ?_ NB409_415.out _; exact BK409.out⟩, ⟨by refine blk_put (cs := #[.int .i64 t414, .int .i64 0, .int .i64 0]) ?_ 1 _ rfl; exact BK415.out⟩, ⟨(q18 HB.out GE409.out GE415.out)⟩⟩
    ·rw [if_neg c16] at H
     exact absurd H (by simp)
   ·rw [if_neg c15] at H
    have c15b0 : decide (1 < (t410.length : Int)) = false := decide_eq_false c15
    have c15b1 : decide (1 < t410.length) = false := decide_eq_false (by omega)
    clear c15
    (first | rw [c15b0] | (simp only [i64_w, i32_w]; rw [c15b0]) | skip)
    have H':=zM H
    clear H
    go_wp2
    go_meet
    case rel => exact ⟨_, (0), H', ⟨by first | omega | exact Nat.le_refl _⟩, ⟨by (with_reducible repeat (first | apply Kd.R_alloc | apply Kd.R_drewN | apply Kd.R_drew)); exact Kd.R_mono (Kd.R_far (p := ⟨gb415, 2, none⟩) (Kd.R_far (p := ⟨gb415, 1, none⟩) (Kd.R_far (p := ⟨gb415, 0, none⟩) (Kd.R_types HO412.out BK415.out (by decide)) (fun _ hk => hk.2) (.int .i64 t414)) (fun _ hk => hk.2) (.int .i64 0)) (fun _ hk => hk.2) (.int .i64 0)) (fun _ hk => trivial)⟩, ⟨by refine blk_far ?_ NB409_415.out _; refine blk_far ?_ NB409_415.out _; refine blk_far ?_ NB409_415.out _; exact BK409.out⟩, ⟨by refine blk_put (cs := #[.int .i64 t414, .int .i64 0, .int .i64 0]) ?_ 2 _ rfl; refine blk_put (cs := #[.int .i64 t414, .int .i64 0, .int .i64 0]) ?_ 1 _ rfl; refine blk_put (cs := #[.int .i64 0, .int .i64 0, .int .i64 0]) ?_ 0 _ rfl; exact BK415.out⟩, ⟨(q18 HB.out GE409.out GE415.out)⟩⟩
  case rest =>
   clear HC5
   try clear c1
   try clear p2
   try clear c3
   try clear c3b0
   try clear c3b1
   try clear c4
   try clear p4
   try clear q4
   try clear hx4
   try clear qi4
   try clear c15
   try clear c15b0
   try clear c15b1
   try clear c16
   try clear c16b0
   try clear c16b1
   try clear c19
   try clear hcz20_0
   try clear hcz20_1
   try clear hcz20_2
   try clear hfz20_0
   try clear hfz20_1
   try clear hfz20_2
   try clear hx413_0
   try clear hx416_0
   try clear p413
   try clear p416
   try clear q413
   try clear q416
   obtain ⟨kq, x416001_4, HA, HJ4, HO_4, BK409, BK415, HB⟩ := hcut
   cases kq with
   | zero => exact absurd HA.out (by simp [impl_ReadDeed.j0])
   | succ kj4 =>
    have H := HA.out
    clear HA
    simp only [impl_ReadDeed.j0] at H
    by_cases c21 : (t410.length : Int) > 2
    ·rw [if_pos c21] at H
     have c21b0 : decide (2 < (t410.length : Int)) = true := decide_eq_true c21
     have c21b1 : decide (2 < t410.length) = true := decide_eq_true (by omega)
     clear c21
     by_cases c22 : 2 < (t410.length : Int)
     ·rw [if_pos c22] at H
      have c22b0 : decide (2 < (t410.length : Int)) = true := decide_eq_true c22
      have c22b1 : decide (2 < t410.length) = true := decide_eq_true (by omega)
      clear c22
      obtain ⟨⟨t420, t421⟩, A23, H⟩ := zb H; try dsimp only at H
      by_cases c24 : a0.toList = ([] : List UInt8)
      ·rw [if_pos c24] at H
       have c24b0 : (a0.toList == ([] : List UInt8)) = true := beq_iff_eq.mpr c24
       have c24b1 : (a0.toList != ([] : List UInt8)) = false := bne_eq_false_iff_eq.mpr c24
       clear c24
       simp only [Option.some.injEq, Prod.mk.injEq] at H
       obtain ⟨rfl, rfl, rfl, rfl⟩ := H
       have p419 : 0 ≤ (2 : Int) := (by omega)
       have q419 : 2 < (t410.length : Int) := of_decide_eq_true (by first | (with_reducible assumption) | assumption)
       obtain ⟨ad419, e419, hx419_0⟩ := Kd.at_string (Kd.R_reads' HO_4.out).2.2 2 p419 q419
       obtain rfl : ad413 = ad419 := (by injection e419)
       (try simp only [show (2 : Int).toNat = 2 from rfl, Nat.reduceMul, Nat.reduceEqDiff, Go.Addr.add, ↓reduceIte] at hx419_0)
       have qi419 : (2 < t410.length) = True := eq_true (by omega)
       (try rw [show ((2 : Int)).toNat = 2 from rfl] at hx419_0)
       replace p419 := eq_true p419
       replace q419 := eq_true q419
       go_wp2_with (first | (refine zg 40 (some 32) Tryd.func40 #[.string (rdOf ByteArray.empty t410 2)] ?_; (with_reducible refine (strconv_Atoi.calls (rdOf ByteArray.empty t410 2) t420 t421 _ ?sideT A23.out).mono ?_); (case sideT => exact TabR.below HT.out (q18 HB.out GE409.out GE415.out)); rintro e w25 ⟨er_, rfl, hb⟩; refine ⟨_, rfl, ?_⟩; replace HO_4:=zM (Kd.R_below (q3 HO_4.out) hb); replace BK409:=zM (blk_below (g := gb409) (o := .cells #[.int .i64 0, .int .i64 0, .int .i64 0] 25 (0, 0)) (q5 BK409.out) hb); replace BK415:=zM (blk_below (g := gb415) (o := .cells #[.int .i64 t414, .int .i64 x416001_4, .int .i64 0] 25 (0, 0)) (q5 BK415.out) hb); replace HB:=zM (below_step (q18 HB.out GE409.out GE415.out) hb); (try clear hb); (try clear hb2); (try clear hk); (try clear hi); (try simp only [errW_none, errW_some]); have hnb26 := NB415_409.out; have hnc26 := NB409_415.out; have hcz27_0 : w25.cell? ⟨gb415, 0, none⟩ = some (.int .i64 t414) := (blk_cell BK415.out 0).trans rfl; have hcz27_1 : w25.cell? ⟨gb415, 1, none⟩ = some (.int .i64 x416001_4) := (blk_cell BK415.out 1).trans rfl; have hcz27_2 : w25.cell? ⟨gb415, 2, none⟩ = some (.int .i64 0) := (blk_cell BK415.out 2).trans rfl; have hfz27_0 := blk_frozen BK415.out 0; have hfz27_1 := blk_frozen BK415.out 1; have hfz27_2 := blk_frozen BK415.out 2; have hcz28_0 : w25.cell? ⟨gb409, 0, none⟩ = some (.int .i64 0) := (blk_cell BK409.out 0).trans rfl; have hcz28_1 : w25.cell? ⟨gb409, 1, none⟩ = some (.int .i64 0) := (blk_cell BK409.out 1).trans rfl; have hcz28_2 : w25.cell? ⟨gb409, 2, none⟩ = some (.int .i64 0) := (blk_cell BK409.out 2).trans rfl; have hfz28_0 := blk_frozen BK409.out 0; have hfz28_1 := blk_frozen BK409.out 1; have hfz28_2 := blk_frozen BK409.out 2))
       refine bodyPost_ret (results_ct rfl _ _ gb409 25 #[.int .i64 0, .int .i64 0, .int .i64 0] (0, 0) _ rfl (by refine blk_put (cs := #[.int .i64 0, .int .i64 0, .int .i64 0]) ?_ 2 _ rfl; refine blk_put (cs := #[.int .i64 0, .int .i64 0, .int .i64 0]) ?_ 1 _ rfl; refine blk_put (cs := #[.int .i64 0, .int .i64 0, .int .i64 0]) ?_ 0 _ rfl; refine blk_far ?_ NB409_415.out _; exact BK409.out) Tryd.underlying25 rfl (by kernel_rfl)) rfl ?_
       exact ⟨by first | rfl | (simp [errW_none, errW_some] <;> rfl) | (simp [*, errW_none, errW_some] <;> rfl), (q18 HB.out GE409.out GE415.out)⟩
      ·rw [if_neg c24] at H
       have c24b0 : (a0.toList == ([] : List UInt8)) = false := beq_eq_false_iff_ne.mpr c24
       have c24b1 : (a0.toList != ([] : List UInt8)) = true := bne_iff_ne.mpr c24
       obtain ⟨t422, A29, H⟩ := zb H; try dsimp only at H
       by_cases c30 : t422.toList = a0.toList
       ·rw [if_pos c30] at H
        have c30b0 : (t422.toList == a0.toList) = true := beq_iff_eq.mpr c30
        have c30b1 : (t422.toList != a0.toList) = false := bne_eq_false_iff_eq.mpr c30
        clear c30
        simp only [Option.some.injEq, Prod.mk.injEq] at H
        obtain ⟨rfl, rfl, rfl, rfl⟩ := H
        have p419 : 0 ≤ (2 : Int) := (by omega)
        have q419 : 2 < (t410.length : Int) := of_decide_eq_true (by first | (with_reducible assumption) | assumption)
        obtain ⟨ad419, e419, hx419_0⟩ := Kd.at_string (Kd.R_reads' HO_4.out).2.2 2 p419 q419
        obtain rfl : ad413 = ad419 := (by injection e419)
        (try simp only [show (2 : Int).toNat = 2 from rfl, Nat.reduceMul, Nat.reduceEqDiff, Go.Addr.add, ↓reduceIte] at hx419_0)
        have qi419 : (2 < t410.length) = True := eq_true (by omega)
        (try rw [show ((2 : Int)).toNat = 2 from rfl] at hx419_0)
        replace p419 := eq_true p419
        replace q419 := eq_true q419
        go_wp2_with (first | (refine zg 40 (some 32) Tryd.func40 #[.string (rdOf ByteArray.empty t410 2)] ?_; (with_reducible refine (strconv_Atoi.calls (rdOf ByteArray.empty t410 2) t420 t421 _ ?sideT A23.out).mono ?_); (case sideT => exact TabR.below HT.out (q18 HB.out GE409.out GE415.out)); rintro e w31 ⟨er_, rfl, hb⟩; refine ⟨_, rfl, ?_⟩; replace HO_4:=zM (Kd.R_below (q3 HO_4.out) hb); replace BK409:=zM (blk_below (g := gb409) (o := .cells #[.int .i64 0, .int .i64 0, .int .i64 0] 25 (0, 0)) (q5 BK409.out) hb); replace BK415:=zM (blk_below (g := gb415) (o := .cells #[.int .i64 t414, .int .i64 x416001_4, .int .i64 0] 25 (0, 0)) (q5 BK415.out) hb); replace HB:=zM (below_step (q18 HB.out GE409.out GE415.out) hb); (try clear hb); (try clear hb2); (try clear hk); (try clear hi); (try simp only [errW_none, errW_some]); have hnb32 := NB415_409.out; have hnc32 := NB409_415.out; have hcz33_0 : w31.cell? ⟨gb415, 0, none⟩ = some (.int .i64 t414) := (blk_cell BK415.out 0).trans rfl; have hcz33_1 : w31.cell? ⟨gb415, 1, none⟩ = some (.int .i64 x416001_4) := (blk_cell BK415.out 1).trans rfl; have hcz33_2 : w31.cell? ⟨gb415, 2, none⟩ = some (.int .i64 0) := (blk_cell BK415.out 2).trans rfl; have hfz33_0 := blk_frozen BK415.out 0; have hfz33_1 := blk_frozen BK415.out 1; have hfz33_2 := blk_frozen BK415.out 2) | (go_at_call 12; (with_reducible refine (impl_DeedText.calls kj4 t414 x416001_4 t420 t422 _ ?sideT A29.out).mono ?_); (case sideT => exact TabR.below HT.out (q18 HB.out GE409.out GE415.out)); rintro e w34 ⟨rfl, hb⟩; replace HO_4:=zM (Kd.R_below (by (with_reducible repeat (first | apply Kd.R_alloc | apply Kd.R_drewN | apply Kd.R_drew)); exact (Kd.R_mono (Kd.R_far (p := ⟨gb415, 2, none⟩) (Kd.R_types HO_4.out BK415.out (by decide)) (fun _ hk => hk.2) (.int .i64 t420)) (fun _ h_ => h_.1))) hb); replace BK409:=zM (blk_below (g := gb409) (o := .cells #[.int .i64 0, .int .i64 0, .int .i64 0] 25 (0, 0)) (by refine blk_far ?_ NB409_415.out _; exact BK409.out) hb); replace BK415:=zM (blk_below (g := gb415) (o := .cells #[.int .i64 t414, .int .i64 x416001_4, .int .i64 t420] 25 (0, 0)) (by refine blk_put (cs := #[.int .i64 t414, .int .i64 x416001_4, .int .i64 0]) ?_ 2 _ rfl; exact BK415.out) hb); replace HB:=zM (below_step (q18 HB.out GE409.out GE415.out) hb); (try clear hb); (try clear hb2); (try clear hk); (try clear hi); have hcz35_0 : w34.cell? ⟨gb415, 0, none⟩ = some (.int .i64 t414) := (blk_cell BK415.out 0).trans rfl; have hcz35_1 : w34.cell? ⟨gb415, 1, none⟩ = some (.int .i64 x416001_4) := (blk_cell BK415.out 1).trans rfl; have hcz35_2 : w34.cell? ⟨gb415, 2, none⟩ = some (.int .i64 t420) := (blk_cell BK415.out 2).trans rfl; have hfz35_0 := blk_frozen BK415.out 0; have hfz35_1 := blk_frozen BK415.out 1; have hfz35_2 := blk_frozen BK415.out 2; have hcz36_0 : w34.cell? ⟨gb409, 0, none⟩ = some (.int .i64 0) := (blk_cell BK409.out 0).trans rfl; have hcz36_1 : w34.cell? ⟨gb409, 1, none⟩ = some (.int .i64 0) := (blk_cell BK409.out 1).trans rfl; have hcz36_2 : w34.cell? ⟨gb409, 2, none⟩ = some (.int .i64 0) := (blk_cell BK409.out 2).trans rfl; have hfz36_0 := blk_frozen BK409.out 0; have hfz36_1 := blk_frozen BK409.out 1; have hfz36_2 := blk_frozen BK409.out 2))
        refine bodyPost_ret (results_ct rfl _ _ gb409 25 #[.int .i64 t414, .int .i64 x416001_4, .int .i64 t420] (0, 0) _ rfl (by refine blk_put (cs := #[.int .i64 t414, .int .i64 x416001_4, .int .i64 0]) ?_ 2 _ rfl; refine blk_put (cs := #[.int .i64 t414, .int .i64 0, .int .i64 0]) ?_ 1 _ rfl; refine blk_put (cs := #[.int .i64 0, .int .i64 0, .int .i64 0]) ?_ 0 _ rfl; exact BK409.out) Tryd.underlying25 rfl (by kernel_rfl)) rfl ?_
        exact ⟨by first | rfl | (simp [errW_none, errW_some] <;> rfl) | (simp [*, errW_none, errW_some] <;> rfl), (q18 HB.out GE409.out GE415.out)⟩
       ·rw [if_neg c30] at H
        have c30b0 : (t422.toList == a0.toList) = false := beq_eq_false_iff_ne.mpr c30
        have c30b1 : (t422.toList != a0.toList) = true := bne_iff_ne.mpr c30
        simp only [Option.some.injEq, Prod.mk.injEq] at H
        obtain ⟨rfl, rfl, rfl, rfl⟩ := H
        have p419 : 0 ≤ (2 : Int) := (by omega)
        have q419 : 2 < (t410.length : Int) := of_decide_eq_true (by first | (with_reducible assumption) | assumption)
        obtain ⟨ad419, e419, hx419_0⟩ := Kd.at_string (Kd.R_reads' HO_4.out).2.2 2 p419 q419
        obtain rfl : ad413 = ad419 := (by injection e419)
        (try simp only [show (2 : Int).toNat = 2 from rfl, Nat.reduceMul, Nat.reduceEqDiff, Go.Addr.add, ↓reduceIte] at hx419_0)
        have qi419 : (2 < t410.length) = True := eq_true (by omega)
        (try rw [show ((2 : Int)).toNat = 2 from rfl] at hx419_0)
        replace p419 := eq_true p419
        replace q419 := eq_true q419
        go_wp2_with (first | (refine zg 40 (some 32) Tryd.func40 #[.string (rdOf ByteArray.empty t410 2)] ?_; (with_reducible refine (strconv_Atoi.calls (rdOf ByteArray.empty t410 2) t420 t421 _ ?sideT A23.out).mono ?_); (case sideT => exact TabR.below HT.out (q18 HB.out GE409.out GE415.out)); rintro e w37 ⟨er_, rfl, hb⟩; refine ⟨_, rfl, ?_⟩; replace HO_4:=zM (Kd.R_below (q3 HO_4.out) hb); replace BK409:=zM (blk_below (g := gb409) (o := .cells #[.int .i64 0, .int .i64 0, .int .i64 0] 25 (0, 0)) (q5 BK409.out) hb); replace BK415:=zM (blk_below (g := gb415) (o := .cells #[.int .i64 t414, .int .i64 x416001_4, .int .i64 0] 25 (0, 0)) (q5 BK415.out) hb); replace HB:=zM (below_step (q18 HB.out GE409.out GE415.out) hb); (try clear hb); (try clear hb2); (try clear hk); (try clear hi); (try simp only [errW_none, errW_some]); have hnb38 := NB415_409.out; have hnc38 := NB409_415.out; have hcz39_0 : w37.cell? ⟨gb415, 0, none⟩ = some (.int .i64 t414) := (blk_cell BK415.out 0).trans rfl; have hcz39_1 : w37.cell? ⟨gb415, 1, none⟩ = some (.int .i64 x416001_4) := (blk_cell BK415.out 1).trans rfl; have hcz39_2 : w37.cell? ⟨gb415, 2, none⟩ = some (.int .i64 0) := (blk_cell BK415.out 2).trans rfl; have hfz39_0 := blk_frozen BK415.out 0; have hfz39_1 := blk_frozen BK415.out 1; have hfz39_2 := blk_frozen BK415.out 2) | (go_at_call 12; (with_reducible refine (impl_DeedText.calls kj4 t414 x416001_4 t420 t422 _ ?sideT A29.out).mono ?_); (case sideT => exact TabR.below HT.out (q18 HB.out GE409.out GE415.out)); rintro e w40 ⟨rfl, hb⟩; replace HO_4:=zM (Kd.R_below (by (with_reducible repeat (first | apply Kd.R_alloc | apply Kd.R_drewN | apply Kd.R_drew)); exact (Kd.R_mono (Kd.R_far (p := ⟨gb415, 2, none⟩) (Kd.R_types HO_4.out BK415.out (by decide)) (fun _ hk => hk.2) (.int .i64 t420)) (fun _ h_ => h_.1))) hb); replace BK409:=zM (blk_below (g := gb409) (o := .cells #[.int .i64 0, .int .i64 0, .int .i64 0] 25 (0, 0)) (by refine blk_far ?_ NB409_415.out _; exact BK409.out) hb); replace BK415:=zM (blk_below (g := gb415) (o := .cells #[.int .i64 t414, .int .i64 x416001_4, .int .i64 t420] 25 (0, 0)) (by refine blk_put (cs := #[.int .i64 t414, .int .i64 x416001_4, .int .i64 0]) ?_ 2 _ rfl; exact BK415.out) hb); replace HB:=zM (below_step (q18 HB.out GE409.out GE415.out) hb); (try clear hb); (try clear hb2); (try clear hk); (try clear hi); have hcz41_0 : w40.cell? ⟨gb409, 0, none⟩ = some (.int .i64 0) := (blk_cell BK409.out 0).trans rfl; have hcz41_1 : w40.cell? ⟨gb409, 1, none⟩ = some (.int .i64 0) := (blk_cell BK409.out 1).trans rfl; have hcz41_2 : w40.cell? ⟨gb409, 2, none⟩ = some (.int .i64 0) := (blk_cell BK409.out 2).trans rfl; have hfz41_0 := blk_frozen BK409.out 0; have hfz41_1 := blk_frozen BK409.out 1; have hfz41_2 := blk_frozen BK409.out 2))
        refine bodyPost_ret (results_ct rfl _ _ gb409 25 #[.int .i64 0, .int .i64 0, .int .i64 0] (0, 0) _ rfl (by refine blk_put (cs := #[.int .i64 0, .int .i64 0, .int .i64 0]) ?_ 2 _ rfl; refine blk_put (cs := #[.int .i64 0, .int .i64 0, .int .i64 0]) ?_ 1 _ rfl; refine blk_put (cs := #[.int .i64 0, .int .i64 0, .int .i64 0]) ?_ 0 _ rfl; exact BK409.out) Tryd.underlying25 rfl (by kernel_rfl)) rfl ?_
        exact ⟨by first | rfl | (simp [errW_none, errW_some] <;> rfl) | (simp [*, errW_none, errW_some] <;> rfl), (q18 HB.out GE409.out GE415.out)⟩
     ·rw [if_neg c22] at H
      exact absurd H (by simp)
    ·rw [if_neg c21] at H
     have c21b0 : decide (2 < (t410.length : Int)) = false := decide_eq_false c21
     have c21b1 : decide (2 < t410.length) = false := decide_eq_false (by omega)
     clear c21
     by_cases c42 : a0.toList = ([] : List UInt8)
     ·rw [if_pos c42] at H
      have c42b0 : (a0.toList == ([] : List UInt8)) = true := beq_iff_eq.mpr c42
      have c42b1 : (a0.toList != ([] : List UInt8)) = false := bne_eq_false_iff_eq.mpr c42
      clear c42
      simp only [Option.some.injEq, Prod.mk.injEq] at H
      obtain ⟨rfl, rfl, rfl, rfl⟩ := H
      have hnb43 := NB409_415.out
      have hnc43 := NB415_409.out
      have hcz44_0 : wc.cell? ⟨gb409, 0, none⟩ = some (.int .i64 0) := (blk_cell BK409.out 0).trans rfl
      have hcz44_1 : wc.cell? ⟨gb409, 1, none⟩ = some (.int .i64 0) := (blk_cell BK409.out 1).trans rfl
      have hcz44_2 : wc.cell? ⟨gb409, 2, none⟩ = some (.int .i64 0) := (blk_cell BK409.out 2).trans rfl
      have hfz44_0 := blk_frozen BK409.out 0
      have hfz44_1 := blk_frozen BK409.out 1
      have hfz44_2 := blk_frozen BK409.out 2
      go_wp2
      refine bodyPost_ret (results_ct rfl _ _ gb409 25 #[.int .i64 0, .int .i64 0, .int .i64 0] (0, 0) _ rfl (by refine blk_put (cs := #[.int .i64 0, .int .i64 0, .int .i64 0]) ?_ 2 _ rfl; refine blk_put (cs := #[.int .i64 0, .int .i64 0, .int .i64 0]) ?_ 1 _ rfl; refine blk_put (cs := #[.int .i64 0, .int .i64 0, .int .i64 0]) ?_ 0 _ rfl; exact BK409.out) Tryd.underlying25 rfl (by kernel_rfl)) rfl ?_
      exact ⟨by first | rfl | (simp [errW_none, errW_some] <;> rfl) | (simp [*, errW_none, errW_some] <;> rfl), (q18 HB.out GE409.out GE415.out)⟩
     ·rw [if_neg c42] at H
      have c42b0 : (a0.toList == ([] : List UInt8)) = false := beq_eq_false_iff_ne.mpr c42
      have c42b1 : (a0.toList != ([] : List UInt8)) = true := bne_iff_ne.mpr c42
      obtain ⟨t423, A45, H⟩ := zb H; try dsimp only at H
      by_cases c46 : t423.toList = a0.toList
      ·rw [if_pos c46] at H
       have c46b0 : (t423.toList == a0.toList) = true := beq_iff_eq.mpr c46
       have c46b1 : (t423.toList != a0.toList) = false := bne_eq_false_iff_eq.mpr c46
       clear c46
       simp only [Option.some.injEq, Prod.mk.injEq] at H
       obtain ⟨rfl, rfl, rfl, rfl⟩ := H
       have hnb47 := NB415_409.out
       have hnc47 := NB409_415.out
       have hcz48_0 : wc.cell? ⟨gb415, 0, none⟩ = some (.int .i64 t414) := (blk_cell BK415.out 0).trans rfl
       have hcz48_1 : wc.cell? ⟨gb415, 1, none⟩ = some (.int .i64 x416001_4) := (blk_cell BK415.out 1).trans rfl
       have hcz48_2 : wc.cell? ⟨gb415, 2, none⟩ = some (.int .i64 0) := (blk_cell BK415.out 2).trans rfl
       have hfz48_0 := blk_frozen BK415.out 0
       have hfz48_1 := blk_frozen BK415.out 1
       have hfz48_2 := blk_frozen BK415.out 2
       go_wp2_with (first | (go_at_call 12; (with_reducible refine (impl_DeedText.calls kj4 t414 x416001_4 0 t423 _ ?sideT A45.out).mono ?_); (case sideT => exact TabR.below HT.out (q18 HB.out GE409.out GE415.out)); rintro e w49 ⟨rfl, hb⟩; replace HO_4:=zM (Kd.R_below (q3 HO_4.out) hb); replace BK409:=zM (blk_below (g := gb409) (o := .cells #[.int .i64 0, .int .i64 0, .int .i64 0] 25 (0, 0)) (q5 BK409.out) hb); replace BK415:=zM (blk_below (g := gb415) (o := .cells #[.int .i64 t414, .int .i64 x416001_4, .int .i64 0] 25 (0, 0)) (q5 BK415.out) hb); replace HB:=zM (below_step (q18 HB.out GE409.out GE415.out) hb); (try clear hb); (try clear hb2); (try clear hk); (try clear hi); have hcz50_0 : w49.cell? ⟨gb415, 0, none⟩ = some (.int .i64 t414) := (blk_cell BK415.out 0).trans rfl; have hcz50_1 : w49.cell? ⟨gb415, 1, none⟩ = some (.int .i64 x416001_4) := (blk_cell BK415.out 1).trans rfl; have hcz50_2 : w49.cell? ⟨gb415, 2, none⟩ = some (.int .i64 0) := (blk_cell BK415.out 2).trans rfl; have hfz50_0 := blk_frozen BK415.out 0; have hfz50_1 := blk_frozen BK415.out 1; have hfz50_2 := blk_frozen BK415.out 2; have hcz51_0 : w49.cell? ⟨gb409, 0, none⟩ = some (.int .i64 0) := (blk_cell BK409.out 0).trans rfl; have hcz51_1 : w49.cell? ⟨gb409, 1, none⟩ = some (.int .i64 0) := (blk_cell BK409.out 1).trans rfl; have hcz51_2 : w49.cell? ⟨gb409, 2, none⟩ = some (.int .i64 0) := (blk_cell BK409.out 2).trans rfl; have hfz51_0 := blk_frozen BK409.out 0; have hfz51_1 := blk_frozen BK409.out 1; have hfz51_2 := blk_frozen BK409.out 2))
       refine bodyPost_ret (results_ct rfl _ _ gb409 25 #[.int .i64 t414, .int .i64 x416001_4, .int .i64 0] (0, 0) _ rfl (by refine blk_put (cs := #[.int .i64 t414, .int .i64 x416001_4, .int .i64 0]) ?_ 2 _ rfl; refine blk_put (cs := #[.int .i64 t414, .int .i64 0, .int .i64 0]) ?_ 1 _ rfl; refine blk_put (cs := #[.int .i64 0, .int .i64 0, .int .i64 0]) ?_ 0 _ rfl; exact BK409.out) Tryd.underlying25 rfl (by kernel_rfl)) rfl ?_
       exact ⟨by first | rfl | (simp [errW_none, errW_some] <;> rfl) | (simp [*, errW_none, errW_some] <;> rfl), (q18 HB.out GE409.out GE415.out)⟩
      ·rw [if_neg c46] at H
       have c46b0 : (t423.toList == a0.toList) = false := beq_eq_false_iff_ne.mpr c46
       have c46b1 : (t423.toList != a0.toList) = true := bne_iff_ne.mpr c46
       simp only [Option.some.injEq, Prod.mk.injEq] at H
       obtain ⟨rfl, rfl, rfl, rfl⟩ := H
       have hnb52 := NB415_409.out
       have hnc52 := NB409_415.out
       have hcz53_0 : wc.cell? ⟨gb415, 0, none⟩ = some (.int .i64 t414) := (blk_cell BK415.out 0).trans rfl
       have hcz53_1 : wc.cell? ⟨gb415, 1, none⟩ = some (.int .i64 x416001_4) := (blk_cell BK415.out 1).trans rfl
       have hcz53_2 : wc.cell? ⟨gb415, 2, none⟩ = some (.int .i64 0) := (blk_cell BK415.out 2).trans rfl
       have hfz53_0 := blk_frozen BK415.out 0
       have hfz53_1 := blk_frozen BK415.out 1
       have hfz53_2 := blk_frozen BK415.out 2
       go_wp2_with (first | (go_at_call 12; (with_reducible refine (impl_DeedText.calls kj4 t414 x416001_4 0 t423 _ ?sideT A45.out).mono ?_); (case sideT => exact TabR.below HT.out (q18 HB.out GE409.out GE415.out)); rintro e w54 ⟨rfl, hb⟩; replace HO_4:=zM (Kd.R_below (q3 HO_4.out) hb); replace BK409:=zM (blk_below (g := gb409) (o := .cells #[.int .i64 0, .int .i64 0, .int .i64 0] 25 (0, 0)) (q5 BK409.out) hb); replace BK415:=zM (blk_below (g := gb415) (o := .cells #[.int .i64 t414, .int .i64 x416001_4, .int .i64 0] 25 (0, 0)) (q5 BK415.out) hb); replace HB:=zM (below_step (q18 HB.out GE409.out GE415.out) hb); (try clear hb); (try clear hb2); (try clear hk); (try clear hi); have hcz55_0 : w54.cell? ⟨gb409, 0, none⟩ = some (.int .i64 0) := (blk_cell BK409.out 0).trans rfl; have hcz55_1 : w54.cell? ⟨gb409, 1, none⟩ = some (.int .i64 0) := (blk_cell BK409.out 1).trans rfl; have hcz55_2 : w54.cell? ⟨gb409, 2, none⟩ = some (.int .i64 0) := (blk_cell BK409.out 2).trans rfl; have hfz55_0 := blk_frozen BK409.out 0; have hfz55_1 := blk_frozen BK409.out 1; have hfz55_2 := blk_frozen BK409.out 2))
       refine bodyPost_ret (results_ct rfl _ _ gb409 25 #[.int .i64 0, .int .i64 0, .int .i64 0] (0, 0) _ rfl (by refine blk_put (cs := #[.int .i64 0, .int .i64 0, .int .i64 0]) ?_ 2 _ rfl; refine blk_put (cs := #[.int .i64 0, .int .i64 0, .int .i64 0]) ?_ 1 _ rfl; refine blk_put (cs := #[.int .i64 0, .int .i64 0, .int .i64 0]) ?_ 0 _ rfl; exact BK409.out) Tryd.underlying25 rfl (by kernel_rfl)) rfl ?_
       exact ⟨by first | rfl | (simp [errW_none, errW_some] <;> rfl) | (simp [*, errW_none, errW_some] <;> rfl), (q18 HB.out GE409.out GE415.out)⟩
 ·rw [if_neg c3] at H
  exact absurd H (by simp)

/-! ### strings_Cut: function 47, told by hand -/
def strings_Cut.ren : Go.Shelf.Ren := { f := fun x => if x = 145 then 47 else if x = 217 then 83 else if x = 219 then 72 else if x = 220 then 60 else if x = 224 then 85 else if x = 225 then 84 else if x = 266 then 95 else if x = 267 then 86 else if x = 314 then 96 else 0, t := fun x => if x = 3 then 3 else if x = 4 then 4 else if x = 5 then 5 else if x = 9 then 9 else if x = 46 then 102 else if x = 51 then 109 else if x = 59 then 69 else if x = 146 then 117 else 0, g := fun x => if x = 1 then 3 else 0 }
theorem strings_Cut.lays : Lays.n145 Tryd.prog strings_Cut.ren := {
 mixed := by kernel_rfl
 f145 := by kernel_rfl
 f217 := by kernel_rfl
 f219 := by kernel_rfl
 f220 := by kernel_rfl
 f224 := by kernel_rfl
 f225 := by kernel_rfl
 f266 := by kernel_rfl
 f267 := by kernel_rfl
 f314 := by kernel_rfl
 t3 := by kernel_rfl
 a3 := fun _ => by kernel_rfl
 z3 := fun _ => by kernel_rfl
 v3 := fun _ => by kernel_rfl
 t4 := by kernel_rfl
 a4 := fun _ => by kernel_rfl
 z4 := fun _ => by kernel_rfl
 v4 := fun _ => by kernel_rfl
 t5 := by kernel_rfl
 a5 := fun _ => by kernel_rfl
 z5 := fun _ => by kernel_rfl
 v5 := fun _ => by kernel_rfl
 t9 := by kernel_rfl
 a9 := fun _ => by kernel_rfl
 z9 := fun _ => by kernel_rfl
 v9 := fun _ => by kernel_rfl
 t46 := by kernel_rfl
 a46 := fun _ => by kernel_rfl
 z46 := fun _ => by kernel_rfl
 v46 := fun _ => by kernel_rfl
 t51 := by kernel_rfl
 a51 := fun _ => by kernel_rfl
 z51 := fun _ => by kernel_rfl
 v51 := fun _ => by kernel_rfl
 t59 := by kernel_rfl
 a59 := fun _ => by kernel_rfl
 z59 := fun _ => by kernel_rfl
 v59 := fun _ => by kernel_rfl
 t146 := by kernel_rfl
 a146 := fun _ => by kernel_rfl
 z146 := fun _ => by kernel_rfl
 v146 := fun _ => by kernel_rfl
 g1 := by kernel_rfl }
def strings_Cut.f (a0 : ByteArray) (a1 : ByteArray) : Option (ByteArray × ByteArray × Bool) := if a0.size < 4294967281 then some (⟨(Lib.cut a0.data.toList a1.data.toList).1.toArray⟩, ⟨(Lib.cut a0.data.toList a1.data.toList).2.1.toArray⟩, (Lib.cut a0.data.toList a1.data.toList).2.2) else none
theorem strings_Cut.calls (a0 : ByteArray) (a1 : ByteArray) (r1 r2 : ByteArray) (r3 : Bool) (w : World) (hT : TabR w) (h : strings_Cut.f a0 a1 = some (r1, r2, r3)) :
  Calls Tryd.prog 47 #[.string a0, .string a1] w fun e w' => e = .returned (.tuple #[.string r1, .string r2, .bool r3]) ∧ Below w.heap.size w w' := by
 unfold strings_Cut.f at h
 by_cases hc : a0.size < 4294967281
 ·rw [if_pos hc] at h
  have h := Option.some.inj h
  simp only [Prod.mk.injEq] at h
  obtain ⟨rfl, rfl, rfl⟩ := h
  obtain ⟨m, hm⟩ := hT.2.1
  refine (Any.strings_Cut (ρ := strings_Cut.ren) strings_Cut.lays a0 a1 m w hc hm).mono ?_
  rintro e w' ⟨rfl, n, rfl⟩
  exact ⟨rfl, zA (Below.refl _ _) n⟩
 ·rw [if_neg hc] at h; cases h

/-! ### impl_Deed: function 48, told by hand -/
def impl_Deed.f (l0 : List S25) : Option (List S25) := some l0
set_option maxHeartbeats 8000000 in
theorem impl_Deed.calls (P0_ : Nat → Prop) (u9000_ : Value) (l0 : List S25) (r : List S25) (w0 w : World) (hB : Below w0.heap.size w0 w) (ho0 : Kd.R k25 25 w w0.heap.size P0_ u9000_ l0) (h : impl_Deed.f l0 = some r) :
  Calls Tryd.prog 48 #[u9000_] w fun e w' => ∃ v0_ : Value, e = .returned (v0_) ∧ Kd.R k25 25 w' w0.heap.size (fun k_ => (P0_ k_ ∨ w.heap.size ≤ k_)) v0_ r ∧ Below w0.heap.size w0 w' ∧ Kept w w' (fun k_ => P0_ k_) := by
 obtain rfl := Option.some.inj h
 obtain ⟨A, c, rfl, hc⟩ := ho0.2.slice_
 have HO:=zM ho0
 have HB:=zM hB
 clear ho0 hB h
 go_enter Tryd.func48, Tryd.ntmps48
 go_wp2
 go_ret
 exact ⟨_, rfl, Kd.R_clip (Kd.R_mono HO.out (fun _ h => .inl h)), HB.out, Kept.refl _ _⟩

/-! ### impl_ReadJournal: function 25 -/
def impl_ReadJournal.l0 : Nat → ByteArray → List (S25) → Int → Option ((List (S25)) × Int)
 | 0, _, _, _ => none
 | k + 1, x0, x4, x5 => if 0 ≤ x5 then (if x5 ≤ (x0.size : Int) then ((strings_Cut.f (x0.extract (x5 : Int).toNat x0.size) (⟨#[10]⟩ : ByteArray)).bind fun bt427 => ((impl_ReadDeed.f k bt427.1).bind fun bt430 => (if bt427.2.2 = true then (if bt430.2.2.2 = true then (if x4.length < 5864062014805 then (impl_ReadJournal.l0 k x0 (x4 ++ [(⟨bt430.1, bt430.2.1, bt430.2.2.1⟩ : S25)]) (wrap64 (x5 + (wrap64 ((bt427.1.size : Int) + 1))))) else (none)) else ((impl_Deed.f x4).bind fun t438 => (some (t438, x5)))) else ((impl_Deed.f x4).bind fun t441 => (some (t441, x5)))))) else (none)) else (none)
def impl_ReadJournal.f (k : Nat) (a0 : ByteArray) : Option ((List (S25)) × Int) := impl_ReadJournal.l0 k a0 (([] : List (S25))) 0
theorem impl_ReadJournal.mono_l : ∀ k, (∀ y0 y1 y2, LeO (impl_ReadJournal.l0 k y0 y1 y2) (impl_ReadJournal.l0 (k + 1) y0 y1 y2))
 | 0 => fun _ _ _ r h => by simp [impl_ReadJournal.l0] at h
 | k + 1 => by
  have ih0 := impl_ReadJournal.mono_l k
  ·intro y0 y1 y2
   unfold impl_ReadJournal.l0
   repeat' first
   | (with_reducible exact ih0 _ _ _)
   | (with_reducible exact impl_ReadDeed.mono _ _)
   | (with_reducible exact LeO.refl _)
   | (with_reducible exact LeO.none _)
   | (with_reducible refine LeO.ite ?_ ?_)
   | (with_reducible refine LeO.bind ?_ (fun _ => ?_))
   | refine LeO.ite ?_ ?_
   | refine LeO.bind ?_ (fun _ => ?_)
theorem impl_ReadJournal.mono : ∀ a0 k, LeO (impl_ReadJournal.f k a0) (impl_ReadJournal.f (k + 1) a0) := by
 intro a0 k
 have ih0 := impl_ReadJournal.mono_l k
 unfold impl_ReadJournal.f
 repeat' first
   | (with_reducible exact ih0 _ _ _)
   | (with_reducible exact impl_ReadDeed.mono _ _)
   | (with_reducible exact LeO.refl _)
   | (with_reducible exact LeO.none _)
   | (with_reducible refine LeO.ite ?_ ?_)
   | (with_reducible refine LeO.bind ?_ (fun _ => ?_))
   | refine LeO.ite ?_ ?_
   | refine LeO.bind ?_ (fun _ => ?_)
set_option maxHeartbeats 8000000 in
set_option maxRecDepth 100000 in
theorem impl_ReadJournal.calls (k : Nat) (a0 : ByteArray) (r1 : List (S25)) (r2 : Int) (w : World) (hT : TabR w) (h : impl_ReadJournal.f k a0 = some (r1, r2)) :
  Calls Tryd.prog 25 #[.string a0] w fun e w' => ∃ v0_ : Value, e = .returned (.tuple #[v0_, .int .i64 r2]) ∧ Kd.R k25 25 w' w.heap.size (fun _ => True) v0_ r1 ∧ Below w.heap.size w w' := by
 have hu25 := Tryd.underlying25
 have HB:=zM (Below.refl w.heap.size w)
 have HT:=zM hT
 clear hT
 have H : (impl_ReadJournal.l0 k a0 (([] : List (S25))) 0) = some (r1, r2) := h
 clear h
 obtain ⟨y424, hy424⟩ : ∃ y_ : List (S25), y_ = (([] : List (S25))) := ⟨_, rfl⟩
 replace H : (impl_ReadJournal.l0 k a0 y424 0) = some (r1, r2) := by first | (rw [hy424]; with_reducible exact H) | (have H2_ := (Option.bind_some _ _).symm.trans H; rw [hy424]; with_reducible exact H2_) | (have H2_ := (Option.bind_some _ _).symm.trans H; with_reducible exact H2_) | with_reducible exact H | (rw [hy424]; exact H) | exact H
 have Ny424:=zM hy424
 clear hy424
 have H':=zM H
 clear H
 go_enter Tryd.func25, Tryd.ntmps25
 go_wp2_with (first | ((with_reducible refine gate_dst (N := 11) rfl ?_); refine Kd.R_lit k25 _ 25 q0 (N := 11) q0 (xs := ([] : List (S25))) (inner := []) (ok := fun _ => True) (okp := fun _ => True) q1 ?hp (fun _ hk => hk) trivial (Below.refl _ _) (Nat.le_refl _) (by simp) ?_; (case hp => exact (Reps.none _ _)); intro v425 w2 ho3 hb hg_ hnew_; clear hg_ hnew_; (first | rw [← Ny424.out] at ho3 | (simp only [Int.reduceToNat] at ho3; rw [← Ny424.out] at ho3)); have HO426:=zM (Kd.R_lower ho3 (below_size (q2 HB.out))); replace HB:=zM (below_step (q2 HB.out) hb); clear hb ho3))
 go_loopg [4, 5] k (fun kq v4 v5 w' => ∃ (x4_1 : List (S25)) (x5_1 : Int), v5 = .int .i64 x5_1 ∧ Aside0 (impl_ReadJournal.l0 kq a0 x4_1 x5_1 = some (r1, r2)) ∧ Aside0 (kq ≤ k) ∧ Aside0 (Kd.R k25 25 w' w.heap.size (fun _ => True) v4 x4_1) ∧ Aside0 (Below w.heap.size w w'))
 case atStart => exact ⟨(y424), (0), (by first | rfl | (simp; done) | (simp [*]; done)), H', ⟨Nat.le_refl _⟩, ⟨by (with_reducible repeat (first | apply Kd.R_alloc | apply Kd.R_drewN | apply Kd.R_drew)); exact HO426.out⟩, ⟨(q2 HB.out)⟩⟩
 case round =>
  clear H'
  try clear c2
  try clear p2
  obtain ⟨x4_1, x5_1, rfl, HA, HK1, HO_4, HB⟩ := hrel
  cases gk with
  | zero => exact absurd HA.out (by simp [impl_ReadJournal.l0])
  | succ k1 =>
   have H := HA.out
   clear HA
   simp only [impl_ReadJournal.l0] at H
   by_cases c4 : 0 ≤ x5_1
   ·rw [if_pos c4] at H
    have c4b0 := eq_true c4
    have c4b1 : decide (0 ≤ x5_1) = true := decide_eq_true c4
    clear c4
    by_cases c5 : x5_1 ≤ (a0.size : Int)
    ·rw [if_pos c5] at H
     have c5b0 := eq_true c5
     have c5b1 : decide (x5_1 ≤ (a0.size : Int)) = true := decide_eq_true c5
     clear c5
     obtain ⟨⟨t427, t428, t429⟩, A6, H⟩ := zb H; try dsimp only at H
     obtain ⟨⟨t430, t431, t432, t433⟩, A7, H⟩ := zb H; try dsimp only at H
     by_cases c8 : t429 = true
     ·subst c8
      have H1 : (if t433 = true then (if x4_1.length < 5864062014805 then (impl_ReadJournal.l0 k1 a0 (x4_1 ++ [(⟨t430, t431, t432⟩ : S25)]) (wrap64 (x5_1 + (wrap64 ((t427.size : Int) + 1))))) else (none)) else ((impl_Deed.f x4_1).bind fun t438 => (some (t438, x5_1)))) = some (r1, r2) := by rw [if_pos rfl] at H; exact H
      clear H
      have H := H1
      clear H1
      by_cases c9 : t433 = true
      ·subst c9
       have H1 : (if x4_1.length < 5864062014805 then (impl_ReadJournal.l0 k1 a0 (x4_1 ++ [(⟨t430, t431, t432⟩ : S25)]) (wrap64 (x5_1 + (wrap64 ((t427.size : Int) + 1))))) else (none)) = some (r1, r2) := by rw [if_pos rfl] at H; exact H
       clear H
       have H := H1
       clear H1
       by_cases c10 : x4_1.length < 5864062014805
       ·rw [if_pos c10] at H
        have LMc10:=zM c10
        clear c10
        obtain ⟨y435, hy435⟩ : ∃ y_ : List (S25), y_ = (x4_1 ++ [(⟨t430, t431, t432⟩ : S25)]) := ⟨_, rfl⟩
        replace H : (impl_ReadJournal.l0 k1 a0 y435 (wrap64 (x5_1 + (wrap64 ((t427.size : Int) + 1))))) = some (r1, r2) := by first | (rw [hy435]; with_reducible exact H) | (have H2_ := (Option.bind_some _ _).symm.trans H; rw [hy435]; with_reducible exact H2_) | (have H2_ := (Option.bind_some _ _).symm.trans H; with_reducible exact H2_) | with_reducible exact H | (rw [hy435]; exact H) | exact H
        have Ny435:=zM hy435
        clear hy435
        have H':=zM H
        clear H
        go_wp2_with (first | (refine zg 47 (some 16) Tryd.func47 #[.string (a0.extract (x5_1 : Int).toNat a0.size), .string (⟨#[10]⟩ : ByteArray)] ?_; (with_reducible refine (strings_Cut.calls (a0.extract (x5_1 : Int).toNat a0.size) (⟨#[10]⟩ : ByteArray) t427 t428 true _ ?sideT A6.out).mono ?_); (case sideT => exact TabR.below HT.out (q2 HB.out)); rintro e w11 ⟨rfl, hb⟩; refine ⟨_, rfl, ?_⟩; replace HO_4:=zM (Kd.R_below (q3 HO_4.out) hb); replace HB:=zM (below_step (q2 HB.out) hb); (try clear hb); (try clear hb2); (try clear hk); (try clear hi)) | (refine zg 15 (some 22) Tryd.func15 #[.string t427] ?_; (with_reducible refine (impl_ReadDeed.calls k1 t427 t430 t431 t432 true _ ?sideT A7.out).mono ?_); (case sideT => exact TabR.below HT.out (q2 HB.out)); rintro e w12 ⟨rfl, hb⟩; refine ⟨_, rfl, ?_⟩; replace HO_4:=zM (Kd.R_below (q3 HO_4.out) hb); replace HB:=zM (below_step (q2 HB.out) hb); (try clear hb); (try clear hb2); (try clear hk); (try clear hi)) | ((with_reducible refine gate_dst (N := 9) rfl ?_); refine box_event q0 (N := 9) q0 (cs := #[.int .i64 0, .int .i64 0, .int .i64 0]) (t := 25) q1 ?_; intro gb434 hg w13 hbox hb; replace HO_4:=zM (Kd.R_below (Kd.R_elderB (q3 HO_4.out) gb434 (Nat.le_of_eq hg.symm)) hb); have BK434:=zM (hbox); have GW434:=zM ((by rw [hg]; exact (below_size (q2 HB.out)) : w.heap.size ≤ gb434)); have GE434:=zM ((by rw [hg]; exact (below_size (q2 HB.out)) : w.heap.size ≤ gb434)); replace HB:=zM (below_step (q2 HB.out) hb); clear hb hbox hg; have hcz14_0 : w13.cell? ⟨gb434, 0, none⟩ = some (.int .i64 0) := (blk_cell BK434.out 0).trans rfl; have hcz14_1 : w13.cell? ⟨gb434, 1, none⟩ = some (.int .i64 0) := (blk_cell BK434.out 1).trans rfl; have hcz14_2 : w13.cell? ⟨gb434, 2, none⟩ = some (.int .i64 0) := (blk_cell BK434.out 2).trans rfl; have hfz14_0 := blk_frozen BK434.out 0; have hfz14_1 := blk_frozen BK434.out 1; have hfz14_2 := blk_frozen BK434.out 2) | ((with_reducible refine gate_builtin (b := .append) (xs := #[.tmp 34, .tmp 36]) rfl ?_); at_builtin; refine Kd.R_append k25 (w0 := w) w.heap.size rfl (.tmp 34) (.tmp 36) 40 25 (.agg #[(.int .i64 0), (.int .i64 0), (.int .i64 0)]) 24 rfl Tryd.underlying40 info25 rfl (by decide) (by omega) u4 x4_1 (⟨t430, t431, t432⟩ : S25) [.int .i64 t430, .int .i64 t431, .int .i64 t432] (fun k_ => k_ ≠ gb434) (fun _ => False) rfl (by first | (go_simp; done) | (go_simp; rfl)) ?aP (fun _ hk => hk.elim) ?aF ?aO ?aB ?aS ?aL ?_; (case aP => exact k25_mkM _ _ _ (⟨t430, t431, t432⟩ : S25)); (case aB => exact (q4 HB.out GE434.out)); (case aF => exact (fun k_ hk => Kd.freshB (g := gb434) (o := .cells #[.int .i64 t430, .int .i64 t431, .int .i64 t432] 25 (0, 0)) (by refine blk_put (cs := #[.int .i64 t430, .int .i64 t431, .int .i64 0]) ?_ 2 _ rfl; refine blk_put (cs := #[.int .i64 t430, .int .i64 0, .int .i64 0]) ?_ 1 _ rfl; refine blk_put (cs := #[.int .i64 0, .int .i64 0, .int .i64 0]) ?_ 0 _ rfl; exact BK434.out) k_ hk)); (case aO => exact (by (with_reducible repeat (first | apply Kd.R_alloc | apply Kd.R_drewN | apply Kd.R_drew)); exact Kd.R_mono (Kd.R_far (p := ⟨gb434, 2, none⟩) (Kd.R_far (p := ⟨gb434, 1, none⟩) (Kd.R_far (p := ⟨gb434, 0, none⟩) (Kd.R_mono HO_4.out (fun k_ hk => (⟨hk, hk.2⟩ : _ ∧ k_ ≠ gb434))) (fun _ hk => hk.2) (.int .i64 t430)) (fun _ hk => hk.2) (.int .i64 t431)) (fun _ hk => hk.2) (.int .i64 t432)) (fun _ hk => hk.1.2))); (case aS => exact (below_size (q4 HB.out GE434.out))); (case aL => have := LMc10.out; omega); intro v436 w15 ho hb hg hat; rw [← Ny435.out] at ho; replace BK434:=zM (blk_grown (g := gb434) (o := .cells #[.int .i64 t430, .int .i64 t431, .int .i64 t432] 25 (0, 0)) (by refine blk_put (cs := #[.int .i64 t430, .int .i64 t431, .int .i64 0]) ?_ 2 _ rfl; refine blk_put (cs := #[.int .i64 t430, .int .i64 0, .int .i64 0]) ?_ 1 _ rfl; refine blk_put (cs := #[.int .i64 0, .int .i64 0, .int .i64 0]) ?_ 0 _ rfl; exact BK434.out) hg (Kd.R_away HO_4.out (fun _ hk => hk.2))); replace HB:=zM (hb); have HO437:=zM (ho); clear HO_4; clear ho hb hg hat))
        go_roundg k1
        case measure => have := HK1.out; omega
        case rel => exact ⟨(y435), (wrap64 (x5_1 + (wrap64 ((t427.size : Int) + 1)))), (by first | rfl | (simp; done) | (simp [*]; done)), H', ⟨by have := HK1.out; omega⟩, ⟨by (with_reducible repeat (first | apply Kd.R_alloc | apply Kd.R_drewN | apply Kd.R_drew)); exact Kd.R_mono HO437.out (fun _ hk => trivial)⟩, ⟨(q4 HB.out GE434.out)⟩⟩
       ·rw [if_neg c10] at H
        exact absurd H (by simp)
      ·replace c9 := Bool.eq_false_iff.mpr c9
       subst c9
       have H1 : ((impl_Deed.f x4_1).bind fun t438 => (some (t438, x5_1))) = some (r1, r2) := by rw [if_neg (show ¬ (false = true) by decide)] at H; exact H
       clear H
       have H := H1
       clear H1
       obtain ⟨t438, A16, H⟩ := zb H; try dsimp only at H
       simp only [Option.some.injEq, Prod.mk.injEq] at H
       obtain ⟨rfl, rfl⟩ := H
       go_wp2_with (first | (refine zg 47 (some 16) Tryd.func47 #[.string (a0.extract (x5_1 : Int).toNat a0.size), .string (⟨#[10]⟩ : ByteArray)] ?_; (with_reducible refine (strings_Cut.calls (a0.extract (x5_1 : Int).toNat a0.size) (⟨#[10]⟩ : ByteArray) t427 t428 true _ ?sideT A6.out).mono ?_); (case sideT => exact TabR.below HT.out (q2 HB.out)); rintro e w17 ⟨rfl, hb⟩; refine ⟨_, rfl, ?_⟩; replace HO_4:=zM (Kd.R_below (q3 HO_4.out) hb); replace HB:=zM (below_step (q2 HB.out) hb); (try clear hb); (try clear hb2); (try clear hk); (try clear hi)) | (refine zg 15 (some 22) Tryd.func15 #[.string t427] ?_; (with_reducible refine (impl_ReadDeed.calls k1 t427 t430 t431 t432 false _ ?sideT A7.out).mono ?_); (case sideT => exact TabR.below HT.out (q2 HB.out)); rintro e w18 ⟨rfl, hb⟩; refine ⟨_, rfl, ?_⟩; replace HO_4:=zM (Kd.R_below (q3 HO_4.out) hb); replace HB:=zM (below_step (q2 HB.out) hb); (try clear hb); (try clear hb2); (try clear hk); (try clear hi)) | ((with_reducible refine gate_dst (N := 9) rfl ?_); refine box_event q0 (N := 9) q0 (cs := #[.int .i64 0, .int .i64 0, .int .i64 0]) (t := 25) q1 ?_; intro gb434 hg w19 hbox hb; replace HO_4:=zM (Kd.R_below (Kd.R_elderB (q3 HO_4.out) gb434 (Nat.le_of_eq hg.symm)) hb); have BK434:=zM (hbox); have GW434:=zM ((by rw [hg]; exact (below_size (q2 HB.out)) : w.heap.size ≤ gb434)); have GE434:=zM ((by rw [hg]; exact (below_size (q2 HB.out)) : w.heap.size ≤ gb434)); replace HB:=zM (below_step (q2 HB.out) hb); clear hb hbox hg; have hcz20_0 : w19.cell? ⟨gb434, 0, none⟩ = some (.int .i64 0) := (blk_cell BK434.out 0).trans rfl; have hcz20_1 : w19.cell? ⟨gb434, 1, none⟩ = some (.int .i64 0) := (blk_cell BK434.out 1).trans rfl; have hcz20_2 : w19.cell? ⟨gb434, 2, none⟩ = some (.int .i64 0) := (blk_cell BK434.out 2).trans rfl; have hfz20_0 := blk_frozen BK434.out 0; have hfz20_1 := blk_frozen BK434.out 1; have hfz20_2 := blk_frozen BK434.out 2) | ((with_reducible refine gate_store (t := 25) (p := 9) rfl ?_); refine store_event (t := 25) (p := 9) (v := ?vo_w21) (w1 := (((w19.setCell ⟨gb434, 0, none⟩ (.int .i64 t430)).setCell ⟨gb434, 1, none⟩ (.int .i64 t431)).setCell ⟨gb434, 2, none⟩ (.int .i64 t432))) ?hg ?ho ?hn ?hr ?_; (case ho => rfl); (case hg => rfl); (case hn => rfl); (case hr => first | (go_simp; done) | (go_simp; rfl)); intro w21 hw; replace HO_4 : Aside0 (Kd.R k25 25 w21 w.heap.size (fun k_ => k_ ≠ gb434) u4 x4_1) := ⟨(by rw [hw]; exact (by (with_reducible repeat (first | apply Kd.R_alloc | apply Kd.R_drewN | apply Kd.R_drew)); exact Kd.R_mono (Kd.R_far (p := ⟨gb434, 2, none⟩) (Kd.R_far (p := ⟨gb434, 1, none⟩) (Kd.R_far (p := ⟨gb434, 0, none⟩) (Kd.R_mono HO_4.out (fun k_ hk => (⟨hk, hk.2⟩ : _ ∧ k_ ≠ gb434))) (fun _ hk => hk.2) (.int .i64 t430)) (fun _ hk => hk.2) (.int .i64 t431)) (fun _ hk => hk.2) (.int .i64 t432)) (fun _ hk => hk.1.2)))⟩; replace BK434 : Aside0 (w21.heap[gb434]? = some (.cells #[.int .i64 t430, .int .i64 t431, .int .i64 t432] 25 (0, 0))) := ⟨(by rw [hw]; exact (by refine blk_put (cs := #[.int .i64 t430, .int .i64 t431, .int .i64 0]) ?_ 2 _ rfl; refine blk_put (cs := #[.int .i64 t430, .int .i64 0, .int .i64 0]) ?_ 1 _ rfl; refine blk_put (cs := #[.int .i64 0, .int .i64 0, .int .i64 0]) ?_ 0 _ rfl; exact BK434.out))⟩; replace HB : Aside0 (Below w.heap.size w w21) := ⟨(by rw [hw]; exact (q4 HB.out GE434.out))⟩; clear hw; obtain ⟨Ao22, co22, eo22⟩ := Kd.R_slice HO_4.out; subst eo22) | (refine zg 48 (some 32) Tryd.func48 #[.slice Ao22 x4_1.length co22] ?_; (with_reducible refine (impl_Deed.calls (fun k_ => some k_ = (.slice Ao22 x4_1.length co22 : Value).ownBlock) (.slice Ao22 x4_1.length co22) x4_1 t438 w _ ?side1 ?side2 A16.out).mono ?_); (case side1 => exact (q4 HB.out GE434.out)); (case side2 => exact Kd.R_tight rfl HO_4.out); rintro e w23 ⟨v439, rfl, ho0, hb, hkp⟩; refine ⟨_, rfl, ?_⟩; have HO440:=zM (Kd.R_mono (ok' := fun k_ => k_ ≠ gb434) ho0 (fun k_ hk_ => Or.elim hk_ (fun hs_ => fun e_ => (Kd.R_away HO_4.out (fun _ hk => hk)) (by rw [← e_]; exact hs_)) (fun hn_ => (Kd.freshB (g := gb434) (o := .cells #[.int .i64 t430, .int .i64 t431, .int .i64 t432] 25 (0, 0)) (q5 BK434.out) k_ hn_)))); replace BK434:=zM (blk_kept (q5 BK434.out) hkp (fun hs_ => (fun e_ => (Kd.R_away HO_4.out (fun _ hk => hk)) e_) hs_)); replace HB:=zM (hb); clear HO_4; (try clear hb); (try clear hkp); (try clear ho0)))
       go_ret2
       exact ⟨_, by first | rfl | (simp [errW_none, errW_some] <;> rfl) | (simp [*, errW_none, errW_some] <;> rfl), by (with_reducible repeat (first | apply Kd.R_alloc | apply Kd.R_drewN | apply Kd.R_drew)); exact Kd.R_mono HO440.out (fun _ hk => trivial), (q4 HB.out GE434.out)⟩
     ·replace c8 := Bool.eq_false_iff.mpr c8
      subst c8
      have H1 : ((impl_Deed.f x4_1).bind fun t441 => (some (t441, x5_1))) = some (r1, r2) := by rw [if_neg (show ¬ (false = true) by decide)] at H; exact H
      clear H
      have H := H1
      clear H1
      obtain ⟨t441, A24, H⟩ := zb H; try dsimp only at H
      simp only [Option.some.injEq, Prod.mk.injEq] at H
      obtain ⟨rfl, rfl⟩ := H
      go_wp2_with (first | (refine zg 47 (some 16) Tryd.func47 #[.string (a0.extract (x5_1 : Int).toNat a0.size), .string (⟨#[10]⟩ : ByteArray)] ?_; (with_reducible refine (strings_Cut.calls (a0.extract (x5_1 : Int).toNat a0.size) (⟨#[10]⟩ : ByteArray) t427 t428 false _ ?sideT A6.out).mono ?_); (case sideT => exact TabR.below HT.out (q2 HB.out)); rintro e w25 ⟨rfl, hb⟩; refine ⟨_, rfl, ?_⟩; replace HO_4:=zM (Kd.R_below (q3 HO_4.out) hb); replace HB:=zM (below_step (q2 HB.out) hb); (try clear hb); (try clear hb2); (try clear hk); (try clear hi)) | (refine zg 15 (some 22) Tryd.func15 #[.string t427] ?_; (with_reducible refine (impl_ReadDeed.calls k1 t427 t430 t431 t432 t433 _ ?sideT A7.out).mono ?_); (case sideT => exact TabR.below HT.out (q2 HB.out)); rintro e w26 ⟨rfl, hb⟩; refine ⟨_, rfl, ?_⟩; replace HO_4:=zM (Kd.R_below (q3 HO_4.out) hb); replace HB:=zM (below_step (q2 HB.out) hb); (try clear hb); (try clear hb2); (try clear hk); (try clear hi)) | ((with_reducible refine gate_dst (N := 9) rfl ?_); refine box_event q0 (N := 9) q0 (cs := #[.int .i64 0, .int .i64 0, .int .i64 0]) (t := 25) q1 ?_; intro gb434 hg w27 hbox hb; replace HO_4:=zM (Kd.R_below (Kd.R_elderB (q3 HO_4.out) gb434 (Nat.le_of_eq hg.symm)) hb); have BK434:=zM (hbox); have GW434:=zM ((by rw [hg]; exact (below_size (q2 HB.out)) : w.heap.size ≤ gb434)); have GE434:=zM ((by rw [hg]; exact (below_size (q2 HB.out)) : w.heap.size ≤ gb434)); replace HB:=zM (below_step (q2 HB.out) hb); clear hb hbox hg; have hcz28_0 : w27.cell? ⟨gb434, 0, none⟩ = some (.int .i64 0) := (blk_cell BK434.out 0).trans rfl; have hcz28_1 : w27.cell? ⟨gb434, 1, none⟩ = some (.int .i64 0) := (blk_cell BK434.out 1).trans rfl; have hcz28_2 : w27.cell? ⟨gb434, 2, none⟩ = some (.int .i64 0) := (blk_cell BK434.out 2).trans rfl; have hfz28_0 := blk_frozen BK434.out 0; have hfz28_1 := blk_frozen BK434.out 1; have hfz28_2 := blk_frozen BK434.out 2) | ((with_reducible refine gate_store (t := 25) (p := 9) rfl ?_); refine store_event (t := 25) (p := 9) (v := ?vo_w29) (w1 := (((w27.setCell ⟨gb434, 0, none⟩ (.int .i64 t430)).setCell ⟨gb434, 1, none⟩ (.int .i64 t431)).setCell ⟨gb434, 2, none⟩ (.int .i64 t432))) ?hg ?ho ?hn ?hr ?_; (case ho => rfl); (case hg => rfl); (case hn => rfl); (case hr => first | (go_simp; done) | (go_simp; rfl)); intro w29 hw; replace HO_4 : Aside0 (Kd.R k25 25 w29 w.heap.size (fun k_ => k_ ≠ gb434) u4 x4_1) := ⟨(by rw [hw]; exact (by (with_reducible repeat (first | apply Kd.R_alloc | apply Kd.R_drewN | apply Kd.R_drew)); exact Kd.R_mono (Kd.R_far (p := ⟨gb434, 2, none⟩) (Kd.R_far (p := ⟨gb434, 1, none⟩) (Kd.R_far (p := ⟨gb434, 0, none⟩) (Kd.R_mono HO_4.out (fun k_ hk => (⟨hk, hk.2⟩ : _ ∧ k_ ≠ gb434))) (fun _ hk => hk.2) (.int .i64 t430)) (fun _ hk => hk.2) (.int .i64 t431)) (fun _ hk => hk.2) (.int .i64 t432)) (fun _ hk => hk.1.2)))⟩; replace BK434 : Aside0 (w29.heap[gb434]? = some (.cells #[.int .i64 t430, .int .i64 t431, .int .i64 t432] 25 (0, 0))) := ⟨(by rw [hw]; exact (by refine blk_put (cs := #[.int .i64 t430, .int .i64 t431, .int .i64 0]) ?_ 2 _ rfl; refine blk_put (cs := #[.int .i64 t430, .int .i64 0, .int .i64 0]) ?_ 1 _ rfl; refine blk_put (cs := #[.int .i64 0, .int .i64 0, .int .i64 0]) ?_ 0 _ rfl; exact BK434.out))⟩; replace HB : Aside0 (Below w.heap.size w w29) := ⟨(by rw [hw]; exact (q4 HB.out GE434.out))⟩; clear hw; obtain ⟨Ao30, co30, eo30⟩ := Kd.R_slice HO_4.out; subst eo30) | (refine zg 48 (some 32) Tryd.func48 #[.slice Ao30 x4_1.length co30] ?_; (with_reducible refine (impl_Deed.calls (fun k_ => some k_ = (.slice Ao30 x4_1.length co30 : Value).ownBlock) (.slice Ao30 x4_1.length co30) x4_1 t441 w _ ?side1 ?side2 A24.out).mono ?_); (case side1 => exact (q4 HB.out GE434.out)); (case side2 => exact Kd.R_tight rfl HO_4.out); rintro e w31 ⟨v442, rfl, ho0, hb, hkp⟩; refine ⟨_, rfl, ?_⟩; have HO443:=zM (Kd.R_mono (ok' := fun k_ => k_ ≠ gb434) ho0 (fun k_ hk_ => Or.elim hk_ (fun hs_ => fun e_ => (Kd.R_away HO_4.out (fun _ hk => hk)) (by rw [← e_]; exact hs_)) (fun hn_ => (Kd.freshB (g := gb434) (o := .cells #[.int .i64 t430, .int .i64 t431, .int .i64 t432] 25 (0, 0)) (q5 BK434.out) k_ hn_)))); replace BK434:=zM (blk_kept (q5 BK434.out) hkp (fun hs_ => (fun e_ => (Kd.R_away HO_4.out (fun _ hk => hk)) e_) hs_)); replace HB:=zM (hb); clear HO_4; (try clear hb); (try clear hkp); (try clear ho0)))
      go_ret2
      exact ⟨_, by first | rfl | (simp [errW_none, errW_some] <;> rfl) | (simp [*, errW_none, errW_some] <;> rfl), by (with_reducible repeat (first | apply Kd.R_alloc | apply Kd.R_drewN | apply Kd.R_drew)); exact Kd.R_mono HO443.out (fun _ hk => trivial), (q4 HB.out GE434.out)⟩
    ·rw [if_neg c5] at H
     exact absurd H (by simp)
   ·rw [if_neg c4] at H
    exact absurd H (by simp)

end Go.Proofs.YtopfhdhdpnenpaaDoor.LH
