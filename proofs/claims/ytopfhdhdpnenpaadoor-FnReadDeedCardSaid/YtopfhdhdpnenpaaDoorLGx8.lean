/- Printed by a program of this session (wip/lp/lp.py) out of the translation: functions with the same answers as the Go code, and their contracts; no conditions beyond those that each theorem names. -/
import Derived.Test.YtopfhdhdpnenpaaDoorLGx0
import Derived.Test.YtopfhdhdpnenpaaDoorLGx6
import Derived.Test.YtopfhdhdpnenpaaDoorLGx7
namespace Go.Proofs.YtopfhdhdpnenpaaDoor.LG
open Go.RowKit Go.Proofs.YtopfhdhdpnenpaaDoorV.PrintWords Go.Proofs.YtopfhdhdpnenpaaDoorV.PrintLast Go.Proofs.YtopfhdhdpnenpaaDoorV.PrintMore
attribute [local go_sem] max2_int min2_int max_two min_two max_three min_three max_four min_four   -- for this text's walks alone
set_option linter.unusedVariables false
set_option linter.unusedSimpArgs false

/-! ### spec_ReadDeed: function 16 -/
mutual
def spec_ReadDeed.j0 : Nat → ByteArray → List ByteArray → List (S25) → Option (Int × Int × Int × Bool)
 | 0, _, _, _ => none
 | k + 1, x0, x4, x5 => if (x4.length : Int) = 2 then (if 1 < (x4.length : Int) then ((spec_l1Digits.f k (rdOf ByteArray.empty x4 1)).bind fun t173 => (if x5.length < 5864062014805 then (spec_ReadDeed.j1 k x0 (x5 ++ [(⟨1, t173, 0⟩ : S25)])) else (none))) else (none)) else (spec_ReadDeed.j1 k x0 x5)
def spec_ReadDeed.j1 : Nat → ByteArray → List (S25) → Option (Int × Int × Int × Bool)
 | 0, _, _ => none
 | k + 1, x0, x5 => spec_ReadDeed.l0 k x0 x5 0
def spec_ReadDeed.l0 : Nat → ByteArray → List (S25) → Int → Option (Int × Int × Int × Bool)
 | 0, _, _, _ => none
 | k + 1, x0, x5, x6 => if x6 < (x5.length : Int) then (if x0.toList = ([] : List UInt8) then (spec_ReadDeed.l0 k x0 x5 (wrap64 (x6 + 1))) else (if 0 ≤ x6 then ((spec_DeedText.f k ((rd_T25 x5 x6).f0) ((rd_T25 x5 x6).f1) ((rd_T25 x5 x6).f2)).bind fun t178 => (if t178.toList = x0.toList then (some ((rd_T25 x5 x6).f0, (rd_T25 x5 x6).f1, (rd_T25 x5 x6).f2, true)) else (spec_ReadDeed.l0 k x0 x5 (wrap64 (x6 + 1))))) else (none))) else (some (0, 0, 0, false))
end
def spec_ReadDeed.f (k : Nat) (a0 : ByteArray) : Option (Int × Int × Int × Bool) := (spec_l1Cut.f k a0 32).bind fun t159 => ((some (([(⟨2, 0, 0⟩ : S25), (⟨3, 0, 0⟩ : S25), (⟨4, 0, 0⟩ : S25), (⟨5, 0, 0⟩ : S25)] : List (S25)) : List (S25))).bind fun y162 => (if (t159.length : Int) = 3 then (if 1 < (t159.length : Int) then ((spec_l1Digits.f k (rdOf ByteArray.empty t159 1)).bind fun t166 => (if 2 < (t159.length : Int) then ((spec_l1Digits.f k (rdOf ByteArray.empty t159 2)).bind fun t168 => (if y162.length < 5864062014805 then (spec_ReadDeed.j0 k a0 t159 (y162 ++ [(⟨0, t166, t168⟩ : S25)])) else (none))) else (none))) else (none)) else (spec_ReadDeed.j0 k a0 t159 y162)))
theorem spec_ReadDeed.mono_l : ∀ k, (∀ y0 y1 y2, LeO (spec_ReadDeed.j0 k y0 y1 y2) (spec_ReadDeed.j0 (k + 1) y0 y1 y2)) ∧ (∀ y0 y1, LeO (spec_ReadDeed.j1 k y0 y1) (spec_ReadDeed.j1 (k + 1) y0 y1)) ∧ (∀ y0 y1 y2, LeO (spec_ReadDeed.l0 k y0 y1 y2) (spec_ReadDeed.l0 (k + 1) y0 y1 y2))
 | 0 => ⟨fun _ _ _ r h => by simp [spec_ReadDeed.j0] at h, fun _ _ r h => by simp [spec_ReadDeed.j1] at h, fun _ _ _ r h => by simp [spec_ReadDeed.l0] at h⟩
 | k + 1 => by
  obtain ⟨ih0, ih1, ih2⟩ := spec_ReadDeed.mono_l k
  refine ⟨?_, ?_, ?_⟩
  ·intro y0 y1 y2
   unfold spec_ReadDeed.j0
   have := @spec_DeedText.mono; have := @spec_l1Cut.mono; have := @spec_l1Digits.mono; exact zmono
  ·intro y0 y1
   unfold spec_ReadDeed.j1
   have := @spec_DeedText.mono; have := @spec_l1Cut.mono; have := @spec_l1Digits.mono; exact zmono
  ·intro y0 y1 y2
   unfold spec_ReadDeed.l0
   have := @spec_DeedText.mono; have := @spec_l1Cut.mono; have := @spec_l1Digits.mono; exact zmono
theorem spec_ReadDeed.mono : ∀ a0 k, LeO (spec_ReadDeed.f k a0) (spec_ReadDeed.f (k + 1) a0) := by
 intro a0 k
 obtain ⟨ih0, ih1, ih2⟩ := spec_ReadDeed.mono_l k
 unfold spec_ReadDeed.f
 have := @spec_DeedText.mono; have := @spec_l1Cut.mono; have := @spec_l1Digits.mono; exact zmono
def spec_ReadDeed.T4 : Bool × List (List Nat × List Nat) := (true, [([], []), ([], []), ([1], [1]), ([2], [2]), ([3], [3]), ([], []), ([5], [5]), ([6], [6]), ([7, 4], [7]), ([4, 8], [4, 8]), ([9], [9]), ([0, 10, 8], [0, 10]), ([11, 11, 0, 1, 2, 3, 4, 5, 6, 7, 8, 9, 10, 11], [0, 11])])
def spec_ReadDeed.B4 : List Nat := [0, 0, 2, 6, 14, 0, 32, 96, 254, 510, 1022, 2047, 4095]
theorem spec_ReadDeed.tab4 : rtab .any (opsOf Tryd.f16 4) = spec_ReadDeed.T4 := by kernel_rfl
theorem spec_ReadDeed.bits4 : waitsOk spec_ReadDeed.T4.2 spec_ReadDeed.B4 = true := by kernel_rfl
set_option maxHeartbeats 8000000 in
set_option maxRecDepth 100000 in
theorem spec_ReadDeed.calls (k : Nat) (a0 : ByteArray) (r1 : Int) (r2 : Int) (r3 : Int) (r4 : Bool) (w : World) (h : spec_ReadDeed.f k a0 = some (r1, r2, r3, r4)) :
  Calls Tryd.prog 16 #[.string a0] w fun e w' => e = .returned (.tuple #[.agg #[.int .i64 r1, .int .i64 r2, .int .i64 r3], .bool r4]) ∧ Below w.heap.size w w' := by
 have hu25 := Tryd.underlying25
 have HB:=zM (Below.refl w.heap.size w)
 have H : ((spec_l1Cut.f k a0 32).bind fun t159 => ((some (([(⟨2, 0, 0⟩ : S25), (⟨3, 0, 0⟩ : S25), (⟨4, 0, 0⟩ : S25), (⟨5, 0, 0⟩ : S25)] : List (S25)) : List (S25))).bind fun y162 => (if (t159.length : Int) = 3 then (if 1 < (t159.length : Int) then ((spec_l1Digits.f k (rdOf ByteArray.empty t159 1)).bind fun t166 => (if 2 < (t159.length : Int) then ((spec_l1Digits.f k (rdOf ByteArray.empty t159 2)).bind fun t168 => (if y162.length < 5864062014805 then (spec_ReadDeed.j0 k a0 t159 (y162 ++ [(⟨0, t166, t168⟩ : S25)])) else (none))) else (none))) else (none)) else (spec_ReadDeed.j0 k a0 t159 y162)))) = some (r1, r2, r3, r4) := h
 clear h
 replace H := zb H; obtain ⟨t159, A2, H⟩ := H; try dsimp only at H
 replace H := zy H; obtain ⟨y162, Ny162, H⟩ := H; try dsimp only at H
 have HC3:=zM H
 clear H
 go_enter Tryd.func16, Tryd.ntmps16
 go_upto_if 16 with (first | ((with_reducible refine gate_dst (N := 2) rfl ?_); refine box_event zs0 (N := 2) zs0 (cs := #[.int .i64 0, .int .i64 0, .int .i64 0]) (t := 25) zs1 ?_; intro gb158 hg w4 hbox hb; have BK158:=zM (hbox); have GW158:=zM ((by rw [hg]; exact (below_size (zs2 HB.out)) : w.heap.size ≤ gb158)); have GE158:=zM ((by rw [hg]; exact (below_size (zs2 HB.out)) : w.heap.size ≤ gb158)); replace HB:=zM (below_step (zs2 HB.out) hb); clear hb hbox hg) | (refine zg 41 (some 8) Tryd.func41 #[.string a0, .int .u8 32] ?_; (with_reducible refine (spec_l1Cut.calls k a0 32 t159 _ A2.out).mono ?_); rintro e w5 ⟨v160, rfl, ho0, hb⟩; refine ⟨_, rfl, ?_⟩; have HO161:=zM (Kd.R_lower ho0 (below_size (zs4 HB.out GE158.out))); replace BK158:=zM (blk_below (g := gb158) (o := .cells #[.int .i64 0, .int .i64 0, .int .i64 0] 25 (0, 0)) (zs12 BK158.out) hb); replace HB:=zM (below_step (zs4 HB.out GE158.out) hb); clear hb ho0) | ((with_reducible refine gate_dst (N := 13) rfl ?_); refine Kd.R_lit k25 _ 25 zs0 (N := 13) zs0 (xs := ([(⟨2, 0, 0⟩ : S25), (⟨3, 0, 0⟩ : S25), (⟨4, 0, 0⟩ : S25), (⟨5, 0, 0⟩ : S25)] : List (S25))) (inner := [.int .i64 2, .int .i64 0, .int .i64 0, .int .i64 3, .int .i64 0, .int .i64 0, .int .i64 4, .int .i64 0, .int .i64 0, .int .i64 5, .int .i64 0, .int .i64 0]) (ok := fun _ => True) (okp := fun _ => True) zs1 ?hp (fun _ hk => hk) trivial (Below.refl _ _) (Nat.le_refl _) (by simp) ?_; (case hp => exact (Reps.c3 (show Kd.M k25 _ _ _ (⟨2, 0, 0⟩ : S25) [.int .i64 2, .int .i64 0, .int .i64 0] from (k25_mkM _ _ _ (⟨2, 0, 0⟩ : S25) )) (Reps.c3 (show Kd.M k25 _ _ _ (⟨3, 0, 0⟩ : S25) [.int .i64 3, .int .i64 0, .int .i64 0] from (k25_mkM _ _ _ (⟨3, 0, 0⟩ : S25) )) (Reps.c3 (show Kd.M k25 _ _ _ (⟨4, 0, 0⟩ : S25) [.int .i64 4, .int .i64 0, .int .i64 0] from (k25_mkM _ _ _ (⟨4, 0, 0⟩ : S25) )) (Reps.c3 (show Kd.M k25 _ _ _ (⟨5, 0, 0⟩ : S25) [.int .i64 5, .int .i64 0, .int .i64 0] from (k25_mkM _ _ _ (⟨5, 0, 0⟩ : S25) )) (Reps.none _ _)))))); intro v163 w6 ho7 hb hg_ hnew_; clear hg_ hnew_; (first | rw [← Ny162.out] at ho7 | (simp only [Int.reduceToNat] at ho7; rw [← Ny162.out] at ho7)); replace HO161:=zM (Kd.R_below (zs11 HO161.out) hb); have HO164:=zM (Kd.R_lower (Kd.R_newB ho7 (g := gb158) (o := .cells #[.int .i64 0, .int .i64 0, .int .i64 0] 25 (0, 0)) (zs12 BK158.out)) (below_size (zs4 HB.out GE158.out))); replace BK158:=zM (blk_below (g := gb158) (o := .cells #[.int .i64 0, .int .i64 0, .int .i64 0] 25 (0, 0)) (zs12 BK158.out) hb); replace HB:=zM (below_step (zs4 HB.out GE158.out) hb); clear hb ho7; obtain ⟨Ao8, co8, eo8⟩ := Kd.R_slice HO161.out; subst eo8))
 (try simp only [Act.put, zE, zF, zG])
 go_cut [5] (fun v5 wc => ∃ (kq : Nat) (x5_2 : List (S25)), Aside0 (spec_ReadDeed.j0 kq a0 t159 x5_2 = some (r1, r2, r3, r4)) ∧ Aside0 (kq ≤ k) ∧ Aside0 (Kd.R Kd.string 9 wc w.heap.size (fun _ => True) (.slice Ao8 t159.length co8) t159) ∧ Aside0 (Kd.R k25 25 wc w.heap.size (fun k_ => k_ ≠ gb158) v5 x5_2) ∧ Aside0 (wc.heap[gb158]? = some (.cells #[.int .i64 0, .int .i64 0, .int .i64 0] 25 (0, 0))) ∧ Aside0 (Below w.heap.size w wc))
 case first =>
  have H := HC3.out
  clear HC3
  by_cases c9 : (t159.length : Int) = 3
  ·rw [if_pos c9] at H
   have c9b0 := beq_iff_eq.mpr c9
   have c9b1 := bne_eq_false_iff_eq.mpr c9
   clear c9
   (first | rw [c9b0] | (simp only [i64_w, i32_w]; rw [c9b0]) | skip)
   by_cases c10 : 1 < (t159.length : Int)
   ·rw [if_pos c10] at H
    have c10b0 := decide_eq_true c10
    have c10b1 : decide (1 < t159.length) = true := decide_eq_true (by omega)
    clear c10
    replace H := zb H; obtain ⟨t166, A11, H⟩ := H; try dsimp only at H
    by_cases c12 : 2 < (t159.length : Int)
    ·rw [if_pos c12] at H
     have c12b0 := decide_eq_true c12
     have c12b1 : decide (2 < t159.length) = true := decide_eq_true (by omega)
     clear c12
     replace H := zb H; obtain ⟨t168, A13, H⟩ := H; try dsimp only at H
     by_cases c14 : y162.length < 5864062014805
     ·rw [if_pos c14] at H
      have LMc14:=zM c14
      clear c14
      obtain ⟨y169, hy169⟩ : ∃ y_ : List (S25), y_ = (y162 ++ [(⟨0, t166, t168⟩ : S25)]) := ⟨_, rfl⟩
      replace H : (spec_ReadDeed.j0 k a0 t159 y169) = some (r1, r2, r3, r4) := by first | (rw [hy169]; with_reducible exact H) | (have H2_ := (Option.bind_some _ _).symm.trans H; rw [hy169]; with_reducible exact H2_) | (have H2_ := (Option.bind_some _ _).symm.trans H; with_reducible exact H2_) | with_reducible exact H | (rw [hy169]; exact H) | exact H
      have Ny169:=zM hy169
      clear hy169
      have H':=zM H
      clear H
      try go_wp2
      replace HO161:=zM (Kd.R_drew HO161.out)
      replace HO164:=zM (Kd.R_drew HO164.out)
      replace BK158:=zM (blk_drew BK158.out)
      replace HB:=zM (zC HB.out)
      have p165 : 0 ≤ (1 : Int) := (by omega)
      have q165 : 1 < (t159.length : Int) := of_decide_eq_true zs8
      obtain ⟨ad165, e165, hx165_0⟩ := Kd.at_string (Kd.R_reads' HO161.out).2.2 1 p165 q165
      cases e165
      (try simp only [show (1 : Int).toNat = 1 from rfl, Nat.reduceMul, Nat.reduceEqDiff, Go.Addr.add, ↓reduceIte] at hx165_0)
      have qi165 : (1 < t159.length) = True := eq_true (by omega)
      (try rw [show ((1 : Int)).toNat = 1 from rfl] at hx165_0)
      replace p165 := eq_true p165
      replace q165 := eq_true q165
      have p167 : 0 ≤ (2 : Int) := (by omega)
      have q167 : 2 < (t159.length : Int) := of_decide_eq_true zs8
      obtain ⟨ad167, e167, hx167_0⟩ := Kd.at_string (Kd.R_reads' HO161.out).2.2 2 p167 q167
      obtain rfl : ad165 = ad167 := (by injection e167)
      (try simp only [show (2 : Int).toNat = 2 from rfl, Nat.reduceMul, Nat.reduceEqDiff, Go.Addr.add, ↓reduceIte] at hx167_0)
      have qi167 : (2 < t159.length) = True := eq_true (by omega)
      (try rw [show ((2 : Int)).toNat = 2 from rfl] at hx167_0)
      replace p167 := eq_true p167
      replace q167 := eq_true q167
      refine start_ (n := 13) (S := fun w' => w'.cell? ⟨ad165.block, ad165.off + 1, none⟩ = some (.string (rdOf ByteArray.empty t159 1)) ∧ w'.cell? ⟨ad165.block, ad165.off + 2, none⟩ = some (.string (rdOf ByteArray.empty t159 2))) (ds := [10, 11]) (zL 13 0) (by kernel_rfl) rfl rfl ⟨hx165_0, hx167_0⟩ (fun hHeld => ?_); refine with_tabW spec_ReadDeed.tab4 spec_ReadDeed.bits4 (fun HT_ HW_ => ?_)
      generalize w6.drew = w15 at HO161 HO164 BK158 HB hx165_0 hx167_0 hHeld ⊢
      refine zp 0 (some 17) (zL 13 1) HT_ ?_
      refine zp 1 (some 18) (zL 13 3) HT_ ?_
      refine zp 2 (some 19) (zL 13 7) HT_ ?_
      refine zp 5 (some 22) (zL 13 39) HT_ ?_
      refine zp 6 (some 23) (zL 13 103) HT_ ?_
      refine take_ (i := 3) (N := some 20) (v := ?_) (a' := ?_) (zL 13 111) rfl rfl (take_ofW HT_.out HW_.out (by kernel_rfl)) (fun _ _ _ h => h) (Or.inl ⟨by rfl, ?_⟩) hHeld ?_ ?_
      rotate_left
      ·rintro w' ⟨s0, s1⟩
       go_simp
       with_reducible rfl
      rotate_left
      ·simp only [Act.put, zE, zF, zG, i64_w, i32_w]
       rfl
      refine take_ (i := 7) (N := some 24) (v := ?_) (a' := ?_) (zL 13 239) rfl rfl (take_ofW HT_.out HW_.out (by kernel_rfl)) (fun _ _ _ h => h) (Or.inl ⟨by rfl, ?_⟩) hHeld ?_ ?_
      rotate_left
      ·rintro w' ⟨s0, s1⟩
       go_simp
       with_reducible rfl
      rotate_left
      ·simp only [Act.put, zE, zF, zG, i64_w, i32_w]
       rfl
      refine one_ (i := 4) (N := some 21) (zL 13 255) rfl rfl (one_of HT_.out (by kernel_rfl)) (by decide) (fun K hK => ?_)
      refine goes_ Tryd.func42 (by kernel_rfl) rfl #[.string (rdOf ByteArray.empty t159 1)] (by rfl) rfl rfl (by (try simp only [List.map_toArray, List.map_cons, List.map_nil]); first | done | rfl | (simp only [List.length_drop, List.length_take]; rfl)) ?_
      with_reducible refine (spec_l1Digits.calls k (rdOf ByteArray.empty t159 1) t166 _ A11.out).mono ?_
      rintro e w' ⟨rfl, ⟨nd, rfl⟩⟩
      refine ⟨_, rfl, ?_⟩
      refine hK.out _ _ ⟨hHeld.1, hHeld.2⟩ (fun hHeld => ?_)
      clear hK K
      refine norm_ (a' := ?_) ?_ ?_
      rotate_left
      ·show Act.put _ (some 21) _ = _
       simp only [Act.put, zE, zF, zG, i64_w, i32_w]
       rfl
      refine one_ (i := 8) (N := some 25) (zL 13 511) rfl rfl (one_of HT_.out (by kernel_rfl)) (by decide) (fun K hK => ?_)
      refine goes_ Tryd.func42 (by kernel_rfl) rfl #[.string (rdOf ByteArray.empty t159 2)] (by rfl) rfl rfl (by (try simp only [List.map_toArray, List.map_cons, List.map_nil]); first | done | rfl | (simp only [List.length_drop, List.length_take]; rfl)) ?_
      with_reducible refine (spec_l1Digits.calls k (rdOf ByteArray.empty t159 2) t168 _ A13.out).mono ?_
      rintro e w' ⟨rfl, ⟨nd, rfl⟩⟩
      refine ⟨_, rfl, ?_⟩
      refine hK.out _ _ ⟨hHeld.1, hHeld.2⟩ (fun hHeld => ?_)
      clear hK K
      refine norm_ (a' := ?_) ?_ ?_
      rotate_left
      ·show Act.put _ (some 25) _ = _
       simp only [Act.put, zE, zF, zG, i64_w, i32_w]
       rfl
      refine zp 9 (some 26) (zL 13 1023) HT_ ?_
      refine last_ (i := 10) (N := some 27) (zL 13 2047) rfl rfl (one_of HT_.out (by kernel_rfl)) (by decide) (fun K hK => ?_)
      refine value_ (w1 := ?_) (v := ?_) (by rfl) rfl ?_ ?_
      rotate_left 2
      ·go_simp
       constructor
       ·rfl
       ·rfl
      refine hK.out _ _ ?_
      clear hK K
      refine norm_ (a' := ?_) ?_ ?_
      rotate_left
      ·show Act.put _ (some 27) _ = _
       simp only [Act.put, zE, zF, zG, i64_w, i32_w]
       rfl
      refine last_ (i := 11) (N := some 28) (zL 13 4095) rfl rfl (one_of HT_.out (by kernel_rfl)) (by decide) (fun K hK => ?_)
      refine Kd.R_append_step k25 (w0 := w) w.heap.size (by rfl) (.tmp 17) (.tmp 27) 40 25 (.agg #[(.int .i64 0), (.int .i64 0), (.int .i64 0)]) 24 rfl Tryd.underlying40 info25 rfl (by decide) (by omega) v163 y162 (⟨0, t166, t168⟩ : S25) [.int .i64 0, .int .i64 t166, .int .i64 t168] (fun k_ => k_ ≠ gb158) (fun _ => False) rfl rfl ?aP (fun _ hk => hk.elim) ?aF ?aO ?aB ?aS ?aL ?_
      (case aP => exact k25_mkM _ _ _ (⟨0, t166, t168⟩ : S25))
      (case aB => exact (zs4 HB.out GE158.out))
      (case aF => exact (fun k_ hk => Kd.freshB (g := gb158) (o := .cells #[.int .i64 0, .int .i64 0, .int .i64 0] 25 (0, 0)) (zs12 BK158.out) k_ hk))
      (case aO => exact (by (with_reducible repeat (first | apply Kd.R_alloc | apply Kd.R_drewN | apply Kd.R_drew)); exact Kd.R_mono HO164.out (fun _ hk => hk.2)))
      (case aS => exact (below_size (zs4 HB.out GE158.out)))
      (case aL => have := LMc14.out; omega)
      intro v170 w16 ho hb hg hat
      rw [← Ny169.out] at ho
      replace BK158:=zM (blk_grown (g := gb158) (o := .cells #[.int .i64 0, .int .i64 0, .int .i64 0] 25 (0, 0)) (zs12 BK158.out) hg (Kd.R_away HO164.out (fun _ hk => hk.2)))
      replace HO161:=zM (Kd.R_over' (zs11 HO161.out) (Kd.R_typed (zs11 HO164.out)) (by decide) hg)
      replace HB:=zM (hb)
      have HO171:=zM (ho)
      clear HO164
      clear ho hb hg hat
      refine hK.out _ _ ?_
      clear hK K
      refine norm_ (a' := ?_) ?_ ?_
      rotate_left
      ·show Act.put _ (some 28) _ = _
       simp only [Act.put, zE, zF, zG, i64_w, i32_w]
       rfl
      refine zp 12 (some 5) (zL 13 8191) HT_ ?_
      refine done_ (done_of HT_.out (by kernel_rfl)) ?_
      try go_wp2
      go_meet
      case rel => exact ⟨_, (y169), H', ⟨zs7⟩, ⟨by (with_reducible repeat (first | apply Kd.R_alloc | apply Kd.R_drewN | apply Kd.R_drew)); exact HO161.out⟩, ⟨by (with_reducible repeat (first | apply Kd.R_alloc | apply Kd.R_drewN | apply Kd.R_drew)); exact HO171.out⟩, ⟨by exact BK158.out⟩, ⟨(zs4 HB.out GE158.out)⟩⟩
     ·rw [if_neg c14] at H
      exact absurd H (by simp)
    ·rw [if_neg c12] at H
     exact absurd H (by simp)
   ·rw [if_neg c10] at H
    exact absurd H (by simp)
  ·rw [if_neg c9] at H
   have c9b0 := beq_eq_false_iff_ne.mpr c9
   have c9b1 := bne_iff_ne.mpr c9
   (first | rw [c9b0] | (simp only [i64_w, i32_w]; rw [c9b0]) | skip)
   have H':=zM H
   clear H
   go_wp2
   go_meet
   case rel => exact ⟨_, (y162), H', ⟨zs7⟩, ⟨by (with_reducible repeat (first | apply Kd.R_alloc | apply Kd.R_drewN | apply Kd.R_drew)); exact HO161.out⟩, ⟨by (with_reducible repeat (first | apply Kd.R_alloc | apply Kd.R_drewN | apply Kd.R_drew)); exact Kd.R_mono HO164.out (fun _ hk => hk.2)⟩, ⟨by exact BK158.out⟩, ⟨(zs4 HB.out GE158.out)⟩⟩
 case rest =>
  clear HC3
  try clear c1
  try clear p1
  try clear q1
  try clear hx1
  try clear qi1
  try clear p2
  try clear c3
  try clear c4
  try clear c9
  try clear c9b0
  try clear c9b1
  try clear c10
  try clear c10b0
  try clear c10b1
  try clear c12
  try clear c12b0
  try clear c12b1
  try clear c14
  try clear c16
  try clear p16
  try clear q16
  try clear hx16
  try clear qi16
  try clear hx165_0
  try clear hx167_0
  try clear p165
  try clear p167
  try clear q165
  try clear q167
  obtain ⟨kq, x5_2, HA, HJ2, HO_4, HO_5, BK158, HB⟩ := hcut
  cases kq with
  | zero => exact absurd HA.out (by simp [spec_ReadDeed.j0])
  | succ kj2 =>
   have H := HA.out
   clear HA
   simp only [spec_ReadDeed.j0] at H
   have HC17:=zM H
   clear H
   go_upto_if 31 with (fail)
   go_cut [5] (fun v5 wc => ∃ (kq : Nat) (x5_16 : List (S25)), Aside0 (spec_ReadDeed.j1 kq a0 x5_16 = some (r1, r2, r3, r4)) ∧ Aside0 (kq ≤ kj2) ∧ Aside0 (Kd.R k25 25 wc w.heap.size (fun k_ => k_ ≠ gb158) v5 x5_16) ∧ Aside0 (wc.heap[gb158]? = some (.cells #[.int .i64 0, .int .i64 0, .int .i64 0] 25 (0, 0))) ∧ Aside0 (Below w.heap.size w wc))
   case first =>
    have H := HC17.out
    clear HC17
    by_cases c18 : (t159.length : Int) = 2
    ·rw [if_pos c18] at H
     have c18b0 := beq_iff_eq.mpr c18
     have c18b1 := bne_eq_false_iff_eq.mpr c18
     clear c18
     (first | rw [c18b0] | (simp only [i64_w, i32_w]; rw [c18b0]) | skip)
     by_cases c19 : 1 < (t159.length : Int)
     ·rw [if_pos c19] at H
      have c19b0 := decide_eq_true c19
      have c19b1 : decide (1 < t159.length) = true := decide_eq_true (by omega)
      clear c19
      replace H := zb H; obtain ⟨t173, A20, H⟩ := H; try dsimp only at H
      by_cases c21 : x5_2.length < 5864062014805
      ·rw [if_pos c21] at H
       have LMc21:=zM c21
       clear c21
       obtain ⟨y174, hy174⟩ : ∃ y_ : List (S25), y_ = (x5_2 ++ [(⟨1, t173, 0⟩ : S25)]) := ⟨_, rfl⟩
       replace H : (spec_ReadDeed.j1 kj2 a0 y174) = some (r1, r2, r3, r4) := by first | (rw [hy174]; with_reducible exact H) | (have H2_ := (Option.bind_some _ _).symm.trans H; rw [hy174]; with_reducible exact H2_) | (have H2_ := (Option.bind_some _ _).symm.trans H; with_reducible exact H2_) | with_reducible exact H | (rw [hy174]; exact H) | exact H
       have Ny174:=zM hy174
       clear hy174
       have H':=zM H
       clear H
       have p172 : 0 ≤ (1 : Int) := (by omega)
       have q172 : 1 < (t159.length : Int) := of_decide_eq_true zs8
       obtain ⟨ad172, e172, hx172_0⟩ := Kd.at_string (Kd.R_reads' HO_4.out).2.2 1 p172 q172
       cases e172
       (try simp only [show (1 : Int).toNat = 1 from rfl, Nat.reduceMul, Nat.reduceEqDiff, Go.Addr.add, ↓reduceIte] at hx172_0)
       have qi172 : (1 < t159.length) = True := eq_true (by omega)
       (try rw [show ((1 : Int)).toNat = 1 from rfl] at hx172_0)
       replace p172 := eq_true p172
       replace q172 := eq_true q172
       go_wp2_with (first | (refine zg 42 (some 36) Tryd.func42 #[.string (rdOf ByteArray.empty t159 1)] ?_; (with_reducible refine (spec_l1Digits.calls kj2 (rdOf ByteArray.empty t159 1) t173 _ A20.out).mono ?_); rintro e w' ⟨rfl, ⟨nd, rfl⟩⟩; refine ⟨_, rfl, ?_⟩) | ((with_reducible refine gate_builtin (b := .append) (xs := #[.tmp 32, .tmp 38]) rfl ?_); at_builtin; refine Kd.R_append k25 (w0 := w) w.heap.size rfl (.tmp 32) (.tmp 38) 40 25 (.agg #[(.int .i64 0), (.int .i64 0), (.int .i64 0)]) 24 rfl Tryd.underlying40 info25 rfl (by decide) (by omega) u5 x5_2 (⟨1, t173, 0⟩ : S25) [.int .i64 1, .int .i64 t173, .int .i64 0] (fun k_ => k_ ≠ gb158) (fun _ => False) rfl rfl ?aP (fun _ hk => hk.elim) ?aF ?aO ?aB ?aS ?aL ?_; (case aP => exact k25_mkM _ _ _ (⟨1, t173, 0⟩ : S25)); (case aB => exact (zs4 HB.out GE158.out)); (case aF => exact (fun k_ hk => Kd.freshB (g := gb158) (o := .cells #[.int .i64 0, .int .i64 0, .int .i64 0] 25 (0, 0)) (zs12 BK158.out) k_ hk)); (case aO => exact (zs11 HO_5.out)); (case aS => exact (below_size (zs4 HB.out GE158.out))); (case aL => have := LMc21.out; omega); intro v175 w22 ho hb hg hat; rw [← Ny174.out] at ho; replace HO_4:=zM (Kd.R_over' (zs11 HO_4.out) (Kd.R_typed (zs11 HO_5.out)) (by decide) hg); replace BK158:=zM (blk_grown (g := gb158) (o := .cells #[.int .i64 0, .int .i64 0, .int .i64 0] 25 (0, 0)) (zs12 BK158.out) hg (Kd.R_away HO_5.out (fun _ hk => hk))); replace HB:=zM (hb); have HO176:=zM (ho); clear HO_5; clear ho hb hg hat))
       go_meet
       case rel => exact ⟨_, (y174), H', ⟨by have := HJ2.out; first | omega | exact Nat.le_refl _⟩, ⟨by (with_reducible repeat (first | apply Kd.R_alloc | apply Kd.R_drewN | apply Kd.R_drew)); exact HO176.out⟩, ⟨by exact BK158.out⟩, ⟨(zs4 HB.out GE158.out)⟩⟩
      ·rw [if_neg c21] at H
       exact absurd H (by simp)
     ·rw [if_neg c19] at H
      exact absurd H (by simp)
    ·rw [if_neg c18] at H
     have c18b0 := beq_eq_false_iff_ne.mpr c18
     have c18b1 := bne_iff_ne.mpr c18
     (first | rw [c18b0] | (simp only [i64_w, i32_w]; rw [c18b0]) | skip)
     have H':=zM H
     clear H
     go_wp2
     go_meet
     case rel => exact ⟨_, (x5_2), H', ⟨by have := HJ2.out; first | omega | exact Nat.le_refl _⟩, ⟨by (with_reducible repeat (first | apply Kd.R_alloc | apply Kd.R_drewN | apply Kd.R_drew)); exact HO_5.out⟩, ⟨by exact BK158.out⟩, ⟨(zs4 HB.out GE158.out)⟩⟩
   case rest =>
    clear HC17
    try clear c1
    try clear p1
    try clear q1
    try clear hx1
    try clear qi1
    try clear c2
    try clear p2
    try clear c3
    try clear c4
    try clear c9
    try clear c9b0
    try clear c9b1
    try clear c10
    try clear c10b0
    try clear c10b1
    try clear c12
    try clear c12b0
    try clear c12b1
    try clear c14
    try clear c16
    try clear p16
    try clear q16
    try clear hx16
    try clear qi16
    try clear p17
    try clear q17
    try clear hx17
    try clear qi17
    try clear c18
    try clear c18b0
    try clear c18b1
    try clear c19
    try clear c19b0
    try clear c19b1
    try clear c21
    try clear hx165_0
    try clear hx167_0
    try clear hx172_0
    try clear p1
    try clear p16
    try clear p165
    try clear p167
    try clear p172
    try clear p2
    try clear q1
    try clear q16
    try clear q165
    try clear q167
    try clear q172
    obtain ⟨kq, x5_16, HA, HJ16, HO_5, BK158, HB⟩ := hcut
    cases kq with
    | zero => exact absurd HA.out (by simp [spec_ReadDeed.j1])
    | succ kj16 =>
     have H := HA.out
     clear HA
     simp only [spec_ReadDeed.j1] at H
     have H':=zM H
     clear H
     go_wp2
     go_loopg [6] kj16 (fun kq v6 w' => ∃ (x6_3 : Int) (x159000_3 : Int) (x159001_3 : Int) (x159002_3 : Int), v6 = .int .i64 x6_3 ∧ Aside0 (spec_ReadDeed.l0 kq a0 x5_16 x6_3 = some (r1, r2, r3, r4)) ∧ Aside0 (kq ≤ kj16) ∧ Aside0 (Kd.R k25 25 w' w.heap.size (fun k_ => k_ ≠ gb158) u5 x5_16) ∧ Aside0 (w'.heap[gb158]? = some (.cells #[.int .i64 x159000_3, .int .i64 x159001_3, .int .i64 x159002_3] 25 (0, 0))) ∧ Aside0 (Below w.heap.size w w'))
     case atStart => exact ⟨(0), (0), (0), (0), zs6, H', ⟨Nat.le_refl _⟩, ⟨by (with_reducible repeat (first | apply Kd.R_alloc | apply Kd.R_drewN | apply Kd.R_drew)); exact HO_5.out⟩, ⟨by exact BK158.out⟩, ⟨(zs4 HB.out GE158.out)⟩⟩
     case round =>
      clear H'
      try clear c1
      try clear p1
      try clear q1
      try clear hx1
      try clear qi1
      try clear c2
      try clear p2
      try clear c3
      try clear c4
      try clear c9
      try clear c9b0
      try clear c9b1
      try clear c10
      try clear c10b0
      try clear c10b1
      try clear c12
      try clear c12b0
      try clear c12b1
      try clear c14
      try clear c16
      try clear p16
      try clear q16
      try clear hx16
      try clear qi16
      try clear p17
      try clear q17
      try clear hx17
      try clear qi17
      try clear c18
      try clear c18b0
      try clear c18b1
      try clear c19
      try clear c19b0
      try clear c19b1
      try clear c21
      try clear hx165_0
      try clear hx167_0
      try clear hx172_0
      try clear p1
      try clear p16
      try clear p165
      try clear p167
      try clear p17
      try clear p172
      try clear p2
      try clear q1
      try clear q16
      try clear q165
      try clear q167
      try clear q17
      try clear q172
      obtain ⟨x6_3, x159000_3, x159001_3, x159002_3, rfl, HA, HK3, HO_5, BK158, HB⟩ := hrel
      cases gk with
      | zero => exact absurd HA.out (by simp [spec_ReadDeed.l0])
      | succ k3 =>
       have H := HA.out
       clear HA
       simp only [spec_ReadDeed.l0] at H
       by_cases c23 : x6_3 < (x5_16.length : Int)
       ·rw [if_pos c23] at H
        have c23b0 := decide_eq_true c23
        clear c23
        by_cases c24 : a0.toList = ([] : List UInt8)
        ·rw [if_pos c24] at H
         have c24b0 := beq_iff_eq.mpr c24
         have c24b1 := bne_eq_false_iff_eq.mpr c24
         clear c24
         have H':=zM H
         clear H
         obtain ⟨Ao25, co25, eo25⟩ := Kd.R_slice HO_5.out
         subst eo25
         go_wp2
         go_roundg k3
         case measure => have := HJ2.out; have := HJ16.out; have := HK3.out; omega
         case rel => exact ⟨(wrap64 (x6_3 + 1)), (x159000_3), (x159001_3), (x159002_3), zs6, H', ⟨by have := HJ2.out; have := HJ16.out; have := HK3.out; omega⟩, ⟨by (with_reducible repeat (first | apply Kd.R_alloc | apply Kd.R_drewN | apply Kd.R_drew)); exact HO_5.out⟩, ⟨by exact BK158.out⟩, ⟨(zs4 HB.out GE158.out)⟩⟩
        ·rw [if_neg c24] at H
         have c24b0 := beq_eq_false_iff_ne.mpr c24
         have c24b1 := bne_iff_ne.mpr c24
         by_cases c26 : 0 ≤ x6_3
         ·rw [if_pos c26] at H
          have c26b0 := decide_eq_true c26
          clear c26
          replace H := zb H; obtain ⟨t178, A27, H⟩ := H; try dsimp only at H
          by_cases c28 : t178.toList = a0.toList
          ·rw [if_pos c28] at H
           have c28b0 := beq_iff_eq.mpr c28
           have c28b1 := bne_eq_false_iff_eq.mpr c28
           clear c28
           simp only [Option.some.injEq, Prod.mk.injEq] at H
           obtain ⟨rfl, rfl, rfl, rfl⟩ := H
           obtain ⟨Ao29, co29, eo29⟩ := Kd.R_slice HO_5.out
           subst eo29
           have p177 : 0 ≤ (x6_3 : Int) := of_decide_eq_true zs8
           have q177 : x6_3 < (x5_16.length : Int) := of_decide_eq_true zs8
           obtain ⟨ad177, e177, hx177_0, hx177_1, hx177_2⟩ := at_T25 (Kd.R_reads' HO_5.out).2.2 x6_3 p177 q177
           cases e177
           replace p177 := eq_true p177
           replace q177 := eq_true q177
           go_wp2_with (first | (go_at_call 10; (with_reducible refine (spec_DeedText.calls k3 ((rd_T25 x5_16 x6_3).f0) ((rd_T25 x5_16 x6_3).f1) ((rd_T25 x5_16 x6_3).f2) t178 _ A27.out).mono ?_); rintro e w30 ⟨rfl, hb⟩; replace HO_5:=zM (Kd.R_below (zs11 HO_5.out) hb); replace BK158:=zM (blk_below (g := gb158) (o := .cells #[.int .i64 x159000_3, .int .i64 x159001_3, .int .i64 x159002_3] 25 (0, 0)) (zs12 BK158.out) hb); replace HB:=zM (below_step (zs4 HB.out GE158.out) hb); clear hb; have p179 : 0 ≤ (x6_3 : Int) := of_decide_eq_true zs8; have q179 : x6_3 < (x5_16.length : Int) := of_decide_eq_true zs8; obtain ⟨ad179, e179, hx179_0, hx179_1, hx179_2⟩ := at_T25 (Kd.R_reads' HO_5.out).2.2 x6_3 p179 q179; obtain rfl : ad177 = ad179 := (by injection e179); replace p179 := eq_true p179; replace q179 := eq_true q179; have hcz31_0 := cz0 BK158.out; have hcz31_1 := cz1 BK158.out; have hcz31_2 := cz2 BK158.out; have hfz31_0 := blk_frozen BK158.out 0; have hfz31_1 := blk_frozen BK158.out 1; have hfz31_2 := blk_frozen BK158.out 2))
           refine bodyPost_ret (results_ct rfl _ _ gb158 25 #[.int .i64 ((rd_T25 x5_16 x6_3).f0), .int .i64 ((rd_T25 x5_16 x6_3).f1), .int .i64 ((rd_T25 x5_16 x6_3).f2)] (0, 0) _ rfl (by refine blk_put (cs := #[.int .i64 ((rd_T25 x5_16 x6_3).f0), .int .i64 ((rd_T25 x5_16 x6_3).f1), .int .i64 x159002_3]) ?_ 2 _ rfl; refine blk_put (cs := #[.int .i64 ((rd_T25 x5_16 x6_3).f0), .int .i64 x159001_3, .int .i64 x159002_3]) ?_ 1 _ rfl; refine blk_put (cs := #[.int .i64 x159000_3, .int .i64 x159001_3, .int .i64 x159002_3]) ?_ 0 _ rfl; exact BK158.out) Tryd.underlying25 rfl (by kernel_rfl)) rfl ?_
           exact ⟨zs3, (zs4 HB.out GE158.out)⟩
          ·rw [if_neg c28] at H
           have c28b0 := beq_eq_false_iff_ne.mpr c28
           have c28b1 := bne_iff_ne.mpr c28
           have H':=zM H
           clear H
           obtain ⟨Ao32, co32, eo32⟩ := Kd.R_slice HO_5.out
           subst eo32
           have p177 : 0 ≤ (x6_3 : Int) := of_decide_eq_true zs8
           have q177 : x6_3 < (x5_16.length : Int) := of_decide_eq_true zs8
           obtain ⟨ad177, e177, hx177_0, hx177_1, hx177_2⟩ := at_T25 (Kd.R_reads' HO_5.out).2.2 x6_3 p177 q177
           cases e177
           replace p177 := eq_true p177
           replace q177 := eq_true q177
           go_wp2_with (first | (go_at_call 10; (with_reducible refine (spec_DeedText.calls k3 ((rd_T25 x5_16 x6_3).f0) ((rd_T25 x5_16 x6_3).f1) ((rd_T25 x5_16 x6_3).f2) t178 _ A27.out).mono ?_); rintro e w33 ⟨rfl, hb⟩; replace HO_5:=zM (Kd.R_below (zs11 HO_5.out) hb); replace BK158:=zM (blk_below (g := gb158) (o := .cells #[.int .i64 x159000_3, .int .i64 x159001_3, .int .i64 x159002_3] 25 (0, 0)) (zs12 BK158.out) hb); replace HB:=zM (below_step (zs4 HB.out GE158.out) hb); clear hb))
           go_roundg k3
           case measure => have := HJ2.out; have := HJ16.out; have := HK3.out; omega
           case rel => exact ⟨(wrap64 (x6_3 + 1)), (x159000_3), (x159001_3), (x159002_3), zs6, H', ⟨by have := HJ2.out; have := HJ16.out; have := HK3.out; omega⟩, ⟨by (with_reducible repeat (first | apply Kd.R_alloc | apply Kd.R_drewN | apply Kd.R_drew)); exact HO_5.out⟩, ⟨by exact BK158.out⟩, ⟨(zs4 HB.out GE158.out)⟩⟩
         ·rw [if_neg c26] at H
          exact absurd H (by simp)
       ·rw [if_neg c23] at H
        have c23b0 := decide_eq_false c23
        clear c23
        simp only [Option.some.injEq, Prod.mk.injEq] at H
        obtain ⟨rfl, rfl, rfl, rfl⟩ := H
        obtain ⟨Ao34, co34, eo34⟩ := Kd.R_slice HO_5.out
        subst eo34
        have hcz35_0 := cz0 BK158.out
        have hcz35_1 := cz1 BK158.out
        have hcz35_2 := cz2 BK158.out
        have hfz35_0 := blk_frozen BK158.out 0
        have hfz35_1 := blk_frozen BK158.out 1
        have hfz35_2 := blk_frozen BK158.out 2
        go_wp2
        refine bodyPost_ret (results_ct rfl _ _ gb158 25 #[.int .i64 0, .int .i64 0, .int .i64 0] (0, 0) _ rfl (by refine blk_put (cs := #[.int .i64 0, .int .i64 0, .int .i64 x159002_3]) ?_ 2 _ rfl; refine blk_put (cs := #[.int .i64 0, .int .i64 x159001_3, .int .i64 x159002_3]) ?_ 1 _ rfl; refine blk_put (cs := #[.int .i64 x159000_3, .int .i64 x159001_3, .int .i64 x159002_3]) ?_ 0 _ rfl; exact BK158.out) Tryd.underlying25 rfl (by kernel_rfl)) rfl ?_
        exact ⟨zs3, (zs4 HB.out GE158.out)⟩

/-- A state of type 73 at block g of W; what its slices lead to came in by w0. -/
def IsS73 (w0 W : World) (g : Nat) (f0 : List Int) (f1 : Int) : Prop := ∃ A0 c0, W.heap[g]? = some (.cells #[.slice A0 f0.length c0, .int .i64 f1] 73 (0, 0)) ∧ w0.heap.size ≤ g ∧ Kd.C (Kd.int .u8) w0 A0 f0.length f0
theorem IsS73.grown {w0 W : World} {g : Nat} {f0 : List Int} {f1 : Int} {W1 : World} {row : Option Nat} (h : IsS73 w0 W g f0 f1) (hw : W.grownBy W1 row) (hne : some g ≠ row) : IsS73 w0 W1 g f0 f1 := by
 obtain ⟨A0, c0, hb, hg, hr0⟩ := h
 exact ⟨A0, c0, blk_grown hb hw hne, hg, hr0⟩
theorem IsS73.own_neN {w0 W : World} {g : Nat} {f0 : List Int} {f1 : Int} {α : Type} {d : Kd α} {e : Nat} {base : Nat} {ok : Nat → Prop} {v : Value} {xs : List α} (h : IsS73 w0 W g f0 f1) (ho : Kd.N d e W base ok v xs) (ht : e ≠ 73) : some g ≠ v.ownBlock := by
 obtain ⟨A0, c0, hb, hg, hr0⟩ := h
 exact Kd.N_ne ho hb ht
theorem IsS73.fresh {w0 W : World} {g : Nat} {f0 : List Int} {f1 : Int} (h : IsS73 w0 W g f0 f1) : ∀ k, W.heap.size ≤ k → k ≠ g := by
 obtain ⟨A0, c0, hb, hg, hr0⟩ := h
 exact Kd.freshB hb
theorem IsS73.kept {w0 W : World} {g : Nat} {f0 : List Int} {f1 : Int} {W1 : World} {S : Nat → Prop} (h : IsS73 w0 W g f0 f1) (hk : Kept W W1 S) (hne : ¬ S g) : IsS73 w0 W1 g f0 f1 := by
 obtain ⟨A0, c0, hb, hg, hr0⟩ := h
 exact ⟨A0, c0, blk_kept hb hk hne, hg, hr0⟩
theorem IsS73.below {w0 W : World} {g : Nat} {f0 : List Int} {f1 : Int} {W1 : World} (h : IsS73 w0 W g f0 f1) (hw : Below W.heap.size W W1) : IsS73 w0 W1 g f0 f1 := h.grown (grown_of_below hw none) (by simp)
theorem IsS73.alloc {w0 W : World} {g : Nat} {f0 : List Int} {f1 : Int} (h : IsS73 w0 W g f0 f1) (o : Obj) : IsS73 w0 (W.alloc o) g f0 f1 := h.below (zB (Below.refl _ _) o)
theorem IsS73.drewN {w0 W : World} {g : Nat} {f0 : List Int} {f1 : Int} (h : IsS73 w0 W g f0 f1) (m : Nat) : IsS73 w0 (W.drewN m) g f0 f1 := h
theorem IsS73.drew {w0 W : World} {g : Nat} {f0 : List Int} {f1 : Int} (h : IsS73 w0 W g f0 f1) : IsS73 w0 W.drew g f0 f1 := h
theorem IsS73.at_ {w0 W : World} {g : Nat} {f0 : List Int} {f1 : Int} {w' : World} {m : Nat} (hq : W.drewN m = w') (h : IsS73 w0 W g f0 f1) : IsS73 w0 w' g f0 f1 := by subst hq; exact IsS73.drewN h m
theorem IsS73.apart {w0 W : World} {g : Nat} {f0 : List Int} {f1 : Int} {α : Type} {d : Kd α} {e : Nat} {base : Nat} {ok : Nat → Prop} {v : Value} {xs : List α} (h : IsS73 w0 W g f0 f1) (ho : d.R e W base ok v xs) (ht : ∀ q, q ∈ e :: d.E → q ≠ 73) : d.R e W base (fun k => ok k ∧ k ≠ g) v xs := by
 obtain ⟨A0, c0, hb, hg, hr0⟩ := h
 exact Kd.R_types ho hb ht
theorem IsS73.own_ne {w0 W : World} {g : Nat} {f0 : List Int} {f1 : Int} {α : Type} {d : Kd α} {e : Nat} {base : Nat} {ok : Nat → Prop} {v : Value} {xs : List α} (h : IsS73 w0 W g f0 f1) (ho : d.R e W base ok v xs) (ht : e ≠ 73) : some g ≠ v.ownBlock := by
 obtain ⟨A0, c0, hb, hg, hr0⟩ := h
 exact Kd.R_ne ho hb ht
theorem IsS73.apartQ {w0 W : World} {g : Nat} {f0 : List Int} {f1 : Int} {α : Type} {d : Kd α} {e : Nat} {base : Nat} {ok : Nat → Prop} {v : Value} {xs : List α} (h : IsS73 w0 W g f0 f1) (ho : d.Q e W base ok v xs) (ht : ∀ q, q ∈ e :: d.E → q ≠ 73) : d.Q e W base (fun k => ok k ∧ k ≠ g) v xs := by
 obtain ⟨A0, c0, hb, hg, hr0⟩ := h
 exact Kd.Q_types ho hb ht
theorem IsS73.own_neQ {w0 W : World} {g : Nat} {f0 : List Int} {f1 : Int} {α : Type} {d : Kd α} {e : Nat} {base : Nat} {ok : Nat → Prop} {v : Value} {xs : List α} (h : IsS73 w0 W g f0 f1) (ho : d.Q e W base ok v xs) (ht : e ≠ 73) : some g ≠ v.ownBlock := by
 obtain ⟨A0, c0, hb, hg, hr0⟩ := h
 exact Kd.Q_ne ho hb ht
theorem IsS73.apartS {w0 W : World} {g : Nat} {f0 : List Int} {f1 : Int} {α : Type} {d : Kd α} {e : Nat} {base : Nat} {ok : Nat → Prop} {v : Value} {xs : List α} (h : IsS73 w0 W g f0 f1) (ho : d.S e W base ok v xs) (ht : ∀ q, q ∈ e :: d.E → q ≠ 73) : d.S e W base (fun k => ok k ∧ k ≠ g) v xs := by
 obtain ⟨A0, c0, hb, hg, hr0⟩ := h
 exact Kd.S_types ho hb ht
theorem IsS73.own_neS {w0 W : World} {g : Nat} {f0 : List Int} {f1 : Int} {α : Type} {d : Kd α} {e : Nat} {base : Nat} {ok : Nat → Prop} {v : Value} {xs : List α} (h : IsS73 w0 W g f0 f1) (ho : d.S e W base ok v xs) (ht : e ≠ 73) : some g ≠ v.ownBlock := by
 obtain ⟨A0, c0, hb, hg, hr0⟩ := h
 exact Kd.S_ne ho hb ht
theorem IsS73.lt {w0 W : World} {g : Nat} {f0 : List Int} {f1 : Int} (h : IsS73 w0 W g f0 f1) : g < W.heap.size := by
 obtain ⟨A0, c0, hb, hg, hr0⟩ := h
 exact blk_lt hb
theorem IsS73.ge {w0 W : World} {g : Nat} {f0 : List Int} {f1 : Int} (h : IsS73 w0 W g f0 f1) : w0.heap.size ≤ g := by
 obtain ⟨A0, c0, hb, hg, hr0⟩ := h
 exact hg
theorem IsS73.ne_blk {w0 W : World} {g : Nat} {f0 : List Int} {f1 : Int} {a : Nat} {cs : Array Value} {t : TypeId} {fr : Nat × Nat} (h : IsS73 w0 W g f0 f1) (hb2 : W.heap[a]? = some (.cells cs t fr)) (ht : t ≠ 73) : g ≠ a := by
 obtain ⟨A0, c0, hb, hg, hr0⟩ := h
 rintro rfl
 rw [hb] at hb2
 injection hb2 with hb2
 injection hb2 with _ ht2
 exact ht ht2.symm
theorem IsS73.far {w0 W : World} {g : Nat} {f0 : List Int} {f1 : Int} {p : Addr} (h : IsS73 w0 W g f0 f1) (hne : g ≠ p.block) (u : Value) : IsS73 w0 (W.setCell p u) g f0 f1 := by
 obtain ⟨A0, c0, hb, hg, hr0⟩ := h
 exact ⟨A0, c0, blk_far hb hne u, hg, hr0⟩
theorem cellS73_0 {W : World} {g : Nat} {A0 : Option Addr} {c0 : Nat} {f0 : List Int} {f1 : Int} (h : W.heap[g]? = some (.cells #[.slice A0 f0.length c0, .int .i64 f1] 73 (0, 0))) : W.cell? ⟨g, 0, none⟩ = some (.slice A0 f0.length c0) := (blk_cell h 0).trans rfl
theorem cellS73_1 {W : World} {g : Nat} {A0 : Option Addr} {c0 : Nat} {f0 : List Int} {f1 : Int} (h : W.heap[g]? = some (.cells #[.slice A0 f0.length c0, .int .i64 f1] 73 (0, 0))) : W.cell? ⟨g, 1, none⟩ = some (.int .i64 f1) := (blk_cell h 1).trans rfl
theorem IsS73.set_1 {w0 W : World} {g : Nat} {f0 : List Int} {f1 : Int} (h : IsS73 w0 W g f0 f1) (x : Int) : IsS73 w0 (W.setCell ⟨g, 1, none⟩ (.int .i64 x)) g f0 x := by
 obtain ⟨A0, c0, hb, hg, hr0⟩ := h
 exact ⟨A0, c0, by simpa using blk_set hb 1 (.int .i64 x), hg, hr0⟩
theorem IsS73.new (w0 W : World) (A0 : Option Addr) (c0 : Nat) (f0 : List Int) (f1 : Int) (hB : Below w0.heap.size w0 W) (hr0 : Kd.C (Kd.int .u8) w0 A0 f0.length f0) : IsS73 w0 (W.alloc (.cells #[.slice A0 f0.length c0, .int .i64 f1] 73)) W.heap.size f0 f1 := ⟨A0, c0, by simpa using heap_alloc_new W _, hB.size, hr0⟩

/-! ### spec_l20Open: function 34 -/
def spec_l20Open.f (l0 : List Int) : Option (List Int × Int) := if (l0.length : Int) > 2000 then (if 2000 ≤ (l0.length : Int) then (some (l0.take 2000, 0)) else (none)) else (some (l0, 0))
set_option maxHeartbeats 8000000 in
set_option maxRecDepth 100000 in
theorem spec_l20Open.calls (A0 : Option Addr) (c0 : Nat) (l0 : List Int) (r1 : List Int) (r2 : Int) (w0 w : World) (hB : Below w0.heap.size w0 w) (hr0 : Kd.C (Kd.int .u8) w0 A0 l0.length l0) (hc0 : l0.length ≤ c0) (h : spec_l20Open.f l0 = some (r1, r2)) :
  Calls Tryd.prog 34 #[.slice A0 l0.length c0] w fun e w' => ∃ g_ : Nat, e = .returned (.pointer (some ⟨g_, 0, none⟩)) ∧ IsS73 w0 w' g_ r1 r2 ∧ Below w0.heap.size w0 w' ∧ Below w.heap.size w w' := by
 have hu73 := Tryd.underlying73
 have HR0:=zM hr0
 have HC0:=zM hc0
 clear hr0 hc0
 have HBW:=zM (Below.refl w.heap.size w)
 have HW0:=zM hB.size
 have HB:=zM hB
 clear hB
 have H : (if (l0.length : Int) > 2000 then (if 2000 ≤ (l0.length : Int) then (some (l0.take 2000, 0)) else (none)) else (some (l0, 0))) = some (r1, r2) := h
 clear h
 by_cases c2 : (l0.length : Int) > 2000
 ·rw [if_pos c2] at H
  have c2b0 : decide (2000 < (l0.length : Int)) = true := decide_eq_true c2
  have c2b1 : decide (2000 < l0.length) = true := decide_eq_true (by omega)
  clear c2
  by_cases c3 : 2000 ≤ (l0.length : Int)
  ·rw [if_pos c3] at H
   have c3b0 := eq_true c3
   have c3b1 := decide_eq_true c3
   clear c3
   simp only [Option.some.injEq, Prod.mk.injEq] at H
   obtain ⟨rfl, rfl⟩ := H
   obtain ⟨i04, hi04, _, hsz4, _⟩ := info_parts info5
   obtain ⟨hcut4, hA4, hC4⟩ := print_take_of (P := Tryd.prog) (Value.int .u8) 0 28 5 .i64 Tryd.underlying28 hi04 hsz4 A0 c0 l0 2000 (by omega) (of_decide_eq_true zs8) HC0.out
   have HR180:=zM (Kd.C_of_reads (h1 := fun _ => rfl) (hA4 _ (Kd.reads_of_C HR0.out)))
   have HC180:=zM hC4
   clear hA4 hC4 hi04 hsz4
   go_enter Tryd.func34, Tryd.ntmps34
   go_wp2_with (first | ((with_reducible refine gate_dst (N := 10) rfl ?_); refine box_event zs0 (N := 10) zs0 (cs := #[.slice A0 (l0.take 2000).length c0, .int .i64 0]) (t := 73) zs1 ?_; intro gb181 hg w5 hbox hb; replace HB:=zM (below_step (zs2 HB.out) hb); have BK181:=zM (hbox); have GW181:=zM ((by rw [hg]; exact (below_size (zs2 HBW.out)) : w.heap.size ≤ gb181)); have GE181:=zM ((Nat.le_trans HW0.out (by rw [hg]; exact (below_size (zs2 HBW.out)) : w.heap.size ≤ gb181) : w0.heap.size ≤ gb181)); replace HBW:=zM (below_step HBW.out hb); clear hb hbox hg))
   go_ret
   exact ⟨_, rfl, (show IsS73 w0 _ gb181 (l0.take 2000) 0 from ⟨_, _, by exact BK181.out, GE181.out, HR180.out⟩), (zs4 HB.out GE181.out), (zs4 HBW.out GW181.out)⟩
  ·rw [if_neg c3] at H
   exact absurd H (by simp)
 ·rw [if_neg c2] at H
  have c2b0 : decide (2000 < (l0.length : Int)) = false := decide_eq_false c2
  have c2b1 : decide (2000 < l0.length) = false := decide_eq_false (by omega)
  clear c2
  simp only [Option.some.injEq, Prod.mk.injEq] at H
  obtain ⟨rfl, rfl⟩ := H
  go_enter Tryd.func34, Tryd.ntmps34
  go_wp2_with (first | ((with_reducible refine gate_dst (N := 10) rfl ?_); refine box_event zs0 (N := 10) zs0 (cs := #[.slice A0 l0.length c0, .int .i64 0]) (t := 73) zs1 ?_; intro gb182 hg w6 hbox hb; replace HB:=zM (below_step (zs2 HB.out) hb); have BK182:=zM (hbox); have GW182:=zM ((by rw [hg]; exact (below_size (zs2 HBW.out)) : w.heap.size ≤ gb182)); have GE182:=zM ((Nat.le_trans HW0.out (by rw [hg]; exact (below_size (zs2 HBW.out)) : w.heap.size ≤ gb182) : w0.heap.size ≤ gb182)); replace HBW:=zM (below_step HBW.out hb); clear hb hbox hg))
  go_ret
  exact ⟨_, rfl, (show IsS73 w0 _ gb182 l0 0 from ⟨_, _, by exact BK182.out, GE182.out, HR0.out⟩), (zs4 HB.out GE182.out), (zs4 HBW.out GW182.out)⟩

end Go.Proofs.YtopfhdhdpnenpaaDoor.LG
