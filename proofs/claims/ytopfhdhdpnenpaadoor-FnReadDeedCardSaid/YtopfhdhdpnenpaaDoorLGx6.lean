/- Printed by a program of this session (wip/lp/lp.py) out of the translation: functions with the same answers as the Go code, and their contracts; no conditions beyond those that each theorem names. -/
import Derived.Test.YtopfhdhdpnenpaaDoorLGx0
import Derived.Test.YtopfhdhdpnenpaaDoorLGx1
import Derived.Test.YtopfhdhdpnenpaaDoorLGx4
import Derived.Test.YtopfhdhdpnenpaaDoorLGx5
namespace Go.Proofs.YtopfhdhdpnenpaaDoor.LG
open Go.RowKit Go.Proofs.YtopfhdhdpnenpaaDoorV.PrintWords Go.Proofs.YtopfhdhdpnenpaaDoorV.PrintLast Go.Proofs.YtopfhdhdpnenpaaDoorV.PrintMore
attribute [local go_sem] max2_int min2_int max_two min_two max_three min_three max_four min_four   -- for this text's walks alone
set_option linter.unusedVariables false
set_option linter.unusedSimpArgs false

attribute [local go_sem high] eqA25
/-! ### spec_DeedText: function 10 -/
mutual
def spec_DeedText.j0 : Nat → Bool → Int → Int → Int → Option (ByteArray)
 | 0, _, _, _, _ => none
 | k + 1, x3, x142000, x142001, x142002 => if x3 = true then ((spec_l1Number.f k x142001).bind fun t144 => (if 5 + t144.size ≤ 9223372036854775807 then (if ((⟨#[104, 101, 97, 100, 32]⟩ : ByteArray) ++ t144).size + 1 ≤ 9223372036854775807 then ((spec_l1Number.f k x142002).bind fun t145 => (if (((⟨#[104, 101, 97, 100, 32]⟩ : ByteArray) ++ t144) ++ (⟨#[32]⟩ : ByteArray)).size + t145.size ≤ 9223372036854775807 then (some ((((⟨#[104, 101, 97, 100, 32]⟩ : ByteArray) ++ t144) ++ (⟨#[32]⟩ : ByteArray)) ++ t145)) else (none))) else (none)) else (none))) else (if x142000 = 1 then ((spec_l1In.f x142001 0 99).bind fun t146 => (if t146 = true then (spec_DeedText.j1 k (x142002 == 0) x142000 x142001 x142002) else (spec_DeedText.j1 k false x142000 x142001 x142002))) else (spec_DeedText.j1 k false x142000 x142001 x142002))
def spec_DeedText.j1 : Nat → Bool → Int → Int → Int → Option (ByteArray)
 | 0, _, _, _, _ => none
 | k + 1, x26, x142000, x142001, x142002 => if x26 = true then ((spec_l1Number.f k x142001).bind fun t147 => (if 4 + t147.size ≤ 9223372036854775807 then (some ((⟨#[97, 100, 100, 32]⟩ : ByteArray) ++ t147)) else (none))) else (if (x142000 == 2 && (x142001 == 0 && (x142002 == 0))) = true then (some (⟨#[100, 114, 111, 112]⟩ : ByteArray)) else (if (x142000 == 3 && (x142001 == 0 && (x142002 == 0))) = true then (some (⟨#[116, 117, 114, 110]⟩ : ByteArray)) else (if (x142000 == 4 && (x142001 == 0 && (x142002 == 0))) = true then (some (⟨#[102, 108, 97, 116]⟩ : ByteArray)) else (if (x142000 == 5 && (x142001 == 0 && (x142002 == 0))) = true then (some (⟨#[98, 97, 99, 107]⟩ : ByteArray)) else (some (⟨#[]⟩ : ByteArray))))))
end
def spec_DeedText.f (k : Nat) (a0_0 : Int) (a0_1 : Int) (a0_2 : Int) : Option (ByteArray) := if a0_0 = 0 then ((spec_l1In.f a0_1 0 99).bind fun t142 => (if t142 = true then ((spec_l1In.f a0_2 0 99).bind fun t143 => (spec_DeedText.j0 k t143 a0_0 a0_1 a0_2)) else (spec_DeedText.j0 k false a0_0 a0_1 a0_2))) else (spec_DeedText.j0 k false a0_0 a0_1 a0_2)
theorem spec_DeedText.mono_l : ∀ k, (∀ y0 y1 y2 y3, LeO (spec_DeedText.j0 k y0 y1 y2 y3) (spec_DeedText.j0 (k + 1) y0 y1 y2 y3)) ∧ (∀ y0 y1 y2 y3, LeO (spec_DeedText.j1 k y0 y1 y2 y3) (spec_DeedText.j1 (k + 1) y0 y1 y2 y3))
 | 0 => ⟨fun _ _ _ _ r h => by simp [spec_DeedText.j0] at h, fun _ _ _ _ r h => by simp [spec_DeedText.j1] at h⟩
 | k + 1 => by
  obtain ⟨ih0, ih1⟩ := spec_DeedText.mono_l k
  refine ⟨?_, ?_⟩
  ·intro y0 y1 y2 y3
   unfold spec_DeedText.j0
   have := @spec_l1Number.mono; exact zmono
  ·intro y0 y1 y2 y3
   unfold spec_DeedText.j1
   have := @spec_l1Number.mono; exact zmono
theorem spec_DeedText.mono : ∀ a0 a1 a2 k, LeO (spec_DeedText.f k a0 a1 a2) (spec_DeedText.f (k + 1) a0 a1 a2) := by
 intro a0 a1 a2 k
 obtain ⟨ih0, ih1⟩ := spec_DeedText.mono_l k
 unfold spec_DeedText.f
 have := @spec_l1Number.mono; exact zmono
def spec_DeedText.T2 : Bool × List (List Nat × List Nat) := (true, [([], []), ([0], [0]), ([1], [1]), ([2], [2]), ([3], [3]), ([], []), ([5], [5]), ([6, 2], [6]), ([4, 7], [4, 7]), ([8, 7, 0, 1, 2, 3, 4, 5, 6, 7, 8], [8])])
def spec_DeedText.B2 : List Nat := [0, 1, 3, 7, 15, 0, 32, 103, 255, 511]
theorem spec_DeedText.tab2 : rtab .any (opsOf Tryd.f10 2) = spec_DeedText.T2 := by kernel_rfl
theorem spec_DeedText.bits2 : waitsOk spec_DeedText.T2.2 spec_DeedText.B2 = true := by kernel_rfl
set_option maxHeartbeats 8000000 in
set_option maxRecDepth 100000 in
theorem spec_DeedText.calls (k : Nat) (a0_0 : Int) (a0_1 : Int) (a0_2 : Int) (r : ByteArray) (w : World) (h : spec_DeedText.f k a0_0 a0_1 a0_2 = some r) :
  Calls Tryd.prog 10 #[.agg #[.int .i64 a0_0, .int .i64 a0_1, .int .i64 a0_2]] w fun e w' => e = .returned (.string r) ∧ Below w.heap.size w w' := by
 have hu25 := Tryd.underlying25
 have HB:=zM (Below.refl w.heap.size w)
 have H : (if a0_0 = 0 then ((spec_l1In.f a0_1 0 99).bind fun t142 => (if t142 = true then ((spec_l1In.f a0_2 0 99).bind fun t143 => (spec_DeedText.j0 k t143 a0_0 a0_1 a0_2)) else (spec_DeedText.j0 k false a0_0 a0_1 a0_2))) else (spec_DeedText.j0 k false a0_0 a0_1 a0_2)) = some r := h
 clear h
 have HC2:=zM H
 clear H
 go_enter Tryd.func10, Tryd.ntmps10
 go_upto_region 1 with (first | ((with_reducible refine gate_dst (N := 1) rfl ?_); refine box_event zs0 (N := 1) zs0 (cs := #[.int .i64 a0_0, .int .i64 a0_1, .int .i64 a0_2]) (t := 25) zs1 ?_; intro gb141 hg w3 hbox hb; have BK141:=zM (hbox); have GW141:=zM ((by rw [hg]; exact (below_size (zs2 HB.out)) : w.heap.size ≤ gb141)); have GE141:=zM ((by rw [hg]; exact (below_size (zs2 HB.out)) : w.heap.size ≤ gb141)); replace HB:=zM (below_step (zs2 HB.out) hb); clear hb hbox hg))
 (try simp only [Act.put, zE, zF, zG])
 go_cut [3] (fun v3 wc => ∃ (kq : Nat) (x3_1 : Bool), v3 = .bool x3_1 ∧ Aside0 (spec_DeedText.j0 kq x3_1 a0_0 a0_1 a0_2 = some r) ∧ Aside0 (kq ≤ k) ∧ Aside0 (wc.heap[gb141]? = some (.cells #[.int .i64 a0_0, .int .i64 a0_1, .int .i64 a0_2] 25 (0, 0))) ∧ Aside0 (Below w.heap.size w wc))
 case first =>
  have H := HC2.out
  clear HC2
  by_cases c4 : a0_0 = 0
  ·rw [if_pos c4] at H
   have c4b0 := beq_iff_eq.mpr c4
   have c4b1 := bne_eq_false_iff_eq.mpr c4
   clear c4
   (first | rw [c4b0] | (simp only [i64_w, i32_w]; rw [c4b0]) | skip)
   replace H := zb H; obtain ⟨t142, A5, H⟩ := H; try dsimp only at H
   by_cases c6 : t142 = true
   ·subst c6
    have H1 : ((spec_l1In.f a0_2 0 99).bind fun t143 => (spec_DeedText.j0 k t143 a0_0 a0_1 a0_2)) = some r := by rw [if_pos rfl] at H; exact H
    clear H
    have H := H1
    clear H1
    replace H := zb H; obtain ⟨t143, A7, H⟩ := H; try dsimp only at H
    have H':=zM H
    clear H
    have hcz8_0 := cz0 BK141.out
    have hcz8_1 := cz1 BK141.out
    have hcz8_2 := cz2 BK141.out
    have hfz8_0 := blk_frozen BK141.out 0
    have hfz8_1 := blk_frozen BK141.out 1
    have hfz8_2 := blk_frozen BK141.out 2
    go_wp2_with (first | (go_at_call 30; (with_reducible refine (spec_l1In.calls a0_1 0 99 true _ A5.out).mono ?_); rintro e w' ⟨rfl, ⟨nd, rfl⟩⟩) | (go_at_call 30; (with_reducible refine (spec_l1In.calls a0_2 0 99 t143 _ A7.out).mono ?_); rintro e w' ⟨rfl, ⟨nd, rfl⟩⟩))
    go_meet
    case rel => exact ⟨_, (t143), zs6, H', ⟨zs7⟩, ⟨by exact BK141.out⟩, ⟨(zs4 HB.out GE141.out)⟩⟩
   ·replace c6 := Bool.eq_false_iff.mpr c6
    subst c6
    have H1 : (spec_DeedText.j0 k false a0_0 a0_1 a0_2) = some r := by rw [if_neg (show ¬ (false = true) by decide)] at H; exact H
    clear H
    have H := H1
    clear H1
    have H':=zM H
    clear H
    have hcz9_0 := cz0 BK141.out
    have hcz9_1 := cz1 BK141.out
    have hcz9_2 := cz2 BK141.out
    have hfz9_0 := blk_frozen BK141.out 0
    have hfz9_1 := blk_frozen BK141.out 1
    have hfz9_2 := blk_frozen BK141.out 2
    go_wp2_with (first | (go_at_call 30; (with_reducible refine (spec_l1In.calls a0_1 0 99 false _ A5.out).mono ?_); rintro e w' ⟨rfl, ⟨nd, rfl⟩⟩))
    go_meet
    case rel => exact ⟨_, (false), zs6, H', ⟨zs7⟩, ⟨by exact BK141.out⟩, ⟨(zs4 HB.out GE141.out)⟩⟩
  ·rw [if_neg c4] at H
   have c4b0 := beq_eq_false_iff_ne.mpr c4
   have c4b1 := bne_iff_ne.mpr c4
   (first | rw [c4b0] | (simp only [i64_w, i32_w]; rw [c4b0]) | skip)
   have H':=zM H
   clear H
   have hcz10_0 := cz0 BK141.out
   have hcz10_1 := cz1 BK141.out
   have hcz10_2 := cz2 BK141.out
   have hfz10_0 := blk_frozen BK141.out 0
   have hfz10_1 := blk_frozen BK141.out 1
   have hfz10_2 := blk_frozen BK141.out 2
   go_wp2
   go_meet
   case rel => exact ⟨_, (false), zs6, H', ⟨zs7⟩, ⟨by exact BK141.out⟩, ⟨(zs4 HB.out GE141.out)⟩⟩
 case rest =>
  clear HC2
  try clear c1
  try clear p2
  try clear c4
  try clear c4b0
  try clear c4b1
  try clear c6
  try clear c10
  try clear hcz10_0
  try clear hcz10_1
  try clear hcz10_2
  try clear hcz8_0
  try clear hcz8_1
  try clear hcz8_2
  try clear hcz9_0
  try clear hcz9_1
  try clear hcz9_2
  try clear hfz10_0
  try clear hfz10_1
  try clear hfz10_2
  try clear hfz8_0
  try clear hfz8_1
  try clear hfz8_2
  try clear hfz9_0
  try clear hfz9_1
  try clear hfz9_2
  obtain ⟨kq, x3_1, rfl, HA, HJ1, BK141, HB⟩ := hcut
  cases kq with
  | zero => exact absurd HA.out (by simp [spec_DeedText.j0])
  | succ kj1 =>
   have H := HA.out
   clear HA
   simp only [spec_DeedText.j0] at H
   by_cases c11 : x3_1 = true
   ·subst c11
    have H1 : ((spec_l1Number.f kj1 a0_1).bind fun t144 => (if 5 + t144.size ≤ 9223372036854775807 then (if ((⟨#[104, 101, 97, 100, 32]⟩ : ByteArray) ++ t144).size + 1 ≤ 9223372036854775807 then ((spec_l1Number.f kj1 a0_2).bind fun t145 => (if (((⟨#[104, 101, 97, 100, 32]⟩ : ByteArray) ++ t144) ++ (⟨#[32]⟩ : ByteArray)).size + t145.size ≤ 9223372036854775807 then (some ((((⟨#[104, 101, 97, 100, 32]⟩ : ByteArray) ++ t144) ++ (⟨#[32]⟩ : ByteArray)) ++ t145)) else (none))) else (none)) else (none))) = some r := by rw [if_pos rfl] at H; exact H
    clear H
    have H := H1
    clear H1
    replace H := zb H; obtain ⟨t144, A12, H⟩ := H; try dsimp only at H
    by_cases c13 : 5 + t144.size ≤ 9223372036854775807
    ·rw [if_pos c13] at H
     have c13b0 := eq_true c13
     have c13b1 := decide_eq_true c13
     try have c13b2 : (9223372036854775807 < 5 + t144.size) = False := eq_false (Nat.not_lt.2 c13)
     by_cases c14 : ((⟨#[104, 101, 97, 100, 32]⟩ : ByteArray) ++ t144).size + 1 ≤ 9223372036854775807
     ·rw [if_pos c14] at H
      have c14b0 := eq_true c14
      have c14b1 := decide_eq_true c14
      try have c14b2 : (9223372036854775807 < ((⟨#[104, 101, 97, 100, 32]⟩ : ByteArray) ++ t144).size + 1) = False := eq_false (Nat.not_lt.2 c14)
      have c14z := c14
      (try simp only [ByteArray.size_append, show ((⟨#[104, 101, 97, 100, 32]⟩ : ByteArray)).size = 5 from rfl] at c14z)
      have c14y := eq_false (Nat.not_lt.2 c14z)
      replace H := zb H; obtain ⟨t145, A15, H⟩ := H; try dsimp only at H
      by_cases c16 : (((⟨#[104, 101, 97, 100, 32]⟩ : ByteArray) ++ t144) ++ (⟨#[32]⟩ : ByteArray)).size + t145.size ≤ 9223372036854775807
      ·rw [if_pos c16] at H
       have c16b0 := eq_true c16
       have c16b1 := decide_eq_true c16
       try have c16b2 : (9223372036854775807 < (((⟨#[104, 101, 97, 100, 32]⟩ : ByteArray) ++ t144) ++ (⟨#[32]⟩ : ByteArray)).size + t145.size) = False := eq_false (Nat.not_lt.2 c16)
       have c16z := c16
       (try simp only [ByteArray.size_append, show ((⟨#[104, 101, 97, 100, 32]⟩ : ByteArray)).size = 5 from rfl, show ((⟨#[32]⟩ : ByteArray)).size = 1 from rfl] at c16z)
       have c16y := eq_false (Nat.not_lt.2 c16z)
       obtain rfl := Option.some.inj H
       try go_wp2
       replace BK141:=zM (blk_drew BK141.out)
       replace HB:=zM (zC HB.out)
       refine start_ (n := 10) (S := fun w' => w'.cell? ⟨gb141, 0, none⟩ = some (.int .i64 a0_0) ∧ w'.cell? ⟨gb141, 1, none⟩ = some (.int .i64 a0_1) ∧ w'.cell? ⟨gb141, 2, none⟩ = some (.int .i64 a0_2)) (ds := []) (zL 10 0) (by kernel_rfl) rfl rfl ⟨(blk_cell BK141.out 0).trans rfl, (blk_cell BK141.out 1).trans rfl, (blk_cell BK141.out 2).trans rfl⟩ (fun hHeld => ?_); refine with_tabW spec_DeedText.tab2 spec_DeedText.bits2 (fun HT_ HW_ => ?_)
       generalize wc.drew = w17 at BK141 HB hHeld ⊢
       refine zp 0 (some 17) (zL 10 1) HT_ ?_
       refine zp 5 (some 22) (zL 10 33) HT_ ?_
       refine take_ (i := 1) (N := some 18) (v := ?_) (a' := ?_) (zL 10 35) rfl rfl (take_ofW HT_.out HW_.out (by kernel_rfl)) (fun _ _ _ h => h) (Or.inl ⟨by rfl, ?_⟩) hHeld ?_ ?_
       rotate_left
       ·rintro w' ⟨s0, s1, s2⟩
        go_simp
        with_reducible rfl
       rotate_left
       ·simp only [Act.put, zE, zF, zG, i64_w, i32_w]
        rfl
       refine take_ (i := 6) (N := some 23) (v := ?_) (a' := ?_) (zL 10 99) rfl rfl (take_ofW HT_.out HW_.out (by kernel_rfl)) (fun _ _ _ h => h) (Or.inl ⟨by rfl, ?_⟩) hHeld ?_ ?_
       rotate_left
       ·rintro w' ⟨s0, s1, s2⟩
        go_simp
        with_reducible rfl
       rotate_left
       ·simp only [Act.put, zE, zF, zG, i64_w, i32_w]
        rfl
       refine one_ (i := 2) (N := some 19) (zL 10 103) rfl rfl (one_of HT_.out (by kernel_rfl)) (by decide) (fun K hK => ?_)
       refine goes_ Tryd.func31 (by kernel_rfl) rfl #[.int .i64 a0_1] (by rfl) rfl rfl (by (try simp only [List.map_toArray, List.map_cons, List.map_nil]); first | done | rfl | (simp only [List.length_drop, List.length_take]; rfl)) ?_
       with_reducible refine (spec_l1Number.calls kj1 a0_1 t144 _ A12.out).mono ?_
       rintro e w18 ⟨rfl, hb⟩
       refine ⟨_, rfl, ?_⟩
       replace BK141:=zM (blk_below (g := gb141) (o := .cells #[.int .i64 a0_0, .int .i64 a0_1, .int .i64 a0_2] 25 (0, 0)) (zs12 BK141.out) hb)
       replace HB:=zM (below_step (zs4 HB.out GE141.out) hb)
       (try clear hb)
       (try clear hb2)
       (try clear hk)
       (try clear hi)
       refine hK.out _ _ ⟨(blk_cell BK141.out 0).trans rfl, (blk_cell BK141.out 1).trans rfl, (blk_cell BK141.out 2).trans rfl⟩ (fun hHeld => ?_)
       clear hK K
       refine norm_ (a' := ?_) ?_ ?_
       rotate_left
       ·show Act.put _ (some 19) _ = _
        simp only [Act.put, zE, zF, zG, i64_w, i32_w]
        rfl
       refine zp 3 (some 20) (zL 10 111) HT_ ?_
       refine zp 4 (some 21) (zL 10 127) HT_ ?_
       refine one_ (i := 7) (N := some 24) (zL 10 255) rfl rfl (one_of HT_.out (by kernel_rfl)) (by decide) (fun K hK => ?_)
       refine goes_ Tryd.func31 (by kernel_rfl) rfl #[.int .i64 a0_2] (by rfl) rfl rfl (by (try simp only [List.map_toArray, List.map_cons, List.map_nil]); first | done | rfl | (simp only [List.length_drop, List.length_take]; rfl)) ?_
       with_reducible refine (spec_l1Number.calls kj1 a0_2 t145 _ A15.out).mono ?_
       rintro e w19 ⟨rfl, hb⟩
       refine ⟨_, rfl, ?_⟩
       replace BK141:=zM (blk_below (g := gb141) (o := .cells #[.int .i64 a0_0, .int .i64 a0_1, .int .i64 a0_2] 25 (0, 0)) (zs12 BK141.out) hb)
       replace HB:=zM (below_step (zs4 HB.out GE141.out) hb)
       (try clear hb)
       (try clear hb2)
       (try clear hk)
       (try clear hi)
       refine hK.out _ _ ⟨(blk_cell BK141.out 0).trans rfl, (blk_cell BK141.out 1).trans rfl, (blk_cell BK141.out 2).trans rfl⟩ (fun hHeld => ?_)
       clear hK K
       refine norm_ (a' := ?_) ?_ ?_
       rotate_left
       ·show Act.put _ (some 24) _ = _
        simp only [Act.put, zE, zF, zG, i64_w, i32_w]
        rfl
       refine zp 8 (some 25) (zL 10 511) HT_ ?_
       refine zp 9 (some 2) (zL 10 1023) HT_ ?_
       refine done_ (done_of HT_.out (by kernel_rfl)) ?_
       try go_wp2
       go_ret
       exact ⟨zs3, (zs4 HB.out GE141.out)⟩
      ·rw [if_neg c16] at H
       exact absurd H (by simp)
     ·rw [if_neg c14] at H
      exact absurd H (by simp)
    ·rw [if_neg c13] at H
     exact absurd H (by simp)
   ·replace c11 := Bool.eq_false_iff.mpr c11
    subst c11
    have H1 : (if a0_0 = 1 then ((spec_l1In.f a0_1 0 99).bind fun t146 => (if t146 = true then (spec_DeedText.j1 kj1 (a0_2 == 0) a0_0 a0_1 a0_2) else (spec_DeedText.j1 kj1 false a0_0 a0_1 a0_2))) else (spec_DeedText.j1 kj1 false a0_0 a0_1 a0_2)) = some r := by rw [if_neg (show ¬ (false = true) by decide)] at H; exact H
    clear H
    have H := H1
    clear H1
    have HC20:=zM H
    clear H
    go_upto_region 3 with (fail)
    go_cut [26] (fun v26 wc => ∃ (kq : Nat) (x26_19 : Bool), v26 = .bool x26_19 ∧ Aside0 (spec_DeedText.j1 kq x26_19 a0_0 a0_1 a0_2 = some r) ∧ Aside0 (kq ≤ kj1) ∧ Aside0 (wc.heap[gb141]? = some (.cells #[.int .i64 a0_0, .int .i64 a0_1, .int .i64 a0_2] 25 (0, 0))) ∧ Aside0 (Below w.heap.size w wc))
    case first =>
     have H := HC20.out
     clear HC20
     by_cases c21 : a0_0 = 1
     ·rw [if_pos c21] at H
      have c21b0 := beq_iff_eq.mpr c21
      have c21b1 := bne_eq_false_iff_eq.mpr c21
      clear c21
      (first | rw [c21b0] | (simp only [i64_w, i32_w]; rw [c21b0]) | skip)
      replace H := zb H; obtain ⟨t146, A22, H⟩ := H; try dsimp only at H
      by_cases c23 : t146 = true
      ·subst c23
       have H1 : (spec_DeedText.j1 kj1 (a0_2 == 0) a0_0 a0_1 a0_2) = some r := by rw [if_pos rfl] at H; exact H
       clear H
       have H := H1
       clear H1
       have H':=zM H
       clear H
       have hcz24_0 := cz0 BK141.out
       have hcz24_1 := cz1 BK141.out
       have hcz24_2 := cz2 BK141.out
       have hfz24_0 := blk_frozen BK141.out 0
       have hfz24_1 := blk_frozen BK141.out 1
       have hfz24_2 := blk_frozen BK141.out 2
       go_wp2_with (first | (go_at_call 30; (with_reducible refine (spec_l1In.calls a0_1 0 99 true _ A22.out).mono ?_); rintro e w' ⟨rfl, ⟨nd, rfl⟩⟩))
       go_meet
       case rel => exact ⟨_, ((a0_2 == 0)), zs6, H', ⟨by have := HJ1.out; first | omega | exact Nat.le_refl _⟩, ⟨by exact BK141.out⟩, ⟨(zs4 HB.out GE141.out)⟩⟩
      ·replace c23 := Bool.eq_false_iff.mpr c23
       subst c23
       have H1 : (spec_DeedText.j1 kj1 false a0_0 a0_1 a0_2) = some r := by rw [if_neg (show ¬ (false = true) by decide)] at H; exact H
       clear H
       have H := H1
       clear H1
       have H':=zM H
       clear H
       have hcz25_0 := cz0 BK141.out
       have hcz25_1 := cz1 BK141.out
       have hcz25_2 := cz2 BK141.out
       have hfz25_0 := blk_frozen BK141.out 0
       have hfz25_1 := blk_frozen BK141.out 1
       have hfz25_2 := blk_frozen BK141.out 2
       go_wp2_with (first | (go_at_call 30; (with_reducible refine (spec_l1In.calls a0_1 0 99 false _ A22.out).mono ?_); rintro e w' ⟨rfl, ⟨nd, rfl⟩⟩))
       go_meet
       case rel => exact ⟨_, (false), zs6, H', ⟨by have := HJ1.out; first | omega | exact Nat.le_refl _⟩, ⟨by exact BK141.out⟩, ⟨(zs4 HB.out GE141.out)⟩⟩
     ·rw [if_neg c21] at H
      have c21b0 := beq_eq_false_iff_ne.mpr c21
      have c21b1 := bne_iff_ne.mpr c21
      (first | rw [c21b0] | (simp only [i64_w, i32_w]; rw [c21b0]) | skip)
      have H':=zM H
      clear H
      have hcz26_0 := cz0 BK141.out
      have hcz26_1 := cz1 BK141.out
      have hcz26_2 := cz2 BK141.out
      have hfz26_0 := blk_frozen BK141.out 0
      have hfz26_1 := blk_frozen BK141.out 1
      have hfz26_2 := blk_frozen BK141.out 2
      go_wp2
      go_meet
      case rel => exact ⟨_, (false), zs6, H', ⟨by have := HJ1.out; first | omega | exact Nat.le_refl _⟩, ⟨by exact BK141.out⟩, ⟨(zs4 HB.out GE141.out)⟩⟩
    case rest =>
     clear HC20
     try clear c1
     try clear c2
     try clear p2
     try clear c3
     try clear c4
     try clear c4b0
     try clear c4b1
     try clear c6
     try clear c10
     try clear c11
     try clear c13
     try clear c13b0
     try clear c13b1
     try clear c13b2
     try clear c14
     try clear c14b0
     try clear c14b1
     try clear c14b2
     try clear c16
     try clear c16b0
     try clear c16b1
     try clear c16b2
     try clear c21
     try clear c21b0
     try clear c21b1
     try clear c23
     try clear hcz10_0
     try clear hcz10_1
     try clear hcz10_2
     try clear hcz24_0
     try clear hcz24_1
     try clear hcz24_2
     try clear hcz25_0
     try clear hcz25_1
     try clear hcz25_2
     try clear hcz26_0
     try clear hcz26_1
     try clear hcz26_2
     try clear hcz8_0
     try clear hcz8_1
     try clear hcz8_2
     try clear hcz9_0
     try clear hcz9_1
     try clear hcz9_2
     try clear hfz10_0
     try clear hfz10_1
     try clear hfz10_2
     try clear hfz24_0
     try clear hfz24_1
     try clear hfz24_2
     try clear hfz25_0
     try clear hfz25_1
     try clear hfz25_2
     try clear hfz26_0
     try clear hfz26_1
     try clear hfz26_2
     try clear hfz8_0
     try clear hfz8_1
     try clear hfz8_2
     try clear hfz9_0
     try clear hfz9_1
     try clear hfz9_2
     try clear p2
     obtain ⟨kq, x26_19, rfl, HA, HJ19, BK141, HB⟩ := hcut
     cases kq with
     | zero => exact absurd HA.out (by simp [spec_DeedText.j1])
     | succ kj19 =>
      have H := HA.out
      clear HA
      simp only [spec_DeedText.j1] at H
      by_cases c27 : x26_19 = true
      ·subst c27
       have H1 : ((spec_l1Number.f kj19 a0_1).bind fun t147 => (if 4 + t147.size ≤ 9223372036854775807 then (some ((⟨#[97, 100, 100, 32]⟩ : ByteArray) ++ t147)) else (none))) = some r := by rw [if_pos rfl] at H; exact H
       clear H
       have H := H1
       clear H1
       replace H := zb H; obtain ⟨t147, A28, H⟩ := H; try dsimp only at H
       by_cases c29 : 4 + t147.size ≤ 9223372036854775807
       ·rw [if_pos c29] at H
        have c29b0 := eq_true c29
        have c29b1 := decide_eq_true c29
        try have c29b2 : (9223372036854775807 < 4 + t147.size) = False := eq_false (Nat.not_lt.2 c29)
        obtain rfl := Option.some.inj H
        have hcz30_0 := cz0 BK141.out
        have hcz30_1 := cz1 BK141.out
        have hcz30_2 := cz2 BK141.out
        have hfz30_0 := blk_frozen BK141.out 0
        have hfz30_1 := blk_frozen BK141.out 1
        have hfz30_2 := blk_frozen BK141.out 2
        go_wp2_with (first | (refine zg 31 (some 42) Tryd.func31 #[.int .i64 a0_1] ?_; (with_reducible refine (spec_l1Number.calls kj19 a0_1 t147 _ A28.out).mono ?_); rintro e w31 ⟨rfl, hb⟩; refine ⟨_, rfl, ?_⟩; replace BK141:=zM (blk_below (g := gb141) (o := .cells #[.int .i64 a0_0, .int .i64 a0_1, .int .i64 a0_2] 25 (0, 0)) (zs12 BK141.out) hb); replace HB:=zM (below_step (zs4 HB.out GE141.out) hb); clear hb))
        go_ret
        exact ⟨zs3, (zs4 HB.out GE141.out)⟩
       ·rw [if_neg c29] at H
        exact absurd H (by simp)
      ·replace c27 := Bool.eq_false_iff.mpr c27
       subst c27
       have H1 : (if (a0_0 == 2 && (a0_1 == 0 && (a0_2 == 0))) = true then (some (⟨#[100, 114, 111, 112]⟩ : ByteArray)) else (if (a0_0 == 3 && (a0_1 == 0 && (a0_2 == 0))) = true then (some (⟨#[116, 117, 114, 110]⟩ : ByteArray)) else (if (a0_0 == 4 && (a0_1 == 0 && (a0_2 == 0))) = true then (some (⟨#[102, 108, 97, 116]⟩ : ByteArray)) else (if (a0_0 == 5 && (a0_1 == 0 && (a0_2 == 0))) = true then (some (⟨#[98, 97, 99, 107]⟩ : ByteArray)) else (some (⟨#[]⟩ : ByteArray)))))) = some r := by rw [if_neg (show ¬ (false = true) by decide)] at H; exact H
       clear H
       have H := H1
       clear H1
       by_cases c32 : (a0_0 == 2 && (a0_1 == 0 && (a0_2 == 0))) = true
       ·rw [if_pos c32] at H
        have c32b0 : (a0_0 == 2 && (a0_1 == 0 && (a0_2 == 0))) = true := c32
        (try (have c32b1 : decide (a0_0 = 2 && (a0_1 == 0 && (a0_2 == 0))) = true := by simpa using c32))
        (try (have c32b2 : (a0_0 == 2 && (a0_1 == 0 && (a0_2 == 0))) = true := by simpa using c32))
        clear c32
        obtain rfl := Option.some.inj H
        have hcz33_0 := cz0 BK141.out
        have hcz33_1 := cz1 BK141.out
        have hcz33_2 := cz2 BK141.out
        have hfz33_0 := blk_frozen BK141.out 0
        have hfz33_1 := blk_frozen BK141.out 1
        have hfz33_2 := blk_frozen BK141.out 2
        go_wp2
        go_ret
        exact ⟨zs3, (zs4 HB.out GE141.out)⟩
       ·rw [if_neg c32] at H
        have c32b0 : (a0_0 == 2 && (a0_1 == 0 && (a0_2 == 0))) = false := by simpa using c32
        (try (have c32b1 : decide (a0_0 = 2 && (a0_1 == 0 && (a0_2 == 0))) = false := by simpa using c32))
        (try (have c32b2 : (a0_0 == 2 && (a0_1 == 0 && (a0_2 == 0))) = false := by simpa using c32))
        (try (have c32b3 : ¬ (a0_0 = 2 && (a0_1 == 0 && (a0_2 == 0))) := by simpa using c32))
        clear c32
        by_cases c34 : (a0_0 == 3 && (a0_1 == 0 && (a0_2 == 0))) = true
        ·rw [if_pos c34] at H
         have c34b0 : (a0_0 == 3 && (a0_1 == 0 && (a0_2 == 0))) = true := c34
         (try (have c34b1 : decide (a0_0 = 3 && (a0_1 == 0 && (a0_2 == 0))) = true := by simpa using c34))
         (try (have c34b2 : (a0_0 == 3 && (a0_1 == 0 && (a0_2 == 0))) = true := by simpa using c34))
         clear c34
         obtain rfl := Option.some.inj H
         have hcz35_0 := cz0 BK141.out
         have hcz35_1 := cz1 BK141.out
         have hcz35_2 := cz2 BK141.out
         have hfz35_0 := blk_frozen BK141.out 0
         have hfz35_1 := blk_frozen BK141.out 1
         have hfz35_2 := blk_frozen BK141.out 2
         go_wp2
         go_ret
         exact ⟨zs3, (zs4 HB.out GE141.out)⟩
        ·rw [if_neg c34] at H
         have c34b0 : (a0_0 == 3 && (a0_1 == 0 && (a0_2 == 0))) = false := by simpa using c34
         (try (have c34b1 : decide (a0_0 = 3 && (a0_1 == 0 && (a0_2 == 0))) = false := by simpa using c34))
         (try (have c34b2 : (a0_0 == 3 && (a0_1 == 0 && (a0_2 == 0))) = false := by simpa using c34))
         (try (have c34b3 : ¬ (a0_0 = 3 && (a0_1 == 0 && (a0_2 == 0))) := by simpa using c34))
         clear c34
         by_cases c36 : (a0_0 == 4 && (a0_1 == 0 && (a0_2 == 0))) = true
         ·rw [if_pos c36] at H
          have c36b0 : (a0_0 == 4 && (a0_1 == 0 && (a0_2 == 0))) = true := c36
          (try (have c36b1 : decide (a0_0 = 4 && (a0_1 == 0 && (a0_2 == 0))) = true := by simpa using c36))
          (try (have c36b2 : (a0_0 == 4 && (a0_1 == 0 && (a0_2 == 0))) = true := by simpa using c36))
          clear c36
          obtain rfl := Option.some.inj H
          have hcz37_0 := cz0 BK141.out
          have hcz37_1 := cz1 BK141.out
          have hcz37_2 := cz2 BK141.out
          have hfz37_0 := blk_frozen BK141.out 0
          have hfz37_1 := blk_frozen BK141.out 1
          have hfz37_2 := blk_frozen BK141.out 2
          go_wp2
          go_ret
          exact ⟨zs3, (zs4 HB.out GE141.out)⟩
         ·rw [if_neg c36] at H
          have c36b0 : (a0_0 == 4 && (a0_1 == 0 && (a0_2 == 0))) = false := by simpa using c36
          (try (have c36b1 : decide (a0_0 = 4 && (a0_1 == 0 && (a0_2 == 0))) = false := by simpa using c36))
          (try (have c36b2 : (a0_0 == 4 && (a0_1 == 0 && (a0_2 == 0))) = false := by simpa using c36))
          (try (have c36b3 : ¬ (a0_0 = 4 && (a0_1 == 0 && (a0_2 == 0))) := by simpa using c36))
          clear c36
          by_cases c38 : (a0_0 == 5 && (a0_1 == 0 && (a0_2 == 0))) = true
          ·rw [if_pos c38] at H
           have c38b0 : (a0_0 == 5 && (a0_1 == 0 && (a0_2 == 0))) = true := c38
           (try (have c38b1 : decide (a0_0 = 5 && (a0_1 == 0 && (a0_2 == 0))) = true := by simpa using c38))
           (try (have c38b2 : (a0_0 == 5 && (a0_1 == 0 && (a0_2 == 0))) = true := by simpa using c38))
           clear c38
           obtain rfl := Option.some.inj H
           have hcz39_0 := cz0 BK141.out
           have hcz39_1 := cz1 BK141.out
           have hcz39_2 := cz2 BK141.out
           have hfz39_0 := blk_frozen BK141.out 0
           have hfz39_1 := blk_frozen BK141.out 1
           have hfz39_2 := blk_frozen BK141.out 2
           go_wp2
           go_ret
           exact ⟨zs3, (zs4 HB.out GE141.out)⟩
          ·rw [if_neg c38] at H
           have c38b0 : (a0_0 == 5 && (a0_1 == 0 && (a0_2 == 0))) = false := by simpa using c38
           (try (have c38b1 : decide (a0_0 = 5 && (a0_1 == 0 && (a0_2 == 0))) = false := by simpa using c38))
           (try (have c38b2 : (a0_0 == 5 && (a0_1 == 0 && (a0_2 == 0))) = false := by simpa using c38))
           (try (have c38b3 : ¬ (a0_0 = 5 && (a0_1 == 0 && (a0_2 == 0))) := by simpa using c38))
           clear c38
           obtain rfl := Option.some.inj H
           have hcz40_0 := cz0 BK141.out
           have hcz40_1 := cz1 BK141.out
           have hcz40_2 := cz2 BK141.out
           have hfz40_0 := blk_frozen BK141.out 0
           have hfz40_1 := blk_frozen BK141.out 1
           have hfz40_2 := blk_frozen BK141.out 2
           go_wp2
           go_ret
           exact ⟨zs3, (zs4 HB.out GE141.out)⟩

/-! ### spec_l1Cut: function 41 -/
def spec_l1Cut.l0 : Nat → ByteArray → Int → List ByteArray → Int → Int → Option (List ByteArray)
 | 0, _, _, _, _, _ => none
 | k + 1, x0, x1, x5, x6, x7 => if x7 < (x0.size : Int) then (if 0 ≤ x7 then (if (bt x0 x7) = x1 then (if 0 ≤ x6 then (if x6 ≤ x7 then (if x7 ≤ (x0.size : Int) then (if x5.length < 8796093022208 then (spec_l1Cut.l0 k x0 x1 (x5 ++ [x0.extract (x6 : Int).toNat (x7 : Int).toNat]) (wrap64 (x7 + 1)) (wrap64 (x7 + 1))) else (none)) else (none)) else (none)) else (none)) else (spec_l1Cut.l0 k x0 x1 x5 x6 (wrap64 (x7 + 1)))) else (none)) else (if 0 ≤ x6 then (if x6 ≤ (x0.size : Int) then (if x5.length < 8796093022208 then (some (x5 ++ [x0.extract (x6 : Int).toNat x0.size])) else (none)) else (none)) else (none))
def spec_l1Cut.f (k : Nat) (a0 : ByteArray) (a1 : Int) : Option (List ByteArray) := spec_l1Cut.l0 k a0 a1 (([] : List ByteArray)) 0 0
theorem spec_l1Cut.mono_l : ∀ k, (∀ y0 y1 y2 y3 y4, LeO (spec_l1Cut.l0 k y0 y1 y2 y3 y4) (spec_l1Cut.l0 (k + 1) y0 y1 y2 y3 y4))
 | 0 => fun _ _ _ _ _ r h => by simp [spec_l1Cut.l0] at h
 | k + 1 => by
  have ih0 := spec_l1Cut.mono_l k
  ·intro y0 y1 y2 y3 y4
   unfold spec_l1Cut.l0
   exact zmono
theorem spec_l1Cut.mono : ∀ a0 a1 k, LeO (spec_l1Cut.f k a0 a1) (spec_l1Cut.f (k + 1) a0 a1) := by
 intro a0 a1 k
 have ih0 := spec_l1Cut.mono_l k
 unfold spec_l1Cut.f
 exact zmono
set_option maxHeartbeats 8000000 in
set_option maxRecDepth 100000 in
theorem spec_l1Cut.calls (k : Nat) (a0 : ByteArray) (a1 : Int) (r : List ByteArray) (w : World) (h : spec_l1Cut.f k a0 a1 = some r) :
  Calls Tryd.prog 41 #[.string a0, .int .u8 a1] w fun e w' => ∃ v0_ : Value, e = .returned (v0_) ∧ Kd.R Kd.string 9 w' w.heap.size (fun _ => True) v0_ r ∧ Below w.heap.size w w' := by
 have HB:=zM (Below.refl w.heap.size w)
 have H : (spec_l1Cut.l0 k a0 a1 (([] : List ByteArray)) 0 0) = some r := h
 clear h
 obtain ⟨y148, hy148⟩ : ∃ y_ : List ByteArray, y_ = (([] : List ByteArray)) := ⟨_, rfl⟩
 replace H : (spec_l1Cut.l0 k a0 a1 y148 0 0) = some r := by first | (rw [hy148]; with_reducible exact H) | (have H2_ := (Option.bind_some _ _).symm.trans H; rw [hy148]; with_reducible exact H2_) | (have H2_ := (Option.bind_some _ _).symm.trans H; with_reducible exact H2_) | with_reducible exact H | (rw [hy148]; exact H) | exact H
 have Ny148:=zM hy148
 clear hy148
 have H':=zM H
 clear H
 go_enter Tryd.func41, Tryd.ntmps41
 go_wp2_with (first | ((with_reducible refine gate_dst (N := 8) rfl ?_); refine Kd.R_lit Kd.string _ 9 zs0 (N := 8) zs0 (xs := ([] : List ByteArray)) (inner := []) (ok := fun _ => True) (okp := fun _ => True) zs1 ?hp (fun _ hk => hk) trivial (Below.refl _ _) (Nat.le_refl _) (by simp) ?_; (case hp => exact (Reps.none _ _)); intro v149 w3 ho4 hb hg_ hnew_; clear hg_ hnew_; (first | rw [← Ny148.out] at ho4 | (simp only [Int.reduceToNat] at ho4; rw [← Ny148.out] at ho4)); have HO150:=zM (Kd.R_lower ho4 (below_size (zs2 HB.out))); replace HB:=zM (below_step (zs2 HB.out) hb); clear hb ho4))
 go_loopg [5, 6, 7] k (fun kq v5 v6 v7 w' => ∃ (x5_1 : List ByteArray) (x6_1 : Int) (x7_1 : Int), v6 = .int .i64 x6_1 ∧ v7 = .int .i64 x7_1 ∧ Aside0 (spec_l1Cut.l0 kq a0 a1 x5_1 x6_1 x7_1 = some r) ∧ Aside0 (kq ≤ k) ∧ Aside0 (Kd.R Kd.string 9 w' w.heap.size (fun _ => True) v5 x5_1) ∧ Aside0 (Below w.heap.size w w'))
 case atStart => exact ⟨(y148), (0), (0), zs6, zs6, H', ⟨Nat.le_refl _⟩, ⟨by (with_reducible repeat (first | apply Kd.R_alloc | apply Kd.R_drewN | apply Kd.R_drew)); exact HO150.out⟩, ⟨(zs2 HB.out)⟩⟩
 case round =>
  clear H'
  try clear p2
  try clear c4
  obtain ⟨x5_1, x6_1, x7_1, rfl, rfl, HA, HK1, HO_5, HB⟩ := hrel
  cases gk with
  | zero => exact absurd HA.out (by simp [spec_l1Cut.l0])
  | succ k1 =>
   have H := HA.out
   clear HA
   simp only [spec_l1Cut.l0] at H
   by_cases c5 : x7_1 < (a0.size : Int)
   ·rw [if_pos c5] at H
    have c5b0 := decide_eq_true c5
    clear c5
    by_cases c6 : 0 ≤ x7_1
    ·rw [if_pos c6] at H
     have c6b0 := decide_eq_true c6
     clear c6
     by_cases c8 : (bt a0 x7_1) = a1
     ·rw [if_pos c8] at H
      have c8b0 := beq_iff_eq.mpr c8
      have c8b1 := bne_eq_false_iff_eq.mpr c8
      clear c8
      by_cases c9 : 0 ≤ x6_1
      ·rw [if_pos c9] at H
       have c9b0 := eq_true c9
       have c9b1 := decide_eq_true c9
       clear c9
       by_cases c10 : x6_1 ≤ x7_1
       ·rw [if_pos c10] at H
        have c10b0 := eq_true c10
        have c10b1 := decide_eq_true c10
        clear c10
        by_cases c11 : x7_1 ≤ (a0.size : Int)
        ·rw [if_pos c11] at H
         have c11b0 := eq_true c11
         have c11b1 := decide_eq_true c11
         clear c11
         by_cases c12 : x5_1.length < 8796093022208
         ·rw [if_pos c12] at H
          have LMc12:=zM c12
          clear c12
          obtain ⟨y151, hy151⟩ : ∃ y_ : List ByteArray, y_ = (x5_1 ++ [a0.extract (x6_1 : Int).toNat (x7_1 : Int).toNat]) := ⟨_, rfl⟩
          replace H : (spec_l1Cut.l0 k1 a0 a1 y151 (wrap64 (x7_1 + 1)) (wrap64 (x7_1 + 1))) = some r := by first | (rw [hy151]; with_reducible exact H) | (have H2_ := (Option.bind_some _ _).symm.trans H; rw [hy151]; with_reducible exact H2_) | (have H2_ := (Option.bind_some _ _).symm.trans H; with_reducible exact H2_) | with_reducible exact H | (rw [hy151]; exact H) | exact H
          have Ny151:=zM hy151
          clear hy151
          have H':=zM H
          clear H
          have p7 : 0 ≤ (x7_1 : Int) := of_decide_eq_true zs8
          have q7 : x7_1 < (a0.size : Int) := of_decide_eq_true zs8
          have hx7 := bt_at a0 x7_1
          replace p7 := eq_true p7
          replace q7 := eq_true q7
          go_wp2_with (first | ((with_reducible refine gate_builtin (b := .append) (xs := #[.tmp 20, .tmp 25]) rfl ?_); at_builtin; refine Kd.R_append Kd.string (w0 := w) w.heap.size rfl (.tmp 20) (.tmp 25) 50 9 (.string ⟨#[]⟩) 16 rfl Tryd.underlying50 info9 rfl (by decide) (by omega) u5 x5_1 (a0.extract (x6_1 : Int).toNat (x7_1 : Int).toNat) [.string (a0.extract (x6_1 : Int).toNat (x7_1 : Int).toNat)] (fun _ => True) (fun _ => False) rfl rfl ?aP (fun _ hk => hk.elim) ?aF ?aO ?aB ?aS ?aL ?_; (case aP => exact rfl); (case aB => exact (zs2 HB.out)); (case aF => exact (fun _ _ => trivial)); (case aO => exact (zs11 HO_5.out)); (case aS => exact (below_size (zs2 HB.out))); (case aL => have := LMc12.out; omega); intro v152 w13 ho hb hg hat; rw [← Ny151.out] at ho; replace HB:=zM (hb); have HO153:=zM (ho); clear HO_5; clear ho hb hg hat))
          go_roundg k1
          case measure => have := HK1.out; omega
          case rel => exact ⟨(y151), (wrap64 (x7_1 + 1)), (wrap64 (x7_1 + 1)), zs6, zs6, H', ⟨by have := HK1.out; omega⟩, ⟨by (with_reducible repeat (first | apply Kd.R_alloc | apply Kd.R_drewN | apply Kd.R_drew)); exact HO153.out⟩, ⟨(zs2 HB.out)⟩⟩
         ·rw [if_neg c12] at H
          exact absurd H (by simp)
        ·rw [if_neg c11] at H
         exact absurd H (by simp)
       ·rw [if_neg c10] at H
        exact absurd H (by simp)
      ·rw [if_neg c9] at H
       exact absurd H (by simp)
     ·rw [if_neg c8] at H
      have c8b0 := beq_eq_false_iff_ne.mpr c8
      have c8b1 := bne_iff_ne.mpr c8
      have H':=zM H
      clear H
      have p7 : 0 ≤ (x7_1 : Int) := of_decide_eq_true zs8
      have q7 : x7_1 < (a0.size : Int) := of_decide_eq_true zs8
      have hx7 := bt_at a0 x7_1
      replace p7 := eq_true p7
      replace q7 := eq_true q7
      go_wp2
      go_roundg k1
      case measure => have := HK1.out; omega
      case rel => exact ⟨(x5_1), (x6_1), (wrap64 (x7_1 + 1)), zs6, zs6, H', ⟨by have := HK1.out; omega⟩, ⟨by (with_reducible repeat (first | apply Kd.R_alloc | apply Kd.R_drewN | apply Kd.R_drew)); exact HO_5.out⟩, ⟨(zs2 HB.out)⟩⟩
    ·rw [if_neg c6] at H
     exact absurd H (by simp)
   ·rw [if_neg c5] at H
    have c5b0 := decide_eq_false c5
    clear c5
    by_cases c14 : 0 ≤ x6_1
    ·rw [if_pos c14] at H
     have c14b0 := eq_true c14
     have c14b1 := decide_eq_true c14
     clear c14
     by_cases c15 : x6_1 ≤ (a0.size : Int)
     ·rw [if_pos c15] at H
      have c15b0 := eq_true c15
      have c15b1 := decide_eq_true c15
      clear c15
      by_cases c16 : x5_1.length < 8796093022208
      ·rw [if_pos c16] at H
       have LMc16:=zM c16
       clear c16
       obtain ⟨y154, hy154⟩ : ∃ y_ : List ByteArray, y_ = (x5_1 ++ [a0.extract (x6_1 : Int).toNat a0.size]) := ⟨_, rfl⟩
       replace H : (some y154) = some r := by first | (rw [hy154]; with_reducible exact H) | (have H2_ := (Option.bind_some _ _).symm.trans H; rw [hy154]; with_reducible exact H2_) | (have H2_ := (Option.bind_some _ _).symm.trans H; with_reducible exact H2_) | with_reducible exact H | (rw [hy154]; exact H) | exact H
       have Ny154:=zM hy154
       clear hy154
       obtain rfl := Option.some.inj H
       go_wp2_with (first | ((with_reducible refine gate_builtin (b := .append) (xs := #[.tmp 29, .tmp 33]) rfl ?_); at_builtin; refine Kd.R_append Kd.string (w0 := w) w.heap.size rfl (.tmp 29) (.tmp 33) 50 9 (.string ⟨#[]⟩) 16 rfl Tryd.underlying50 info9 rfl (by decide) (by omega) u5 x5_1 (a0.extract (x6_1 : Int).toNat a0.size) [.string (a0.extract (x6_1 : Int).toNat a0.size)] (fun _ => True) (fun _ => False) rfl rfl ?aP (fun _ hk => hk.elim) ?aF ?aO ?aB ?aS ?aL ?_; (case aP => exact rfl); (case aB => exact (zs2 HB.out)); (case aF => exact (fun _ _ => trivial)); (case aO => exact (zs11 HO_5.out)); (case aS => exact (below_size (zs2 HB.out))); (case aL => have := LMc16.out; omega); intro v155 w17 ho hb hg hat; rw [← Ny154.out] at ho; replace HB:=zM (hb); have HO156:=zM (ho); clear HO_5; clear ho hb hg hat))
       go_ret
       exact ⟨_, zs3, by (with_reducible repeat (first | apply Kd.R_alloc | apply Kd.R_drewN | apply Kd.R_drew)); exact HO156.out, (zs2 HB.out)⟩
      ·rw [if_neg c16] at H
       exact absurd H (by simp)
     ·rw [if_neg c15] at H
      exact absurd H (by simp)
    ·rw [if_neg c14] at H
     exact absurd H (by simp)

end Go.Proofs.YtopfhdhdpnenpaaDoor.LG
