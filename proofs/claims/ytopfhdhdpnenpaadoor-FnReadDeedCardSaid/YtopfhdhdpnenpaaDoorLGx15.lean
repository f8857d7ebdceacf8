/- Printed by a program of this session (wip/lp/lp.py) out of the translation: functions with the same answers as the Go code, and their contracts; no conditions beyond those that each theorem names. -/
import Derived.Test.YtopfhdhdpnenpaaDoorLGx0
import Derived.Test.YtopfhdhdpnenpaaDoorLGx6
import Derived.Test.YtopfhdhdpnenpaaDoorLGx8
import Derived.Test.YtopfhdhdpnenpaaDoorLGx9
import Derived.Test.YtopfhdhdpnenpaaDoorLGx10
import Derived.Test.YtopfhdhdpnenpaaDoorLGx11
import Derived.Test.YtopfhdhdpnenpaaDoorLGx12
import Derived.Test.YtopfhdhdpnenpaaDoorLGx13
import Derived.Test.YtopfhdhdpnenpaaDoorLGx14
namespace Go.Proofs.YtopfhdhdpnenpaaDoor.LG
open Go.RowKit Go.Proofs.YtopfhdhdpnenpaaDoorV.PrintWords Go.Proofs.YtopfhdhdpnenpaaDoorV.PrintLast Go.Proofs.YtopfhdhdpnenpaaDoorV.PrintMore
attribute [local go_sem] max2_int min2_int max_two min_two max_three min_three max_four min_four   -- for this text's walks alone
set_option linter.unusedVariables false
set_option linter.unusedSimpArgs false

/-! ### spec_l20Wild: function 36 -/
def spec_l20Wild.j0 : Nat → Int → List Int → Bool → List Int → Int → Option (List Int × Int)
 | 0, _, _, _, _, _ => none
 | k + 1, x1, x5, x17, x1000, x1001 => if x17 = true then ((spec_l20Order.f k x1000 x1001 (x5.length : Int)).bind fun bt394 => ((spec_PutInOrder.f k x5 bt394.1).bind fun bt398 => (some (bt398.1, bt394.2)))) else ((spec_l20Rd_pick.f k x1000 x1001 3).bind fun bt402 => (if bt402.1 = 0 then ((spec_l20Flat.f k x1000 bt402.2 x1).bind fun bt404 => (some (bt404.1, bt404.2))) else (some (x5, bt402.2))))
def spec_l20Wild.f (k : Nat) (s0_0 : List Int) (s0_1 : Int) (a1 : Int) : Option (List Int × Int) := (spec_l20Tree.f k s0_0 s0_1 a1).bind fun bt387 => ((spec_l20Rd_pick.f k s0_0 bt387.2 2).bind fun bt391 => (if bt391.1 = 0 then ((spec_TreeOk.f k bt387.1).bind fun t393 => (spec_l20Wild.j0 k a1 bt387.1 t393 s0_0 bt391.2)) else (spec_l20Wild.j0 k a1 bt387.1 false s0_0 bt391.2)))
theorem spec_l20Wild.mono_l : ∀ k, (∀ y0 y1 y2 y3 y4, LeO (spec_l20Wild.j0 k y0 y1 y2 y3 y4) (spec_l20Wild.j0 (k + 1) y0 y1 y2 y3 y4))
 | 0 => fun _ _ _ _ _ r h => by simp [spec_l20Wild.j0] at h
 | k + 1 => by
  have ih0 := spec_l20Wild.mono_l k
  ·intro y0 y1 y2 y3 y4
   unfold spec_l20Wild.j0
   have := @spec_PutInOrder.mono; have := @spec_TreeOk.mono; have := @spec_l20Flat.mono; have := @spec_l20Order.mono; have := @spec_l20Rd_pick.mono; have := @spec_l20Tree.mono; exact zmono
theorem spec_l20Wild.mono : ∀ a0 a1 a2 k, LeO (spec_l20Wild.f k a0 a1 a2) (spec_l20Wild.f (k + 1) a0 a1 a2) := by
 intro a0 a1 a2 k
 have ih0 := spec_l20Wild.mono_l k
 unfold spec_l20Wild.f
 have := @spec_PutInOrder.mono; have := @spec_TreeOk.mono; have := @spec_l20Flat.mono; have := @spec_l20Order.mono; have := @spec_l20Rd_pick.mono; have := @spec_l20Tree.mono; exact zmono
set_option maxHeartbeats 8000000 in
set_option maxRecDepth 100000 in
theorem spec_l20Wild.calls (k : Nat) (g : Nat) (s0_0 : List Int) (s0_1 : Int) (a1 : Int) (r1 : List Int) (r2 : Int) (w0 w : World) (hI : IsS73 w0 w g s0_0 s0_1) (hB : Below w0.heap.size w0 w) (h : spec_l20Wild.f k s0_0 s0_1 a1 = some (r1, r2)) :
  Calls Tryd.prog 36 #[.pointer (some ⟨g, 0, none⟩), .int .i64 a1] w fun e w' => ∃ v0_ : Value, e = .returned (v0_) ∧ Kd.R (Kd.int .i64) 3 w' w.heap.size (fun _ => True) v0_ r1 ∧ IsS73 w0 w' g s0_0 r2 ∧ Below w0.heap.size w0 w' ∧ KeepBut w w' g none := by
 have HI0:=zM hI
 have HK:=zM (KeepBut.refl w g none)
 have HL:=zM hB.size
 clear hI
 have HW0:=zM hB.size
 have HB:=zM hB
 clear hB
 have H : ((spec_l20Tree.f k s0_0 s0_1 a1).bind fun bt387 => ((spec_l20Rd_pick.f k s0_0 bt387.2 2).bind fun bt391 => (if bt391.1 = 0 then ((spec_TreeOk.f k bt387.1).bind fun t393 => (spec_l20Wild.j0 k a1 bt387.1 t393 s0_0 bt391.2)) else (spec_l20Wild.j0 k a1 bt387.1 false s0_0 bt391.2)))) = some (r1, r2) := h
 clear h
 replace H := zb H; obtain ⟨⟨t387, t390⟩, A3, H⟩ := H; try dsimp only at H
 have HC4:=zM H
 clear H
 go_enter Tryd.func36, Tryd.ntmps36
 go_upto_region 2 with (first | (refine zg 50 (some 10) Tryd.func50 #[.pointer (some ⟨g, 0, none⟩), .int .i64 a1] ?_; (with_reducible refine (spec_l20Tree.calls k g s0_0 s0_1 a1 t387 t390 w0 _ (zs14 HI0.out) (zs16 HB.out HI0.out) A3.out).mono ?_); rintro e w5 ⟨v388, rfl, ho0, hi, hb, hk⟩; refine ⟨_, rfl, ?_⟩; have HO389:=zM (Kd.R_lower ho0 (keep_size (w := w) (g := g) (row := none) (zs15 HK.out))); replace HK:=zM (KeepBut.trans (zs15 HK.out) hk (.inl rfl)); replace HB:=zM (hb); replace HI0:=zM (hi); clear hb hk hi ho0))
 (try simp only [Act.put, zE, zF, zG])
 go_cut [17] (fun v17 wc => ∃ (kq : Nat) (x17_3 : Bool) (x1001_3 : Int), v17 = .bool x17_3 ∧ Aside0 (spec_l20Wild.j0 kq a1 t387 x17_3 s0_0 x1001_3 = some (r1, r2)) ∧ Aside0 (kq ≤ k) ∧ Aside0 (Kd.R (Kd.int .i64) 3 wc w.heap.size (fun _ => True) v388 t387) ∧ Aside0 (IsS73 w0 wc g s0_0 x1001_3) ∧ Aside0 (KeepBut w wc g none) ∧ Aside0 (Below w0.heap.size w0 wc))
 case first =>
  have H := HC4.out
  clear HC4
  replace H := zb H; obtain ⟨⟨t391, t392⟩, A6, H⟩ := H; try dsimp only at H
  by_cases c7 : t391 = 0
  ·rw [if_pos c7] at H
   have c7b0 := beq_iff_eq.mpr c7
   have c7b1 := bne_eq_false_iff_eq.mpr c7
   clear c7
   (first | rw [c7b0] | (simp only [i64_w, i32_w]; rw [c7b0]) | skip)
   replace H := zb H; obtain ⟨t393, A8, H⟩ := H; try dsimp only at H
   have H':=zM H
   clear H
   go_wp2_with (first | (refine zg 43 (some 12) Tryd.func43 #[.pointer (some ⟨g, 0, none⟩), .int .i64 2] ?_; (with_reducible refine (spec_l20Rd_pick.calls k g s0_0 t390 2 t391 t392 w0 _ (zs14 HI0.out) (zs16 HB.out HI0.out) A6.out).mono ?_); rintro e w9 ⟨rfl, hi, hb, hk⟩; refine ⟨_, rfl, ?_⟩; replace HO389:=zM (Kd.R_mono (Kd.R_keep (IsS73.apart (show IsS73 w0 _ g s0_0 t390 from (zs14 HI0.out)) (zs11 HO389.out) (by decide)) hk (fun _ h => h.2)) (fun _ h => h.1)); replace HK:=zM (KeepBut.trans (zs15 HK.out) hk (.inl rfl)); replace HB:=zM (hb); replace HI0:=zM (hi); clear hb hk hi; obtain ⟨Ao10, co10, eo10⟩ := Kd.R_slice HO389.out; subst eo10) | (go_at_call 51; (with_reducible refine (spec_TreeOk.calls k _ _ t387 t393 _ (zs10 HO389.out) ((Kd.R_reads' HO389.out).2.1) A8.out).mono ?_); rintro e w' ⟨rfl, ⟨nd, rfl⟩⟩))
   go_meet
   case rel => exact ⟨_, (t393), (t392), zs6, H', ⟨zs7⟩, ⟨by (with_reducible repeat (first | apply Kd.R_alloc | apply Kd.R_drewN | apply Kd.R_drew)); exact HO389.out⟩, ⟨(zs14 HI0.out)⟩, ⟨(zs15 HK.out)⟩, ⟨(zs16 HB.out HI0.out)⟩⟩
  ·rw [if_neg c7] at H
   have c7b0 := beq_eq_false_iff_ne.mpr c7
   have c7b1 := bne_iff_ne.mpr c7
   (first | rw [c7b0] | (simp only [i64_w, i32_w]; rw [c7b0]) | skip)
   have H':=zM H
   clear H
   go_wp2_with (first | (refine zg 43 (some 12) Tryd.func43 #[.pointer (some ⟨g, 0, none⟩), .int .i64 2] ?_; (with_reducible refine (spec_l20Rd_pick.calls k g s0_0 t390 2 t391 t392 w0 _ (zs14 HI0.out) (zs16 HB.out HI0.out) A6.out).mono ?_); rintro e w11 ⟨rfl, hi, hb, hk⟩; refine ⟨_, rfl, ?_⟩; replace HO389:=zM (Kd.R_mono (Kd.R_keep (IsS73.apart (show IsS73 w0 _ g s0_0 t390 from (zs14 HI0.out)) (zs11 HO389.out) (by decide)) hk (fun _ h => h.2)) (fun _ h => h.1)); replace HK:=zM (KeepBut.trans (zs15 HK.out) hk (.inl rfl)); replace HB:=zM (hb); replace HI0:=zM (hi); clear hb hk hi))
   go_meet
   case rel => exact ⟨_, (false), (t392), zs6, H', ⟨zs7⟩, ⟨by (with_reducible repeat (first | apply Kd.R_alloc | apply Kd.R_drewN | apply Kd.R_drew)); exact HO389.out⟩, ⟨(zs14 HI0.out)⟩, ⟨(zs15 HK.out)⟩, ⟨(zs16 HB.out HI0.out)⟩⟩
 case rest =>
  clear HC4
  try clear p2
  try clear c3
  try clear c4
  try clear c5
  try clear c7
  try clear c7b0
  try clear c7b1
  obtain ⟨kq, x17_3, x1001_3, rfl, HA, HJ3, HO_5, HI0, HK, HB⟩ := hcut
  cases kq with
  | zero => exact absurd HA.out (by simp [spec_l20Wild.j0])
  | succ kj3 =>
   have H := HA.out
   clear HA
   simp only [spec_l20Wild.j0] at H
   by_cases c12 : x17_3 = true
   ·subst c12
    have H1 : ((spec_l20Order.f kj3 s0_0 x1001_3 (t387.length : Int)).bind fun bt394 => ((spec_PutInOrder.f kj3 t387 bt394.1).bind fun bt398 => (some (bt398.1, bt394.2)))) = some (r1, r2) := by rw [if_pos rfl] at H; exact H
    clear H
    have H := H1
    clear H1
    replace H := zb H; obtain ⟨⟨t394, t397⟩, A13, H⟩ := H; try dsimp only at H
    replace H := zb H; obtain ⟨⟨t398, t399⟩, A14, H⟩ := H; try dsimp only at H
    simp only [Option.some.injEq, Prod.mk.injEq] at H
    obtain ⟨rfl, rfl⟩ := H
    obtain ⟨Ao15, co15, eo15⟩ := Kd.R_slice HO_5.out
    subst eo15
    go_wp2_with (first | (refine zg 53 (some 23) Tryd.func53 #[.pointer (some ⟨g, 0, none⟩), .int .i64 (t387.length : Int)] ?_; (with_reducible refine (spec_l20Order.calls kj3 g s0_0 x1001_3 (t387.length : Int) t394 t397 w0 _ (zs14 HI0.out) (zs16 HB.out HI0.out) A13.out).mono ?_); rintro e w16 ⟨v395, rfl, ho0, hi, hb, hk⟩; refine ⟨_, rfl, ?_⟩; have HO396:=zM (Kd.R_lower (Kd.R_new' ho0 (Kd.R_lt (zs11 HO_5.out))) (keep_size (w := w) (g := g) (row := none) (zs15 HK.out))); replace HO_5:=zM (Kd.R_mono (Kd.R_told (Kd.R_oldK (IsS73.apart (show IsS73 w0 _ g s0_0 x1001_3 from (zs14 HI0.out)) (zs11 HO_5.out) (by decide)) hk) (Kd.R_base ho0)) (fun _ h_ => h_.1)); replace HK:=zM (KeepBut.trans (zs15 HK.out) hk (.inl rfl)); replace HB:=zM (hb); replace HI0:=zM (hi); clear hb hk hi ho0; obtain ⟨Ao17, co17, eo17⟩ := Kd.R_slice HO396.out; subst eo17) | (refine zg 52 (some 24) Tryd.func52 #[.slice Ao15 t387.length co15, .slice Ao17 t394.length co17] ?_; (with_reducible refine (spec_PutInOrder.calls kj3 _ _ t387 _ _ t394 t398 t399 _ (zs10 HO_5.out) ((Kd.R_reads' HO_5.out).2.1) (zs10 HO396.out) ((Kd.R_reads' HO396.out).2.1) A14.out).mono ?_); rintro e w18 ⟨v400, rfl, ho0, hb⟩; refine ⟨_, rfl, ?_⟩; have HO401:=zM (Kd.R_lower (Kd.R_new' (Kd.R_new' ho0 (Kd.R_lt (zs11 HO_5.out))) (Kd.R_lt (zs11 HO396.out))) (keep_size (w := w) (g := g) (row := none) (zs15 HK.out))); replace HO_5:=zM (Kd.R_elder' (zs11 HO_5.out) (Kd.R_base ho0) hb); replace HO396:=zM (Kd.R_elder' (zs11 HO396.out) (Kd.R_base ho0) hb); replace HK:=zM (KeepBut.trans (zs15 HK.out) (KeepBut.of_below hb g none) (.inl rfl)); replace HB:=zM (below_step (zs16 HB.out HI0.out) hb); replace HI0:=zM (IsS73.below (zs14 HI0.out) hb); clear hb ho0))
    go_ret
    exact ⟨_, zs3, by (with_reducible repeat (first | apply Kd.R_alloc | apply Kd.R_drewN | apply Kd.R_drew)); exact Kd.R_mono HO401.out (fun _ hk => trivial), (zs14 HI0.out), (zs16 HB.out HI0.out), (zs15 HK.out)⟩
   ·replace c12 := Bool.eq_false_iff.mpr c12
    subst c12
    have H1 : ((spec_l20Rd_pick.f kj3 s0_0 x1001_3 3).bind fun bt402 => (if bt402.1 = 0 then ((spec_l20Flat.f kj3 s0_0 bt402.2 a1).bind fun bt404 => (some (bt404.1, bt404.2))) else (some (t387, bt402.2)))) = some (r1, r2) := by rw [if_neg (show ¬ (false = true) by decide)] at H; exact H
    clear H
    have H := H1
    clear H1
    replace H := zb H; obtain ⟨⟨t402, t403⟩, A19, H⟩ := H; try dsimp only at H
    by_cases c20 : t402 = 0
    ·rw [if_pos c20] at H
     have c20b0 := beq_iff_eq.mpr c20
     have c20b1 := bne_eq_false_iff_eq.mpr c20
     clear c20
     replace H := zb H; obtain ⟨⟨t404, t407⟩, A21, H⟩ := H; try dsimp only at H
     simp only [Option.some.injEq, Prod.mk.injEq] at H
     obtain ⟨rfl, rfl⟩ := H
     go_wp2_with (first | (refine zg 43 (some 29) Tryd.func43 #[.pointer (some ⟨g, 0, none⟩), .int .i64 3] ?_; (with_reducible refine (spec_l20Rd_pick.calls kj3 g s0_0 x1001_3 3 t402 t403 w0 _ (zs14 HI0.out) (zs16 HB.out HI0.out) A19.out).mono ?_); rintro e w22 ⟨rfl, hi, hb, hk⟩; refine ⟨_, rfl, ?_⟩; replace HO_5:=zM (Kd.R_mono (Kd.R_keep (IsS73.apart (show IsS73 w0 _ g s0_0 x1001_3 from (zs14 HI0.out)) (zs11 HO_5.out) (by decide)) hk (fun _ h => h.2)) (fun _ h => h.1)); replace HK:=zM (KeepBut.trans (zs15 HK.out) hk (.inl rfl)); replace HB:=zM (hb); replace HI0:=zM (hi); clear hb hk hi) | (refine zg 54 (some 33) Tryd.func54 #[.pointer (some ⟨g, 0, none⟩), .int .i64 a1] ?_; (with_reducible refine (spec_l20Flat.calls kj3 g s0_0 t403 a1 t404 t407 w0 _ (zs14 HI0.out) (zs16 HB.out HI0.out) A21.out).mono ?_); rintro e w23 ⟨v405, rfl, ho0, hi, hb, hk⟩; refine ⟨_, rfl, ?_⟩; have HO406:=zM (Kd.R_lower (Kd.R_new' ho0 (Kd.R_lt (zs11 HO_5.out))) (keep_size (w := w) (g := g) (row := none) (zs15 HK.out))); replace HO_5:=zM (Kd.R_mono (Kd.R_told (Kd.R_oldK (IsS73.apart (show IsS73 w0 _ g s0_0 t403 from (zs14 HI0.out)) (zs11 HO_5.out) (by decide)) hk) (Kd.R_base ho0)) (fun _ h_ => h_.1)); replace HK:=zM (KeepBut.trans (zs15 HK.out) hk (.inl rfl)); replace HB:=zM (hb); replace HI0:=zM (hi); clear hb hk hi ho0))
     go_ret
     exact ⟨_, zs3, by (with_reducible repeat (first | apply Kd.R_alloc | apply Kd.R_drewN | apply Kd.R_drew)); exact Kd.R_mono HO406.out (fun _ hk => trivial), (zs14 HI0.out), (zs16 HB.out HI0.out), (zs15 HK.out)⟩
    ·rw [if_neg c20] at H
     have c20b0 := beq_eq_false_iff_ne.mpr c20
     have c20b1 := bne_iff_ne.mpr c20
     simp only [Option.some.injEq, Prod.mk.injEq] at H
     obtain ⟨rfl, rfl⟩ := H
     go_wp2_with (first | (refine zg 43 (some 29) Tryd.func43 #[.pointer (some ⟨g, 0, none⟩), .int .i64 3] ?_; (with_reducible refine (spec_l20Rd_pick.calls kj3 g s0_0 x1001_3 3 t402 t403 w0 _ (zs14 HI0.out) (zs16 HB.out HI0.out) A19.out).mono ?_); rintro e w24 ⟨rfl, hi, hb, hk⟩; refine ⟨_, rfl, ?_⟩; replace HO_5:=zM (Kd.R_mono (Kd.R_keep (IsS73.apart (show IsS73 w0 _ g s0_0 x1001_3 from (zs14 HI0.out)) (zs11 HO_5.out) (by decide)) hk (fun _ h => h.2)) (fun _ h => h.1)); replace HK:=zM (KeepBut.trans (zs15 HK.out) hk (.inl rfl)); replace HB:=zM (hb); replace HI0:=zM (hi); clear hb hk hi))
     go_ret
     exact ⟨_, zs3, by (with_reducible repeat (first | apply Kd.R_alloc | apply Kd.R_drewN | apply Kd.R_drew)); exact HO_5.out, (zs14 HI0.out), (zs16 HB.out HI0.out), (zs15 HK.out)⟩

/-! ### spec_l20Spoil: function 44 -/
def spec_l20Spoil.f (k : Nat) (s0_0 : List Int) (s0_1 : Int) (a1 : ByteArray) : Option (ByteArray × Int) := if (a1.size : Int) = 0 then (some ((⟨#[10]⟩ : ByteArray), s0_1)) else ((spec_l20Rd_pick.f k s0_0 s0_1 (a1.size : Int)).bind fun bt408 => (if 0 ≤ bt408.1 then (if bt408.1 ≤ (a1.size : Int) then ((some (([(⟨#[]⟩ : ByteArray), (⟨#[48]⟩ : ByteArray), (⟨#[32]⟩ : ByteArray), (⟨#[10]⟩ : ByteArray), (⟨#[45]⟩ : ByteArray), (⟨#[98, 97, 99, 107]⟩ : ByteArray)] : List ByteArray) : List ByteArray)).bind fun y410 => ((spec_l20Rd_pick.f k s0_0 bt408.2 6).bind fun bt413 => (if 0 ≤ bt413.1 then (if bt413.1 < (y410.length : Int) then (if (a1.extract 0 (bt408.1 : Int).toNat).size + (rdOf ByteArray.empty y410 bt413.1).size ≤ 9223372036854775807 then (if 0 ≤ (wrap64 (bt408.1 + 1)) then (if (wrap64 (bt408.1 + 1)) ≤ (a1.size : Int) then (if ((a1.extract 0 (bt408.1 : Int).toNat) ++ (rdOf ByteArray.empty y410 bt413.1)).size + (a1.extract ((wrap64 (bt408.1 + 1)) : Int).toNat a1.size).size ≤ 9223372036854775807 then (some (((a1.extract 0 (bt408.1 : Int).toNat) ++ (rdOf ByteArray.empty y410 bt413.1)) ++ (a1.extract ((wrap64 (bt408.1 + 1)) : Int).toNat a1.size), bt413.2)) else (none)) else (none)) else (none)) else (none)) else (none)) else (none)))) else (none)) else (none)))
theorem spec_l20Spoil.mono : ∀ a0 a1 a2 k, LeO (spec_l20Spoil.f k a0 a1 a2) (spec_l20Spoil.f (k + 1) a0 a1 a2) := by
 intro a0 a1 a2 k
 unfold spec_l20Spoil.f
 have := @spec_l20Rd_pick.mono; exact zmono
def spec_l20Spoil.T4 : Bool × List (List Nat × List Nat) := (true, [([], []), ([], []), ([0, 1], [0, 1]), ([], []), ([], []), ([4], [4]), ([3, 5], [3, 5]), ([6], [6]), ([2, 7], [2, 7]), ([], []), ([], []), ([10], [10]), ([9, 11], [9, 11]), ([8, 12], [8, 12]), ([13, 5, 0, 1, 2, 3, 4, 5, 6, 7, 8, 9, 10, 11, 12, 13], [13])])
def spec_l20Spoil.B4 : List Nat := [0, 0, 3, 0, 0, 16, 56, 120, 255, 0, 0, 1024, 3584, 8191, 16383]
theorem spec_l20Spoil.tab4 : rtab .any (opsOf Tryd.f44 4) = spec_l20Spoil.T4 := by kernel_rfl
theorem spec_l20Spoil.bits4 : waitsOk spec_l20Spoil.T4.2 spec_l20Spoil.B4 = true := by kernel_rfl
set_option maxHeartbeats 8000000 in
set_option maxRecDepth 100000 in
theorem spec_l20Spoil.calls (k : Nat) (g : Nat) (s0_0 : List Int) (s0_1 : Int) (a1 : ByteArray) (r1 : ByteArray) (r2 : Int) (w0 w : World) (hI : IsS73 w0 w g s0_0 s0_1) (hB : Below w0.heap.size w0 w) (h : spec_l20Spoil.f k s0_0 s0_1 a1 = some (r1, r2)) :
  Calls Tryd.prog 44 #[.pointer (some ⟨g, 0, none⟩), .string a1] w fun e w' => e = .returned (.string r1) ∧ IsS73 w0 w' g s0_0 r2 ∧ Below w0.heap.size w0 w' ∧ KeepBut w w' g none := by
 have HI0:=zM hI
 have HK:=zM (KeepBut.refl w g none)
 have HL:=zM hB.size
 clear hI
 have HW0:=zM hB.size
 have HB:=zM hB
 clear hB
 have H : (if (a1.size : Int) = 0 then (some ((⟨#[10]⟩ : ByteArray), s0_1)) else ((spec_l20Rd_pick.f k s0_0 s0_1 (a1.size : Int)).bind fun bt408 => (if 0 ≤ bt408.1 then (if bt408.1 ≤ (a1.size : Int) then ((some (([(⟨#[]⟩ : ByteArray), (⟨#[48]⟩ : ByteArray), (⟨#[32]⟩ : ByteArray), (⟨#[10]⟩ : ByteArray), (⟨#[45]⟩ : ByteArray), (⟨#[98, 97, 99, 107]⟩ : ByteArray)] : List ByteArray) : List ByteArray)).bind fun y410 => ((spec_l20Rd_pick.f k s0_0 bt408.2 6).bind fun bt413 => (if 0 ≤ bt413.1 then (if bt413.1 < (y410.length : Int) then (if (a1.extract 0 (bt408.1 : Int).toNat).size + (rdOf ByteArray.empty y410 bt413.1).size ≤ 9223372036854775807 then (if 0 ≤ (wrap64 (bt408.1 + 1)) then (if (wrap64 (bt408.1 + 1)) ≤ (a1.size : Int) then (if ((a1.extract 0 (bt408.1 : Int).toNat) ++ (rdOf ByteArray.empty y410 bt413.1)).size + (a1.extract ((wrap64 (bt408.1 + 1)) : Int).toNat a1.size).size ≤ 9223372036854775807 then (some (((a1.extract 0 (bt408.1 : Int).toNat) ++ (rdOf ByteArray.empty y410 bt413.1)) ++ (a1.extract ((wrap64 (bt408.1 + 1)) : Int).toNat a1.size), bt413.2)) else (none)) else (none)) else (none)) else (none)) else (none)) else (none)))) else (none)) else (none)))) = some (r1, r2) := h
 clear h
 by_cases c3 : (a1.size : Int) = 0
 ·rw [if_pos c3] at H
  have c3b0 := beq_iff_eq.mpr c3
  have c3b1 := bne_eq_false_iff_eq.mpr c3
  clear c3
  simp only [Option.some.injEq, Prod.mk.injEq] at H
  obtain ⟨rfl, rfl⟩ := H
  go_enter Tryd.func44, Tryd.ntmps44
  go_wp2
  go_ret
  exact ⟨zs3, (zs14 HI0.out), (zs16 HB.out HI0.out), (zs15 HK.out)⟩
 ·rw [if_neg c3] at H
  have c3b0 := beq_eq_false_iff_ne.mpr c3
  have c3b1 := bne_iff_ne.mpr c3
  replace H := zb H; obtain ⟨⟨t408, t409⟩, A4, H⟩ := H; try dsimp only at H
  by_cases c5 : 0 ≤ t408
  ·rw [if_pos c5] at H
   have c5b0 := eq_true c5
   have c5b1 := decide_eq_true c5
   clear c5
   by_cases c6 : t408 ≤ (a1.size : Int)
   ·rw [if_pos c6] at H
    have c6b0 := eq_true c6
    have c6b1 := decide_eq_true c6
    clear c6
    replace H := zy H; obtain ⟨y410, Ny410, H⟩ := H; try dsimp only at H
    replace H := zb H; obtain ⟨⟨t413, t414⟩, A7, H⟩ := H; try dsimp only at H
    by_cases c8 : 0 ≤ t413
    ·rw [if_pos c8] at H
     have c8b0 := decide_eq_true c8
     clear c8
     by_cases c9 : t413 < (y410.length : Int)
     ·rw [if_pos c9] at H
      have c9b0 := decide_eq_true c9
      clear c9
      by_cases c10 : (a1.extract 0 (t408 : Int).toNat).size + (rdOf ByteArray.empty y410 t413).size ≤ 9223372036854775807
      ·rw [if_pos c10] at H
       have c10b0 := eq_true c10
       have c10b1 := decide_eq_true c10
       try have c10b2 : (9223372036854775807 < (a1.extract 0 (t408 : Int).toNat).size + (rdOf ByteArray.empty y410 t413).size) = False := eq_false (Nat.not_lt.2 c10)
       obtain ⟨ji11, hji11⟩ : ∃ j_ : Int, (wrap64 (t408 + 1)) = j_ := ⟨_, rfl⟩
       replace H : (if 0 ≤ (ji11) then (if (ji11) ≤ (a1.size : Int) then (if ((a1.extract 0 (t408 : Int).toNat) ++ (rdOf ByteArray.empty y410 t413)).size + (a1.extract ((ji11) : Int).toNat a1.size).size ≤ 9223372036854775807 then (some (((a1.extract 0 (t408 : Int).toNat) ++ (rdOf ByteArray.empty y410 t413)) ++ (a1.extract ((ji11) : Int).toNat a1.size), t414)) else (none)) else (none)) else (none)) = some (r1, r2) := by first | (rw [hji11] at H; exact H) | (simp only [hji11] at H ⊢; exact H)
       (try rw [hji11] at A4)
       (try rw [hji11] at A7)
       have hji11w : (IntKind.i64.wrap (t408 + 1)) = ji11 := (i64_w _).trans hji11
       by_cases c12 : 0 ≤ (ji11)
       ·rw [if_pos c12] at H
        have c12b0 := eq_true c12
        have c12b1 := decide_eq_true c12
        clear c12
        by_cases c13 : (ji11) ≤ (a1.size : Int)
        ·rw [if_pos c13] at H
         have c13b0 := eq_true c13
         have c13b1 := decide_eq_true c13
         clear c13
         by_cases c14 : ((a1.extract 0 (t408 : Int).toNat) ++ (rdOf ByteArray.empty y410 t413)).size + (a1.extract ((ji11) : Int).toNat a1.size).size ≤ 9223372036854775807
         ·rw [if_pos c14] at H
          have c14b0 := eq_true c14
          have c14b1 := decide_eq_true c14
          try have c14b2 : (9223372036854775807 < ((a1.extract 0 (t408 : Int).toNat) ++ (rdOf ByteArray.empty y410 t413)).size + (a1.extract ((ji11) : Int).toNat a1.size).size) = False := eq_false (Nat.not_lt.2 c14)
          have c14z := c14
          (try simp only [ByteArray.size_append] at c14z)
          have c14y := eq_false (Nat.not_lt.2 c14z)
          simp only [Option.some.injEq, Prod.mk.injEq] at H
          obtain ⟨rfl, rfl⟩ := H
          go_enter Tryd.func44, Tryd.ntmps44
          try go_wp2_with (first | (refine zg 43 (some 12) Tryd.func43 #[.pointer (some ⟨g, 0, none⟩), .int .i64 (a1.size : Int)] ?_; (with_reducible refine (spec_l20Rd_pick.calls k g s0_0 s0_1 (a1.size : Int) t408 t409 w0 _ (zs14 HI0.out) (zs16 HB.out HI0.out) A4.out).mono ?_); rintro e w15 ⟨rfl, hi, hb, hk⟩; refine ⟨_, rfl, ?_⟩; replace HK:=zM (KeepBut.trans (zs15 HK.out) hk (.inl rfl)); replace HB:=zM (hb); replace HI0:=zM (hi); clear hb hk hi))
          have pi415 : (0 ≤ (t413 : Int)) = True := eq_true (of_decide_eq_true zs8)
          have qi415 : (t413 < (y410.length : Int)) = True := eq_true (of_decide_eq_true zs8)
          replace HI0:=zM (IsS73.drew HI0.out)
          replace HK:=zM (keep_drew HK.out)
          replace HB:=zM (zC HB.out)
          refine start_ (n := 15) (S := fun w' => True) (ds := []) (zL 15 0) (by kernel_rfl) rfl rfl trivial (fun hHeld => ?_); refine with_tabW spec_l20Spoil.tab4 spec_l20Spoil.bits4 (fun HT_ HW_ => ?_)
          generalize w15.drew = w16 at HI0 HK HB hHeld ⊢
          refine zp 0 (some 13) (zL 15 1) HT_ ?_
          refine zp 1 (some 14) (zL 15 3) HT_ ?_
          refine zp 4 (some 17) (zL 15 19) HT_ ?_
          refine zp 9 (some 22) (zL 15 531) HT_ ?_
          refine zp 10 (some 23) (zL 15 1555) HT_ ?_
          refine inv_at [2, 3, 5, 6, 7, 8, 11, 12, 13, 14] (fun a0_ b a w' => ∃ (v411 : Value) (adz_v411 : Addr) (m6_ : Value), a = putSel a0_ b [(2, 15, .string (a1.extract 0 (t408 : Int).toNat)), (3, 16, v411), (5, 18, .int .i64 t413), (6, 19, m6_), (7, 20, .string (rdOf ByteArray.empty y410 t413)), (8, 21, .string ((a1.extract 0 (t408 : Int).toNat) ++ (rdOf ByteArray.empty y410 t413))), (11, 24, .int .i64 ji11), (12, 25, .string (a1.extract ((ji11) : Int).toNat a1.size)), (13, 26, .string (((a1.extract 0 (t408 : Int).toNat) ++ (rdOf ByteArray.empty y410 t413)) ++ (a1.extract ((ji11) : Int).toNat a1.size))), (14, 4, .string (((a1.extract 0 (t408 : Int).toNat) ++ (rdOf ByteArray.empty y410 t413)) ++ (a1.extract ((ji11) : Int).toNat a1.size)))] ∧ (b 5 = false → IsS73 w0 w' g s0_0 t409) ∧ (KeepBut w w' g none) ∧ (Below w0.heap.size w0 w') ∧ (b 3 = true → Kd.R Kd.string 9 w' w.heap.size (fun _ => True) v411 y410) ∧ (b 3 = true → ∃ c_, (v411 : Value) = .slice (some adz_v411) y410.length c_) ∧ (b 5 = true → IsS73 w0 w' g s0_0 t414) ∧ (b 6 = true → (m6_ : Value) = .pointer (some (adz_v411.add (t413).toNat)))) HT_.out HW_.out (by kernel_rfl) (by kernel_rfl) ?_ ?_ ?_
          ·exact ⟨.bool false, ⟨0, 0, none⟩, .bool false, by simp only [putSel, Bool.false_eq_true, if_false], fun _ => HI0.out, HK.out, HB.out, fun h_ => absurd h_ (by decide), fun h_ => absurd h_ (by decide), fun h_ => absurd h_ (by decide), fun h_ => absurd h_ (by decide)⟩
          ·skip
           clear HB HI0 HK
           refine steps_cons ?_ ?_
           ·rintro b a w' ⟨v411, adz_v411, m6_, ha, Q_HI0, Q_HK, Q_HB, Q_HO412, Q_HA_HO412, Q_HI0_e5, Q_X6_⟩ hb_ hon hoff
            refine ⟨_, rfl, fun K hK => ?_⟩
            have e13 : a.tmps[13]? = some (.string a1) := by rw [ha]; exact (putSel_off rfl).trans rfl
            have e14 : a.tmps[14]? = some (.int .i64 t408) := by rw [ha]; exact (putSel_off rfl).trans rfl
            replace ha:=zM ha
            have HK:=zM Q_HK
            have HB:=zM Q_HB
            refine value_ (w1 := w') (v := .string (a1.extract 0 (t408 : Int).toNat)) (by rfl) rfl ?_ ?_
            ·go_simp
             (try simp only [i64_w])
             try rfl
             all_goals try ((try simp only [ByteArray.size_append, ByteArray.size_extract] at c10); (try simp only [ByteArray.size_append, ByteArray.size_extract] at c14); (try have y_c5b0 := of_eq_true c5b0); (try have y_c6b0 := of_eq_true c6b0); (try have y_c10b0 := of_eq_true c10b0); (try have y_c12b0 := of_eq_true c12b0); (try have y_c13b0 := of_eq_true c13b0); (try have y_c14b0 := of_eq_true c14b0); omega)
            refine hK.out _ _ ⟨v411, adz_v411, m6_, (by rw [ha.out]; exact putSel_upk 0 hb_ rfl rfl rfl), Q_HI0, Q_HK, Q_HB, Q_HO412, Q_HA_HO412, Q_HI0_e5, Q_X6_⟩
           refine steps_cons ?_ ?_
           ·rintro b a w' ⟨v411, adz_v411, m6_, ha, Q_HI0, Q_HK, Q_HB, Q_HO412, Q_HA_HO412, Q_HI0_e5, Q_X6_⟩ hb_ hon hoff
            refine ⟨_, rfl, fun K hK => ?_⟩
            replace ha:=zM ha
            have HK:=zM Q_HK
            have HB:=zM Q_HB
            refine Kd.R_lit_step Kd.string _ 9 zs0 (N := 16) zs0 (xs := ([(⟨#[]⟩ : ByteArray), (⟨#[48]⟩ : ByteArray), (⟨#[32]⟩ : ByteArray), (⟨#[10]⟩ : ByteArray), (⟨#[45]⟩ : ByteArray), (⟨#[98, 97, 99, 107]⟩ : ByteArray)] : List ByteArray)) (inner := [.string (⟨#[]⟩ : ByteArray), .string (⟨#[48]⟩ : ByteArray), .string (⟨#[32]⟩ : ByteArray), .string (⟨#[10]⟩ : ByteArray), .string (⟨#[45]⟩ : ByteArray), .string (⟨#[98, 97, 99, 107]⟩ : ByteArray)]) (ok := fun _ => True) (okp := fun _ => True) zs1 ?hp (fun _ hk => hk) trivial (Below.refl _ _) (Nat.le_refl _) (by simp) ?_; (case hp => exact (Reps.one (show Kd.M Kd.string _ _ _ (⟨#[]⟩ : ByteArray) [.string (⟨#[]⟩ : ByteArray)] from rfl) (Reps.one (show Kd.M Kd.string _ _ _ (⟨#[48]⟩ : ByteArray) [.string (⟨#[48]⟩ : ByteArray)] from rfl) (Reps.one (show Kd.M Kd.string _ _ _ (⟨#[32]⟩ : ByteArray) [.string (⟨#[32]⟩ : ByteArray)] from rfl) (Reps.one (show Kd.M Kd.string _ _ _ (⟨#[10]⟩ : ByteArray) [.string (⟨#[10]⟩ : ByteArray)] from rfl) (Reps.one (show Kd.M Kd.string _ _ _ (⟨#[45]⟩ : ByteArray) [.string (⟨#[45]⟩ : ByteArray)] from rfl) (Reps.one (show Kd.M Kd.string _ _ _ (⟨#[98, 97, 99, 107]⟩ : ByteArray) [.string (⟨#[98, 97, 99, 107]⟩ : ByteArray)] from rfl) (Reps.none _ _))))))))
            intro v411 w17 ho18 hb hg_ hnew_
            clear hg_ hnew_
            (first | rw [← Ny410.out] at ho18 | (simp only [Int.reduceToNat] at ho18; rw [← Ny410.out] at ho18))
            have n0_:=zM (Kd.R_lower ho18 (keep_size (w := w) (g := g) (row := none) (zs15 HK.out)))
            have n2_:=zM (KeepBut.trans (zs15 HK.out) (KeepBut.of_below hb g none) (.inl rfl))
            have n3_:=zM (below_step (zs2 HB.out) hb)
            have z_HI0 := fun (h0_ : b 5 = false) => (show IsS73 w0 w17 g s0_0 t409 from by first | exact (IsS73.below (by repeat (first | (with_reducible first | exact (Q_HI0 h0_) | apply IsS73.alloc | apply IsS73.drewN | apply IsS73.drew | apply IsS73.set_1) | exact (Q_HI0 h0_))) hb))
            have z_HI0_e5 := fun (h0_ : b 5 = true) => (show IsS73 w0 w17 g s0_0 t414 from by first | exact (IsS73.below (by repeat (first | (with_reducible first | exact (Q_HI0_e5 h0_) | apply IsS73.alloc | apply IsS73.drewN | apply IsS73.drew | apply IsS73.set_1) | exact (Q_HI0_e5 h0_))) hb))
            clear HK
            clear HB
            have HO412 := n0_
            have HK := n2_
            have HB := n3_
            clear n0_ n2_ n3_
            clear hb ho18
            obtain ⟨Ao19, co19, eo19⟩ := Kd.R_slice HO412.out
            subst eo19
            obtain ⟨ado19, fo19, _⟩ := Kd.at_string (Kd.R_reads' HO412.out).2.2 0 (by decide) (by rw [Ny410.out]; simp)
            cases fo19
            refine hK.out _ _ ⟨.slice (some ado19) y410.length co19, ado19, m6_, (by rw [ha.out]; exact putSel_upk 1 hb_ rfl rfl rfl), z_HI0, (zs15 HK.out), (zs2 HB.out), fun _ => (zs11 HO412.out), fun _ => ⟨_, rfl⟩, z_HI0_e5, fun h0_ => absurd ((hoff 6 (by kernel_rfl)).symm.trans h0_) (by decide)⟩
           refine steps_cons ?_ ?_
           ·rintro b a w' ⟨v411, adz_v411, m6_, ha, Q_HI0, Q_HK, Q_HB, Q_HO412, Q_HA_HO412, Q_HI0_e5, Q_X6_⟩ hb_ hon hoff
            refine ⟨_, rfl, fun K hK => ?_⟩
            have e17 : a.tmps[17]? = some (.pointer (some ⟨g, 0, none⟩)) := by rw [ha]; exact (putSel_off rfl).trans rfl
            replace ha:=zM ha
            have HI0:=zM (Q_HI0 hb_)
            have HK:=zM Q_HK
            have HB:=zM Q_HB
            refine goes_ Tryd.func43 (by kernel_rfl) rfl #[.pointer (some ⟨g, 0, none⟩), .int .i64 6] (by rfl) rfl rfl (by first | (simp only [List.map_toArray, List.map_cons, List.map_nil, Act.eval, Array.getD_eq_getD_getElem?, Option.getD_some, e17]; done) | (simp only [List.map_toArray, List.map_cons, List.map_nil, Act.eval, Array.getD_eq_getD_getElem?, Option.getD_some, e17]; rfl)) ?_
            with_reducible refine (spec_l20Rd_pick.calls k g s0_0 t409 6 t413 t414 w0 _ ?side1 ?side2 A7.out).mono ?_
            (case side1 => exact (zs14 HI0.out))
            (case side2 => exact (zs16 HB.out HI0.out))
            rintro e w17 ⟨rfl, hi, hb, hk⟩
            refine ⟨_, rfl, ?_⟩
            have n0_:=zM (KeepBut.trans (zs15 HK.out) hk (.inl rfl))
            have n1_:=zM (hb)
            have n2_:=zM (hi)
            have z_HO412 := fun (h0_ : b 3 = true) => (show Kd.R Kd.string 9 w17 w.heap.size (fun _ => True) v411 y410 from by first | exact (Kd.R_mono (Kd.R_keep (IsS73.apart (show IsS73 w0 _ g s0_0 t409 from (zs14 HI0.out)) (by (with_reducible repeat (first | apply Kd.R_alloc | apply Kd.R_drewN | apply Kd.R_drew)); exact (Q_HO412 h0_)) (by decide)) hk (fun _ h => h.2)) (fun _ h => h.1)) | exact Kd.R_mono (Kd.R_mono (Kd.R_keep (IsS73.apart (show IsS73 w0 _ g s0_0 t409 from (zs14 HI0.out)) (by (with_reducible repeat (first | apply Kd.R_alloc | apply Kd.R_drewN | apply Kd.R_drew)); exact (Q_HO412 h0_)) (by decide)) hk (fun _ h => h.2)) (fun _ h => h.1)) (fun _ h_ => by first | trivial | exact h_ | exact h_.1))
            clear HK
            clear HB
            clear HI0
            have HK := n0_
            have HB := n1_
            have HI0 := n2_
            clear n0_ n1_ n2_
            (try clear hb)
            (try clear hb2)
            (try clear hk)
            (try clear hi)
            refine hK.out _ _ ⟨v411, adz_v411, m6_, (by rw [ha.out]; exact putSel_upk 2 hb_ rfl rfl rfl), fun h0_ => absurd ((up_self b 5).symm.trans h0_) (by decide), (zs15 HK.out), (zs16 HB.out HI0.out), z_HO412, Q_HA_HO412, fun _ => (zs14 HI0.out), fun h0_ => absurd ((hoff 6 (by kernel_rfl)).symm.trans h0_) (by decide)⟩
           refine steps_cons ?_ ?_
           ·rintro b a w' ⟨v411, adz_v411, m6_, ha, Q_HI0, Q_HK, Q_HB, Q_HO412, Q_HA_HO412, Q_HI0_e5, Q_X6_⟩ hb_ hon hoff
            refine ⟨_, rfl, fun K hK => ?_⟩
            have e16 : a.tmps[16]? = some (v411) := by rw [ha]; exact putSel_on (e := (3, 16, v411)) 1 rfl rfl (hon 3 (by kernel_rfl)) rfl
            have e18 : a.tmps[18]? = some (.int .i64 t413) := by rw [ha]; exact putSel_on (e := (5, 18, .int .i64 t413)) 2 rfl rfl (hon 5 (by kernel_rfl)) rfl
            replace ha:=zM ha
            have HK:=zM Q_HK
            have HB:=zM Q_HB
            have HO412:=zM (Q_HO412 (hon 3 (by kernel_rfl)))
            have HA_HO412:=zM (Q_HA_HO412 (hon 3 (by kernel_rfl)))
            have HI0:=zM (Q_HI0_e5 (hon 5 (by kernel_rfl)))
            obtain ⟨c_, hv_⟩ := HA_HO412.out
            rw [hv_] at e16
            refine value_ (w1 := w') (v := .pointer (some (adz_v411.add (t413).toNat))) (by rfl) rfl ?_ ?_
            ·go_simp
             (try simp only [i64_w])
             try rfl
             all_goals try ((try simp only [ByteArray.size_append, ByteArray.size_extract] at c10); (try simp only [ByteArray.size_append, ByteArray.size_extract] at c14); (try have y_c5b0 := of_eq_true c5b0); (try have y_c6b0 := of_eq_true c6b0); (try have y_c10b0 := of_eq_true c10b0); (try have y_c12b0 := of_eq_true c12b0); (try have y_c13b0 := of_eq_true c13b0); (try have y_c14b0 := of_eq_true c14b0); omega)
            refine hK.out _ _ ⟨v411, adz_v411, (.pointer (some (adz_v411.add (t413).toNat))), (by rw [ha.out]; exact putSel_upk 3 hb_ rfl rfl rfl), fun h0_ => absurd ((hon 5 (by kernel_rfl)).symm.trans h0_) (by decide), Q_HK, Q_HB, Q_HO412, Q_HA_HO412, Q_HI0_e5, fun _ => rfl⟩
           refine steps_cons ?_ ?_
           ·rintro b a w' ⟨v411, adz_v411, m6_, ha, Q_HI0, Q_HK, Q_HB, Q_HO412, Q_HA_HO412, Q_HI0_e5, Q_X6_⟩ hb_ hon hoff
            refine ⟨_, rfl, fun K hK => ?_⟩
            have e19 : a.tmps[19]? = some (m6_) := by rw [ha]; exact putSel_on (e := (6, 19, m6_)) 3 rfl rfl (hon 6 (by kernel_rfl)) rfl
            rw [Q_X6_ (hon 6 (by kernel_rfl))] at e19
            replace ha:=zM ha
            have HK:=zM Q_HK
            have HB:=zM Q_HB
            have HO412:=zM (Q_HO412 (hon 3 (by kernel_rfl)))
            have HA_HO412:=zM (Q_HA_HO412 (hon 3 (by kernel_rfl)))
            have HI0:=zM (Q_HI0_e5 (hon 5 (by kernel_rfl)))
            obtain ⟨c_, hv_⟩ := HA_HO412.out
            have hF_ := HO412.out
            rw [hv_] at hF_
            obtain ⟨ad_, ea_, hx_⟩ := Kd.at_string (Kd.R_reads' hF_).2.2 t413 (of_eq_true pi415) (of_eq_true qi415)
            cases ea_
            refine value_ (w1 := w') (v := .string (rdOf ByteArray.empty y410 t413)) (by rfl) rfl ?_ ?_
            ·go_simp
             (try simp only [i64_w])
             try rfl
             all_goals try ((try simp only [ByteArray.size_append, ByteArray.size_extract] at c10); (try simp only [ByteArray.size_append, ByteArray.size_extract] at c14); (try have y_c5b0 := of_eq_true c5b0); (try have y_c6b0 := of_eq_true c6b0); (try have y_c10b0 := of_eq_true c10b0); (try have y_c12b0 := of_eq_true c12b0); (try have y_c13b0 := of_eq_true c13b0); (try have y_c14b0 := of_eq_true c14b0); omega)
            refine hK.out _ _ ⟨v411, adz_v411, m6_, (by rw [ha.out]; exact putSel_upk 4 hb_ rfl rfl rfl), fun h0_ => absurd ((hon 5 (by kernel_rfl)).symm.trans h0_) (by decide), Q_HK, Q_HB, Q_HO412, Q_HA_HO412, Q_HI0_e5, Q_X6_⟩
           refine steps_cons ?_ ?_
           ·rintro b a w' ⟨v411, adz_v411, m6_, ha, Q_HI0, Q_HK, Q_HB, Q_HO412, Q_HA_HO412, Q_HI0_e5, Q_X6_⟩ hb_ hon hoff
            refine ⟨_, rfl, fun K hK => ?_⟩
            have e15 : a.tmps[15]? = some (.string (a1.extract 0 (t408 : Int).toNat)) := by rw [ha]; exact putSel_on (e := (2, 15, .string (a1.extract 0 (t408 : Int).toNat))) 0 rfl rfl (hon 2 (by kernel_rfl)) rfl
            have e20 : a.tmps[20]? = some (.string (rdOf ByteArray.empty y410 t413)) := by rw [ha]; exact putSel_on (e := (7, 20, .string (rdOf ByteArray.empty y410 t413))) 4 rfl rfl (hon 7 (by kernel_rfl)) rfl
            replace ha:=zM ha
            have HK:=zM Q_HK
            have HB:=zM Q_HB
            have HO412:=zM (Q_HO412 (hon 3 (by kernel_rfl)))
            have HA_HO412:=zM (Q_HA_HO412 (hon 3 (by kernel_rfl)))
            have HI0:=zM (Q_HI0_e5 (hon 5 (by kernel_rfl)))
            refine value_ (w1 := w') (v := .string ((a1.extract 0 (t408 : Int).toNat) ++ (rdOf ByteArray.empty y410 t413))) (by rfl) rfl ?_ ?_
            ·go_simp
             (try simp only [i64_w])
             try rfl
             all_goals try ((try simp only [ByteArray.size_append, ByteArray.size_extract] at c10); (try simp only [ByteArray.size_append, ByteArray.size_extract] at c14); (try have y_c5b0 := of_eq_true c5b0); (try have y_c6b0 := of_eq_true c6b0); (try have y_c10b0 := of_eq_true c10b0); (try have y_c12b0 := of_eq_true c12b0); (try have y_c13b0 := of_eq_true c13b0); (try have y_c14b0 := of_eq_true c14b0); omega)
            refine hK.out _ _ ⟨v411, adz_v411, m6_, (by rw [ha.out]; exact putSel_upk 5 hb_ rfl rfl rfl), fun h0_ => absurd ((hon 5 (by kernel_rfl)).symm.trans h0_) (by decide), Q_HK, Q_HB, Q_HO412, Q_HA_HO412, Q_HI0_e5, Q_X6_⟩
           refine steps_cons ?_ ?_
           ·rintro b a w' ⟨v411, adz_v411, m6_, ha, Q_HI0, Q_HK, Q_HB, Q_HO412, Q_HA_HO412, Q_HI0_e5, Q_X6_⟩ hb_ hon hoff
            refine ⟨_, rfl, fun K hK => ?_⟩
            have e23 : a.tmps[23]? = some (.int .i64 t408) := by rw [ha]; exact (putSel_off rfl).trans rfl
            replace ha:=zM ha
            have HK:=zM Q_HK
            have HB:=zM Q_HB
            refine value_ (w1 := w') (v := .int .i64 ji11) (by rfl) rfl ?_ ?_
            ·go_simp
             (try simp only [i64_w])
             try rfl
             all_goals try ((try simp only [ByteArray.size_append, ByteArray.size_extract] at c10); (try simp only [ByteArray.size_append, ByteArray.size_extract] at c14); (try have y_c5b0 := of_eq_true c5b0); (try have y_c6b0 := of_eq_true c6b0); (try have y_c10b0 := of_eq_true c10b0); (try have y_c12b0 := of_eq_true c12b0); (try have y_c13b0 := of_eq_true c13b0); (try have y_c14b0 := of_eq_true c14b0); omega)
            refine hK.out _ _ ⟨v411, adz_v411, m6_, (by rw [ha.out]; exact putSel_upk 6 hb_ rfl rfl rfl), Q_HI0, Q_HK, Q_HB, Q_HO412, Q_HA_HO412, Q_HI0_e5, Q_X6_⟩
           refine steps_cons ?_ ?_
           ·rintro b a w' ⟨v411, adz_v411, m6_, ha, Q_HI0, Q_HK, Q_HB, Q_HO412, Q_HA_HO412, Q_HI0_e5, Q_X6_⟩ hb_ hon hoff
            refine ⟨_, rfl, fun K hK => ?_⟩
            have e22 : a.tmps[22]? = some (.string a1) := by rw [ha]; exact (putSel_off rfl).trans rfl
            have e24 : a.tmps[24]? = some (.int .i64 ji11) := by rw [ha]; exact putSel_on (e := (11, 24, .int .i64 ji11)) 6 rfl rfl (hon 11 (by kernel_rfl)) rfl
            replace ha:=zM ha
            have HK:=zM Q_HK
            have HB:=zM Q_HB
            refine value_ (w1 := w') (v := .string (a1.extract ((ji11) : Int).toNat a1.size)) (by rfl) rfl ?_ ?_
            ·go_simp
             (try simp only [i64_w])
             try rfl
             all_goals try ((try simp only [ByteArray.size_append, ByteArray.size_extract] at c10); (try simp only [ByteArray.size_append, ByteArray.size_extract] at c14); (try have y_c5b0 := of_eq_true c5b0); (try have y_c6b0 := of_eq_true c6b0); (try have y_c10b0 := of_eq_true c10b0); (try have y_c12b0 := of_eq_true c12b0); (try have y_c13b0 := of_eq_true c13b0); (try have y_c14b0 := of_eq_true c14b0); omega)
            refine hK.out _ _ ⟨v411, adz_v411, m6_, (by rw [ha.out]; exact putSel_upk 7 hb_ rfl rfl rfl), Q_HI0, Q_HK, Q_HB, Q_HO412, Q_HA_HO412, Q_HI0_e5, Q_X6_⟩
           refine steps_cons ?_ ?_
           ·rintro b a w' ⟨v411, adz_v411, m6_, ha, Q_HI0, Q_HK, Q_HB, Q_HO412, Q_HA_HO412, Q_HI0_e5, Q_X6_⟩ hb_ hon hoff
            refine ⟨_, rfl, fun K hK => ?_⟩
            have e21 : a.tmps[21]? = some (.string ((a1.extract 0 (t408 : Int).toNat) ++ (rdOf ByteArray.empty y410 t413))) := by rw [ha]; exact putSel_on (e := (8, 21, .string ((a1.extract 0 (t408 : Int).toNat) ++ (rdOf ByteArray.empty y410 t413)))) 5 rfl rfl (hon 8 (by kernel_rfl)) rfl
            have e25 : a.tmps[25]? = some (.string (a1.extract ((ji11) : Int).toNat a1.size)) := by rw [ha]; exact putSel_on (e := (12, 25, .string (a1.extract ((ji11) : Int).toNat a1.size))) 7 rfl rfl (hon 12 (by kernel_rfl)) rfl
            replace ha:=zM ha
            have HK:=zM Q_HK
            have HB:=zM Q_HB
            have HO412:=zM (Q_HO412 (hon 3 (by kernel_rfl)))
            have HA_HO412:=zM (Q_HA_HO412 (hon 3 (by kernel_rfl)))
            have HI0:=zM (Q_HI0_e5 (hon 5 (by kernel_rfl)))
            refine value_ (w1 := w') (v := .string (((a1.extract 0 (t408 : Int).toNat) ++ (rdOf ByteArray.empty y410 t413)) ++ (a1.extract ((ji11) : Int).toNat a1.size))) (by rfl) rfl ?_ ?_
            ·go_simp
             (try simp only [i64_w])
             try rfl
             all_goals try ((try simp only [ByteArray.size_append, ByteArray.size_extract] at c10); (try simp only [ByteArray.size_append, ByteArray.size_extract] at c14); (try have y_c5b0 := of_eq_true c5b0); (try have y_c6b0 := of_eq_true c6b0); (try have y_c10b0 := of_eq_true c10b0); (try have y_c12b0 := of_eq_true c12b0); (try have y_c13b0 := of_eq_true c13b0); (try have y_c14b0 := of_eq_true c14b0); omega)
            refine hK.out _ _ ⟨v411, adz_v411, m6_, (by rw [ha.out]; exact putSel_upk 8 hb_ rfl rfl rfl), fun h0_ => absurd ((hon 5 (by kernel_rfl)).symm.trans h0_) (by decide), Q_HK, Q_HB, Q_HO412, Q_HA_HO412, Q_HI0_e5, Q_X6_⟩
           refine steps_cons ?_ ?_
           ·rintro b a w' ⟨v411, adz_v411, m6_, ha, Q_HI0, Q_HK, Q_HB, Q_HO412, Q_HA_HO412, Q_HI0_e5, Q_X6_⟩ hb_ hon hoff
            refine ⟨_, rfl, fun K hK => ?_⟩
            have e26 : a.tmps[26]? = some (.string (((a1.extract 0 (t408 : Int).toNat) ++ (rdOf ByteArray.empty y410 t413)) ++ (a1.extract ((ji11) : Int).toNat a1.size))) := by rw [ha]; exact putSel_on (e := (13, 26, .string (((a1.extract 0 (t408 : Int).toNat) ++ (rdOf ByteArray.empty y410 t413)) ++ (a1.extract ((ji11) : Int).toNat a1.size)))) 8 rfl rfl (hon 13 (by kernel_rfl)) rfl
            replace ha:=zM ha
            have HK:=zM Q_HK
            have HB:=zM Q_HB
            have HO412:=zM (Q_HO412 (hon 3 (by kernel_rfl)))
            have HA_HO412:=zM (Q_HA_HO412 (hon 3 (by kernel_rfl)))
            have HI0:=zM (Q_HI0_e5 (hon 5 (by kernel_rfl)))
            refine value_ (w1 := w') (v := .string (((a1.extract 0 (t408 : Int).toNat) ++ (rdOf ByteArray.empty y410 t413)) ++ (a1.extract ((ji11) : Int).toNat a1.size))) (by rfl) rfl ?_ ?_
            ·go_simp
             (try simp only [i64_w])
             try rfl
             all_goals try ((try simp only [ByteArray.size_append, ByteArray.size_extract] at c10); (try simp only [ByteArray.size_append, ByteArray.size_extract] at c14); (try have y_c5b0 := of_eq_true c5b0); (try have y_c6b0 := of_eq_true c6b0); (try have y_c10b0 := of_eq_true c10b0); (try have y_c12b0 := of_eq_true c12b0); (try have y_c13b0 := of_eq_true c13b0); (try have y_c14b0 := of_eq_true c14b0); omega)
            refine hK.out _ _ ⟨v411, adz_v411, m6_, (by rw [ha.out]; exact putSel_upk 9 hb_ rfl rfl rfl), fun h0_ => absurd ((hon 5 (by kernel_rfl)).symm.trans h0_) (by decide), Q_HK, Q_HB, Q_HO412, Q_HA_HO412, Q_HI0_e5, Q_X6_⟩
           exact steps_nil
          rintro b a w21 hall ⟨v411, adz_v411, m6_, ha, Q_HI0, Q_HK, Q_HB, Q_HO412, Q_HA_HO412, Q_HI0_e5, Q_X6_⟩
          clear HB HI0 HK
          have hb2_ := hall 2 (by kernel_rfl)
          have hb3_ := hall 3 (by kernel_rfl)
          have hb5_ := hall 5 (by kernel_rfl)
          have hb6_ := hall 6 (by kernel_rfl)
          have hb7_ := hall 7 (by kernel_rfl)
          have hb8_ := hall 8 (by kernel_rfl)
          have hb11_ := hall 11 (by kernel_rfl)
          have hb12_ := hall 12 (by kernel_rfl)
          have hb13_ := hall 13 (by kernel_rfl)
          have hb14_ := hall 14 (by kernel_rfl)
          subst ha
          obtain rfl := Q_X6_ hb6_
          simp only [putSel, hb2_, hb3_, hb5_, hb6_, hb7_, hb8_, hb11_, hb12_, hb13_, hb14_, if_true, Act.put, zE, zF, zG]
          clear Q_HI0
          have HK:=zM Q_HK
          clear Q_HK
          have HB:=zM Q_HB
          clear Q_HB
          have HO412:=zM (Q_HO412 hb3_)
          clear Q_HO412
          have HA_HO412:=zM (Q_HA_HO412 hb3_)
          clear Q_HA_HO412
          have HI0:=zM (Q_HI0_e5 hb5_)
          clear Q_HI0_e5
          clear hall hb2_ hb3_ hb5_ hb6_ hb7_ hb8_ hb11_ hb12_ hb13_ hb14_
          obtain ⟨co22, eo22⟩ := HA_HO412.out
          clear HA_HO412
          subst eo22
          try go_wp2
          go_ret
          exact ⟨by first | rfl | (simp [errW_none, errW_some] <;> rfl) | (simp only [← hji11]; first | rfl | (simp [errW_none, errW_some] <;> rfl)) | (simp [*, errW_none, errW_some] <;> rfl), (zs14 HI0.out), (zs16 HB.out HI0.out), (zs15 HK.out)⟩
         ·rw [if_neg c14] at H
          exact absurd H (by simp)
        ·rw [if_neg c13] at H
         exact absurd H (by simp)
       ·rw [if_neg c12] at H
        exact absurd H (by simp)
      ·rw [if_neg c10] at H
       exact absurd H (by simp)
     ·rw [if_neg c9] at H
      exact absurd H (by simp)
    ·rw [if_neg c8] at H
     exact absurd H (by simp)
   ·rw [if_neg c6] at H
    exact absurd H (by simp)
  ·rw [if_neg c5] at H
   exact absurd H (by simp)

/-! ### spec_DrawReadDeed: function 18 -/
def spec_DrawReadDeed.f (k : Nat) (l0 : List Int) : Option (ByteArray) := (spec_l20Open.f l0).bind fun bt416 => ((spec_l20Wild.f k bt416.1 bt416.2 0).bind fun bt419 => ((spec_l20Deed.f k bt416.1 bt419.2 bt419.1).bind fun bt423 => ((spec_DeedText.f k bt423.1 bt423.2.1 bt423.2.2.1).bind fun t427 => ((spec_l20Rd_pick.f k bt416.1 bt423.2.2.2 3).bind fun bt428 => (if bt428.1 = 0 then ((spec_l20Spoil.f k bt416.1 bt428.2 t427).bind fun bt430 => (some bt430.1)) else (some t427))))))
theorem spec_DrawReadDeed.mono : ∀ a0 k, LeO (spec_DrawReadDeed.f k a0) (spec_DrawReadDeed.f (k + 1) a0) := by
 intro a0 k
 unfold spec_DrawReadDeed.f
 have := @spec_DeedText.mono; have := @spec_l20Deed.mono; have := @spec_l20Rd_pick.mono; have := @spec_l20Spoil.mono; have := @spec_l20Wild.mono; exact zmono
set_option maxHeartbeats 8000000 in
set_option maxRecDepth 100000 in
theorem spec_DrawReadDeed.calls (k : Nat) (A0 : Option Addr) (c0 : Nat) (l0 : List Int) (r : ByteArray) (w : World) (hr0 : Kd.C (Kd.int .u8) w A0 l0.length l0) (hc0 : l0.length ≤ c0) (h : spec_DrawReadDeed.f k l0 = some r) :
  Calls Tryd.prog 18 #[.slice A0 l0.length c0] w fun e w' => e = .returned (.string r) ∧ Below w.heap.size w w' := by
 have HR0:=zM hr0
 have HC0:=zM hc0
 clear hr0 hc0
 have HB:=zM (Below.refl w.heap.size w)
 have H : ((spec_l20Open.f l0).bind fun bt416 => ((spec_l20Wild.f k bt416.1 bt416.2 0).bind fun bt419 => ((spec_l20Deed.f k bt416.1 bt419.2 bt419.1).bind fun bt423 => ((spec_DeedText.f k bt423.1 bt423.2.1 bt423.2.2.1).bind fun t427 => ((spec_l20Rd_pick.f k bt416.1 bt423.2.2.2 3).bind fun bt428 => (if bt428.1 = 0 then ((spec_l20Spoil.f k bt416.1 bt428.2 t427).bind fun bt430 => (some bt430.1)) else (some t427))))))) = some r := h
 clear h
 replace H := zb H; obtain ⟨⟨t416, t417⟩, A2, H⟩ := H; try dsimp only at H
 replace H := zb H; obtain ⟨⟨t419, t422⟩, A3, H⟩ := H; try dsimp only at H
 replace H := zb H; obtain ⟨⟨t423, t424, t425, t426⟩, A4, H⟩ := H; try dsimp only at H
 replace H := zb H; obtain ⟨t427, A5, H⟩ := H; try dsimp only at H
 replace H := zb H; obtain ⟨⟨t428, t429⟩, A6, H⟩ := H; try dsimp only at H
 by_cases c7 : t428 = 0
 ·rw [if_pos c7] at H
  have c7b0 := beq_iff_eq.mpr c7
  have c7b1 := bne_eq_false_iff_eq.mpr c7
  clear c7
  replace H := zb H; obtain ⟨⟨t430, t431⟩, A8, H⟩ := H; try dsimp only at H
  obtain rfl := Option.some.inj H
  go_enter Tryd.func18, Tryd.ntmps18
  go_wp2_with (first | (refine zg 34 (some 6) Tryd.func34 #[.slice A0 l0.length c0] ?_; (with_reducible refine (spec_l20Open.calls _ _ l0 t416 t417 w _ (zs2 HB.out) HR0.out HC0.out A2.out).mono ?_); rintro e w9 ⟨g418, rfl, hi, hb, hb2⟩; refine ⟨_, rfl, ?_⟩; replace HB:=zM (hb); have HI418:=zM (hi); clear hb hb2 hi) | (refine zg 36 (some 9) Tryd.func36 #[.pointer (some ⟨g418, 0, none⟩), .int .i64 0] ?_; (with_reducible refine (spec_l20Wild.calls k g418 t416 t417 0 t419 t422 w _ (zs14 HI418.out) (zs16 HB.out HI418.out) A3.out).mono ?_); rintro e w10 ⟨v420, rfl, ho0, hi, hb, hk⟩; refine ⟨_, rfl, ?_⟩; have HO421:=zM (Kd.R_lower ho0 (below_size (zs16 HB.out HI418.out))); replace HB:=zM (hb); replace HI418:=zM (hi); clear hb hk hi ho0; obtain ⟨Ao11, co11, eo11⟩ := Kd.R_slice HO421.out; subst eo11) | (refine zg 35 (some 10) Tryd.func35 #[.pointer (some ⟨g418, 0, none⟩), .slice Ao11 t419.length co11] ?_; (with_reducible refine (spec_l20Deed.calls k g418 t416 t422 _ _ t419 t423 t424 t425 t426 w _ (zs14 HI418.out) (zs16 HB.out HI418.out) (zs10 HO421.out) ((Kd.R_reads' HO421.out).2.1) (far_slice (IsS73.own_ne HI418.out HO421.out (by decide))) A4.out).mono ?_); rintro e w12 ⟨rfl, hi, hb, hk⟩; refine ⟨_, rfl, ?_⟩; replace HO421:=zM (Kd.R_mono (Kd.R_keep (IsS73.apart (show IsS73 w _ g418 t416 t422 from (zs14 HI418.out)) (zs11 HO421.out) (by decide)) hk (fun _ h => h.2)) (fun _ h => h.1)); replace HB:=zM (hb); replace HI418:=zM (hi); clear hb hk hi) | (refine zg 10 (some 11) Tryd.func10 #[.agg #[.int .i64 t423, .int .i64 t424, .int .i64 t425]] ?_; (with_reducible refine (spec_DeedText.calls k t423 t424 t425 t427 _ A5.out).mono ?_); rintro e w13 ⟨rfl, hb⟩; refine ⟨_, rfl, ?_⟩; replace HO421:=zM (Kd.R_below (zs11 HO421.out) hb); replace HB:=zM (below_step (zs16 HB.out HI418.out) hb); replace HI418:=zM (IsS73.below (zs14 HI418.out) hb); clear hb) | (refine zg 43 (some 13) Tryd.func43 #[.pointer (some ⟨g418, 0, none⟩), .int .i64 3] ?_; (with_reducible refine (spec_l20Rd_pick.calls k g418 t416 t426 3 t428 t429 w _ (zs14 HI418.out) (zs16 HB.out HI418.out) A6.out).mono ?_); rintro e w14 ⟨rfl, hi, hb, hk⟩; refine ⟨_, rfl, ?_⟩; replace HO421:=zM (Kd.R_mono (Kd.R_keep (IsS73.apart (show IsS73 w _ g418 t416 t426 from (zs14 HI418.out)) (zs11 HO421.out) (by decide)) hk (fun _ h => h.2)) (fun _ h => h.1)); replace HB:=zM (hb); replace HI418:=zM (hi); clear hb hk hi) | (refine zg 44 (some 17) Tryd.func44 #[.pointer (some ⟨g418, 0, none⟩), .string t427] ?_; (with_reducible refine (spec_l20Spoil.calls k g418 t416 t429 t427 t430 t431 w _ (zs14 HI418.out) (zs16 HB.out HI418.out) A8.out).mono ?_); rintro e w15 ⟨rfl, hi, hb, hk⟩; refine ⟨_, rfl, ?_⟩; replace HO421:=zM (Kd.R_mono (Kd.R_keep (IsS73.apart (show IsS73 w _ g418 t416 t429 from (zs14 HI418.out)) (zs11 HO421.out) (by decide)) hk (fun _ h => h.2)) (fun _ h => h.1)); replace HB:=zM (hb); replace HI418:=zM (hi); clear hb hk hi))
  go_ret
  exact ⟨zs3, (zs16 HB.out HI418.out)⟩
 ·rw [if_neg c7] at H
  have c7b0 := beq_eq_false_iff_ne.mpr c7
  have c7b1 := bne_iff_ne.mpr c7
  obtain rfl := Option.some.inj H
  go_enter Tryd.func18, Tryd.ntmps18
  go_wp2_with (first | (refine zg 34 (some 6) Tryd.func34 #[.slice A0 l0.length c0] ?_; (with_reducible refine (spec_l20Open.calls _ _ l0 t416 t417 w _ (zs2 HB.out) HR0.out HC0.out A2.out).mono ?_); rintro e w16 ⟨g418, rfl, hi, hb, hb2⟩; refine ⟨_, rfl, ?_⟩; replace HB:=zM (hb); have HI418:=zM (hi); clear hb hb2 hi) | (refine zg 36 (some 9) Tryd.func36 #[.pointer (some ⟨g418, 0, none⟩), .int .i64 0] ?_; (with_reducible refine (spec_l20Wild.calls k g418 t416 t417 0 t419 t422 w _ (zs14 HI418.out) (zs16 HB.out HI418.out) A3.out).mono ?_); rintro e w17 ⟨v420, rfl, ho0, hi, hb, hk⟩; refine ⟨_, rfl, ?_⟩; have HO421:=zM (Kd.R_lower ho0 (below_size (zs16 HB.out HI418.out))); replace HB:=zM (hb); replace HI418:=zM (hi); clear hb hk hi ho0; obtain ⟨Ao18, co18, eo18⟩ := Kd.R_slice HO421.out; subst eo18) | (refine zg 35 (some 10) Tryd.func35 #[.pointer (some ⟨g418, 0, none⟩), .slice Ao18 t419.length co18] ?_; (with_reducible refine (spec_l20Deed.calls k g418 t416 t422 _ _ t419 t423 t424 t425 t426 w _ (zs14 HI418.out) (zs16 HB.out HI418.out) (zs10 HO421.out) ((Kd.R_reads' HO421.out).2.1) (far_slice (IsS73.own_ne HI418.out HO421.out (by decide))) A4.out).mono ?_); rintro e w19 ⟨rfl, hi, hb, hk⟩; refine ⟨_, rfl, ?_⟩; replace HO421:=zM (Kd.R_mono (Kd.R_keep (IsS73.apart (show IsS73 w _ g418 t416 t422 from (zs14 HI418.out)) (zs11 HO421.out) (by decide)) hk (fun _ h => h.2)) (fun _ h => h.1)); replace HB:=zM (hb); replace HI418:=zM (hi); clear hb hk hi) | (refine zg 10 (some 11) Tryd.func10 #[.agg #[.int .i64 t423, .int .i64 t424, .int .i64 t425]] ?_; (with_reducible refine (spec_DeedText.calls k t423 t424 t425 t427 _ A5.out).mono ?_); rintro e w20 ⟨rfl, hb⟩; refine ⟨_, rfl, ?_⟩; replace HO421:=zM (Kd.R_below (zs11 HO421.out) hb); replace HB:=zM (below_step (zs16 HB.out HI418.out) hb); replace HI418:=zM (IsS73.below (zs14 HI418.out) hb); clear hb) | (refine zg 43 (some 13) Tryd.func43 #[.pointer (some ⟨g418, 0, none⟩), .int .i64 3] ?_; (with_reducible refine (spec_l20Rd_pick.calls k g418 t416 t426 3 t428 t429 w _ (zs14 HI418.out) (zs16 HB.out HI418.out) A6.out).mono ?_); rintro e w21 ⟨rfl, hi, hb, hk⟩; refine ⟨_, rfl, ?_⟩; replace HO421:=zM (Kd.R_mono (Kd.R_keep (IsS73.apart (show IsS73 w _ g418 t416 t426 from (zs14 HI418.out)) (zs11 HO421.out) (by decide)) hk (fun _ h => h.2)) (fun _ h => h.1)); replace HB:=zM (hb); replace HI418:=zM (hi); clear hb hk hi))
  go_ret
  exact ⟨zs3, (zs16 HB.out HI418.out)⟩

end Go.Proofs.YtopfhdhdpnenpaaDoor.LG
