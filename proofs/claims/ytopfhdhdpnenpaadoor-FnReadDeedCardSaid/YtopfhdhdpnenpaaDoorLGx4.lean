/- Printed by a program of this session (wip/lp/lp.py) out of the translation: functions with the same answers as the Go code, and their contracts; no conditions beyond those that each theorem names. -/
import Derived.Test.YtopfhdhdpnenpaaDoorLGx0
import Derived.Test.YtopfhdhdpnenpaaDoorLGx2
import Derived.Test.YtopfhdhdpnenpaaDoorLGx3
namespace Go.Proofs.YtopfhdhdpnenpaaDoor.LG
open Go.RowKit Go.Proofs.YtopfhdhdpnenpaaDoorV.PrintWords Go.Proofs.YtopfhdhdpnenpaaDoorV.PrintLast Go.Proofs.YtopfhdhdpnenpaaDoorV.PrintMore
attribute [local go_sem] max2_int min2_int max_two min_two max_three min_three max_four min_four   -- for this text's walks alone
set_option linter.unusedVariables false
set_option linter.unusedSimpArgs false

/-! ### strconv_Atoi: function 40, told by hand -/
def strconv_Atoi.ren : Go.Shelf.Ren := { f := fun x => if x = 129 then 88 else if x = 171 then 33 else if x = 172 then 40 else if x = 205 then 82 else if x = 243 then 49 else if x = 244 then 57 else if x = 245 then 58 else if x = 246 then 61 else if x = 247 then 67 else if x = 279 then 68 else if x = 280 then 69 else if x = 281 then 70 else if x = 282 then 71 else if x = 283 then 73 else if x = 284 then 74 else if x = 285 then 75 else if x = 286 then 76 else if x = 287 then 80 else if x = 316 then 81 else if x = 317 then 87 else if x = 318 then 89 else if x = 319 then 90 else if x = 320 then 91 else if x = 321 then 93 else if x = 322 then 94 else if x = 337 then 97 else if x = 338 then 98 else 0, t := fun x => if x = 0 then 0 else if x = 2 then 2 else if x = 3 then 3 else if x = 4 then 4 else if x = 5 then 5 else if x = 9 then 9 else if x = 20 then 20 else if x = 21 then 21 else if x = 37 then 28 else if x = 46 then 102 else if x = 51 then 109 else if x = 53 then 92 else if x = 75 then 60 else if x = 76 then 61 else if x = 80 then 126 else if x = 85 then 86 else if x = 127 then 113 else if x = 143 then 114 else if x = 145 then 116 else if x = 167 then 85 else if x = 168 then 88 else if x = 171 then 91 else if x = 173 then 95 else if x = 175 then 100 else if x = 210 then 105 else if x = 212 then 108 else if x = 213 then 110 else if x = 232 then 124 else if x = 233 then 125 else 0, g := fun x => if x = 15 then 1 else if x = 16 then 2 else if x = 17 then 4 else if x = 18 then 7 else if x = 19 then 8 else 0 }
theorem strconv_Atoi.lays : LaysC.n172 Tryd.prog strconv_Atoi.ren := {
 mixed := by kernel_rfl
 f129 := by kernel_rfl
 f171 := by kernel_rfl
 f172 := by kernel_rfl
 f205 := by kernel_rfl
 f243 := by kernel_rfl
 f244 := by kernel_rfl
 f245 := by kernel_rfl
 f246 := by kernel_rfl
 f247 := by kernel_rfl
 f279 := by kernel_rfl
 f280 := by kernel_rfl
 f281 := by kernel_rfl
 f282 := by kernel_rfl
 f283 := by kernel_rfl
 f284 := by kernel_rfl
 f285 := by kernel_rfl
 f286 := by kernel_rfl
 f287 := by kernel_rfl
 f316 := by kernel_rfl
 f317 := by kernel_rfl
 f318 := by kernel_rfl
 f319 := by kernel_rfl
 f320 := by kernel_rfl
 f321 := by kernel_rfl
 f322 := by kernel_rfl
 f337 := by kernel_rfl
 f338 := by kernel_rfl
 t0 := by kernel_rfl
 a0 := fun _ => by kernel_rfl
 z0 := fun _ => by kernel_rfl
 v0 := fun _ => by kernel_rfl
 t2 := by kernel_rfl
 a2 := fun _ => by kernel_rfl
 z2 := fun _ => by kernel_rfl
 v2 := fun _ => by kernel_rfl
 t3 := by kernel_rfl
 a3 := fun _ => by kernel_rfl
 z3 := fun _ => by kernel_rfl
 v3 := fun _ => by kernel_rfl
 t4 := by kernel_rfl
 a4 := fun _ => by kernel_rfl
 z4 := fun _ => by kernel_rfl
 v4 := fun _ => by kernel_rfl
 t5 := by kernel_rfl
 a5 := fun _ => by kernel_rfl
 z5 := fun _ => by kernel_rfl
 v5 := fun _ => by kernel_rfl
 t9 := by kernel_rfl
 a9 := fun _ => by kernel_rfl
 z9 := fun _ => by kernel_rfl
 v9 := fun _ => by kernel_rfl
 t20 := by kernel_rfl
 a20 := fun _ => by kernel_rfl
 z20 := fun _ => by kernel_rfl
 v20 := fun _ => by kernel_rfl
 t21 := by kernel_rfl
 a21 := fun _ => by kernel_rfl
 z21 := fun _ => by kernel_rfl
 v21 := fun _ => by kernel_rfl
 t37 := by kernel_rfl
 a37 := fun _ => by kernel_rfl
 z37 := fun _ => by kernel_rfl
 v37 := fun _ => by kernel_rfl
 t46 := by kernel_rfl
 a46 := fun _ => by kernel_rfl
 z46 := fun _ => by kernel_rfl
 v46 := fun _ => by kernel_rfl
 t51 := by kernel_rfl
 a51 := fun _ => by kernel_rfl
 z51 := fun _ => by kernel_rfl
 v51 := fun _ => by kernel_rfl
 t53 := by kernel_rfl
 a53 := fun _ => by kernel_rfl
 z53 := fun _ => by kernel_rfl
 v53 := fun _ => by kernel_rfl
 t75 := by kernel_rfl
 a75 := fun _ => by kernel_rfl
 z75 := fun _ => by kernel_rfl
 v75 := fun _ => by kernel_rfl
 t76 := by kernel_rfl
 a76 := fun _ => by kernel_rfl
 z76 := fun _ => by kernel_rfl
 v76 := fun _ => by kernel_rfl
 t85 := by kernel_rfl
 a85 := fun _ => by kernel_rfl
 z85 := fun _ => by kernel_rfl
 v85 := fun _ => by kernel_rfl
 t127 := by kernel_rfl
 a127 := fun _ => by kernel_rfl
 z127 := fun _ => by kernel_rfl
 v127 := fun _ => by kernel_rfl
 t143 := by kernel_rfl
 a143 := fun _ => by kernel_rfl
 z143 := fun _ => by kernel_rfl
 v143 := fun _ => by kernel_rfl
 t145 := by kernel_rfl
 a145 := fun _ => by kernel_rfl
 z145 := fun _ => by kernel_rfl
 v145 := fun _ => by kernel_rfl
 t167 := by kernel_rfl
 a167 := fun _ => by kernel_rfl
 z167 := fun _ => by kernel_rfl
 v167 := fun _ => by kernel_rfl
 t168 := by kernel_rfl
 a168 := fun _ => by kernel_rfl
 z168 := fun _ => by kernel_rfl
 v168 := fun _ => by kernel_rfl
 t171 := by kernel_rfl
 a171 := fun _ => by kernel_rfl
 z171 := fun _ => by kernel_rfl
 v171 := fun _ => by kernel_rfl
 t173 := by kernel_rfl
 a173 := fun _ => by kernel_rfl
 z173 := fun _ => by kernel_rfl
 v173 := fun _ => by kernel_rfl
 t175 := by kernel_rfl
 a175 := fun _ => by kernel_rfl
 z175 := fun _ => by kernel_rfl
 v175 := fun _ => by kernel_rfl
 t210 := by kernel_rfl
 a210 := fun _ => by kernel_rfl
 z210 := fun _ => by kernel_rfl
 v210 := fun _ => by kernel_rfl
 t212 := by kernel_rfl
 a212 := fun _ => by kernel_rfl
 z212 := fun _ => by kernel_rfl
 v212 := fun _ => by kernel_rfl
 t213 := by kernel_rfl
 a213 := fun _ => by kernel_rfl
 z213 := fun _ => by kernel_rfl
 t232 := by kernel_rfl
 a232 := fun _ => by kernel_rfl
 z232 := fun _ => by kernel_rfl
 v232 := fun _ => by kernel_rfl
 t233 := by kernel_rfl
 a233 := fun _ => by kernel_rfl
 z233 := fun _ => by kernel_rfl
 v233 := fun _ => by kernel_rfl
 g15 := by kernel_rfl
 g16 := by kernel_rfl
 g17 := by kernel_rfl
 g18 := by kernel_rfl
 g19 := by kernel_rfl
 t80 := by kernel_rfl
 a80 := fun _ => by kernel_rfl
 z80 := fun _ => by kernel_rfl
 v80 := fun _ => by kernel_rfl
 i0 := by kernel_rfl
 i2 := by kernel_rfl
 i3 := by kernel_rfl
 i4 := by kernel_rfl
 i5 := by kernel_rfl
 i9 := by kernel_rfl
 i20 := by kernel_rfl
 i21 := by kernel_rfl
 i37 := by kernel_rfl
 i46 := by kernel_rfl
 i51 := by kernel_rfl
 i53 := by kernel_rfl
 i75 := by kernel_rfl
 i76 := by kernel_rfl
 i80 := by kernel_rfl
 i85 := by kernel_rfl
 i127 := by kernel_rfl
 i143 := by kernel_rfl
 i145 := by kernel_rfl
 i167 := by kernel_rfl
 i168 := by kernel_rfl
 i171 := by kernel_rfl
 i173 := by kernel_rfl
 i175 := by kernel_rfl
 i210 := by kernel_rfl
 i212 := by kernel_rfl
 i232 := by kernel_rfl
 i233 := by kernel_rfl
 m15 := by kernel_rfl
 m16 := by kernel_rfl
 m17 := by kernel_rfl
 m18 := by kernel_rfl
 m19 := by kernel_rfl
 c0 := by kernel_rfl
 c2 := by kernel_rfl
 c3 := by kernel_rfl
 c4 := by kernel_rfl
 c5 := by kernel_rfl
 c9 := by kernel_rfl
 c20 := by kernel_rfl
 c21 := by kernel_rfl
 c37 := by kernel_rfl
 c46 := by kernel_rfl
 c51 := by kernel_rfl
 c53 := by kernel_rfl
 c75 := by kernel_rfl
 c76 := by kernel_rfl
 c80 := by kernel_rfl
 c85 := by kernel_rfl
 c127 := by kernel_rfl
 c143 := by kernel_rfl
 c145 := by kernel_rfl
 c167 := by kernel_rfl
 c168 := by kernel_rfl
 c171 := by kernel_rfl
 c173 := by kernel_rfl
 c175 := by kernel_rfl
 c210 := by kernel_rfl
 c212 := by kernel_rfl
 c213 := by kernel_rfl
 c232 := by kernel_rfl
 c233 := by kernel_rfl }
/-- The number beside the error, too. -/
def atoiVal (s : ByteArray) : Int := match Lib.atoiAll s.data.toList with | .ok v => v | .range => Lib.atoiSat s.data.toList | _ => 0
def strconv_Atoi.f (a0 : ByteArray) : Option (Int × Int) := if a0.size ≤ 281474976710656 then some (atoiVal a0, 0) else none
theorem strconv_Atoi.calls (a0 : ByteArray) (r1 r2 : Int) (w : World) (hT : TabR w) (h : strconv_Atoi.f a0 = some (r1, r2)) :
  Calls Tryd.prog 40 #[.string a0] w fun e w' => ∃ er : Value, e = .returned (.tuple #[.int .i64 r1, er]) ∧ Below w.heap.size w w' := by
 unfold strconv_Atoi.f at h
 by_cases hc : a0.size ≤ 281474976710656
 ·rw [if_pos hc] at h
  obtain ⟨rfl, rfl⟩ := Prod.mk.inj (Option.some.inj h)
  unfold atoiVal
  cases he : Lib.atoiAll a0.data.toList with
  | ok v =>
   refine (Any.strconv_Atoi_ok (ρ := strconv_Atoi.ren) strconv_Atoi.lays a0 (by omega) v he w).mono ?_
   rintro e w' ⟨rfl, rfl | ⟨t, rfl⟩⟩
   ·exact ⟨_, rfl, Below.refl _ _⟩
   ·exact ⟨_, rfl, bytes_below (Below.refl _ _) (Nat.le_refl _) _ _⟩
  | range =>
   obtain ⟨t, p, hv⟩ := hT.2.2.2
   refine (Any.strconv_Atoi_range (ρ := strconv_Atoi.ren) strconv_Atoi.lays a0 hc he _ w hv (Or.inr ⟨t, p, rfl⟩)).mono ?_
   rintro e w' ⟨N, rfl, _, _, hb⟩
   exact ⟨_, rfl, hb⟩
  | _ =>
   obtain ⟨t, p, hv⟩ := hT.2.2.1
   refine (Any.strconv_Atoi_syntax (ρ := strconv_Atoi.ren) strconv_Atoi.lays a0 hc he _ w hv (Or.inr ⟨t, p, rfl⟩)).mono ?_
   rintro e w' ⟨N, rfl, _, _, hb⟩
   exact ⟨_, rfl, hb⟩
 ·rw [if_neg hc] at h; cases h

/-! ### impl_ReadDeed: function 15 -/
theorem words_row {w : World} {b off : Nat} (h0 : w.cell? ⟨b, off, none⟩ = some (.string ⟨#[104, 101, 97, 100]⟩)) (h1 : w.cell? ⟨b, off + 1, none⟩ = some (.string ⟨#[97, 100, 100]⟩))
  (h2 : w.cell? ⟨b, off + 2, none⟩ = some (.string ⟨#[100, 114, 111, 112]⟩)) (h3 : w.cell? ⟨b, off + 3, none⟩ = some (.string ⟨#[116, 117, 114, 110]⟩))
  (h4 : w.cell? ⟨b, off + 4, none⟩ = some (.string ⟨#[102, 108, 97, 116]⟩)) (h5 : w.cell? ⟨b, off + 5, none⟩ = some (.string ⟨#[98, 97, 99, 107]⟩)) :
  Kd.C Kd.string w (some ⟨b, off, none⟩) wordsL.length wordsL :=
 Kd.C_of_reads (d := ByteArray.empty) ⟨rfl, by decide, fun _ => ⟨_, rfl, fun j hj => by
  have hj' : j < 6 := hj
  match j, hj' with
  | 0, _ => simpa [Addr.add, wordsL] using h0
  | 1, _ => simpa [Addr.add, wordsL] using h1
  | 2, _ => simpa [Addr.add, wordsL] using h2
  | 3, _ => simpa [Addr.add, wordsL] using h3
  | 4, _ => simpa [Addr.add, wordsL] using h4
  | 5, _ => simpa [Addr.add, wordsL] using h5⟩⟩
def impl_ReadDeed.j0 : Nat → ByteArray → List ByteArray → Int → Int → Int → Option (Int × Int × Int × Bool)
 | 0, _, _, _, _, _ => none
 | k + 1, x0, x4, x126000, x126001, x126002 => if (x4.length : Int) > 2 then (if 2 < (x4.length : Int) then ((strconv_Atoi.f (rdOf ByteArray.empty x4 2)).bind fun bt130 => (if x0.toList = ([] : List UInt8) then (some (0, 0, 0, false)) else ((impl_DeedText.f k x126000 x126001 bt130.1).bind fun t132 => (if t132.toList = x0.toList then (some (x126000, x126001, bt130.1, true)) else (some (0, 0, 0, false)))))) else (none)) else (if x0.toList = ([] : List UInt8) then (some (0, 0, 0, false)) else ((impl_DeedText.f k x126000 x126001 x126002).bind fun t133 => (if t133.toList = x0.toList then (some (x126000, x126001, x126002, true)) else (some (0, 0, 0, false)))))
def impl_ReadDeed.f (k : Nat) (a0 : ByteArray) : Option (Int × Int × Int × Bool) := (strings_Split.f a0 (⟨#[32]⟩ : ByteArray)).bind fun t120 => (if 0 < (t120.length : Int) then ((slices_Index_string_string.f k wordsL (rdOf ByteArray.empty t120 0)).bind fun t124 => (if (t120.length : Int) > 1 then (if 1 < (t120.length : Int) then ((strconv_Atoi.f (rdOf ByteArray.empty t120 1)).bind fun bt127 => (impl_ReadDeed.j0 k a0 t120 t124 bt127.1 0)) else (none)) else (impl_ReadDeed.j0 k a0 t120 t124 0 0))) else (none))
theorem impl_ReadDeed.mono_l : ∀ k, (∀ y0 y1 y2 y3 y4, LeO (impl_ReadDeed.j0 k y0 y1 y2 y3 y4) (impl_ReadDeed.j0 (k + 1) y0 y1 y2 y3 y4))
 | 0 => fun _ _ _ _ _ r h => by simp [impl_ReadDeed.j0] at h
 | k + 1 => by
  have ih0 := impl_ReadDeed.mono_l k
  ·intro y0 y1 y2 y3 y4
   unfold impl_ReadDeed.j0
   have := @impl_DeedText.mono; have := @slices_Index_string_string.mono; exact zmono
theorem impl_ReadDeed.mono : ∀ a0 k, LeO (impl_ReadDeed.f k a0) (impl_ReadDeed.f (k + 1) a0) := by
 intro a0 k
 have ih0 := impl_ReadDeed.mono_l k
 unfold impl_ReadDeed.f
 have := @impl_DeedText.mono; have := @slices_Index_string_string.mono; exact zmono
def impl_ReadDeed.T2 : Bool × List (List Nat × List Nat) := (true, [([], []), ([], []), ([1], [1]), ([2], [2]), ([0, 3], [0, 3]), ([4], [4]), ([], []), ([6, 5, 4, 0, 1, 2, 3, 4, 5, 6], [5, 6])])
def impl_ReadDeed.B2 : List Nat := [0, 0, 2, 6, 15, 31, 0, 127]
theorem impl_ReadDeed.tab2 : rtab .any (opsOf Tryd.f15 2) = impl_ReadDeed.T2 := by kernel_rfl
theorem impl_ReadDeed.bits2 : waitsOk impl_ReadDeed.T2.2 impl_ReadDeed.B2 = true := by kernel_rfl
set_option maxHeartbeats 8000000 in
set_option maxRecDepth 100000 in
theorem impl_ReadDeed.calls (k : Nat) (a0 : ByteArray) (r1 : Int) (r2 : Int) (r3 : Int) (r4 : Bool) (w : World) (hT : TabR w) (h : impl_ReadDeed.f k a0 = some (r1, r2, r3, r4)) :
  Calls Tryd.prog 15 #[.string a0] w fun e w' => e = .returned (.tuple #[.agg #[.int .i64 r1, .int .i64 r2, .int .i64 r3], .bool r4]) ∧ Below w.heap.size w w' := by
 have hu25 := Tryd.underlying25
 have HB:=zM (Below.refl w.heap.size w)
 have HT:=zM hT
 clear hT
 obtain ⟨tb_, to_, tc_, hcap_, hg_, h0_, h1_, h2_, h3_, h4_, h5_⟩ := HT.out.1
 have HWr:=zM (words_row h0_ h1_ h2_ h3_ h4_ h5_)
 have HCAP : Aside0 (wordsL.length ≤ tc_) := ⟨hcap_⟩
 have HG0 : Aside0 (w.cell? ⟨0, 0, none⟩ = some (.slice (some ⟨tb_, to_, none⟩) wordsL.length tc_)) := ⟨hg_⟩
 clear hcap_ hg_ h0_ h1_ h2_ h3_ h4_ h5_
 have H : ((strings_Split.f a0 (⟨#[32]⟩ : ByteArray)).bind fun t120 => (if 0 < (t120.length : Int) then ((slices_Index_string_string.f k wordsL (rdOf ByteArray.empty t120 0)).bind fun t124 => (if (t120.length : Int) > 1 then (if 1 < (t120.length : Int) then ((strconv_Atoi.f (rdOf ByteArray.empty t120 1)).bind fun bt127 => (impl_ReadDeed.j0 k a0 t120 t124 bt127.1 0)) else (none)) else (impl_ReadDeed.j0 k a0 t120 t124 0 0))) else (none))) = some (r1, r2, r3, r4) := h
 clear h
 replace H := zb H; obtain ⟨t120, A2, H⟩ := H; try dsimp only at H
 by_cases c3 : 0 < (t120.length : Int)
 ·rw [if_pos c3] at H
  have c3b0 := decide_eq_true c3
  have c3b1 : decide (0 < t120.length) = true := decide_eq_true (by omega)
  clear c3
  replace H := zb H; obtain ⟨t124, A4, H⟩ := H; try dsimp only at H
  have HC5:=zM H
  clear H
  go_enter Tryd.func15, Tryd.ntmps15
  try go_wp2_with (first | ((with_reducible refine gate_dst (N := 2) rfl ?_); refine box_event zs0 (N := 2) zs0 (cs := #[.int .i64 0, .int .i64 0, .int .i64 0]) (t := 25) zs1 ?_; intro gb119 hg w6 hbox hb; have BK119:=zM (hbox); have GW119:=zM ((by rw [hg]; exact (below_size (zs2 HB.out)) : w.heap.size ≤ gb119)); have GE119:=zM ((by rw [hg]; exact (below_size (zs2 HB.out)) : w.heap.size ≤ gb119)); replace HB:=zM (below_step (zs2 HB.out) hb); clear hb hbox hg) | (refine zg 38 (some 7) Tryd.func38 #[.string a0, .string (⟨#[32]⟩ : ByteArray)] ?_; (with_reducible refine (strings_Split.calls a0 (⟨#[32]⟩ : ByteArray) t120 _ (TabR.below HT.out (zs4 HB.out GE119.out)) A2.out).mono ?_); rintro e w7 ⟨v121, rfl, ho0, hb⟩; refine ⟨_, rfl, ?_⟩; have HO122:=zM (Kd.R_lower ho0 (below_size (zs4 HB.out GE119.out))); replace BK119:=zM (blk_below (g := gb119) (o := .cells #[.int .i64 0, .int .i64 0, .int .i64 0] 25 (0, 0)) (zs12 BK119.out) hb); replace HB:=zM (below_step (zs4 HB.out GE119.out) hb); clear hb ho0; obtain ⟨Ao8, co8, eo8⟩ := Kd.R_slice HO122.out; subst eo8))
  replace HO122:=zM (Kd.R_drew HO122.out)
  replace BK119:=zM (blk_drew BK119.out)
  replace HB:=zM (zC HB.out)
  have p123 : 0 ≤ (0 : Int) := (by omega)
  have q123 : 0 < (t120.length : Int) := of_decide_eq_true zs8
  obtain ⟨ad123, e123, hx123_0⟩ := Kd.at_string (Kd.R_reads' HO122.out).2.2 0 p123 q123
  cases e123
  have qi123 : (0 < t120.length) = True := eq_true (by omega)
  (try rw [show ((0 : Int)).toNat = 0 from rfl] at hx123_0)
  (try rw [Addr.add_zero'] at hx123_0)
  replace p123 := eq_true p123
  replace q123 := eq_true q123
  refine start_ (n := 8) (S := fun w' => w'.cell? ad123 = some (.string (rdOf ByteArray.empty t120 0)) ∧ w'.cell? ⟨0, 0, none⟩ = some (.slice (some ⟨tb_, to_, none⟩) wordsL.length tc_)) (ds := []) (zL 8 0) (by kernel_rfl) rfl rfl (⟨hx123_0, (HB.out.cell (World.block_lt_of_cell? w _ HG0.out)).trans HG0.out⟩) (fun hHeld => ?_); refine with_tabW impl_ReadDeed.tab2 impl_ReadDeed.bits2 (fun HT_ HW_ => ?_)
  generalize w7.drew = w9 at HO122 BK119 HB hx123_0 hHeld ⊢
  refine take_ (i := 0) (N := some 8) (v := ?_) (a' := ?_) (zL 8 1) rfl rfl (take_ofW HT_.out HW_.out (by kernel_rfl)) (fun _ _ _ h => h) (Or.inl ⟨by rfl, ?_⟩) hHeld ?_ ?_
  rotate_left
  ·rintro w' ⟨s0, s1⟩
   go_simp
   with_reducible rfl
  rotate_left
  ·simp only [Act.put, zE, zF, zG, i64_w, i32_w]
   rfl
  refine zp 1 (some 9) (zL 8 3) HT_ ?_
  refine zp 2 (some 10) (zL 8 7) HT_ ?_
  refine take_ (i := 3) (N := some 11) (v := ?_) (a' := ?_) (zL 8 15) rfl rfl (take_ofW HT_.out HW_.out (by kernel_rfl)) (fun _ _ _ h => h) (Or.inl ⟨by rfl, ?_⟩) hHeld ?_ ?_
  rotate_left
  ·rintro w' ⟨s0, s1⟩
   go_simp
   with_reducible rfl
  rotate_left
  ·simp only [Act.put, zE, zF, zG, i64_w, i32_w]
   rfl
  refine join_ (σ := Nat) 1 (zL 8 127) (fun s_ => [(12, .int .i64 t124), (5, .pointer (some ⟨s_, 0, none⟩)), (13, .agg #[.int .i64 t124, .int .i64 0, .int .i64 0])]) (fun s_ w' => (w'.cell? ad123 = some (.string (rdOf ByteArray.empty t120 0)) ∧ w'.cell? ⟨0, 0, none⟩ = some (.slice (some ⟨tb_, to_, none⟩) wordsL.length tc_)) ∧ (Kd.R Kd.string 9 w' w.heap.size (fun _ => True) (.slice (some ad123) t120.length co8) t120) ∧ (w'.heap[gb119]? = some (.cells #[.int .i64 0, .int .i64 0, .int .i64 0] 25 (0, 0))) ∧ (w'.heap[s_]? = some (.cells #[.int .i64 0, .int .i64 0, .int .i64 0] 25 (0, 0))) ∧ (w.heap.size ≤ s_) ∧ (w.heap.size ≤ s_) ∧ (gb119 ≠ s_) ∧ (s_ ≠ gb119) ∧ (Below w.heap.size w w')) ?_ ?_
  rotate_left
  ·intro hCont
   refine two_ (i := 4) (j := 6) (Ni := some 12) (Nj := some 5) (zL 8 31) (zL 8 79) rfl rfl rfl rfl (two_of HT_.out (by kernel_rfl)) (by decide) (by decide) (fun K hK => ?_) (fun K hK => ?_)
   ·skip
    refine goes_ Tryd.func39 (by kernel_rfl) rfl #[.slice (some ⟨tb_, to_, none⟩) wordsL.length tc_, .string (rdOf ByteArray.empty t120 0)] (by rfl) rfl rfl (by (try simp only [List.map_toArray, List.map_cons, List.map_nil]); first | done | rfl | (simp only [List.length_drop, List.length_take]; rfl)) ?_
    with_reducible refine (slices_Index_string_string.calls k _ _ wordsL (rdOf ByteArray.empty t120 0) t124 _ ?side1 ?side2 A4.out).mono ?_
    (case side1 => repeat (first | exact (Kd.C_below HWr.out HB.out) | (with_reducible refine Kd.C_alloc ?_ _) | (with_reducible refine Kd.C_drewN ?_ _) | (with_reducible refine Kd.C_drew ?_)))
    (case side2 => exact HCAP.out)
    rintro e w' ⟨rfl, ⟨nd, rfl⟩⟩
    refine ⟨_, rfl, ?_⟩
    refine hK.out _ _ (hHeld) (fun hHeld => ?_)
    clear hK K
    refine norm_ (a' := ?_) ?_ ?_
    rotate_left
    ·show Act.put _ (some 12) _ = _
     simp only [Act.put, zE, zF, zG, i64_w, i32_w]
     rfl
    refine zp 5 (some 13) (zL 8 63) HT_ ?_
    refine one_ (i := 6) (N := some 5) (zL 8 127) rfl rfl (one_of HT_.out (by kernel_rfl)) (by decide) (fun K hK => ?_)
    refine box_step zs0 (N := 5) zs0 (cs := #[.int .i64 0, .int .i64 0, .int .i64 0]) (t := 25) zs1 ?_
    intro gb125 hg w10 hbox hb
    have HS0_ := And.intro ((hb.cell (World.block_lt_of_cell? _ _ hHeld.1)).trans hHeld.1) ((hb.cell (World.block_lt_of_cell? _ _ hHeld.2)).trans hHeld.2)
    replace HO122:=zM (Kd.R_below (zs11 HO122.out) hb)
    have BK125:=zM (hbox)
    have GW125:=zM ((by rw [hg]; exact (below_size (zs4 HB.out GE119.out)) : w.heap.size ≤ gb125))
    have GE125:=zM ((by rw [hg]; exact (below_size (zs4 HB.out GE119.out)) : w.heap.size ≤ gb125))
    replace HB:=zM (below_step (zs4 HB.out GE119.out) hb)
    have NB119_125:=zM ((by rw [hg]; exact Nat.ne_of_lt (blk_lt (g := gb119) (o := .cells #[.int .i64 0, .int .i64 0, .int .i64 0] 25 (0, 0)) (zs12 BK119.out)) : gb119 ≠ gb125))
    have NB125_119:=zM ((by rw [hg]; exact Nat.ne_of_gt (blk_lt (g := gb119) (o := .cells #[.int .i64 0, .int .i64 0, .int .i64 0] 25 (0, 0)) (zs12 BK119.out)) : gb125 ≠ gb119))
    replace BK119:=zM (blk_below (g := gb119) (o := .cells #[.int .i64 0, .int .i64 0, .int .i64 0] 25 (0, 0)) (zs12 BK119.out) hb)
    clear hb hbox hg
    refine hK.out _ _ (HS0_) (fun hHeld => ?_)
    clear hK K
    refine norm_ (a' := ?_) ?_ ?_
    rotate_left
    ·show Act.put _ (some 5) _ = _
     simp only [Act.put, zE, zF, zG, i64_w, i32_w]
     rfl
    exact norm_ (by simp only [putAll, Act.put, zE, zF, zG]) (hCont (gb125) _ ⟨hHeld, (zs11 HO122.out), (zs12 BK119.out), (zs12 BK125.out), GW125.out, GE125.out, NB119_125.out, NB125_119.out, (zs13 HB.out GE119.out GE125.out)⟩)
   ·skip
    refine box_step zs0 (N := 5) zs0 (cs := #[.int .i64 0, .int .i64 0, .int .i64 0]) (t := 25) zs1 ?_
    intro gb125 hg w10 hbox hb
    have HS0_ := And.intro ((hb.cell (World.block_lt_of_cell? _ _ hHeld.1)).trans hHeld.1) ((hb.cell (World.block_lt_of_cell? _ _ hHeld.2)).trans hHeld.2)
    replace HO122:=zM (Kd.R_below (zs11 HO122.out) hb)
    have BK125:=zM (hbox)
    have GW125:=zM ((by rw [hg]; exact (below_size (zs4 HB.out GE119.out)) : w.heap.size ≤ gb125))
    have GE125:=zM ((by rw [hg]; exact (below_size (zs4 HB.out GE119.out)) : w.heap.size ≤ gb125))
    replace HB:=zM (below_step (zs4 HB.out GE119.out) hb)
    have NB119_125:=zM ((by rw [hg]; exact Nat.ne_of_lt (blk_lt (g := gb119) (o := .cells #[.int .i64 0, .int .i64 0, .int .i64 0] 25 (0, 0)) (zs12 BK119.out)) : gb119 ≠ gb125))
    have NB125_119:=zM ((by rw [hg]; exact Nat.ne_of_gt (blk_lt (g := gb119) (o := .cells #[.int .i64 0, .int .i64 0, .int .i64 0] 25 (0, 0)) (zs12 BK119.out)) : gb125 ≠ gb119))
    replace BK119:=zM (blk_below (g := gb119) (o := .cells #[.int .i64 0, .int .i64 0, .int .i64 0] 25 (0, 0)) (zs12 BK119.out) hb)
    clear hb hbox hg
    refine hK.out _ _ (HS0_) (fun hHeld => ?_)
    clear hK K
    refine norm_ (a' := ?_) ?_ ?_
    rotate_left
    ·show Act.put _ (some 5) _ = _
     simp only [Act.put, zE, zF, zG, i64_w, i32_w]
     rfl
    refine one_ (i := 4) (N := some 12) (zL 8 95) rfl rfl (one_of HT_.out (by kernel_rfl)) (by decide) (fun K hK => ?_)
    refine goes_ Tryd.func39 (by kernel_rfl) rfl #[.slice (some ⟨tb_, to_, none⟩) wordsL.length tc_, .string (rdOf ByteArray.empty t120 0)] (by rfl) rfl rfl (by (try simp only [List.map_toArray, List.map_cons, List.map_nil]); first | done | rfl | (simp only [List.length_drop, List.length_take]; rfl)) ?_
    with_reducible refine (slices_Index_string_string.calls k _ _ wordsL (rdOf ByteArray.empty t120 0) t124 _ ?side1 ?side2 A4.out).mono ?_
    (case side1 => repeat (first | exact (Kd.C_below HWr.out HB.out) | (with_reducible refine Kd.C_alloc ?_ _) | (with_reducible refine Kd.C_drewN ?_ _) | (with_reducible refine Kd.C_drew ?_)))
    (case side2 => exact HCAP.out)
    rintro e w' ⟨rfl, ⟨nd, rfl⟩⟩
    refine ⟨_, rfl, ?_⟩
    refine hK.out _ _ (hHeld) (fun hHeld => ?_)
    clear hK K
    refine norm_ (a' := ?_) ?_ ?_
    rotate_left
    ·show Act.put _ (some 12) _ = _
     simp only [Act.put, zE, zF, zG, i64_w, i32_w]
     rfl
    refine zp 5 (some 13) (zL 8 127) HT_ ?_
    exact norm_ (by simp only [putAll, Act.put, zE, zF, zG]) (hCont (gb125) _ ⟨hHeld, (zs11 HO122.out), (zs12 BK119.out), (zs12 BK125.out), GW125.out, GE125.out, NB119_125.out, NB125_119.out, (zs13 HB.out GE119.out GE125.out)⟩)
  rintro gb125 w11 ⟨hS_, h0_, h1_, h2_, h3_, h4_, h5_, h6_, h7_⟩
  replace HO122 : Aside0 (Kd.R Kd.string 9 w11 w.heap.size (fun _ => True) (.slice (some ad123) t120.length co8) t120) := ⟨h0_⟩
  replace BK119 : Aside0 (w11.heap[gb119]? = some (.cells #[.int .i64 0, .int .i64 0, .int .i64 0] 25 (0, 0))) := ⟨h1_⟩
  have BK125 : Aside0 (w11.heap[gb125]? = some (.cells #[.int .i64 0, .int .i64 0, .int .i64 0] 25 (0, 0))) := ⟨h2_⟩
  have GW125 : Aside0 (w.heap.size ≤ gb125) := ⟨h3_⟩
  have GE125 : Aside0 (w.heap.size ≤ gb125) := ⟨h4_⟩
  have NB119_125 : Aside0 (gb119 ≠ gb125) := ⟨h5_⟩
  have NB125_119 : Aside0 (gb125 ≠ gb119) := ⟨h6_⟩
  replace HB : Aside0 (Below w.heap.size w w11) := ⟨h7_⟩
  clear h0_ h1_ h2_ h3_ h4_ h5_ h6_ h7_
  have hHeld := hS_
  refine norm_ (a' := ?_) ?_ ?_
  rotate_left
  ·simp only [putAll, Act.put, zE, zF, zG]
   rfl
  refine one_ (i := 7) (N := none) (zL 8 255) rfl rfl (one_of HT_.out (by kernel_rfl)) (by decide) (fun K hK => ?_)
  have hs12 : w11.cell? ⟨gb125, 0, none⟩ = some (.int .i64 0) := (blk_cell BK125.out 0).trans rfl
  have hfs12 := blk_frozen BK125.out 0
  have hns12_0 := NB119_125.out
  have hms12_0 := NB125_119.out
  have hs13 : w11.cell? ⟨gb125, 1, none⟩ = some (.int .i64 0) := (blk_cell BK125.out 1).trans rfl
  have hfs13 := blk_frozen BK125.out 1
  have hns13_0 := NB119_125.out
  have hms13_0 := NB125_119.out
  have hs14 : w11.cell? ⟨gb125, 2, none⟩ = some (.int .i64 0) := (blk_cell BK125.out 2).trans rfl
  have hfs14 := blk_frozen BK125.out 2
  have hns14_0 := NB119_125.out
  have hms14_0 := NB125_119.out
  refine skip_ (w1 := ?_) (by rfl) rfl ?_ ?_
  rotate_left
  ·go_simp
   rfl
  refine hK.out _ _ (⟨((cell_far (p := ⟨gb125, _, none⟩) (by first | exact Kd.own_blk (Kd.R_ne HO122.out BK125.out (by decide)) | (rw [add_block]; exact Kd.own_blk (Kd.R_ne HO122.out BK125.out (by decide))) | (show (Addr.add _ _).block ≠ _; rw [add_block]; exact Kd.own_blk (Kd.R_ne HO122.out BK125.out (by decide))) | (dsimp only; exact Kd.own_blk (Kd.R_ne HO122.out BK125.out (by decide)))) _).trans (((cell_far (p := ⟨gb125, _, none⟩) (by first | exact Kd.own_blk (Kd.R_ne HO122.out BK125.out (by decide)) | (rw [add_block]; exact Kd.own_blk (Kd.R_ne HO122.out BK125.out (by decide))) | (show (Addr.add _ _).block ≠ _; rw [add_block]; exact Kd.own_blk (Kd.R_ne HO122.out BK125.out (by decide))) | (dsimp only; exact Kd.own_blk (Kd.R_ne HO122.out BK125.out (by decide)))) _).trans (((cell_far (p := ⟨gb125, _, none⟩) (by first | exact Kd.own_blk (Kd.R_ne HO122.out BK125.out (by decide)) | (rw [add_block]; exact Kd.own_blk (Kd.R_ne HO122.out BK125.out (by decide))) | (show (Addr.add _ _).block ≠ _; rw [add_block]; exact Kd.own_blk (Kd.R_ne HO122.out BK125.out (by decide))) | (dsimp only; exact Kd.own_blk (Kd.R_ne HO122.out BK125.out (by decide)))) _).trans (hHeld.1)))))), (cell_far (p := ⟨gb125, _, none⟩) (by have h1_ := GE125.out; have h2_ := World.block_lt_of_cell? w _ HG0.out; dsimp only at h2_ ⊢; omega) _).trans ((cell_far (p := ⟨gb125, _, none⟩) (by have h1_ := GE125.out; have h2_ := World.block_lt_of_cell? w _ HG0.out; dsimp only at h2_ ⊢; omega) _).trans ((cell_far (p := ⟨gb125, _, none⟩) (by have h1_ := GE125.out; have h2_ := World.block_lt_of_cell? w _ HG0.out; dsimp only at h2_ ⊢; omega) _).trans hHeld.2))⟩) (fun hHeld => ?_)
  clear hK K
  refine done_ (done_of HT_.out (by kernel_rfl)) ?_
  go_upto_if 16 with (fail)
  go_cut [] (fun wc => ∃ (kq : Nat) (x126001_4 : Int), Aside0 (impl_ReadDeed.j0 kq a0 t120 t124 x126001_4 0 = some (r1, r2, r3, r4)) ∧ Aside0 (kq ≤ k) ∧ Aside0 (Kd.R Kd.string 9 wc w.heap.size (fun _ => True) (.slice (some ad123) t120.length co8) t120) ∧ Aside0 (wc.heap[gb119]? = some (.cells #[.int .i64 0, .int .i64 0, .int .i64 0] 25 (0, 0))) ∧ Aside0 (wc.heap[gb125]? = some (.cells #[.int .i64 t124, .int .i64 x126001_4, .int .i64 0] 25 (0, 0))) ∧ Aside0 (Below w.heap.size w wc))
  case first =>
   have H := HC5.out
   clear HC5
   by_cases c15 : (t120.length : Int) > 1
   ·rw [if_pos c15] at H
    have c15b0 : decide (1 < (t120.length : Int)) = true := decide_eq_true c15
    have c15b1 : decide (1 < t120.length) = true := decide_eq_true (by omega)
    clear c15
    (first | rw [c15b0] | (simp only [i64_w, i32_w]; rw [c15b0]) | skip)
    by_cases c16 : 1 < (t120.length : Int)
    ·rw [if_pos c16] at H
     have c16b0 := decide_eq_true c16
     have c16b1 : decide (1 < t120.length) = true := decide_eq_true (by omega)
     clear c16
     replace H := zb H; obtain ⟨⟨t127, t128⟩, A17, H⟩ := H; try dsimp only at H
     have H':=zM H
     clear H
     have p126 : 0 ≤ (1 : Int) := (by omega)
     have q126 : 1 < (t120.length : Int) := of_decide_eq_true zs8
     obtain ⟨ad126, e126, hx126_0⟩ := Kd.at_string (Kd.R_reads' HO122.out).2.2 1 p126 q126
     obtain rfl : ad123 = ad126 := (by injection e126)
     (try simp only [show (1 : Int).toNat = 1 from rfl, Nat.reduceMul, Nat.reduceEqDiff, Go.Addr.add, ↓reduceIte] at hx126_0)
     have qi126 : (1 < t120.length) = True := eq_true (by omega)
     (try rw [show ((1 : Int)).toNat = 1 from rfl] at hx126_0)
     have hn126_0 : ad123.block ≠ gb125 := Kd.own_blk (Kd.R_ne HO122.out BK125.out (by decide))
     have hn126_1 : ad123.block ≠ gb125 := Kd.own_blk (Kd.R_ne HO122.out BK125.out (by decide))
     have hn126_2 : ad123.block ≠ gb125 := Kd.own_blk (Kd.R_ne HO122.out BK125.out (by decide))
     replace hx126_0 := (cell_far (p := ⟨gb125, 0, none⟩) (by first | (rw [add_block]; exact hn126_0) | (show (Addr.add _ _).block ≠ _; rw [add_block]; exact hn126_0) | exact hn126_0) (.int .i64 t124)).trans hx126_0
     replace hx126_0 := (cell_far (p := ⟨gb125, 1, none⟩) (by first | (rw [add_block]; exact hn126_1) | (show (Addr.add _ _).block ≠ _; rw [add_block]; exact hn126_1) | exact hn126_1) (.int .i64 0)).trans hx126_0
     replace hx126_0 := (cell_far (p := ⟨gb125, 2, none⟩) (by first | (rw [add_block]; exact hn126_2) | (show (Addr.add _ _).block ≠ _; rw [add_block]; exact hn126_2) | exact hn126_2) (.int .i64 0)).trans hx126_0
     clear hn126_0
     clear hn126_1
     clear hn126_2
     replace p126 := eq_true p126
     replace q126 := eq_true q126
     go_wp2_with (first | (refine zg 40 (some 21) Tryd.func40 #[.string (rdOf ByteArray.empty t120 1)] ?_; (with_reducible refine (strconv_Atoi.calls (rdOf ByteArray.empty t120 1) t127 t128 _ (TabR.below HT.out (zs13 HB.out GE119.out GE125.out)) A17.out).mono ?_); rintro e w18 ⟨er_, rfl, hb⟩; refine ⟨_, rfl, ?_⟩; replace HO122:=zM (Kd.R_below (by (with_reducible repeat (first | apply Kd.R_alloc | apply Kd.R_drewN | apply Kd.R_drew)); exact (Kd.R_mono (Kd.R_far (p := ⟨gb125, 2, none⟩) (Kd.R_far (p := ⟨gb125, 1, none⟩) (Kd.R_far (p := ⟨gb125, 0, none⟩) (Kd.R_types HO122.out BK125.out (by decide)) (fun _ hk => hk.2) (.int .i64 t124)) (fun _ hk => hk.2) (.int .i64 0)) (fun _ hk => hk.2) (.int .i64 0)) (fun _ h_ => h_.1))) hb); replace BK119:=zM (blk_below (g := gb119) (o := .cells #[.int .i64 0, .int .i64 0, .int .i64 0] 25 (0, 0)) (by refine blk_far ?_ NB119_125.out _; refine blk_far ?_ NB119_125.out _; refine blk_far ?_ NB119_125.out _; exact BK119.out) hb); replace BK125:=zM (blk_below (g := gb125) (o := .cells #[.int .i64 t124, .int .i64 0, .int .i64 0] 25 (0, 0)) (by refine blk_put (cs := #[.int .i64 t124, .int .i64 0, .int .i64 0]) ?_ 2 _ rfl; refine blk_put (cs := #[.int .i64 t124, .int .i64 0, .int .i64 0]) ?_ 1 _ rfl; refine blk_put (cs := #[.int .i64 0, .int .i64 0, .int .i64 0]) ?_ 0 _ rfl; exact BK125.out) hb); replace HB:=zM (below_step (zs13 HB.out GE119.out GE125.out) hb); clear hb; (try simp only [errW_none, errW_some]); have hnb19 := NB125_119.out; have hnc19 := NB119_125.out; have hcz20_0 := cz0 BK125.out; have hcz20_1 := cz1 BK125.out; have hcz20_2 := cz2 BK125.out; have hfz20_0 := blk_frozen BK125.out 0; have hfz20_1 := blk_frozen BK125.out 1; have hfz20_2 := blk_frozen BK125.out 2))
     go_meet
     case rel => exact ⟨_, (t127), H', ⟨zs7⟩, ⟨by (with_reducible repeat (first | apply Kd.R_alloc | apply Kd.R_drewN | apply Kd.R_drew)); exact Kd.R_mono (Kd.R_far (p := ⟨gb125, 1, none⟩) (Kd.R_types HO122.out BK125.out (by decide)) (fun _ hk => hk.2) (.int .i64 t127)) (fun _ hk => trivial)⟩, ⟨by refine blk_far ?_ NB119_125.out _; exact BK119.out⟩, ⟨by refine blk_put (cs := #[.int .i64 t124, .int .i64 0, .int .i64 0]) ?_ 1 _ rfl; exact BK125.out⟩, ⟨(zs13 HB.out GE119.out GE125.out)⟩⟩
    ·rw [if_neg c16] at H
     exact absurd H (by simp)
   ·rw [if_neg c15] at H
    have c15b0 : decide (1 < (t120.length : Int)) = false := decide_eq_false c15
    have c15b1 : decide (1 < t120.length) = false := decide_eq_false (by omega)
    clear c15
    (first | rw [c15b0] | (simp only [i64_w, i32_w]; rw [c15b0]) | skip)
    have H':=zM H
    clear H
    go_wp2
    go_meet
    case rel => exact ⟨_, (0), H', ⟨zs7⟩, ⟨by (with_reducible repeat (first | apply Kd.R_alloc | apply Kd.R_drewN | apply Kd.R_drew)); exact Kd.R_mono (Kd.R_far (p := ⟨gb125, 2, none⟩) (Kd.R_far (p := ⟨gb125, 1, none⟩) (Kd.R_far (p := ⟨gb125, 0, none⟩) (Kd.R_types HO122.out BK125.out (by decide)) (fun _ hk => hk.2) (.int .i64 t124)) (fun _ hk => hk.2) (.int .i64 0)) (fun _ hk => hk.2) (.int .i64 0)) (fun _ hk => trivial)⟩, ⟨by refine blk_far ?_ NB119_125.out _; refine blk_far ?_ NB119_125.out _; refine blk_far ?_ NB119_125.out _; exact BK119.out⟩, ⟨by refine blk_put (cs := #[.int .i64 t124, .int .i64 0, .int .i64 0]) ?_ 2 _ rfl; refine blk_put (cs := #[.int .i64 t124, .int .i64 0, .int .i64 0]) ?_ 1 _ rfl; refine blk_put (cs := #[.int .i64 0, .int .i64 0, .int .i64 0]) ?_ 0 _ rfl; exact BK125.out⟩, ⟨(zs13 HB.out GE119.out GE125.out)⟩⟩
  case rest =>
   clear HC5
   try clear c1
   try clear p1
   try clear q1
   try clear hx1
   try clear qi1
   try clear p2
   try clear c3
   try clear c3b0
   try clear c3b1
   try clear c4
   try clear p12
   try clear q12
   try clear hx12
   try clear qi12
   try clear c15
   try clear c15b0
   try clear c15b1
   try clear c16
   try clear c16b0
   try clear c16b1
   try clear c19
   try clear hcz20_0
   try clear hcz20_1
   try clear hcz20_2
   try clear hfz20_0
   try clear hfz20_1
   try clear hfz20_2
   try clear hx123_0
   try clear hx126_0
   try clear p123
   try clear p126
   try clear q123
   try clear q126
   obtain ⟨kq, x126001_4, HA, HJ4, HO_4, BK119, BK125, HB⟩ := hcut
   cases kq with
   | zero => exact absurd HA.out (by simp [impl_ReadDeed.j0])
   | succ kj4 =>
    have H := HA.out
    clear HA
    simp only [impl_ReadDeed.j0] at H
    by_cases c21 : (t120.length : Int) > 2
    ·rw [if_pos c21] at H
     have c21b0 : decide (2 < (t120.length : Int)) = true := decide_eq_true c21
     have c21b1 : decide (2 < t120.length) = true := decide_eq_true (by omega)
     clear c21
     by_cases c22 : 2 < (t120.length : Int)
     ·rw [if_pos c22] at H
      have c22b0 := decide_eq_true c22
      have c22b1 : decide (2 < t120.length) = true := decide_eq_true (by omega)
      clear c22
      replace H := zb H; obtain ⟨⟨t130, t131⟩, A23, H⟩ := H; try dsimp only at H
      by_cases c24 : a0.toList = ([] : List UInt8)
      ·rw [if_pos c24] at H
       have c24b0 := beq_iff_eq.mpr c24
       have c24b1 := bne_eq_false_iff_eq.mpr c24
       clear c24
       simp only [Option.some.injEq, Prod.mk.injEq] at H
       obtain ⟨rfl, rfl, rfl, rfl⟩ := H
       have p129 : 0 ≤ (2 : Int) := (by omega)
       have q129 : 2 < (t120.length : Int) := of_decide_eq_true zs8
       obtain ⟨ad129, e129, hx129_0⟩ := Kd.at_string (Kd.R_reads' HO_4.out).2.2 2 p129 q129
       obtain rfl : ad123 = ad129 := (by injection e129)
       (try simp only [show (2 : Int).toNat = 2 from rfl, Nat.reduceMul, Nat.reduceEqDiff, Go.Addr.add, ↓reduceIte] at hx129_0)
       have qi129 : (2 < t120.length) = True := eq_true (by omega)
       (try rw [show ((2 : Int)).toNat = 2 from rfl] at hx129_0)
       replace p129 := eq_true p129
       replace q129 := eq_true q129
       go_wp2_with (first | (refine zg 40 (some 32) Tryd.func40 #[.string (rdOf ByteArray.empty t120 2)] ?_; (with_reducible refine (strconv_Atoi.calls (rdOf ByteArray.empty t120 2) t130 t131 _ (TabR.below HT.out (zs13 HB.out GE119.out GE125.out)) A23.out).mono ?_); rintro e w25 ⟨er_, rfl, hb⟩; refine ⟨_, rfl, ?_⟩; replace HO_4:=zM (Kd.R_below (zs11 HO_4.out) hb); replace BK119:=zM (blk_below (g := gb119) (o := .cells #[.int .i64 0, .int .i64 0, .int .i64 0] 25 (0, 0)) (zs12 BK119.out) hb); replace BK125:=zM (blk_below (g := gb125) (o := .cells #[.int .i64 t124, .int .i64 x126001_4, .int .i64 0] 25 (0, 0)) (zs12 BK125.out) hb); replace HB:=zM (below_step (zs13 HB.out GE119.out GE125.out) hb); clear hb; (try simp only [errW_none, errW_some]); have hnb26 := NB125_119.out; have hnc26 := NB119_125.out; have hcz27_0 := cz0 BK125.out; have hcz27_1 := cz1 BK125.out; have hcz27_2 := cz2 BK125.out; have hfz27_0 := blk_frozen BK125.out 0; have hfz27_1 := blk_frozen BK125.out 1; have hfz27_2 := blk_frozen BK125.out 2; have hcz28_0 := cz0 BK119.out; have hcz28_1 := cz1 BK119.out; have hcz28_2 := cz2 BK119.out; have hfz28_0 := blk_frozen BK119.out 0; have hfz28_1 := blk_frozen BK119.out 1; have hfz28_2 := blk_frozen BK119.out 2))
       refine bodyPost_ret (results_ct rfl _ _ gb119 25 #[.int .i64 0, .int .i64 0, .int .i64 0] (0, 0) _ rfl (by refine blk_put (cs := #[.int .i64 0, .int .i64 0, .int .i64 0]) ?_ 2 _ rfl; refine blk_put (cs := #[.int .i64 0, .int .i64 0, .int .i64 0]) ?_ 1 _ rfl; refine blk_put (cs := #[.int .i64 0, .int .i64 0, .int .i64 0]) ?_ 0 _ rfl; refine blk_far ?_ NB119_125.out _; exact BK119.out) Tryd.underlying25 rfl (by kernel_rfl)) rfl ?_
       exact ⟨zs3, (zs13 HB.out GE119.out GE125.out)⟩
      ·rw [if_neg c24] at H
       have c24b0 := beq_eq_false_iff_ne.mpr c24
       have c24b1 := bne_iff_ne.mpr c24
       replace H := zb H; obtain ⟨t132, A29, H⟩ := H; try dsimp only at H
       by_cases c30 : t132.toList = a0.toList
       ·rw [if_pos c30] at H
        have c30b0 := beq_iff_eq.mpr c30
        have c30b1 := bne_eq_false_iff_eq.mpr c30
        clear c30
        simp only [Option.some.injEq, Prod.mk.injEq] at H
        obtain ⟨rfl, rfl, rfl, rfl⟩ := H
        have p129 : 0 ≤ (2 : Int) := (by omega)
        have q129 : 2 < (t120.length : Int) := of_decide_eq_true zs8
        obtain ⟨ad129, e129, hx129_0⟩ := Kd.at_string (Kd.R_reads' HO_4.out).2.2 2 p129 q129
        obtain rfl : ad123 = ad129 := (by injection e129)
        (try simp only [show (2 : Int).toNat = 2 from rfl, Nat.reduceMul, Nat.reduceEqDiff, Go.Addr.add, ↓reduceIte] at hx129_0)
        have qi129 : (2 < t120.length) = True := eq_true (by omega)
        (try rw [show ((2 : Int)).toNat = 2 from rfl] at hx129_0)
        replace p129 := eq_true p129
        replace q129 := eq_true q129
        go_wp2_with (first | (refine zg 40 (some 32) Tryd.func40 #[.string (rdOf ByteArray.empty t120 2)] ?_; (with_reducible refine (strconv_Atoi.calls (rdOf ByteArray.empty t120 2) t130 t131 _ (TabR.below HT.out (zs13 HB.out GE119.out GE125.out)) A23.out).mono ?_); rintro e w31 ⟨er_, rfl, hb⟩; refine ⟨_, rfl, ?_⟩; replace HO_4:=zM (Kd.R_below (zs11 HO_4.out) hb); replace BK119:=zM (blk_below (g := gb119) (o := .cells #[.int .i64 0, .int .i64 0, .int .i64 0] 25 (0, 0)) (zs12 BK119.out) hb); replace BK125:=zM (blk_below (g := gb125) (o := .cells #[.int .i64 t124, .int .i64 x126001_4, .int .i64 0] 25 (0, 0)) (zs12 BK125.out) hb); replace HB:=zM (below_step (zs13 HB.out GE119.out GE125.out) hb); clear hb; (try simp only [errW_none, errW_some]); have hnb32 := NB125_119.out; have hnc32 := NB119_125.out; have hcz33_0 := cz0 BK125.out; have hcz33_1 := cz1 BK125.out; have hcz33_2 := cz2 BK125.out; have hfz33_0 := blk_frozen BK125.out 0; have hfz33_1 := blk_frozen BK125.out 1; have hfz33_2 := blk_frozen BK125.out 2) | (go_at_call 12; (with_reducible refine (impl_DeedText.calls kj4 t124 x126001_4 t130 t132 _ (TabR.below HT.out (zs13 HB.out GE119.out GE125.out)) A29.out).mono ?_); rintro e w34 ⟨rfl, hb⟩; replace HO_4:=zM (Kd.R_below (by (with_reducible repeat (first | apply Kd.R_alloc | apply Kd.R_drewN | apply Kd.R_drew)); exact (Kd.R_mono (Kd.R_far (p := ⟨gb125, 2, none⟩) (Kd.R_types HO_4.out BK125.out (by decide)) (fun _ hk => hk.2) (.int .i64 t130)) (fun _ h_ => h_.1))) hb); replace BK119:=zM (blk_below (g := gb119) (o := .cells #[.int .i64 0, .int .i64 0, .int .i64 0] 25 (0, 0)) (by refine blk_far ?_ NB119_125.out _; exact BK119.out) hb); replace BK125:=zM (blk_below (g := gb125) (o := .cells #[.int .i64 t124, .int .i64 x126001_4, .int .i64 t130] 25 (0, 0)) (by refine blk_put (cs := #[.int .i64 t124, .int .i64 x126001_4, .int .i64 0]) ?_ 2 _ rfl; exact BK125.out) hb); replace HB:=zM (below_step (zs13 HB.out GE119.out GE125.out) hb); clear hb; have hcz35_0 := cz0 BK125.out; have hcz35_1 := cz1 BK125.out; have hcz35_2 := cz2 BK125.out; have hfz35_0 := blk_frozen BK125.out 0; have hfz35_1 := blk_frozen BK125.out 1; have hfz35_2 := blk_frozen BK125.out 2; have hcz36_0 := cz0 BK119.out; have hcz36_1 := cz1 BK119.out; have hcz36_2 := cz2 BK119.out; have hfz36_0 := blk_frozen BK119.out 0; have hfz36_1 := blk_frozen BK119.out 1; have hfz36_2 := blk_frozen BK119.out 2))
        refine bodyPost_ret (results_ct rfl _ _ gb119 25 #[.int .i64 t124, .int .i64 x126001_4, .int .i64 t130] (0, 0) _ rfl (by refine blk_put (cs := #[.int .i64 t124, .int .i64 x126001_4, .int .i64 0]) ?_ 2 _ rfl; refine blk_put (cs := #[.int .i64 t124, .int .i64 0, .int .i64 0]) ?_ 1 _ rfl; refine blk_put (cs := #[.int .i64 0, .int .i64 0, .int .i64 0]) ?_ 0 _ rfl; exact BK119.out) Tryd.underlying25 rfl (by kernel_rfl)) rfl ?_
        exact ⟨zs3, (zs13 HB.out GE119.out GE125.out)⟩
       ·rw [if_neg c30] at H
        have c30b0 := beq_eq_false_iff_ne.mpr c30
        have c30b1 := bne_iff_ne.mpr c30
        simp only [Option.some.injEq, Prod.mk.injEq] at H
        obtain ⟨rfl, rfl, rfl, rfl⟩ := H
        have p129 : 0 ≤ (2 : Int) := (by omega)
        have q129 : 2 < (t120.length : Int) := of_decide_eq_true zs8
        obtain ⟨ad129, e129, hx129_0⟩ := Kd.at_string (Kd.R_reads' HO_4.out).2.2 2 p129 q129
        obtain rfl : ad123 = ad129 := (by injection e129)
        (try simp only [show (2 : Int).toNat = 2 from rfl, Nat.reduceMul, Nat.reduceEqDiff, Go.Addr.add, ↓reduceIte] at hx129_0)
        have qi129 : (2 < t120.length) = True := eq_true (by omega)
        (try rw [show ((2 : Int)).toNat = 2 from rfl] at hx129_0)
        replace p129 := eq_true p129
        replace q129 := eq_true q129
        go_wp2_with (first | (refine zg 40 (some 32) Tryd.func40 #[.string (rdOf ByteArray.empty t120 2)] ?_; (with_reducible refine (strconv_Atoi.calls (rdOf ByteArray.empty t120 2) t130 t131 _ (TabR.below HT.out (zs13 HB.out GE119.out GE125.out)) A23.out).mono ?_); rintro e w37 ⟨er_, rfl, hb⟩; refine ⟨_, rfl, ?_⟩; replace HO_4:=zM (Kd.R_below (zs11 HO_4.out) hb); replace BK119:=zM (blk_below (g := gb119) (o := .cells #[.int .i64 0, .int .i64 0, .int .i64 0] 25 (0, 0)) (zs12 BK119.out) hb); replace BK125:=zM (blk_below (g := gb125) (o := .cells #[.int .i64 t124, .int .i64 x126001_4, .int .i64 0] 25 (0, 0)) (zs12 BK125.out) hb); replace HB:=zM (below_step (zs13 HB.out GE119.out GE125.out) hb); clear hb; (try simp only [errW_none, errW_some]); have hnb38 := NB125_119.out; have hnc38 := NB119_125.out; have hcz39_0 := cz0 BK125.out; have hcz39_1 := cz1 BK125.out; have hcz39_2 := cz2 BK125.out; have hfz39_0 := blk_frozen BK125.out 0; have hfz39_1 := blk_frozen BK125.out 1; have hfz39_2 := blk_frozen BK125.out 2) | (go_at_call 12; (with_reducible refine (impl_DeedText.calls kj4 t124 x126001_4 t130 t132 _ (TabR.below HT.out (zs13 HB.out GE119.out GE125.out)) A29.out).mono ?_); rintro e w40 ⟨rfl, hb⟩; replace HO_4:=zM (Kd.R_below (by (with_reducible repeat (first | apply Kd.R_alloc | apply Kd.R_drewN | apply Kd.R_drew)); exact (Kd.R_mono (Kd.R_far (p := ⟨gb125, 2, none⟩) (Kd.R_types HO_4.out BK125.out (by decide)) (fun _ hk => hk.2) (.int .i64 t130)) (fun _ h_ => h_.1))) hb); replace BK119:=zM (blk_below (g := gb119) (o := .cells #[.int .i64 0, .int .i64 0, .int .i64 0] 25 (0, 0)) (by refine blk_far ?_ NB119_125.out _; exact BK119.out) hb); replace BK125:=zM (blk_below (g := gb125) (o := .cells #[.int .i64 t124, .int .i64 x126001_4, .int .i64 t130] 25 (0, 0)) (by refine blk_put (cs := #[.int .i64 t124, .int .i64 x126001_4, .int .i64 0]) ?_ 2 _ rfl; exact BK125.out) hb); replace HB:=zM (below_step (zs13 HB.out GE119.out GE125.out) hb); clear hb; have hcz41_0 := cz0 BK119.out; have hcz41_1 := cz1 BK119.out; have hcz41_2 := cz2 BK119.out; have hfz41_0 := blk_frozen BK119.out 0; have hfz41_1 := blk_frozen BK119.out 1; have hfz41_2 := blk_frozen BK119.out 2))
        refine bodyPost_ret (results_ct rfl _ _ gb119 25 #[.int .i64 0, .int .i64 0, .int .i64 0] (0, 0) _ rfl (by refine blk_put (cs := #[.int .i64 0, .int .i64 0, .int .i64 0]) ?_ 2 _ rfl; refine blk_put (cs := #[.int .i64 0, .int .i64 0, .int .i64 0]) ?_ 1 _ rfl; refine blk_put (cs := #[.int .i64 0, .int .i64 0, .int .i64 0]) ?_ 0 _ rfl; exact BK119.out) Tryd.underlying25 rfl (by kernel_rfl)) rfl ?_
        exact ⟨zs3, (zs13 HB.out GE119.out GE125.out)⟩
     ·rw [if_neg c22] at H
      exact absurd H (by simp)
    ·rw [if_neg c21] at H
     have c21b0 : decide (2 < (t120.length : Int)) = false := decide_eq_false c21
     have c21b1 : decide (2 < t120.length) = false := decide_eq_false (by omega)
     clear c21
     by_cases c42 : a0.toList = ([] : List UInt8)
     ·rw [if_pos c42] at H
      have c42b0 := beq_iff_eq.mpr c42
      have c42b1 := bne_eq_false_iff_eq.mpr c42
      clear c42
      simp only [Option.some.injEq, Prod.mk.injEq] at H
      obtain ⟨rfl, rfl, rfl, rfl⟩ := H
      have hnb43 := NB119_125.out
      have hnc43 := NB125_119.out
      have hcz44_0 := cz0 BK119.out
      have hcz44_1 := cz1 BK119.out
      have hcz44_2 := cz2 BK119.out
      have hfz44_0 := blk_frozen BK119.out 0
      have hfz44_1 := blk_frozen BK119.out 1
      have hfz44_2 := blk_frozen BK119.out 2
      go_wp2
      refine bodyPost_ret (results_ct rfl _ _ gb119 25 #[.int .i64 0, .int .i64 0, .int .i64 0] (0, 0) _ rfl (by refine blk_put (cs := #[.int .i64 0, .int .i64 0, .int .i64 0]) ?_ 2 _ rfl; refine blk_put (cs := #[.int .i64 0, .int .i64 0, .int .i64 0]) ?_ 1 _ rfl; refine blk_put (cs := #[.int .i64 0, .int .i64 0, .int .i64 0]) ?_ 0 _ rfl; exact BK119.out) Tryd.underlying25 rfl (by kernel_rfl)) rfl ?_
      exact ⟨zs3, (zs13 HB.out GE119.out GE125.out)⟩
     ·rw [if_neg c42] at H
      have c42b0 := beq_eq_false_iff_ne.mpr c42
      have c42b1 := bne_iff_ne.mpr c42
      replace H := zb H; obtain ⟨t133, A45, H⟩ := H; try dsimp only at H
      by_cases c46 : t133.toList = a0.toList
      ·rw [if_pos c46] at H
       have c46b0 := beq_iff_eq.mpr c46
       have c46b1 := bne_eq_false_iff_eq.mpr c46
       clear c46
       simp only [Option.some.injEq, Prod.mk.injEq] at H
       obtain ⟨rfl, rfl, rfl, rfl⟩ := H
       have hnb47 := NB125_119.out
       have hnc47 := NB119_125.out
       have hcz48_0 := cz0 BK125.out
       have hcz48_1 := cz1 BK125.out
       have hcz48_2 := cz2 BK125.out
       have hfz48_0 := blk_frozen BK125.out 0
       have hfz48_1 := blk_frozen BK125.out 1
       have hfz48_2 := blk_frozen BK125.out 2
       go_wp2_with (first | (go_at_call 12; (with_reducible refine (impl_DeedText.calls kj4 t124 x126001_4 0 t133 _ (TabR.below HT.out (zs13 HB.out GE119.out GE125.out)) A45.out).mono ?_); rintro e w49 ⟨rfl, hb⟩; replace HO_4:=zM (Kd.R_below (zs11 HO_4.out) hb); replace BK119:=zM (blk_below (g := gb119) (o := .cells #[.int .i64 0, .int .i64 0, .int .i64 0] 25 (0, 0)) (zs12 BK119.out) hb); replace BK125:=zM (blk_below (g := gb125) (o := .cells #[.int .i64 t124, .int .i64 x126001_4, .int .i64 0] 25 (0, 0)) (zs12 BK125.out) hb); replace HB:=zM (below_step (zs13 HB.out GE119.out GE125.out) hb); clear hb; have hcz50_0 := cz0 BK125.out; have hcz50_1 := cz1 BK125.out; have hcz50_2 := cz2 BK125.out; have hfz50_0 := blk_frozen BK125.out 0; have hfz50_1 := blk_frozen BK125.out 1; have hfz50_2 := blk_frozen BK125.out 2; have hcz51_0 := cz0 BK119.out; have hcz51_1 := cz1 BK119.out; have hcz51_2 := cz2 BK119.out; have hfz51_0 := blk_frozen BK119.out 0; have hfz51_1 := blk_frozen BK119.out 1; have hfz51_2 := blk_frozen BK119.out 2))
       refine bodyPost_ret (results_ct rfl _ _ gb119 25 #[.int .i64 t124, .int .i64 x126001_4, .int .i64 0] (0, 0) _ rfl (by refine blk_put (cs := #[.int .i64 t124, .int .i64 x126001_4, .int .i64 0]) ?_ 2 _ rfl; refine blk_put (cs := #[.int .i64 t124, .int .i64 0, .int .i64 0]) ?_ 1 _ rfl; refine blk_put (cs := #[.int .i64 0, .int .i64 0, .int .i64 0]) ?_ 0 _ rfl; exact BK119.out) Tryd.underlying25 rfl (by kernel_rfl)) rfl ?_
       exact ⟨zs3, (zs13 HB.out GE119.out GE125.out)⟩
      ·rw [if_neg c46] at H
       have c46b0 := beq_eq_false_iff_ne.mpr c46
       have c46b1 := bne_iff_ne.mpr c46
       simp only [Option.some.injEq, Prod.mk.injEq] at H
       obtain ⟨rfl, rfl, rfl, rfl⟩ := H
       have hnb52 := NB125_119.out
       have hnc52 := NB119_125.out
       have hcz53_0 := cz0 BK125.out
       have hcz53_1 := cz1 BK125.out
       have hcz53_2 := cz2 BK125.out
       have hfz53_0 := blk_frozen BK125.out 0
       have hfz53_1 := blk_frozen BK125.out 1
       have hfz53_2 := blk_frozen BK125.out 2
       go_wp2_with (first | (go_at_call 12; (with_reducible refine (impl_DeedText.calls kj4 t124 x126001_4 0 t133 _ (TabR.below HT.out (zs13 HB.out GE119.out GE125.out)) A45.out).mono ?_); rintro e w54 ⟨rfl, hb⟩; replace HO_4:=zM (Kd.R_below (zs11 HO_4.out) hb); replace BK119:=zM (blk_below (g := gb119) (o := .cells #[.int .i64 0, .int .i64 0, .int .i64 0] 25 (0, 0)) (zs12 BK119.out) hb); replace BK125:=zM (blk_below (g := gb125) (o := .cells #[.int .i64 t124, .int .i64 x126001_4, .int .i64 0] 25 (0, 0)) (zs12 BK125.out) hb); replace HB:=zM (below_step (zs13 HB.out GE119.out GE125.out) hb); clear hb; have hcz55_0 := cz0 BK119.out; have hcz55_1 := cz1 BK119.out; have hcz55_2 := cz2 BK119.out; have hfz55_0 := blk_frozen BK119.out 0; have hfz55_1 := blk_frozen BK119.out 1; have hfz55_2 := blk_frozen BK119.out 2))
       refine bodyPost_ret (results_ct rfl _ _ gb119 25 #[.int .i64 0, .int .i64 0, .int .i64 0] (0, 0) _ rfl (by refine blk_put (cs := #[.int .i64 0, .int .i64 0, .int .i64 0]) ?_ 2 _ rfl; refine blk_put (cs := #[.int .i64 0, .int .i64 0, .int .i64 0]) ?_ 1 _ rfl; refine blk_put (cs := #[.int .i64 0, .int .i64 0, .int .i64 0]) ?_ 0 _ rfl; exact BK119.out) Tryd.underlying25 rfl (by kernel_rfl)) rfl ?_
       exact ⟨zs3, (zs13 HB.out GE119.out GE125.out)⟩
 ·rw [if_neg c3] at H
  exact absurd H (by simp)

/-! ### spec_l1In: function 30 -/
def spec_l1In.f (a0 : Int) (a1 : Int) (a2 : Int) : Option (Bool) := if a0 ≥ a1 then (some (decide (a0 ≤ a2))) else (some false)
set_option maxHeartbeats 8000000 in
set_option maxRecDepth 100000 in
theorem spec_l1In.calls (a0 : Int) (a1 : Int) (a2 : Int) (r : Bool) (w : World) (h : spec_l1In.f a0 a1 a2 = some r) :
  Calls Tryd.prog 30 #[.int .i64 a0, .int .i64 a1, .int .i64 a2] w fun e w' => e = .returned (.bool r) ∧ Drawn0 w w' := by
 have H : (if a0 ≥ a1 then (some (decide (a0 ≤ a2))) else (some false)) = some r := h
 clear h
 by_cases c4 : a0 ≥ a1
 ·rw [if_pos c4] at H
  have c4b0 : decide (a1 ≤ a0) = true := decide_eq_true c4
  clear c4
  obtain rfl := Option.some.inj H
  go_enter Tryd.func30, Tryd.ntmps30
  go_wp2
  go_ret
  exact ⟨by first | rfl | (simp; done) | (simp [*]; done), by repeat (first | exact Drawn0.refl _ | apply Drawn0.step)⟩
 ·rw [if_neg c4] at H
  have c4b0 : decide (a1 ≤ a0) = false := decide_eq_false c4
  clear c4
  obtain rfl := Option.some.inj H
  go_enter Tryd.func30, Tryd.ntmps30
  go_wp2
  go_ret
  exact ⟨by first | rfl | (simp; done) | (simp [*]; done), by repeat (first | exact Drawn0.refl _ | apply Drawn0.step)⟩

end Go.Proofs.YtopfhdhdpnenpaaDoor.LG
