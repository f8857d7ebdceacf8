/- Printed by a program of this session (wip/lp/lp.py) out of the translation: functions with the same answers as the Go code, and their contracts; no conditions beyond those that each theorem names. -/
import Derived.Test.YtbbhdgpiocojaaaLFx0
import Derived.Test.YtbbhdgpiocojaaaLFx3
import Derived.Test.YtbbhdgpiocojaaaLFx6
namespace Go.Proofs.Ytbbhdgpiocojaaa.LF
open Go.RowKit Go.Proofs.YtbbhdgpiocojaaaV.PrintWords Go.Proofs.YtbbhdgpiocojaaaV.PrintLast Go.Proofs.YtbbhdgpiocojaaaV.PrintMore
attribute [local go_sem] max2_int min2_int max_two min_two max_three min_three max_four min_four   -- for this text's walks alone
set_option linter.unusedVariables false
set_option linter.unusedSimpArgs false

/-! ### spec_l20Eager: function 91, told by hand -/
section
set_option maxHeartbeats 8000000
set_option maxRecDepth 100000
def ss_lEnd.j0 : Nat → ByteArray → Bool → List Int → Int → Option (ByteArray × Int)
  | 0, _, _, _, _ => none
  | k + 1, x8, x79, x1000, x1001 => if x79 = true then ((spec_l20Rd_pick.f k x1000 x1001 (x8.size : Int)).bind fun bt353 => (if 0 ≤ bt353.1 then (if bt353.1 ≤ (x8.size : Int) then ((some (([(⟨#[]⟩ : ByteArray), (⟨#[83]⟩ : ByteArray), (⟨#[68]⟩ : ByteArray), (⟨#[120]⟩ : ByteArray)] : List ByteArray) : List ByteArray)).bind fun y355 => ((spec_l20Rd_pick.f k x1000 bt353.2 4).bind fun bt358 => (if 0 ≤ bt358.1 then (if bt358.1 < (y355.length : Int) then (if (x8.extract 0 (bt353.1 : Int).toNat).size + (rdOf ByteArray.empty y355 bt358.1).size ≤ 9223372036854775807 then (if 0 ≤ (wrap64 (bt353.1 + 1)) then (if (wrap64 (bt353.1 + 1)) ≤ (x8.size : Int) then (if ((x8.extract 0 (bt353.1 : Int).toNat) ++ (rdOf ByteArray.empty y355 bt358.1)).size + (x8.extract ((wrap64 (bt353.1 + 1)) : Int).toNat x8.size).size ≤ 9223372036854775807 then (some (((x8.extract 0 (bt353.1 : Int).toNat) ++ (rdOf ByteArray.empty y355 bt358.1)) ++ (x8.extract ((wrap64 (bt353.1 + 1)) : Int).toNat x8.size), bt358.2)) else (none)) else (none)) else (none)) else (none)) else (none)) else (none)))) else (none)) else (none))) else (some (x8, x1001))
def ss_lEnd.f (k : Nat) (s0_0 : List Int) (s0_1 : Int) (a1 : ByteArray) : Option (ByteArray × Int) := (spec_l20Rd_odd.f k s0_0 s0_1 8).bind fun bt351 => (if bt351.1 = true then (ss_lEnd.j0 k a1 (decide ((a1.size : Int) > 0)) s0_0 bt351.2) else (ss_lEnd.j0 k a1 false s0_0 bt351.2))
theorem ss_lEnd.mono_l : ∀ k, (∀ y0 y1 y2 y3, LeO (ss_lEnd.j0 k y0 y1 y2 y3) (ss_lEnd.j0 (k + 1) y0 y1 y2 y3))
  | 0 => fun _ _ _ _ r h => by simp [ss_lEnd.j0] at h
  | k + 1 => by
    have ih0 := ss_lEnd.mono_l k
    · intro y0 y1 y2 y3
      unfold ss_lEnd.j0
      repeat' first
      | (with_reducible exact ih0 _ _ _ _)
      | (with_reducible exact spec_l20Rd_odd.mono _ _ _ _)
      | (with_reducible exact spec_l20Rd_pick.mono _ _ _ _)
      | (with_reducible exact LeO.refl _)
      | (with_reducible exact LeO.none _)
      | (with_reducible refine LeO.ite ?_ ?_)
      | (with_reducible refine LeO.bind ?_ (fun _ => ?_))
      | exact ih0 _ _ _ _
      | exact spec_l20Rd_odd.mono _ _ _ _
      | exact spec_l20Rd_pick.mono _ _ _ _
      | exact LeO.none _
      | refine LeO.ite ?_ ?_
      | refine LeO.bind ?_ (fun _ => ?_)
theorem ss_lEnd.mono : ∀ a0 a1 a2 k, LeO (ss_lEnd.f k a0 a1 a2) (ss_lEnd.f (k + 1) a0 a1 a2) := by
  intro a0 a1 a2 k
  have ih0 := ss_lEnd.mono_l k
  unfold ss_lEnd.f
  repeat' first
      | (with_reducible exact ih0 _ _ _ _)
      | (with_reducible exact spec_l20Rd_odd.mono _ _ _ _)
      | (with_reducible exact spec_l20Rd_pick.mono _ _ _ _)
      | (with_reducible exact LeO.refl _)
      | (with_reducible exact LeO.none _)
      | (with_reducible refine LeO.ite ?_ ?_)
      | (with_reducible refine LeO.bind ?_ (fun _ => ?_))
      | exact ih0 _ _ _ _
      | exact spec_l20Rd_odd.mono _ _ _ _
      | exact spec_l20Rd_pick.mono _ _ _ _
      | exact LeO.none _
      | refine LeO.ite ?_ ?_
      | refine LeO.bind ?_ (fun _ => ?_)
def ss_lEnd.T26 : Bool × List (List Nat × List Nat) := (true, [([], []), ([], []), ([0, 1], [0, 1]), ([], []), ([], []), ([4], [4]), ([3, 5], [3, 5]), ([6], [6]), ([2, 7], [2, 7]), ([], []), ([], []), ([10], [10]), ([9, 11], [9, 11]), ([8, 12], [8, 12]), ([13, 5, 0, 1, 2, 3, 4, 5, 6, 7, 8, 9, 10, 11, 12, 13], [13])])
def ss_lEnd.B26 : List Nat := [0, 0, 3, 0, 0, 16, 56, 120, 255, 0, 0, 1024, 3584, 8191, 16383]
theorem ss_lEnd.tab26 : rtab .any (opsOf Try.f91 26) = ss_lEnd.T26 := by kernel_rfl
theorem ss_lEnd.bits26 : waitsOk ss_lEnd.T26.2 ss_lEnd.B26 = true := by kernel_rfl
theorem ss_Rw.keepB {w W : World} {B g c r : Nat} {xs : List Int} (h : ss_Rw w B g c xs) (hk : KeepBut w W r none) (hne : g ≠ r) : ss_Rw W B g c xs := by
  obtain ⟨h0, ⟨h1, _⟩ | ⟨g', cap, cur, h1, h2, h3, h4⟩⟩ := h
  · cases h1
  · cases h1
    exact ⟨h0, .inr ⟨g, c, cur, rfl, h2, hk.blk h3 hne (by simp), h4⟩⟩
def ss_emv (a : Int) : Int := if a = 0 then 83 else if a = 1 then 76 else if a = 2 then 82 else if a = 3 then 68 else if a = 4 then 82 else 76
def ss_lit6 : Array Value := #[.string ⟨#[83]⟩, .string ⟨#[76]⟩, .string ⟨#[82]⟩, .string ⟨#[68]⟩, .string ⟨#[82]⟩, .string ⟨#[76]⟩]
theorem ss_lit6_at (a : Int) (h0 : 0 ≤ a) (h1 : a < 6) : ss_lit6[a.toNat]? = some (.string (ss_byteS (ss_emv a))) := by
  obtain ⟨n, rfl⟩ : ∃ n : Nat, a = n := ⟨a.toNat, by omega⟩
  match n, h1 with
  | 0, _ => rfl
  | 1, _ => rfl
  | 2, _ => rfl
  | 3, _ => rfl
  | 4, _ => rfl
  | 5, _ => rfl
  | n + 6, h => omega
abbrev ss_Pk := Int → Int → Option (Int × Int)
/-- the move that is tried, and where the reader stands then -/
def ss_etry (F : ss_Pk) (k : Int) (ws : List Int) (p : Int) : Option (Int × Int) :=
  (F p 6).bind fun a => if 0 ≤ a.1 ∧ a.1 < 6 then (if ws = [] then some (83, a.2) else if 20 < k then some (82, a.2) else if ss_emv a.1 = 83 then (F a.2 2).bind fun b => some (if b.1 = 0 then 82 else 83, b.2) else some (ss_emv a.1, a.2)) else none
def ss_edraw (F : ss_Pk) (n : Int) : Nat → List Int → Int → List Int → ByteArray → Int → Option (ByteArray × Int)
  | 0, _, _, _, out, p => some (out, p)
  | q + 1, ws, nt, hs, out, p => if nt ≤ n then (ss_etry F (30 - ((q : Int) + 1)) ws p).bind fun m =>
      if (ss_sp m.1 ws nt hs).1 = true then ss_edraw F n q (ss_sp m.1 ws nt hs).2.1 (ss_sp m.1 ws nt hs).2.2.1 (ss_sp m.1 ws nt hs).2.2.2 (out ++ ss_byteS m.1) m.2 else ss_edraw F n q ws nt hs out m.2 else some (out, p)
theorem ss_emv_in (a : Int) : ss_emv a = 83 ∨ ss_emv a = 76 ∨ ss_emv a = 82 ∨ ss_emv a = 68 := by
  unfold ss_emv
  repeat' split
  all_goals simp
theorem ss_eg_room {out S : ByteArray} {k : Nat} (h : out.size + (k + 1) ≤ 30) (hs : S.size = 1) : (out ++ S).size + k ≤ 30 := by
  rw [ByteArray.size_append, hs]
  omega
/-- what holds while the reference draws moves -/
structure ss_EI (w0 w : World) (g : Nat) (b : List Int) (gh c m : Nat) (W : World) (p : Int) (gs cs : Nat) (ws : List Int) (nt : Int) (hs : List Int) : Prop where
  hh : ss_Rw W w.heap.size gh c hs
  ss : ss_Rw W w.heap.size gs cs ws
  ne : gs ≠ gh
  ok : ss_Oks ws nt hs
  len : hs.length = m
  st : IsS102 w0 W g b p
  kb : KeepBut w W g none
  bl : Below w0.heap.size w0 W
  lt : g < w.heap.size
theorem ss_EI.alloc {w0 w : World} {g : Nat} {b : List Int} {gh c m : Nat} {W : World} {p : Int} {gs cs : Nat} {ws : List Int} {nt : Int} {hs : List Int} (h : ss_EI w0 w g b gh c m W p gs cs ws nt hs) (o : Obj) : ss_EI w0 w g b gh c m (W.alloc o) p gs cs ws nt hs :=
  ⟨h.hh.keep (World.grownBy_alloc W o none) (by simp), h.ss.keep (World.grownBy_alloc W o none) (by simp), h.ne, h.ok, h.len, h.st.alloc _, keep_alloc h.kb _, h.bl.alloc h.bl.size _, h.lt⟩
theorem ss_EI.pick {w0 w : World} {g : Nat} {b : List Int} {gh c m : Nat} {W W' : World} {p p' : Int} {gs cs : Nat} {ws : List Int} {nt : Int} {hs : List Int} (h : ss_EI w0 w g b gh c m W p gs cs ws nt hs) (hi : IsS102 w0 W' g b p') (hb : Below w0.heap.size w0 W') (hk : KeepBut W W' g none) : ss_EI w0 w g b gh c m W' p' gs cs ws nt hs :=
  ⟨h.hh.keepB hk (by have := h.hh.lt; have := h.lt; omega), h.ss.keepB hk (by have := h.ss.lt; have := h.lt; omega), h.ne, h.ok, h.len, hi, h.kb.trans hk (.inl rfl), hb, h.lt⟩
def ss_EgS (w0 w : World) (g : Nat) (b : List Int) (gh c m : Nat) (p : Int) (r : Bool × List Int × Int × List Int) (e : Ending) (w' : World) : Prop :=
  ∃ g2 c2, e = .returned (.tuple #[.slice (some ⟨g2, 0, none⟩) r.2.1.length c2, .int .i64 r.2.2.1, .bool r.1]) ∧ ss_EI w0 w g b gh c m w' p g2 c2 r.2.1 r.2.2.1 r.2.2.2
theorem ss_EI.step {w0 w : World} {g : Nat} {b : List Int} {gh c m : Nat} {W : World} {p : Int} {gs cs : Nat} {ws : List Int} {nt : Int} {hs : List Int} (h : ss_EI w0 w g b gh c m W p gs cs ws nt hs) (hm : m ≤ 8) (mv : Int) :
    Calls Try.prog 94 #[.slice (some ⟨gh, 0, none⟩) m c, .slice (some ⟨gs, 0, none⟩) ws.length cs, .int .i64 nt, .int .u8 mv] W (ss_EgS w0 w g b gh c m p (ss_sp mv ws nt hs)) := by
  have hc := ss_step_any W w.heap.size gh c gs cs hs ws nt mv h.hh h.ss h.ne h.ok.n0 h.ok.mem (by rw [h.len]; omega) (by have := h.ok.len; have := h.ok.n1; have := h.len; omega)
  rw [h.len] at hc
  refine hc.mono ?_
  rintro e w2 ⟨g2, c2, rfl, s1, s2, s3, s4⟩
  obtain ⟨o1, o2⟩ := ss_oks_sp mv h.ok
  have hw : w0.heap.size ≤ w.heap.size := Nat.le_of_lt (Nat.lt_of_le_of_lt h.st.ge h.lt)
  refine ⟨g2, c2, rfl, s2, s1, s3, o1, o2.trans h.len, ?_, ⟨Nat.le_trans h.kb.1 s4.size, fun i hi hn hr => (s4.block i hi).trans (h.kb.2 i hi hn hr)⟩, h.bl.trans (s4.mono hw), h.lt⟩
  obtain ⟨A0, c0, hb, hq⟩ := h.st
  exact ⟨A0, c0, (s4.block g h.lt).trans hb, hq⟩
theorem ss_EI.no {w0 w : World} {g : Nat} {b : List Int} {gh c m : Nat} {W : World} {p : Int} {gs cs : Nat} {ws : List Int} {nt : Int} {hs : List Int} (h : ss_EI w0 w g b gh c m W p gs cs ws nt hs) (hm : m ≤ 8) (mv : Int) (hf : ¬ (ss_sp mv ws nt hs).1 = true) :
    Calls Try.prog 94 #[.slice (some ⟨gh, 0, none⟩) m c, .slice (some ⟨gs, 0, none⟩) ws.length cs, .int .i64 nt, .int .u8 mv] W (ss_SpN W gs cs ws.length nt) := by
  have hc := ss_step_no W w.heap.size gh c gs cs hs ws nt mv h.hh h.ss h.ne h.ok.n0 h.ok.mem (by rw [h.len]; omega) (by have := h.ok.len; have := h.ok.n1; have := h.len; omega) hf
  rw [h.len] at hc
  exact hc
def ss_EagP (w0 w : World) (g : Nat) (b : List Int) (r1 : ByteArray) (r2 : Int) (e : Ending) (w' : World) : Prop := e = .returned (.string r1) ∧ IsS102 w0 w' g b r2 ∧ Below w0.heap.size w0 w' ∧ KeepBut w w' g none
theorem ss_l20Eager_any (k : Nat) (g : Nat) (bs0 : List Int) (p : Int) (n : Nat) (r1 : ByteArray) (r2 : Int) (w0 w : World) (hI : IsS102 w0 w g bs0 p) (hB : Below w0.heap.size w0 w) (n1 : 1 ≤ n) (n8 : n ≤ 8) (R : ByteArray) (P : Int)
    (h1 : ss_edraw (spec_l20Rd_pick.f k bs0) n 30 [] 1 (List.replicate n (-1)) ⟨#[]⟩ p = some (R, P)) (h2 : ss_lEnd.f k bs0 P R = some (r1, r2)) :
    Calls Try.prog 91 #[.pointer (some ⟨g, 0, none⟩), .int .i64 n] w (ss_EagP w0 w g bs0 r1 r2) := by
  have HI0 := Aside0.mk hI
  have HB0 := Aside0.mk hB
  have H1 := Aside0.mk h1
  have H2 := Aside0.mk h2
  have HG := Aside0.mk hI.lt
  clear hI hB h1 h2
  obtain ⟨i0, hi0, hz0, hz1, hz2⟩ := info_parts info3
  have HI := Aside0.mk hi0
  have HZ0 := Aside0.mk hz0
  have HZ1 := Aside0.mk hz1
  have HZ2 := Aside0.mk hz2
  clear hi0 hz0 hz1 hz2
  go_enter Try.func91, Try.ntmps91
  go_wp2
  have hw0 := ss_lit_row w (B := w.heap.size) (Nat.le_refl _)
  have hb0 : Below w.heap.size w (w.alloc (.cells #[] 3)) := (Below.refl _ _).alloc (Nat.le_refl _) _
  generalize w.alloc (.cells #[] 3) = W0 at *
  have HR0 := Aside0.mk hw0
  have HB1 := Aside0.mk hb0
  clear hw0 hb0
  go_loopg [5, 6] n (fun kq v5 v6 w' => ∃ (k g c : Nat), v5 = .slice (some ⟨g, 0, none⟩) k c ∧ v6 = .int .i64 (k : Int) ∧ Aside0 (k + kq = n) ∧ Aside0 (ss_Rw w' w.heap.size g c (List.replicate k (-1))) ∧ Aside0 (Below w.heap.size w w'))
  case atStart => exact ⟨0, _, _, rfl, rfl, ⟨by omega⟩, HR0, HB1⟩
  case round =>
    obtain ⟨m, gh, c, rfl, rfl, HK, HR, HB⟩ := hrel
    have hk := HK.out
    cases gk with
    | succ k1 =>
      have q1 : (m : Int) < (n : Int) := by omega
      have q2 : (0 : Int) ≤ (m : Int) := Int.natCast_nonneg _
      go_wp2_with (at_builtin; refine wpList_append_lies _ (by rfl) _ _ _ (by rfl) w.heap.size 3 i0 _ 1 8 Try.underlying22 HI.out HZ0.out HZ1.out HZ2.out rfl (by omega) (.slice (some ⟨gh, 0, none⟩) m c) m (nums .i64 (List.replicate m (-1))) (by rfl) (World.ownsRow.alloc (by simpa [ss_Rw] using HR.out) _) ⟨wr.heap.size, 0, none⟩ 1 1 [.int .i64 (-1)] (by rfl) (by rfl) (World.news_of_block (cs := #[.int .i64 (-1)]) (t := 3) (fr := (0, 0)) (heap_alloc_new wr _)) (by simp [Value.oneCell']) (by omega) (by unfold maxLen; omega) (by omega) (by have := HB.out.size; simp; omega) (wr.heap.size + 1) (by simp) ?_; intro g2 c2 w2 hown hgrow hat hlt; obtain ⟨s1, s2, s3⟩ := ss_grown_one HR.out (by simpa using hown) hgrow hat; clear hown hgrow hat)
      go_roundg k1
      case measure => omega
      case rel =>
        refine ⟨m + 1, g2, c2, rfl, by go_num, ⟨by omega⟩, ⟨?_⟩, ⟨HB.out.trans (ss_below_of_grown s2 (by intro j hj; injection hj with hj; have := HR.out.lt; omega) HB.out.size)⟩⟩
        rw [List.replicate_succ']
        exact s1
    | zero =>
      have q1 : ¬ (m : Int) < (n : Int) := by omega
      obtain rfl : m = n := by omega
      clear hk
      have HRL := Aside0.mk (List.length_replicate (n := m) (a := (-1 : Int)))
      have HX : Aside0 (IsS102 w0 wr g bs0 p ∧ KeepBut w wr g none ∧ Below w0.heap.size w0 wr) := ⟨HI0.out.below HB.out, KeepBut.of_below HB.out _ _, HB0.out.trans (HB.out.mono HB0.out.size)⟩
      go_upto_block 2 with (fail)
      have hh1 := HR.out.keep (World.grownBy_alloc wr (.cells #[] 3) none) (by simp)
      have hs1 := ss_lit_row wr HB.out.size
      have hx1 : IsS102 w0 (wr.alloc (.cells #[] 3)) g bs0 p ∧ KeepBut w (wr.alloc (.cells #[] 3)) g none ∧ Below w0.heap.size w0 (wr.alloc (.cells #[] 3)) := ⟨HX.out.1.alloc _, keep_alloc HX.out.2.1 _, HX.out.2.2.alloc HX.out.2.2.size _⟩
      have hne : wr.heap.size ≠ gh := by have := HR.out.lt; omega
      generalize wr.alloc (.cells #[] 3) = W1 at *
      generalize wr.heap.size = gs at *
      have HE1 : Aside0 (ss_EI w0 w g bs0 gh c m W1 p gs 0 [] 1 (List.replicate m (-1))) := ⟨hh1, hs1, hne, ⟨by omega, by omega, by simp, by simp⟩, HRL.out, hx1.1, hx1.2.1, hx1.2.2, HG.out⟩
      clear hh1 hs1 hx1 hne HR HB HR0 HB1 HX HI0 HB0 HRL
      generalize List.replicate m (-1 : Int) = hs0 at *
      go_cut [8] (fun v8 wc => v8 = .string R ∧ Aside0 (R.size ≤ 30) ∧ Aside0 (IsS102 w0 wc g bs0 P ∧ KeepBut w wc g none ∧ Below w0.heap.size w0 wc))
      case first =>
        go_wp2
        go_loopg [7, 8, 9, 10] 30 (fun kq v7 v8 v9 v10 w' => ∃ (gs cs : Nat) (ws : List Int) (out : ByteArray) (nt : Int) (hs : List Int) (p : Int), v7 = .slice (some ⟨gs, 0, none⟩) ws.length cs ∧ v8 = .string out ∧ v9 = .int .i64 nt ∧ v10 = .int .i64 (30 - (kq : Int)) ∧ Aside0 (out.size + kq ≤ 30) ∧ Aside0 (ss_edraw (spec_l20Rd_pick.f k bs0) m kq ws nt hs out p = some (R, P)) ∧ Aside0 (ss_EI w0 w g bs0 gh c m w' p gs cs ws nt hs))
        case atStart => exact ⟨_, _, [], _, 1, hs0, p, rfl, rfl, rfl, rfl, ⟨Nat.le_refl 30⟩, H1, HE1⟩
        case round =>
          clear HE1 H1
          obtain ⟨gs, cs_, ws, out, nt, hs, p, rfl, rfl, rfl, rfl, HO, HA, HE⟩ := hrel
          cases gk with
          | zero =>
            have HF : Aside0 (out = R ∧ p = P) := ⟨by simpa [ss_edraw] using HA.out⟩
            go_wp2
            all_goals
              go_meet
              exact ⟨by rw [HF.out.1], ⟨by rw [← HF.out.1]; have := HO.out; omega⟩, ⟨by rw [← HF.out.2]; exact HE.out.st, HE.out.kb, HE.out.bl⟩⟩
          | succ k1 =>
            have hO := HO.out
            have q1 : (30 : Int) - ((k1 + 1 : Nat) : Int) < 30 := by omega
            by_cases cn : nt ≤ (m : Int)
            · have cnb : decide (nt ≤ (m : Int)) = true := decide_eq_true cn
              have hA := HA.out
              unfold ss_edraw at hA
              rw [if_pos cn] at hA
              obtain ⟨⟨mv, pm⟩, hm, hA⟩ := Option.bind_eq_some_iff.1 hA
              unfold ss_etry at hm
              obtain ⟨⟨v, p1⟩, ha, hm⟩ := Option.bind_eq_some_iff.1 hm
              by_cases hv : 0 ≤ v ∧ v < 6
              · rw [if_pos hv] at hm
                obtain ⟨v0, v6⟩ := hv
                have HL := Aside0.mk (ss_lit6_at v v0 v6)
                unfold ss_lit6 at HL
                have HV := Aside0.mk ha
                clear ha
                by_cases c1 : ws = []
                · subst c1
                  simp only [if_true, Option.some.injEq, Prod.mk.injEq] at hm
                  obtain ⟨rfl, rfl⟩ := hm
                  have HA2 := Aside0.mk hA
                  clear hA
                  by_cases cs : (ss_sp 83 [] nt hs).1 = true
                  · have HN := Aside0.mk ((if_pos cs).symm.trans HA2.out)
                    go_wp2_with (first | (go_at_call 88; (with_reducible refine (spec_l20Rd_pick.calls k g bs0 p 6 v p1 w0 _ (HE.out.alloc _).st (HE.out.alloc _).bl HV.out).mono ?_); rintro e w1 ⟨rfl, hi, hb, hk⟩; have hcell := (blk_cell (hk.blk (heap_alloc_new wr _) (by have := HE.out.st.lt; omega) (by simp)) v.toNat).trans HL.out; have HE1 := Aside0.mk ((HE.out.alloc _).pick hi hb hk); clear hi hb hk) | (go_at_call 94; (refine (HE1.out.step n8 83).mono ?_); rintro e w3 ⟨g2, c2, rfl, s1⟩))
                    all_goals
                      go_roundg k1
                      case measure => omega
                      case rel => exact ⟨g2, c2, _, _, _, _, _, rfl, rfl, rfl, by go_num, ⟨ss_eg_room hO rfl⟩, HN, ⟨s1⟩⟩
                  · have HN := Aside0.mk ((if_neg cs).symm.trans HA2.out)
                    have HCS := Aside0.mk cs
                    clear cs
                    go_wp2_with (first | (go_at_call 88; (with_reducible refine (spec_l20Rd_pick.calls k g bs0 p 6 v p1 w0 _ (HE.out.alloc _).st (HE.out.alloc _).bl HV.out).mono ?_); rintro e w1 ⟨rfl, hi, hb, hk⟩; have hcell := (blk_cell (hk.blk (heap_alloc_new wr _) (by have := HE.out.st.lt; omega) (by simp)) v.toNat).trans HL.out; have HE1 := Aside0.mk ((HE.out.alloc _).pick hi hb hk); clear hi hb hk) | (go_at_call 94; (refine (HE1.out.no n8 83 HCS.out).mono ?_); rintro e w3 ⟨rfl, rfl⟩))
                    all_goals
                      go_roundg k1
                      case measure => omega
                      case rel => exact ⟨gs, cs_, _, _, _, _, _, rfl, rfl, rfl, by go_num, ⟨by omega⟩, HN, HE1⟩
                · have p0 : (0 : Int) < (ws.length : Int) := by have := List.length_pos_iff.2 c1; omega
                  have p0b : ((ws.length : Int) == 0) = false := beq_eq_false_iff_ne.mpr (by omega)
                  rw [if_neg c1] at hm
                  clear c1
                  by_cases c20 : 20 < (30 : Int) - ((k1 : Int) + 1)
                  · have c20b : decide (20 < (30 : Int) - ((k1 : Int) + 1)) = true := decide_eq_true c20
                    rw [if_pos c20] at hm
                    simp only [Option.some.injEq, Prod.mk.injEq] at hm
                    obtain ⟨rfl, rfl⟩ := hm
                    have HA2 := Aside0.mk hA
                    clear hA
                    by_cases cs : (ss_sp 82 ws nt hs).1 = true
                    · have HN := Aside0.mk ((if_pos cs).symm.trans HA2.out)
                      go_wp2_with (first | (go_at_call 88; (with_reducible refine (spec_l20Rd_pick.calls k g bs0 p 6 v p1 w0 _ (HE.out.alloc _).st (HE.out.alloc _).bl HV.out).mono ?_); rintro e w1 ⟨rfl, hi, hb, hk⟩; have hcell := (blk_cell (hk.blk (heap_alloc_new wr _) (by have := HE.out.st.lt; omega) (by simp)) v.toNat).trans HL.out; have HE1 := Aside0.mk ((HE.out.alloc _).pick hi hb hk); clear hi hb hk) | (go_at_call 94; (refine (HE1.out.step n8 82).mono ?_); rintro e w3 ⟨g2, c2, rfl, s1⟩))
                      all_goals
                        go_roundg k1
                        case measure => omega
                        case rel => exact ⟨g2, c2, _, _, _, _, _, rfl, rfl, rfl, by go_num, ⟨ss_eg_room hO rfl⟩, HN, ⟨s1⟩⟩
                    · have HN := Aside0.mk ((if_neg cs).symm.trans HA2.out)
                      have HCS := Aside0.mk cs
                      clear cs
                      go_wp2_with (first | (go_at_call 88; (with_reducible refine (spec_l20Rd_pick.calls k g bs0 p 6 v p1 w0 _ (HE.out.alloc _).st (HE.out.alloc _).bl HV.out).mono ?_); rintro e w1 ⟨rfl, hi, hb, hk⟩; have hcell := (blk_cell (hk.blk (heap_alloc_new wr _) (by have := HE.out.st.lt; omega) (by simp)) v.toNat).trans HL.out; have HE1 := Aside0.mk ((HE.out.alloc _).pick hi hb hk); clear hi hb hk) | (go_at_call 94; (refine (HE1.out.no n8 82 HCS.out).mono ?_); rintro e w3 ⟨rfl, rfl⟩))
                      all_goals
                        go_roundg k1
                        case measure => omega
                        case rel => exact ⟨gs, cs_, _, _, _, _, _, rfl, rfl, rfl, by go_num, ⟨by omega⟩, HN, HE1⟩
                  · have c20b : decide (20 < (30 : Int) - ((k1 : Int) + 1)) = false := decide_eq_false c20
                    rw [if_neg c20] at hm
                    obtain ⟨S, hS⟩ : ∃ S, S = ss_byteS (ss_emv v) := ⟨_, rfl⟩
                    rw [← hS] at HL
                    by_cases ce : ss_emv v = 83
                    · rw [if_pos ce] at hm
                      rw [ce] at hS
                      obtain rfl : S = ⟨#[83]⟩ := hS
                      clear ce
                      obtain ⟨⟨v2, p2⟩, ha2, hm⟩ := Option.bind_eq_some_iff.1 hm
                      have HV2 := Aside0.mk ha2
                      clear ha2
                      by_cases cz : v2 = 0
                      · have czb : (v2 == 0) = true := beq_iff_eq.mpr cz
                        simp only [if_pos cz, Option.some.injEq, Prod.mk.injEq] at hm
                        obtain ⟨rfl, rfl⟩ := hm
                        have HA2 := Aside0.mk hA
                        clear hA cz
                        by_cases cs : (ss_sp 82 ws nt hs).1 = true
                        · have HN := Aside0.mk ((if_pos cs).symm.trans HA2.out)
                          go_wp2_with (first | (go_at_call 88; (with_reducible refine (spec_l20Rd_pick.calls k g bs0 p 6 v p1 w0 _ (HE.out.alloc _).st (HE.out.alloc _).bl HV.out).mono ?_); rintro e w1 ⟨rfl, hi, hb, hk⟩; have hcell := (blk_cell (hk.blk (heap_alloc_new wr _) (by have := HE.out.st.lt; omega) (by simp)) v.toNat).trans HL.out; have HE1 := Aside0.mk ((HE.out.alloc _).pick hi hb hk); clear hi hb hk) | (go_at_call 88; (with_reducible refine (spec_l20Rd_pick.calls k g bs0 p1 2 v2 p2 w0 _ HE1.out.st HE1.out.bl HV2.out).mono ?_); rintro e w2 ⟨rfl, hi, hb, hk⟩; have HE2 := Aside0.mk (HE1.out.pick hi hb hk); clear hi hb hk) | (go_at_call 94; (refine (HE2.out.step n8 82).mono ?_); rintro e w3 ⟨g2, c2, rfl, s1⟩))
                          all_goals
                            go_roundg k1
                            case measure => omega
                            case rel => exact ⟨g2, c2, _, _, _, _, _, rfl, rfl, rfl, by go_num, ⟨ss_eg_room hO rfl⟩, HN, ⟨s1⟩⟩
                        · have HN := Aside0.mk ((if_neg cs).symm.trans HA2.out)
                          have HCS := Aside0.mk cs
                          clear cs
                          go_wp2_with (first | (go_at_call 88; (with_reducible refine (spec_l20Rd_pick.calls k g bs0 p 6 v p1 w0 _ (HE.out.alloc _).st (HE.out.alloc _).bl HV.out).mono ?_); rintro e w1 ⟨rfl, hi, hb, hk⟩; have hcell := (blk_cell (hk.blk (heap_alloc_new wr _) (by have := HE.out.st.lt; omega) (by simp)) v.toNat).trans HL.out; have HE1 := Aside0.mk ((HE.out.alloc _).pick hi hb hk); clear hi hb hk) | (go_at_call 88; (with_reducible refine (spec_l20Rd_pick.calls k g bs0 p1 2 v2 p2 w0 _ HE1.out.st HE1.out.bl HV2.out).mono ?_); rintro e w2 ⟨rfl, hi, hb, hk⟩; have HE2 := Aside0.mk (HE1.out.pick hi hb hk); clear hi hb hk) | (go_at_call 94; (refine (HE2.out.no n8 82 HCS.out).mono ?_); rintro e w3 ⟨rfl, rfl⟩))
                          all_goals
                            go_roundg k1
                            case measure => omega
                            case rel => exact ⟨gs, cs_, _, _, _, _, _, rfl, rfl, rfl, by go_num, ⟨by omega⟩, HN, HE2⟩
                      · have czb : (v2 == 0) = false := beq_eq_false_iff_ne.mpr cz
                        simp only [if_neg cz, Option.some.injEq, Prod.mk.injEq] at hm
                        obtain ⟨rfl, rfl⟩ := hm
                        have HA2 := Aside0.mk hA
                        clear hA cz
                        by_cases cs : (ss_sp 83 ws nt hs).1 = true
                        · have HN := Aside0.mk ((if_pos cs).symm.trans HA2.out)
                          go_wp2_with (first | (go_at_call 88; (with_reducible refine (spec_l20Rd_pick.calls k g bs0 p 6 v p1 w0 _ (HE.out.alloc _).st (HE.out.alloc _).bl HV.out).mono ?_); rintro e w1 ⟨rfl, hi, hb, hk⟩; have hcell := (blk_cell (hk.blk (heap_alloc_new wr _) (by have := HE.out.st.lt; omega) (by simp)) v.toNat).trans HL.out; have HE1 := Aside0.mk ((HE.out.alloc _).pick hi hb hk); clear hi hb hk) | (go_at_call 88; (with_reducible refine (spec_l20Rd_pick.calls k g bs0 p1 2 v2 p2 w0 _ HE1.out.st HE1.out.bl HV2.out).mono ?_); rintro e w2 ⟨rfl, hi, hb, hk⟩; have HE2 := Aside0.mk (HE1.out.pick hi hb hk); clear hi hb hk) | (go_at_call 94; (refine (HE2.out.step n8 83).mono ?_); rintro e w3 ⟨g2, c2, rfl, s1⟩))
                          all_goals
                            go_roundg k1
                            case measure => omega
                            case rel => exact ⟨g2, c2, _, _, _, _, _, rfl, rfl, rfl, by go_num, ⟨ss_eg_room hO rfl⟩, HN, ⟨s1⟩⟩
                        · have HN := Aside0.mk ((if_neg cs).symm.trans HA2.out)
                          have HCS := Aside0.mk cs
                          clear cs
                          go_wp2_with (first | (go_at_call 88; (with_reducible refine (spec_l20Rd_pick.calls k g bs0 p 6 v p1 w0 _ (HE.out.alloc _).st (HE.out.alloc _).bl HV.out).mono ?_); rintro e w1 ⟨rfl, hi, hb, hk⟩; have hcell := (blk_cell (hk.blk (heap_alloc_new wr _) (by have := HE.out.st.lt; omega) (by simp)) v.toNat).trans HL.out; have HE1 := Aside0.mk ((HE.out.alloc _).pick hi hb hk); clear hi hb hk) | (go_at_call 88; (with_reducible refine (spec_l20Rd_pick.calls k g bs0 p1 2 v2 p2 w0 _ HE1.out.st HE1.out.bl HV2.out).mono ?_); rintro e w2 ⟨rfl, hi, hb, hk⟩; have HE2 := Aside0.mk (HE1.out.pick hi hb hk); clear hi hb hk) | (go_at_call 94; (refine (HE2.out.no n8 83 HCS.out).mono ?_); rintro e w3 ⟨rfl, rfl⟩))
                          all_goals
                            go_roundg k1
                            case measure => omega
                            case rel => exact ⟨gs, cs_, _, _, _, _, _, rfl, rfl, rfl, by go_num, ⟨by omega⟩, HN, HE2⟩
                    · rw [if_neg ce] at hm
                      simp only [Option.some.injEq, Prod.mk.injEq] at hm
                      obtain ⟨rfl, rfl⟩ := hm
                      have HA2 := Aside0.mk hA
                      clear hA
                      have eS : ¬ S.toList = [83] := by
                        rw [hS]
                        have := ss_emv_in v
                        rcases this with q | q | q | q
                        · exact absurd q ce
                        all_goals (rw [q]; simp [ss_byteS])
                      have b2 : ∀ h : 0 < S.size, ((S[0]'h).toNat : Int) = ss_emv v := by
                        intro h
                        subst hS
                        have := ss_emv_in v
                        rcases this with q | q | q | q <;> rw [show ((ss_byteS (ss_emv v))[0]'h).toNat = (ss_byteS (ss_emv v)).data[0].toNat from rfl] <;> simp [ss_byteS, q]
                      have b1 : S.size = 1 := by rw [hS]; rfl
                      have B1 := Aside0.mk b1
                      have hsz : ¬ 9223372036854775807 < out.size + S.size := by rw [b1]; omega
                      rw [← hS] at HA2
                      have hp : (0 : Int) < (S.size : Int) := by omega
                      have hp2 : 0 < S.size := by omega
                      clear hS b1 ce
                      generalize ss_emv v = mv at *
                      by_cases cs : (ss_sp mv ws nt hs).1 = true
                      · have HN := Aside0.mk ((if_pos cs).symm.trans HA2.out)
                        go_wp2_with (first | (go_at_call 88; (with_reducible refine (spec_l20Rd_pick.calls k g bs0 p 6 v p1 w0 _ (HE.out.alloc _).st (HE.out.alloc _).bl HV.out).mono ?_); rintro e w1 ⟨rfl, hi, hb, hk⟩; have hcell := (blk_cell (hk.blk (heap_alloc_new wr _) (by have := HE.out.st.lt; omega) (by simp)) v.toNat).trans HL.out; have HE1 := Aside0.mk ((HE.out.alloc _).pick hi hb hk); clear hi hb hk) | (go_at_call 94; (refine (HE1.out.step n8 mv).mono ?_); rintro e w3 ⟨g2, c2, rfl, s1⟩))
                        all_goals
                          go_roundg k1
                          case measure => omega
                          case rel => exact ⟨g2, c2, _, _, _, _, _, rfl, rfl, rfl, by go_num, ⟨ss_eg_room hO B1.out⟩, HN, ⟨s1⟩⟩
                      · have HN := Aside0.mk ((if_neg cs).symm.trans HA2.out)
                        have HCS := Aside0.mk cs
                        clear cs
                        go_wp2_with (first | (go_at_call 88; (with_reducible refine (spec_l20Rd_pick.calls k g bs0 p 6 v p1 w0 _ (HE.out.alloc _).st (HE.out.alloc _).bl HV.out).mono ?_); rintro e w1 ⟨rfl, hi, hb, hk⟩; have hcell := (blk_cell (hk.blk (heap_alloc_new wr _) (by have := HE.out.st.lt; omega) (by simp)) v.toNat).trans HL.out; have HE1 := Aside0.mk ((HE.out.alloc _).pick hi hb hk); clear hi hb hk) | (go_at_call 94; (refine (HE1.out.no n8 mv HCS.out).mono ?_); rintro e w3 ⟨rfl, rfl⟩))
                        all_goals
                          go_roundg k1
                          case measure => omega
                          case rel => exact ⟨gs, cs_, _, _, _, _, _, rfl, rfl, rfl, by go_num, ⟨by omega⟩, HN, HE1⟩
              · rw [if_neg hv] at hm
                cases hm
            · have cnb : decide (nt ≤ (m : Int)) = false := decide_eq_false cn
              have HF : Aside0 (out = R ∧ p = P) := ⟨by
                have := HA.out
                unfold ss_edraw at this
                rw [if_neg cn] at this
                simpa using this⟩
              go_wp2
              all_goals
                go_meet
                exact ⟨by rw [HF.out.1], ⟨by rw [← HF.out.1]; have := HO.out; omega⟩, ⟨by rw [← HF.out.2]; exact HE.out.st, HE.out.kb, HE.out.bl⟩⟩
      case rest =>
        clear HE1 H1
        obtain ⟨rfl, HS, HX⟩ := hcut
        have HI0 := Aside0.mk HX.out.1
        have HK := Aside0.mk HX.out.2.1
        have HB := Aside0.mk HX.out.2.2
        have h := H2.out
        clear HX H2
        have H : ((spec_l20Rd_odd.f k bs0 P 8).bind fun bt351 => (if bt351.1 = true then (ss_lEnd.j0 k R (decide ((R.size : Int) > 0)) bs0 bt351.2) else (ss_lEnd.j0 k R false bs0 bt351.2))) = some (r1, r2) := h
        clear h
        have HC3 := Aside0.mk H
        clear H
        go_upto_region 24 with (fail)
        go_cut [79] (fun v79 wc => ∃ (kq : Nat) (x79_2 : Bool) (x1001_2 : Int), v79 = .bool x79_2 ∧ Aside0 (ss_lEnd.j0 kq R x79_2 bs0 x1001_2 = some (r1, r2)) ∧ Aside0 (kq ≤ k) ∧ Aside0 (IsS102 w0 wc g bs0 x1001_2) ∧ Aside0 (KeepBut w wc g none) ∧ Aside0 (Below w0.heap.size w0 wc))
        case first =>
          have H := HC3.out
          clear HC3
          replace H := Option.bind_eq_some_iff.mp H
          obtain ⟨⟨t351, t352⟩, A40, H⟩ := H
          replace H : (if t351 = true then (ss_lEnd.j0 k R (decide ((R.size : Int) > 0)) bs0 t352) else (ss_lEnd.j0 k R false bs0 t352)) = some (r1, r2) := H
          have A4 := Aside0.mk A40
          clear A40
          by_cases c5 : t351 = true
          · subst c5
            have H1 : (ss_lEnd.j0 k R (decide ((R.size : Int) > 0)) bs0 t352) = some (r1, r2) := by rw [if_pos rfl] at H; exact H
            clear H
            have H := H1
            clear H1
            have H' := Aside0.mk H
            clear H
            go_wp2_with (first | ((with_reducible refine gate_callee (f := 72) rfl ?_); refine goesL_ (some 74) rfl rfl Try.func72 (by kernel_rfl) rfl #[.pointer (some ⟨g, 0, none⟩), .int .i64 8] rfl (by (try simp only [List.map_toArray, List.map_cons, List.map_nil]); first | done | rfl | (simp only [List.length_drop, List.length_take]; rfl)) ?_; (with_reducible refine (spec_l20Rd_odd.calls k g bs0 P 8 true t352 w0 _ ?side1 ?side2 A4.out).mono ?_); (case side1 => repeat (first | (with_reducible first | exact HI0.out | apply IsS102.alloc | apply IsS102.drewN | apply IsS102.drew | apply IsS102.set_1) | exact HI0.out)); (case side2 => repeat (first | (with_reducible first | exact HB.out | apply below_alloc | apply pw_below_drewN | apply below_drew1 | refine below_set ?_ (IsS102.ge HI0.out)) | exact HB.out)); rintro e w6 ⟨rfl, hi, hb, hk⟩; refine ⟨_, rfl, ?_⟩; have n0_ := Aside0.mk (KeepBut.trans (by repeat (first | (with_reducible first | exact HK.out | apply KeepBut.set_ | apply keep_drewN | apply keep_drew | apply keep_alloc) | exact HK.out)) hk (.inl rfl)); have n1_ := Aside0.mk (hb); have n2_ := Aside0.mk (hi); clear HK; clear HB; clear HI0; have HK := n0_; have HB := n1_; have HI0 := n2_; clear n0_ n1_ n2_; (try clear hb); (try clear hb2); (try clear hk); (try clear hi)))
            go_meet
            case rel => exact ⟨_, (decide ((R.size : Int) > 0)), (t352), (by first | rfl | (simp; done) | (simp [*]; done)), H', ⟨by first | omega | exact Nat.le_refl _⟩, ⟨by repeat (first | (with_reducible first | exact HI0.out | apply IsS102.alloc | apply IsS102.drewN | apply IsS102.drew | apply IsS102.set_1) | exact HI0.out)⟩, ⟨by repeat (first | (with_reducible first | exact HK.out | apply KeepBut.set_ | apply keep_drewN | apply keep_drew | apply keep_alloc) | exact HK.out)⟩, ⟨by repeat (first | (with_reducible first | exact HB.out | apply below_alloc | apply pw_below_drewN | apply below_drew1 | refine below_set ?_ (IsS102.ge HI0.out)) | exact HB.out)⟩⟩
          · replace c5 := Bool.eq_false_iff.mpr c5
            subst c5
            have H1 : (ss_lEnd.j0 k R false bs0 t352) = some (r1, r2) := by rw [if_neg (show ¬ (false = true) by decide)] at H; exact H
            clear H
            have H := H1
            clear H1
            have H' := Aside0.mk H
            clear H
            go_wp2_with (first | ((with_reducible refine gate_callee (f := 72) rfl ?_); refine goesL_ (some 74) rfl rfl Try.func72 (by kernel_rfl) rfl #[.pointer (some ⟨g, 0, none⟩), .int .i64 8] rfl (by (try simp only [List.map_toArray, List.map_cons, List.map_nil]); first | done | rfl | (simp only [List.length_drop, List.length_take]; rfl)) ?_; (with_reducible refine (spec_l20Rd_odd.calls k g bs0 P 8 false t352 w0 _ ?side1 ?side2 A4.out).mono ?_); (case side1 => repeat (first | (with_reducible first | exact HI0.out | apply IsS102.alloc | apply IsS102.drewN | apply IsS102.drew | apply IsS102.set_1) | exact HI0.out)); (case side2 => repeat (first | (with_reducible first | exact HB.out | apply below_alloc | apply pw_below_drewN | apply below_drew1 | refine below_set ?_ (IsS102.ge HI0.out)) | exact HB.out)); rintro e w7 ⟨rfl, hi, hb, hk⟩; refine ⟨_, rfl, ?_⟩; have n0_ := Aside0.mk (KeepBut.trans (by repeat (first | (with_reducible first | exact HK.out | apply KeepBut.set_ | apply keep_drewN | apply keep_drew | apply keep_alloc) | exact HK.out)) hk (.inl rfl)); have n1_ := Aside0.mk (hb); have n2_ := Aside0.mk (hi); clear HK; clear HB; clear HI0; have HK := n0_; have HB := n1_; have HI0 := n2_; clear n0_ n1_ n2_; (try clear hb); (try clear hb2); (try clear hk); (try clear hi)))
            go_meet
            case rel => exact ⟨_, (false), (t352), (by first | rfl | (simp; done) | (simp [*]; done)), H', ⟨by first | omega | exact Nat.le_refl _⟩, ⟨by repeat (first | (with_reducible first | exact HI0.out | apply IsS102.alloc | apply IsS102.drewN | apply IsS102.drew | apply IsS102.set_1) | exact HI0.out)⟩, ⟨by repeat (first | (with_reducible first | exact HK.out | apply KeepBut.set_ | apply keep_drewN | apply keep_drew | apply keep_alloc) | exact HK.out)⟩, ⟨by repeat (first | (with_reducible first | exact HB.out | apply below_alloc | apply pw_below_drewN | apply below_drew1 | refine below_set ?_ (IsS102.ge HI0.out)) | exact HB.out)⟩⟩
        case rest =>
          clear HC3
          try clear p2
          try clear c5
          try clear c7
          obtain ⟨kq, x79_2, x1001_2, rfl, HA, HJ2, HI0, HK, HB⟩ := hcut
          cases kq with
          | zero => exact absurd HA.out (by simp [ss_lEnd.j0])
          | succ kj2 =>
            have H := HA.out
            clear HA
            simp only [ss_lEnd.j0] at H
            by_cases c8 : x79_2 = true
            · subst c8
              have H1 : ((spec_l20Rd_pick.f kj2 bs0 x1001_2 (R.size : Int)).bind fun bt353 => (if 0 ≤ bt353.1 then (if bt353.1 ≤ (R.size : Int) then ((some (([(⟨#[]⟩ : ByteArray), (⟨#[83]⟩ : ByteArray), (⟨#[68]⟩ : ByteArray), (⟨#[120]⟩ : ByteArray)] : List ByteArray) : List ByteArray)).bind fun y355 => ((spec_l20Rd_pick.f kj2 bs0 bt353.2 4).bind fun bt358 => (if 0 ≤ bt358.1 then (if bt358.1 < (y355.length : Int) then (if (R.extract 0 (bt353.1 : Int).toNat).size + (rdOf ByteArray.empty y355 bt358.1).size ≤ 9223372036854775807 then (if 0 ≤ (wrap64 (bt353.1 + 1)) then (if (wrap64 (bt353.1 + 1)) ≤ (R.size : Int) then (if ((R.extract 0 (bt353.1 : Int).toNat) ++ (rdOf ByteArray.empty y355 bt358.1)).size + (R.extract ((wrap64 (bt353.1 + 1)) : Int).toNat R.size).size ≤ 9223372036854775807 then (some (((R.extract 0 (bt353.1 : Int).toNat) ++ (rdOf ByteArray.empty y355 bt358.1)) ++ (R.extract ((wrap64 (bt353.1 + 1)) : Int).toNat R.size), bt358.2)) else (none)) else (none)) else (none)) else (none)) else (none)) else (none)))) else (none)) else (none))) = some (r1, r2) := by rw [if_pos rfl] at H; exact H
              clear H
              have H := H1
              clear H1
              replace H := Option.bind_eq_some_iff.mp H
              obtain ⟨⟨t353, t354⟩, A90, H⟩ := H
              replace H : (if 0 ≤ t353 then (if t353 ≤ (R.size : Int) then ((some (([(⟨#[]⟩ : ByteArray), (⟨#[83]⟩ : ByteArray), (⟨#[68]⟩ : ByteArray), (⟨#[120]⟩ : ByteArray)] : List ByteArray) : List ByteArray)).bind fun y355 => ((spec_l20Rd_pick.f kj2 bs0 t354 4).bind fun bt358 => (if 0 ≤ bt358.1 then (if bt358.1 < (y355.length : Int) then (if (R.extract 0 (t353 : Int).toNat).size + (rdOf ByteArray.empty y355 bt358.1).size ≤ 9223372036854775807 then (if 0 ≤ (wrap64 (t353 + 1)) then (if (wrap64 (t353 + 1)) ≤ (R.size : Int) then (if ((R.extract 0 (t353 : Int).toNat) ++ (rdOf ByteArray.empty y355 bt358.1)).size + (R.extract ((wrap64 (t353 + 1)) : Int).toNat R.size).size ≤ 9223372036854775807 then (some (((R.extract 0 (t353 : Int).toNat) ++ (rdOf ByteArray.empty y355 bt358.1)) ++ (R.extract ((wrap64 (t353 + 1)) : Int).toNat R.size), bt358.2)) else (none)) else (none)) else (none)) else (none)) else (none)) else (none)))) else (none)) else (none)) = some (r1, r2) := H
              have A9 := Aside0.mk A90
              clear A90
              by_cases c10 : 0 ≤ t353
              · rw [if_pos c10] at H
                have c10b0 := eq_true c10
                have c10b1 : decide (0 ≤ t353) = true := decide_eq_true c10
                clear c10
                by_cases c11 : t353 ≤ (R.size : Int)
                · rw [if_pos c11] at H
                  have c11b0 := eq_true c11
                  have c11b1 : decide (t353 ≤ (R.size : Int)) = true := decide_eq_true c11
                  clear c11
                  obtain ⟨y355, hy355⟩ : ∃ y_ : List ByteArray, y_ = (([(⟨#[]⟩ : ByteArray), (⟨#[83]⟩ : ByteArray), (⟨#[68]⟩ : ByteArray), (⟨#[120]⟩ : ByteArray)] : List ByteArray)) := ⟨_, rfl⟩
                  replace H : ((spec_l20Rd_pick.f kj2 bs0 t354 4).bind fun bt358 => (if 0 ≤ bt358.1 then (if bt358.1 < (y355.length : Int) then (if (R.extract 0 (t353 : Int).toNat).size + (rdOf ByteArray.empty y355 bt358.1).size ≤ 9223372036854775807 then (if 0 ≤ (wrap64 (t353 + 1)) then (if (wrap64 (t353 + 1)) ≤ (R.size : Int) then (if ((R.extract 0 (t353 : Int).toNat) ++ (rdOf ByteArray.empty y355 bt358.1)).size + (R.extract ((wrap64 (t353 + 1)) : Int).toNat R.size).size ≤ 9223372036854775807 then (some (((R.extract 0 (t353 : Int).toNat) ++ (rdOf ByteArray.empty y355 bt358.1)) ++ (R.extract ((wrap64 (t353 + 1)) : Int).toNat R.size), bt358.2)) else (none)) else (none)) else (none)) else (none)) else (none)) else (none))) = some (r1, r2) := by first | (rw [hy355]; with_reducible exact H) | (have H2_ := (Option.bind_some _ _).symm.trans H; rw [hy355]; with_reducible exact H2_) | (have H2_ := (Option.bind_some _ _).symm.trans H; with_reducible exact H2_) | with_reducible exact H | (rw [hy355]; exact H) | exact H
                  have Ny355 := Aside0.mk hy355
                  clear hy355
                  replace H := Option.bind_eq_some_iff.mp H
                  obtain ⟨⟨t358, t359⟩, A120, H⟩ := H
                  replace H : (if 0 ≤ t358 then (if t358 < (y355.length : Int) then (if (R.extract 0 (t353 : Int).toNat).size + (rdOf ByteArray.empty y355 t358).size ≤ 9223372036854775807 then (if 0 ≤ (wrap64 (t353 + 1)) then (if (wrap64 (t353 + 1)) ≤ (R.size : Int) then (if ((R.extract 0 (t353 : Int).toNat) ++ (rdOf ByteArray.empty y355 t358)).size + (R.extract ((wrap64 (t353 + 1)) : Int).toNat R.size).size ≤ 9223372036854775807 then (some (((R.extract 0 (t353 : Int).toNat) ++ (rdOf ByteArray.empty y355 t358)) ++ (R.extract ((wrap64 (t353 + 1)) : Int).toNat R.size), t359)) else (none)) else (none)) else (none)) else (none)) else (none)) else (none)) = some (r1, r2) := H
                  have A12 := Aside0.mk A120
                  clear A120
                  by_cases c13 : 0 ≤ t358
                  · rw [if_pos c13] at H
                    have c13b0 : decide (0 ≤ t358) = true := decide_eq_true c13
                    clear c13
                    by_cases c14 : t358 < (y355.length : Int)
                    · rw [if_pos c14] at H
                      have c14b0 : decide (t358 < (y355.length : Int)) = true := decide_eq_true c14
                      clear c14
                      by_cases c15 : (R.extract 0 (t353 : Int).toNat).size + (rdOf ByteArray.empty y355 t358).size ≤ 9223372036854775807
                      · rw [if_pos c15] at H
                        have c15b0 := eq_true c15
                        have c15b1 : decide ((R.extract 0 (t353 : Int).toNat).size + (rdOf ByteArray.empty y355 t358).size ≤ 9223372036854775807) = true := decide_eq_true c15
                        try have c15b2 : (9223372036854775807 < (R.extract 0 (t353 : Int).toNat).size + (rdOf ByteArray.empty y355 t358).size) = False := eq_false (Nat.not_lt.2 c15)
                        obtain ⟨ji16, hji16⟩ : ∃ j_ : Int, (wrap64 (t353 + 1)) = j_ := ⟨_, rfl⟩
                        replace H : (if 0 ≤ (ji16) then (if (ji16) ≤ (R.size : Int) then (if ((R.extract 0 (t353 : Int).toNat) ++ (rdOf ByteArray.empty y355 t358)).size + (R.extract ((ji16) : Int).toNat R.size).size ≤ 9223372036854775807 then (some (((R.extract 0 (t353 : Int).toNat) ++ (rdOf ByteArray.empty y355 t358)) ++ (R.extract ((ji16) : Int).toNat R.size), t359)) else (none)) else (none)) else (none)) = some (r1, r2) := by first | (rw [hji16] at H; exact H) | (simp only [hji16] at H ⊢; exact H)
                        (try rw [hji16] at A9)
                        (try rw [hji16] at A12)
                        have hji16w : (IntKind.i64.wrap (t353 + 1)) = ji16 := (i64_w _).trans hji16
                        by_cases c17 : 0 ≤ (ji16)
                        · rw [if_pos c17] at H
                          have c17b0 := eq_true c17
                          have c17b1 : decide (0 ≤ (ji16)) = true := decide_eq_true c17
                          clear c17
                          by_cases c18 : (ji16) ≤ (R.size : Int)
                          · rw [if_pos c18] at H
                            have c18b0 := eq_true c18
                            have c18b1 : decide ((ji16) ≤ (R.size : Int)) = true := decide_eq_true c18
                            clear c18
                            by_cases c19 : ((R.extract 0 (t353 : Int).toNat) ++ (rdOf ByteArray.empty y355 t358)).size + (R.extract ((ji16) : Int).toNat R.size).size ≤ 9223372036854775807
                            · rw [if_pos c19] at H
                              have c19b0 := eq_true c19
                              have c19b1 : decide (((R.extract 0 (t353 : Int).toNat) ++ (rdOf ByteArray.empty y355 t358)).size + (R.extract ((ji16) : Int).toNat R.size).size ≤ 9223372036854775807) = true := decide_eq_true c19
                              try have c19b2 : (9223372036854775807 < ((R.extract 0 (t353 : Int).toNat) ++ (rdOf ByteArray.empty y355 t358)).size + (R.extract ((ji16) : Int).toNat R.size).size) = False := eq_false (Nat.not_lt.2 c19)
                              have c19z := c19
                              (try simp only [ByteArray.size_append] at c19z)
                              have c19y := eq_false (Nat.not_lt.2 c19z)
                              simp only [Option.some.injEq, Prod.mk.injEq] at H
                              obtain ⟨rfl, rfl⟩ := H
                              try go_wp2_with (first | ((with_reducible refine gate_callee (f := 88) rfl ?_); refine goesL_ (some 83) rfl rfl Try.func88 (by kernel_rfl) rfl #[.pointer (some ⟨g, 0, none⟩), .int .i64 (R.size : Int)] rfl (by (try simp only [List.map_toArray, List.map_cons, List.map_nil]); first | done | rfl | (simp only [List.length_drop, List.length_take]; rfl)) ?_; (with_reducible refine (spec_l20Rd_pick.calls kj2 g bs0 x1001_2 (R.size : Int) t353 t354 w0 _ ?side1 ?side2 A9.out).mono ?_); (case side1 => repeat (first | (with_reducible first | exact HI0.out | apply IsS102.alloc | apply IsS102.drewN | apply IsS102.drew | apply IsS102.set_1) | exact HI0.out)); (case side2 => repeat (first | (with_reducible first | exact HB.out | apply below_alloc | apply pw_below_drewN | apply below_drew1 | refine below_set ?_ (IsS102.ge HI0.out)) | exact HB.out)); rintro e w20 ⟨rfl, hi, hb, hk⟩; refine ⟨_, rfl, ?_⟩; have n0_ := Aside0.mk (KeepBut.trans (by repeat (first | (with_reducible first | exact HK.out | apply KeepBut.set_ | apply keep_drewN | apply keep_drew | apply keep_alloc) | exact HK.out)) hk (.inl rfl)); have n1_ := Aside0.mk (hb); have n2_ := Aside0.mk (hi); clear HK; clear HB; clear HI0; have HK := n0_; have HB := n1_; have HI0 := n2_; clear n0_ n1_ n2_; (try clear hb); (try clear hb2); (try clear hk); (try clear hi)))
                              have pi360 : (0 ≤ (t358 : Int)) = True := eq_true (of_decide_eq_true (by first | (with_reducible assumption) | assumption))
                              have qi360 : (t358 < (y355.length : Int)) = True := eq_true (of_decide_eq_true (by first | (with_reducible assumption) | assumption))
                              have n0_ := Aside0.mk (IsS102.drew HI0.out)
                              have n1_ := Aside0.mk (keep_drew HK.out)
                              have n2_ := Aside0.mk (below_drew1 HB.out)
                              clear HI0
                              clear HK
                              clear HB
                              have HI0 := n0_
                              have HK := n1_
                              have HB := n2_
                              clear n0_ n1_ n2_
                              refine start_ (n := 15) (S := fun w' => True) (ds := []) #[false, false, false, false, false, false, false, false, false, false, false, false, false, false, false] (by kernel_rfl) rfl rfl trivial (fun hHeld => ?_); refine with_tabW ss_lEnd.tab26 ss_lEnd.bits26 (fun HT_ HW_ => ?_)
                              generalize w20.drew = w21 at HI0 HK HB hHeld ⊢
                              refine pure_ (i := 0) (N := some 84) (v := ?_) (a' := ?_) #[true, false, false, false, false, false, false, false, false, false, false, false, false, false, false] rfl rfl (any_of HT_.out (by kernel_rfl)) (fun _ _ _ h => h) (Or.inl ⟨by rfl, ?_⟩) ?_ ?_
                              rotate_left
                              · intro w'
                                go_simp
                                with_reducible rfl
                              rotate_left
                              · simp only [Act.put, List.setIfInBounds_toArray, List.set_cons_zero, List.set_cons_succ, i64_w, i32_w]
                                rfl
                              refine pure_ (i := 1) (N := some 85) (v := ?_) (a' := ?_) #[true, true, false, false, false, false, false, false, false, false, false, false, false, false, false] rfl rfl (any_of HT_.out (by kernel_rfl)) (fun _ _ _ h => h) (Or.inl ⟨by rfl, ?_⟩) ?_ ?_
                              rotate_left
                              · intro w'
                                go_simp
                                with_reducible rfl
                              rotate_left
                              · simp only [Act.put, List.setIfInBounds_toArray, List.set_cons_zero, List.set_cons_succ, i64_w, i32_w]
                                rfl
                              refine pure_ (i := 4) (N := some 88) (v := ?_) (a' := ?_) #[true, true, false, false, true, false, false, false, false, false, false, false, false, false, false] rfl rfl (any_of HT_.out (by kernel_rfl)) (fun _ _ _ h => h) (Or.inl ⟨by rfl, ?_⟩) ?_ ?_
                              rotate_left
                              · intro w'
                                go_simp
                                with_reducible rfl
                              rotate_left
                              · simp only [Act.put, List.setIfInBounds_toArray, List.set_cons_zero, List.set_cons_succ, i64_w, i32_w]
                                rfl
                              refine pure_ (i := 9) (N := some 93) (v := ?_) (a' := ?_) #[true, true, false, false, true, false, false, false, false, true, false, false, false, false, false] rfl rfl (any_of HT_.out (by kernel_rfl)) (fun _ _ _ h => h) (Or.inl ⟨by rfl, ?_⟩) ?_ ?_
                              rotate_left
                              · intro w'
                                go_simp
                                with_reducible rfl
                              rotate_left
                              · simp only [Act.put, List.setIfInBounds_toArray, List.set_cons_zero, List.set_cons_succ, i64_w, i32_w]
                                rfl
                              refine pure_ (i := 10) (N := some 94) (v := ?_) (a' := ?_) #[true, true, false, false, true, false, false, false, false, true, true, false, false, false, false] rfl rfl (any_of HT_.out (by kernel_rfl)) (fun _ _ _ h => h) (Or.inl ⟨by rfl, ?_⟩) ?_ ?_
                              rotate_left
                              · intro w'
                                go_simp
                                with_reducible rfl
                              rotate_left
                              · simp only [Act.put, List.setIfInBounds_toArray, List.set_cons_zero, List.set_cons_succ, i64_w, i32_w]
                                rfl
                              refine inv_at [2, 3, 5, 6, 7, 8, 11, 12, 13, 14] (fun a0_ b a w' => ∃ (v356 : Value) (adz_v356 : Addr) (m6_ : Value), a = putSel a0_ b [(2, 86, .string (R.extract 0 (t353 : Int).toNat)), (3, 87, v356), (5, 89, .int .i64 t358), (6, 90, m6_), (7, 91, .string (rdOf ByteArray.empty y355 t358)), (8, 92, .string ((R.extract 0 (t353 : Int).toNat) ++ (rdOf ByteArray.empty y355 t358))), (11, 95, .int .i64 ji16), (12, 96, .string (R.extract ((ji16) : Int).toNat R.size)), (13, 97, .string (((R.extract 0 (t353 : Int).toNat) ++ (rdOf ByteArray.empty y355 t358)) ++ (R.extract ((ji16) : Int).toNat R.size))), (14, 4, .string (((R.extract 0 (t353 : Int).toNat) ++ (rdOf ByteArray.empty y355 t358)) ++ (R.extract ((ji16) : Int).toNat R.size)))] ∧ (b 5 = false → IsS102 w0 w' g bs0 t354) ∧ (KeepBut w w' g none) ∧ (Below w0.heap.size w0 w') ∧ (b 3 = true → Kd.R Kd.string 9 w' w.heap.size (fun _ => True) v356 y355) ∧ (b 3 = true → ∃ c_, (v356 : Value) = .slice (some adz_v356) y355.length c_) ∧ (b 5 = true → IsS102 w0 w' g bs0 t359) ∧ (b 6 = true → (m6_ : Value) = .pointer (some (adz_v356.add (t358).toNat)))) HT_.out HW_.out (by kernel_rfl) (by kernel_rfl) ?_ ?_ ?_
                              · exact ⟨.bool false, ⟨0, 0, none⟩, .bool false, by simp only [putSel, Bool.false_eq_true, if_false], fun _ => HI0.out, HK.out, HB.out, fun h_ => absurd h_ (by decide), fun h_ => absurd h_ (by decide), fun h_ => absurd h_ (by decide), fun h_ => absurd h_ (by decide)⟩
                              · skip
                                clear HB HI0 HK
                                refine steps_cons ?_ ?_
                                · rintro b a w' ⟨v356, adz_v356, m6_, ha, Q_HI0, Q_HK, Q_HB, Q_HO357, Q_HA_HO357, Q_HI0_e5, Q_X6_⟩ hb_ hon hoff
                                  refine ⟨_, rfl, fun K hK => ?_⟩
                                  have e84 : a.tmps[84]? = some (.string R) := by rw [ha]; exact (putSel_off rfl).trans rfl
                                  have e85 : a.tmps[85]? = some (.int .i64 t353) := by rw [ha]; exact (putSel_off rfl).trans rfl
                                  replace ha := Aside0.mk ha
                                  have HK := Aside0.mk Q_HK
                                  have HB := Aside0.mk Q_HB
                                  refine value_ (w1 := w') (v := .string (R.extract 0 (t353 : Int).toNat)) (by rfl) rfl ?_ ?_
                                  · go_simp
                                    (try simp only [i64_w])
                                    try rfl
                                  refine hK.out _ _ ⟨v356, adz_v356, m6_, (by rw [ha.out]; exact putSel_upk 0 hb_ rfl rfl rfl), Q_HI0, Q_HK, Q_HB, Q_HO357, Q_HA_HO357, Q_HI0_e5, Q_X6_⟩
                                refine steps_cons ?_ ?_
                                · rintro b a w' ⟨v356, adz_v356, m6_, ha, Q_HI0, Q_HK, Q_HB, Q_HO357, Q_HA_HO357, Q_HI0_e5, Q_X6_⟩ hb_ hon hoff
                                  refine ⟨_, rfl, fun K hK => ?_⟩
                                  replace ha := Aside0.mk ha
                                  have HK := Aside0.mk Q_HK
                                  have HB := Aside0.mk Q_HB
                                  refine Kd.R_lit_step Kd.string _ 9 ?hg (N := 87) ?hd (xs := ([(⟨#[]⟩ : ByteArray), (⟨#[83]⟩ : ByteArray), (⟨#[68]⟩ : ByteArray), (⟨#[120]⟩ : ByteArray)] : List ByteArray)) (inner := [.string (⟨#[]⟩ : ByteArray), .string (⟨#[83]⟩ : ByteArray), .string (⟨#[68]⟩ : ByteArray), .string (⟨#[120]⟩ : ByteArray)]) (ok := fun _ => True) (okp := fun _ => True) ?hr ?hp (fun _ hk => hk) trivial (Below.refl _ _) (Nat.le_refl _) (by simp) ?_; (case hd => rfl); (case hg => rfl); (case hr => first | (go_simp; done) | (go_simp; rfl)); (case hp => exact (Reps.one (show Kd.M Kd.string _ _ _ (⟨#[]⟩ : ByteArray) [.string (⟨#[]⟩ : ByteArray)] from rfl) (Reps.one (show Kd.M Kd.string _ _ _ (⟨#[83]⟩ : ByteArray) [.string (⟨#[83]⟩ : ByteArray)] from rfl) (Reps.one (show Kd.M Kd.string _ _ _ (⟨#[68]⟩ : ByteArray) [.string (⟨#[68]⟩ : ByteArray)] from rfl) (Reps.one (show Kd.M Kd.string _ _ _ (⟨#[120]⟩ : ByteArray) [.string (⟨#[120]⟩ : ByteArray)] from rfl) (Reps.none _ _))))))
                                  intro v356 w22 ho23 hb hg_ hnew_
                                  clear hg_ hnew_
                                  (first | rw [← Ny355.out] at ho23 | (simp only [Int.reduceToNat] at ho23; rw [← Ny355.out] at ho23))
                                  have n0_ := Aside0.mk (Kd.R_lower ho23 (keep_size (w := w) (g := g) (row := none) (by repeat (first | (with_reducible first | exact HK.out | apply KeepBut.set_ | apply keep_drewN | apply keep_drew | apply keep_alloc) | exact HK.out))))
                                  have n2_ := Aside0.mk (KeepBut.trans (by repeat (first | (with_reducible first | exact HK.out | apply KeepBut.set_ | apply keep_drewN | apply keep_drew | apply keep_alloc) | exact HK.out)) (KeepBut.of_below hb g none) (.inl rfl))
                                  have n3_ := Aside0.mk (below_step (by repeat (first | (with_reducible first | exact HB.out | apply below_alloc | apply pw_below_drewN | apply below_drew1) | exact HB.out)) hb)
                                  have z_HI0 := fun (h0_ : b 5 = false) => (show IsS102 w0 w22 g bs0 t354 from by first | exact (IsS102.below (by repeat (first | (with_reducible first | exact (Q_HI0 h0_) | apply IsS102.alloc | apply IsS102.drewN | apply IsS102.drew | apply IsS102.set_1) | exact (Q_HI0 h0_))) hb))
                                  have z_HI0_e5 := fun (h0_ : b 5 = true) => (show IsS102 w0 w22 g bs0 t359 from by first | exact (IsS102.below (by repeat (first | (with_reducible first | exact (Q_HI0_e5 h0_) | apply IsS102.alloc | apply IsS102.drewN | apply IsS102.drew | apply IsS102.set_1) | exact (Q_HI0_e5 h0_))) hb))
                                  clear HK
                                  clear HB
                                  have HO357 := n0_
                                  have HK := n2_
                                  have HB := n3_
                                  clear n0_ n2_ n3_
                                  clear hb ho23
                                  obtain ⟨Ao24, co24, eo24⟩ := Kd.R_slice HO357.out
                                  subst eo24
                                  obtain ⟨ado24, fo24, _⟩ := Kd.at_string (Kd.R_reads' HO357.out).2.2 0 (by decide) (by rw [Ny355.out]; simp)
                                  cases fo24
                                  refine hK.out _ _ ⟨.slice (some ado24) y355.length co24, ado24, m6_, (by rw [ha.out]; exact putSel_upk 1 hb_ rfl rfl rfl), z_HI0, (by repeat (first | (with_reducible first | exact HK.out | apply KeepBut.set_ | apply keep_drewN | apply keep_drew | apply keep_alloc) | exact HK.out)), (by repeat (first | (with_reducible first | exact HB.out | apply below_alloc | apply pw_below_drewN | apply below_drew1) | exact HB.out)), fun _ => (by (with_reducible repeat (first | apply Kd.R_alloc | apply Kd.R_drewN | apply Kd.R_drew)); exact HO357.out), fun _ => ⟨_, rfl⟩, z_HI0_e5, fun h0_ => absurd ((hoff 6 (by kernel_rfl)).symm.trans h0_) (by decide)⟩
                                refine steps_cons ?_ ?_
                                · rintro b a w' ⟨v356, adz_v356, m6_, ha, Q_HI0, Q_HK, Q_HB, Q_HO357, Q_HA_HO357, Q_HI0_e5, Q_X6_⟩ hb_ hon hoff
                                  refine ⟨_, rfl, fun K hK => ?_⟩
                                  have e88 : a.tmps[88]? = some (.pointer (some ⟨g, 0, none⟩)) := by rw [ha]; exact (putSel_off rfl).trans rfl
                                  replace ha := Aside0.mk ha
                                  have HI0 := Aside0.mk (Q_HI0 hb_)
                                  have HK := Aside0.mk Q_HK
                                  have HB := Aside0.mk Q_HB
                                  refine goes_ Try.func88 (by kernel_rfl) rfl #[.pointer (some ⟨g, 0, none⟩), .int .i64 4] (by rfl) rfl rfl (by first | (simp only [List.map_toArray, List.map_cons, List.map_nil, Act.eval, Array.getD_eq_getD_getElem?, Option.getD_some, e88]; done) | (simp only [List.map_toArray, List.map_cons, List.map_nil, Act.eval, Array.getD_eq_getD_getElem?, Option.getD_some, e88]; rfl)) ?_
                                  with_reducible refine (spec_l20Rd_pick.calls kj2 g bs0 t354 4 t358 t359 w0 _ ?side1 ?side2 A12.out).mono ?_
                                  (case side1 => repeat (first | (with_reducible first | exact HI0.out | apply IsS102.alloc | apply IsS102.drewN | apply IsS102.drew | apply IsS102.set_1) | exact HI0.out))
                                  (case side2 => repeat (first | (with_reducible first | exact HB.out | apply below_alloc | apply pw_below_drewN | apply below_drew1 | refine below_set ?_ (IsS102.ge HI0.out)) | exact HB.out))
                                  rintro e w22 ⟨rfl, hi, hb, hk⟩
                                  refine ⟨_, rfl, ?_⟩
                                  have n0_ := Aside0.mk (KeepBut.trans (by repeat (first | (with_reducible first | exact HK.out | apply KeepBut.set_ | apply keep_drewN | apply keep_drew | apply keep_alloc) | exact HK.out)) hk (.inl rfl))
                                  have n1_ := Aside0.mk (hb)
                                  have n2_ := Aside0.mk (hi)
                                  have z_HO357 := fun (h0_ : b 3 = true) => (show Kd.R Kd.string 9 w22 w.heap.size (fun _ => True) v356 y355 from by first | exact (Kd.R_mono (Kd.R_keep (IsS102.apart (show IsS102 w0 _ g bs0 t354 from by repeat (first | (with_reducible first | exact HI0.out | apply IsS102.alloc | apply IsS102.drewN | apply IsS102.drew | apply IsS102.set_1) | exact HI0.out)) (by (with_reducible repeat (first | apply Kd.R_alloc | apply Kd.R_drewN | apply Kd.R_drew)); exact (Q_HO357 h0_)) (by decide)) hk (fun _ h => h.2)) (fun _ h => h.1)) | exact Kd.R_mono (Kd.R_mono (Kd.R_keep (IsS102.apart (show IsS102 w0 _ g bs0 t354 from by repeat (first | (with_reducible first | exact HI0.out | apply IsS102.alloc | apply IsS102.drewN | apply IsS102.drew | apply IsS102.set_1) | exact HI0.out)) (by (with_reducible repeat (first | apply Kd.R_alloc | apply Kd.R_drewN | apply Kd.R_drew)); exact (Q_HO357 h0_)) (by decide)) hk (fun _ h => h.2)) (fun _ h => h.1)) (fun _ h_ => by first | trivial | exact h_ | exact h_.1))
                                  clear HK
                                  clear HB
                                  clear HI0
                                  have HK := n0_
                                  have HB := n1_
                                  have HI0 := n2_
                                  clear n0_ n1_ n2_
                                  (try clear hb)
                                  (try clear hb2)
                                  (try clear hk)
                                  (try clear hi)
                                  refine hK.out _ _ ⟨v356, adz_v356, m6_, (by rw [ha.out]; exact putSel_upk 2 hb_ rfl rfl rfl), fun h0_ => absurd ((up_self b 5).symm.trans h0_) (by decide), (by repeat (first | (with_reducible first | exact HK.out | apply KeepBut.set_ | apply keep_drewN | apply keep_drew | apply keep_alloc) | exact HK.out)), (by repeat (first | (with_reducible first | exact HB.out | apply below_alloc | apply pw_below_drewN | apply below_drew1 | refine below_set ?_ (IsS102.ge HI0.out)) | exact HB.out)), z_HO357, Q_HA_HO357, fun _ => (by repeat (first | (with_reducible first | exact HI0.out | apply IsS102.alloc | apply IsS102.drewN | apply IsS102.drew | apply IsS102.set_1) | exact HI0.out)), fun h0_ => absurd ((hoff 6 (by kernel_rfl)).symm.trans h0_) (by decide)⟩
                                refine steps_cons ?_ ?_
                                · rintro b a w' ⟨v356, adz_v356, m6_, ha, Q_HI0, Q_HK, Q_HB, Q_HO357, Q_HA_HO357, Q_HI0_e5, Q_X6_⟩ hb_ hon hoff
                                  refine ⟨_, rfl, fun K hK => ?_⟩
                                  have e87 : a.tmps[87]? = some (v356) := by rw [ha]; exact putSel_on (e := (3, 87, v356)) 1 rfl rfl (hon 3 (by kernel_rfl)) rfl
                                  have e89 : a.tmps[89]? = some (.int .i64 t358) := by rw [ha]; exact putSel_on (e := (5, 89, .int .i64 t358)) 2 rfl rfl (hon 5 (by kernel_rfl)) rfl
                                  replace ha := Aside0.mk ha
                                  have HK := Aside0.mk Q_HK
                                  have HB := Aside0.mk Q_HB
                                  have HO357 := Aside0.mk (Q_HO357 (hon 3 (by kernel_rfl)))
                                  have HA_HO357 := Aside0.mk (Q_HA_HO357 (hon 3 (by kernel_rfl)))
                                  have HI0 := Aside0.mk (Q_HI0_e5 (hon 5 (by kernel_rfl)))
                                  obtain ⟨c_, hv_⟩ := HA_HO357.out
                                  rw [hv_] at e87
                                  refine value_ (w1 := w') (v := .pointer (some (adz_v356.add (t358).toNat))) (by rfl) rfl ?_ ?_
                                  · go_simp
                                    (try simp only [i64_w])
                                    try rfl
                                  refine hK.out _ _ ⟨v356, adz_v356, (.pointer (some (adz_v356.add (t358).toNat))), (by rw [ha.out]; exact putSel_upk 3 hb_ rfl rfl rfl), fun h0_ => absurd ((hon 5 (by kernel_rfl)).symm.trans h0_) (by decide), Q_HK, Q_HB, Q_HO357, Q_HA_HO357, Q_HI0_e5, fun _ => rfl⟩
                                refine steps_cons ?_ ?_
                                · rintro b a w' ⟨v356, adz_v356, m6_, ha, Q_HI0, Q_HK, Q_HB, Q_HO357, Q_HA_HO357, Q_HI0_e5, Q_X6_⟩ hb_ hon hoff
                                  refine ⟨_, rfl, fun K hK => ?_⟩
                                  have e90 : a.tmps[90]? = some (m6_) := by rw [ha]; exact putSel_on (e := (6, 90, m6_)) 3 rfl rfl (hon 6 (by kernel_rfl)) rfl
                                  rw [Q_X6_ (hon 6 (by kernel_rfl))] at e90
                                  replace ha := Aside0.mk ha
                                  have HK := Aside0.mk Q_HK
                                  have HB := Aside0.mk Q_HB
                                  have HO357 := Aside0.mk (Q_HO357 (hon 3 (by kernel_rfl)))
                                  have HA_HO357 := Aside0.mk (Q_HA_HO357 (hon 3 (by kernel_rfl)))
                                  have HI0 := Aside0.mk (Q_HI0_e5 (hon 5 (by kernel_rfl)))
                                  obtain ⟨c_, hv_⟩ := HA_HO357.out
                                  have hF_ := HO357.out
                                  rw [hv_] at hF_
                                  obtain ⟨ad_, ea_, hx_⟩ := Kd.at_string (Kd.R_reads' hF_).2.2 t358 (of_eq_true pi360) (of_eq_true qi360)
                                  cases ea_
                                  refine value_ (w1 := w') (v := .string (rdOf ByteArray.empty y355 t358)) (by rfl) rfl ?_ ?_
                                  · go_simp
                                    (try simp only [i64_w])
                                    try rfl
                                  refine hK.out _ _ ⟨v356, adz_v356, m6_, (by rw [ha.out]; exact putSel_upk 4 hb_ rfl rfl rfl), fun h0_ => absurd ((hon 5 (by kernel_rfl)).symm.trans h0_) (by decide), Q_HK, Q_HB, Q_HO357, Q_HA_HO357, Q_HI0_e5, Q_X6_⟩
                                refine steps_cons ?_ ?_
                                · rintro b a w' ⟨v356, adz_v356, m6_, ha, Q_HI0, Q_HK, Q_HB, Q_HO357, Q_HA_HO357, Q_HI0_e5, Q_X6_⟩ hb_ hon hoff
                                  refine ⟨_, rfl, fun K hK => ?_⟩
                                  have e86 : a.tmps[86]? = some (.string (R.extract 0 (t353 : Int).toNat)) := by rw [ha]; exact putSel_on (e := (2, 86, .string (R.extract 0 (t353 : Int).toNat))) 0 rfl rfl (hon 2 (by kernel_rfl)) rfl
                                  have e91 : a.tmps[91]? = some (.string (rdOf ByteArray.empty y355 t358)) := by rw [ha]; exact putSel_on (e := (7, 91, .string (rdOf ByteArray.empty y355 t358))) 4 rfl rfl (hon 7 (by kernel_rfl)) rfl
                                  replace ha := Aside0.mk ha
                                  have HK := Aside0.mk Q_HK
                                  have HB := Aside0.mk Q_HB
                                  have HO357 := Aside0.mk (Q_HO357 (hon 3 (by kernel_rfl)))
                                  have HA_HO357 := Aside0.mk (Q_HA_HO357 (hon 3 (by kernel_rfl)))
                                  have HI0 := Aside0.mk (Q_HI0_e5 (hon 5 (by kernel_rfl)))
                                  refine value_ (w1 := w') (v := .string ((R.extract 0 (t353 : Int).toNat) ++ (rdOf ByteArray.empty y355 t358))) (by rfl) rfl ?_ ?_
                                  · go_simp
                                    (try simp only [i64_w])
                                    try rfl
                                    all_goals (have z1 := c15; have z2 := c19; simp only [ByteArray.size_append, ByteArray.size_extract] at z1 z2; have z3 := of_eq_true c11b0; have z4 := of_eq_true c18b0; omega)
                                  refine hK.out _ _ ⟨v356, adz_v356, m6_, (by rw [ha.out]; exact putSel_upk 5 hb_ rfl rfl rfl), fun h0_ => absurd ((hon 5 (by kernel_rfl)).symm.trans h0_) (by decide), Q_HK, Q_HB, Q_HO357, Q_HA_HO357, Q_HI0_e5, Q_X6_⟩
                                refine steps_cons ?_ ?_
                                · rintro b a w' ⟨v356, adz_v356, m6_, ha, Q_HI0, Q_HK, Q_HB, Q_HO357, Q_HA_HO357, Q_HI0_e5, Q_X6_⟩ hb_ hon hoff
                                  refine ⟨_, rfl, fun K hK => ?_⟩
                                  have e94 : a.tmps[94]? = some (.int .i64 t353) := by rw [ha]; exact (putSel_off rfl).trans rfl
                                  replace ha := Aside0.mk ha
                                  have HK := Aside0.mk Q_HK
                                  have HB := Aside0.mk Q_HB
                                  refine value_ (w1 := w') (v := .int .i64 ji16) (by rfl) rfl ?_ ?_
                                  · go_simp
                                    (try simp only [i64_w])
                                    try rfl
                                  refine hK.out _ _ ⟨v356, adz_v356, m6_, (by rw [ha.out]; exact putSel_upk 6 hb_ rfl rfl rfl), Q_HI0, Q_HK, Q_HB, Q_HO357, Q_HA_HO357, Q_HI0_e5, Q_X6_⟩
                                refine steps_cons ?_ ?_
                                · rintro b a w' ⟨v356, adz_v356, m6_, ha, Q_HI0, Q_HK, Q_HB, Q_HO357, Q_HA_HO357, Q_HI0_e5, Q_X6_⟩ hb_ hon hoff
                                  refine ⟨_, rfl, fun K hK => ?_⟩
                                  have e93 : a.tmps[93]? = some (.string R) := by rw [ha]; exact (putSel_off rfl).trans rfl
                                  have e95 : a.tmps[95]? = some (.int .i64 ji16) := by rw [ha]; exact putSel_on (e := (11, 95, .int .i64 ji16)) 6 rfl rfl (hon 11 (by kernel_rfl)) rfl
                                  replace ha := Aside0.mk ha
                                  have HK := Aside0.mk Q_HK
                                  have HB := Aside0.mk Q_HB
                                  refine value_ (w1 := w') (v := .string (R.extract ((ji16) : Int).toNat R.size)) (by rfl) rfl ?_ ?_
                                  · go_simp
                                    (try simp only [i64_w])
                                    try rfl
                                  refine hK.out _ _ ⟨v356, adz_v356, m6_, (by rw [ha.out]; exact putSel_upk 7 hb_ rfl rfl rfl), Q_HI0, Q_HK, Q_HB, Q_HO357, Q_HA_HO357, Q_HI0_e5, Q_X6_⟩
                                refine steps_cons ?_ ?_
                                · rintro b a w' ⟨v356, adz_v356, m6_, ha, Q_HI0, Q_HK, Q_HB, Q_HO357, Q_HA_HO357, Q_HI0_e5, Q_X6_⟩ hb_ hon hoff
                                  refine ⟨_, rfl, fun K hK => ?_⟩
                                  have e92 : a.tmps[92]? = some (.string ((R.extract 0 (t353 : Int).toNat) ++ (rdOf ByteArray.empty y355 t358))) := by rw [ha]; exact putSel_on (e := (8, 92, .string ((R.extract 0 (t353 : Int).toNat) ++ (rdOf ByteArray.empty y355 t358)))) 5 rfl rfl (hon 8 (by kernel_rfl)) rfl
                                  have e96 : a.tmps[96]? = some (.string (R.extract ((ji16) : Int).toNat R.size)) := by rw [ha]; exact putSel_on (e := (12, 96, .string (R.extract ((ji16) : Int).toNat R.size))) 7 rfl rfl (hon 12 (by kernel_rfl)) rfl
                                  replace ha := Aside0.mk ha
                                  have HK := Aside0.mk Q_HK
                                  have HB := Aside0.mk Q_HB
                                  have HO357 := Aside0.mk (Q_HO357 (hon 3 (by kernel_rfl)))
                                  have HA_HO357 := Aside0.mk (Q_HA_HO357 (hon 3 (by kernel_rfl)))
                                  have HI0 := Aside0.mk (Q_HI0_e5 (hon 5 (by kernel_rfl)))
                                  refine value_ (w1 := w') (v := .string (((R.extract 0 (t353 : Int).toNat) ++ (rdOf ByteArray.empty y355 t358)) ++ (R.extract ((ji16) : Int).toNat R.size))) (by rfl) rfl ?_ ?_
                                  · go_simp
                                    (try simp only [i64_w])
                                    try rfl
                                    all_goals (have z1 := c15; have z2 := c19; simp only [ByteArray.size_append, ByteArray.size_extract] at z1 z2; have z3 := of_eq_true c11b0; have z4 := of_eq_true c18b0; omega)
                                  refine hK.out _ _ ⟨v356, adz_v356, m6_, (by rw [ha.out]; exact putSel_upk 8 hb_ rfl rfl rfl), fun h0_ => absurd ((hon 5 (by kernel_rfl)).symm.trans h0_) (by decide), Q_HK, Q_HB, Q_HO357, Q_HA_HO357, Q_HI0_e5, Q_X6_⟩
                                refine steps_cons ?_ ?_
                                · rintro b a w' ⟨v356, adz_v356, m6_, ha, Q_HI0, Q_HK, Q_HB, Q_HO357, Q_HA_HO357, Q_HI0_e5, Q_X6_⟩ hb_ hon hoff
                                  refine ⟨_, rfl, fun K hK => ?_⟩
                                  have e97 : a.tmps[97]? = some (.string (((R.extract 0 (t353 : Int).toNat) ++ (rdOf ByteArray.empty y355 t358)) ++ (R.extract ((ji16) : Int).toNat R.size))) := by rw [ha]; exact putSel_on (e := (13, 97, .string (((R.extract 0 (t353 : Int).toNat) ++ (rdOf ByteArray.empty y355 t358)) ++ (R.extract ((ji16) : Int).toNat R.size)))) 8 rfl rfl (hon 13 (by kernel_rfl)) rfl
                                  replace ha := Aside0.mk ha
                                  have HK := Aside0.mk Q_HK
                                  have HB := Aside0.mk Q_HB
                                  have HO357 := Aside0.mk (Q_HO357 (hon 3 (by kernel_rfl)))
                                  have HA_HO357 := Aside0.mk (Q_HA_HO357 (hon 3 (by kernel_rfl)))
                                  have HI0 := Aside0.mk (Q_HI0_e5 (hon 5 (by kernel_rfl)))
                                  refine value_ (w1 := w') (v := .string (((R.extract 0 (t353 : Int).toNat) ++ (rdOf ByteArray.empty y355 t358)) ++ (R.extract ((ji16) : Int).toNat R.size))) (by rfl) rfl ?_ ?_
                                  · go_simp
                                    (try simp only [i64_w])
                                    try rfl
                                  refine hK.out _ _ ⟨v356, adz_v356, m6_, (by rw [ha.out]; exact putSel_upk 9 hb_ rfl rfl rfl), fun h0_ => absurd ((hon 5 (by kernel_rfl)).symm.trans h0_) (by decide), Q_HK, Q_HB, Q_HO357, Q_HA_HO357, Q_HI0_e5, Q_X6_⟩
                                exact steps_nil
                              rintro b a w26 hall ⟨v356, adz_v356, m6_, ha, Q_HI0, Q_HK, Q_HB, Q_HO357, Q_HA_HO357, Q_HI0_e5, Q_X6_⟩
                              clear HB HI0 HK
                              have hb2_ := hall 2 (by kernel_rfl)
                              have hb3_ := hall 3 (by kernel_rfl)
                              have hb5_ := hall 5 (by kernel_rfl)
                              have hb6_ := hall 6 (by kernel_rfl)
                              have hb7_ := hall 7 (by kernel_rfl)
                              have hb8_ := hall 8 (by kernel_rfl)
                              have hb11_ := hall 11 (by kernel_rfl)
                              have hb12_ := hall 12 (by kernel_rfl)
                              have hb13_ := hall 13 (by kernel_rfl)
                              have hb14_ := hall 14 (by kernel_rfl)
                              subst ha
                              obtain rfl := Q_X6_ hb6_
                              simp only [putSel, hb2_, hb3_, hb5_, hb6_, hb7_, hb8_, hb11_, hb12_, hb13_, hb14_, if_true, Act.put, List.setIfInBounds_toArray, List.set_cons_zero, List.set_cons_succ]
                              clear Q_HI0
                              have HK := Aside0.mk Q_HK
                              clear Q_HK
                              have HB := Aside0.mk Q_HB
                              clear Q_HB
                              have HO357 := Aside0.mk (Q_HO357 hb3_)
                              clear Q_HO357
                              have HA_HO357 := Aside0.mk (Q_HA_HO357 hb3_)
                              clear Q_HA_HO357
                              have HI0 := Aside0.mk (Q_HI0_e5 hb5_)
                              clear Q_HI0_e5
                              clear hall hb2_ hb3_ hb5_ hb6_ hb7_ hb8_ hb11_ hb12_ hb13_ hb14_
                              obtain ⟨co27, eo27⟩ := HA_HO357.out
                              clear HA_HO357
                              subst eo27
                              try go_wp2
                              go_ret
                              exact ⟨by first | rfl | (simp [errW_none, errW_some] <;> rfl) | (simp only [← hji16]; first | rfl | (simp [errW_none, errW_some] <;> rfl)) | (simp [*, errW_none, errW_some] <;> rfl), by repeat (first | (with_reducible first | exact HI0.out | apply IsS102.alloc | apply IsS102.drewN | apply IsS102.drew | apply IsS102.set_1) | exact HI0.out), by repeat (first | (with_reducible first | exact HB.out | apply below_alloc | apply pw_below_drewN | apply below_drew1 | refine below_set ?_ (IsS102.ge HI0.out)) | exact HB.out), by repeat (first | (with_reducible first | exact HK.out | apply KeepBut.set_ | apply keep_drewN | apply keep_drew | apply keep_alloc) | exact HK.out)⟩
                            · rw [if_neg c19] at H
                              exact absurd H (by simp)
                          · rw [if_neg c18] at H
                            exact absurd H (by simp)
                        · rw [if_neg c17] at H
                          exact absurd H (by simp)
                      · rw [if_neg c15] at H
                        exact absurd H (by simp)
                    · rw [if_neg c14] at H
                      exact absurd H (by simp)
                  · rw [if_neg c13] at H
                    exact absurd H (by simp)
                · rw [if_neg c11] at H
                  exact absurd H (by simp)
              · rw [if_neg c10] at H
                exact absurd H (by simp)
            · replace c8 := Bool.eq_false_iff.mpr c8
              subst c8
              have H1 : (some (R, x1001_2)) = some (r1, r2) := by rw [if_neg (show ¬ (false = true) by decide)] at H; exact H
              clear H
              have H := H1
              clear H1
              simp only [Option.some.injEq, Prod.mk.injEq] at H
              obtain ⟨rfl, rfl⟩ := H
              go_wp2
              go_ret
              exact ⟨by first | rfl | (simp [errW_none, errW_some] <;> rfl) | (simp [*, errW_none, errW_some] <;> rfl), by repeat (first | (with_reducible first | exact HI0.out | apply IsS102.alloc | apply IsS102.drewN | apply IsS102.drew | apply IsS102.set_1) | exact HI0.out), by repeat (first | (with_reducible first | exact HB.out | apply below_alloc | apply pw_below_drewN | apply below_drew1 | refine below_set ?_ (IsS102.ge HI0.out)) | exact HB.out), by repeat (first | (with_reducible first | exact HK.out | apply KeepBut.set_ | apply keep_drewN | apply keep_drew | apply keep_alloc) | exact HK.out)⟩

      -- NOT PRINTED: function 41 (spec_DrawRunEager)

theorem ss_edraw_mono {F G : ss_Pk} (hF : ∀ p n, LeO (F p n) (G p n)) (n : Int) : ∀ (q : Nat) (ws : List Int) (nt : Int) (hs : List Int) (out : ByteArray) (p : Int), LeO (ss_edraw F n q ws nt hs out p) (ss_edraw G n q ws nt hs out p)
  | 0, _, _, _, _, _ => LeO.refl _
  | q + 1, ws, nt, hs, out, p => by
    unfold ss_edraw
    refine LeO.ite (LeO.bind ?_ (fun m => LeO.ite (ss_edraw_mono hF n q _ _ _ _ _) (ss_edraw_mono hF n q _ _ _ _ _))) (LeO.refl _)
    unfold ss_etry
    exact LeO.bind (hF _ _) (fun a => LeO.ite (LeO.ite (LeO.refl _) (LeO.ite (LeO.refl _) (LeO.ite (LeO.bind (hF _ _) (fun _ => LeO.refl _)) (LeO.refl _)))) (LeO.refl _))
def spec_l20Eager.f (k : Nat) (s0_0 : List Int) (s0_1 : Int) (a1 : Int) : Option (ByteArray × Int) :=
  if 1 ≤ a1 ∧ a1 ≤ 8 then (ss_edraw (spec_l20Rd_pick.f k s0_0) a1 30 [] 1 (List.replicate a1.toNat (-1)) ⟨#[]⟩ s0_1).bind fun r => ss_lEnd.f k s0_0 r.2 r.1 else none
theorem spec_l20Eager.mono : ∀ a0 a1 a2 k, LeO (spec_l20Eager.f k a0 a1 a2) (spec_l20Eager.f (k + 1) a0 a1 a2) := by
  intro a0 a1 a2 k
  unfold spec_l20Eager.f
  exact LeO.ite (LeO.bind (ss_edraw_mono (fun p n => spec_l20Rd_pick.mono _ _ _ _) _ _ _ _ _ _ _) (fun r => ss_lEnd.mono _ _ _ _)) (LeO.refl _)
theorem spec_l20Eager.calls (k : Nat) (g : Nat) (s0_0 : List Int) (s0_1 : Int) (a1 : Int) (r1 : ByteArray) (r2 : Int) (w0 w : World) (hI : IsS102 w0 w g s0_0 s0_1) (hB : Below w0.heap.size w0 w) (h : spec_l20Eager.f k s0_0 s0_1 a1 = some (r1, r2)) :
    Calls Try.prog 91 #[.pointer (some ⟨g, 0, none⟩), .int .i64 a1] w fun e w' => e = .returned (.string r1) ∧ IsS102 w0 w' g s0_0 r2 ∧ Below w0.heap.size w0 w' ∧ KeepBut w w' g none := by
  unfold spec_l20Eager.f at h
  by_cases c : 1 ≤ a1 ∧ a1 ≤ 8
  · rw [if_pos c] at h
    obtain ⟨r, h1, h2⟩ := Option.bind_eq_some_iff.1 h
    obtain ⟨n, rfl⟩ : ∃ n : Nat, a1 = (n : Int) := ⟨a1.toNat, by omega⟩
    exact ss_l20Eager_any k g s0_0 s0_1 n r1 r2 w0 w hI hB (by omega) (by omega) r.1 r.2 h1 h2
  · rw [if_neg c] at h
    cases h
end

end Go.Proofs.Ytbbhdgpiocojaaa.LF
