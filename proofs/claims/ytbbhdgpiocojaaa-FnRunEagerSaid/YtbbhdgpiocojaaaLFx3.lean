/- Printed by a program of this session (wip/lp/lp.py) out of the translation: functions with the same answers as the Go code, and their contracts; no conditions beyond those that each theorem names. -/
import Derived.Test.YtbbhdgpiocojaaaLFx0
import Derived.Test.YtbbhdgpiocojaaaLFx2
namespace Go.Proofs.Ytbbhdgpiocojaaa.LF
open Go.RowKit Go.Proofs.YtbbhdgpiocojaaaV.PrintWords Go.Proofs.YtbbhdgpiocojaaaV.PrintLast Go.Proofs.YtbbhdgpiocojaaaV.PrintMore
attribute [local go_sem] max2_int min2_int max_two min_two max_three min_three max_four min_four   -- for this text's walks alone
set_option linter.unusedVariables false
set_option linter.unusedSimpArgs false

/-! ### impl_MovesFor: function 39, told by hand -/
section
set_option maxHeartbeats 8000000
set_option maxRecDepth 100000
/-- the move that the sm_rule tells -/
def sm_rule (l ws hs : List Int) : Int :=
  if ws.length < 2 then 83
  else if rd l (ws.getD (ws.length - 2) 0 - 1) = ws.getD (ws.length - 1) 0 ∧ sm_leftN l hs (ws.getD (ws.length - 2) 0) l.length = 0 then 76
  else if rd l (ws.getD (ws.length - 1) 0 - 1) = ws.getD (ws.length - 2) 0 ∧ sm_leftN l hs (ws.getD (ws.length - 1) 0) l.length = 0 then 82
  else 83
theorem sm_rule_two (l xs : List Int) (b u : Int) (hs : List Int) : sm_rule l (xs ++ [b, u]) hs = if rd l (b - 1) = u ∧ sm_leftN l hs b l.length = 0 then 76 else if rd l (u - 1) = b ∧ sm_leftN l hs u l.length = 0 then 82 else 83 := by
  have e1 : (xs ++ [b, u]).getD (xs.length + 1) 0 = u := by simp [List.getD_eq_getElem?_getD]
  have e2 : (xs ++ [b, u]).getD xs.length 0 = b := by simp [List.getD_eq_getElem?_getD]
  unfold sm_rule
  rw [if_neg (by simp)]
  simp only [List.length_append, List.length_cons, List.length_nil, Nat.zero_add, show xs.length + 2 - 1 = xs.length + 1 by omega, show xs.length + 2 - 2 = xs.length by omega, e1, e2]
/-- the moves of so many rounds -/
def sm_told (l : List Int) : Nat → List Int → Int → List Int → List Int
  | 0, _, _, _ => []
  | k + 1, ws, nx, hs => sm_rule l ws hs :: sm_told l k (sm_mv (sm_rule l ws hs) ws nx hs).2.1 (sm_mv (sm_rule l ws hs) ws nx hs).2.2.1 (sm_mv (sm_rule l ws hs) ws nx hs).2.2.2
theorem sm_rule_in (l ws hs : List Int) : sm_rule l ws hs = 83 ∨ sm_rule l ws hs = 76 ∨ sm_rule l ws hs = 82 := by
  unfold sm_rule
  split
  · exact .inl rfl
  · split
    · exact .inr (.inl rfl)
    · split
      · exact .inr (.inr rfl)
      · exact .inl rfl
theorem sm_code_one {m : Int} (h : m = 83 ∨ m = 76 ∨ m = 82) : Utf8.encode m = ⟨#[m.toNat.toUInt8]⟩ := by
  rcases h with rfl | rfl | rfl <;> rfl
theorem sm_code_size {m : Int} (h : m = 83 ∨ m = 76 ∨ m = 82) : (Utf8.encode m).size = 1 := by
  rw [sm_code_one h]
  rfl
theorem sm_MovesFor_yes (k : Nat) (A0 : Option Addr) (c0 : Nat) (l0 : List Int) (w : World) (hr0 : Kd.C (Kd.int .i64) w A0 l0.length l0) (hc0 : l0.length ≤ c0) (h : impl_FlatOk.f k l0 = some true) (hl1 : 1 ≤ l0.length) (hl2 : l0.length ≤ 8) (R : ByteArray) (hR : sm_addm ⟨#[]⟩ (sm_told l0 (2 * l0.length - 1) [] 0 (List.replicate l0.length 0)) = R) :
    Calls Try.prog 39 #[.slice A0 l0.length c0] w fun e w' => e = .returned (.tuple #[.string R, .bool true]) ∧ Below w.heap.size w w' := by
  have HR0 := Aside0.mk hr0
  have HC0 := Aside0.mk hc0
  have H := Aside0.mk h
  have HRR := Aside0.mk hR
  clear hr0 hc0 h hR
  have hm := print_make (P := Try.prog) 22 3 .i64 8 Try.underlying22 info3 (by omega) l0.length (by omega)
  go_enter Try.func39, Try.ntmps39
  go_upto_region 3 with (go_at_call 33; (with_reducible refine (impl_FlatOk.calls k _ _ l0 true _ HR0.out HC0.out H.out).mono ?_); rintro e w1 ⟨rfl, hb1⟩)
  go_region
  go_wp2
  have hS0 : sm_St ((w1.alloc (.cells (madeCells #[.int .i64 0] l0.length) 3)).alloc (.cells #[.slice none 0 0, .int .i64 0, .slice (some ⟨w1.heap.size, 0, none⟩) l0.length l0.length, .int .i64 0] 87)).drew w.heap.size (w1.heap.size + 1) (.slice none 0 0) [] 0 w1.heap.size (List.replicate l0.length 0) 0 := by
    have e1 : (w1.alloc (.cells (madeCells #[.int .i64 0] l0.length) 3)).heap.size = w1.heap.size + 1 := by simp
    have e2 := heap_alloc_new (w1.alloc (.cells (madeCells #[.int .i64 0] l0.length) 3)) (.cells #[.slice none 0 0, .int .i64 0, .slice (some ⟨w1.heap.size, 0, none⟩) l0.length l0.length, .int .i64 0] 87)
    rw [e1] at e2
    refine ⟨by rw [List.length_replicate]; exact e2, by have := hb1.size; omega, ?_, by simp [Value.ownBlock], by simp [Value.ownBlock], ?_, hb1.size, by omega⟩
    · exact World.ownsRow_nil _ _ _ _
    · exact (Below.heap_alloc _ _ _ (by simp)).trans (sm_made_blk w1 _)
  have hB0 : Below w.heap.size w ((w1.alloc (.cells (madeCells #[.int .i64 0] l0.length) 3)).alloc (.cells #[.slice none 0 0, .int .i64 0, .slice (some ⟨w1.heap.size, 0, none⟩) l0.length l0.length, .int .i64 0] 87)).drew :=
    ((hb1.alloc hb1.size _).alloc (by have := hb1.size; simp; omega) _).drew
  generalize ((w1.alloc (.cells (madeCells #[.int .i64 0] l0.length) 3)).alloc (.cells #[.slice none 0 0, .int .i64 0, .slice (some ⟨w1.heap.size, 0, none⟩) l0.length l0.length, .int .i64 0] 87)).drew = W0 at *
  have HS0 := Aside0.mk hS0
  have HB0 := Aside0.mk hB0
  have HB1 := Aside0.mk hb1.size
  clear hS0 hB0 hb1 hm
  generalize w1.heap.size = gh at *
  have hrep : (List.replicate l0.length (0 : Int)).length = l0.length := List.length_replicate
  generalize hL : List.replicate l0.length (0 : Int) = hs0 at *
  have HRP := Aside0.mk hrep
  clear hL hrep
  go_loopg [4, 22] (2 * l0.length - 1) (fun kq v4 v22 w' => ∃ (i : Nat) (out : ByteArray) (ws : List Int) (nx : Int) (hs : List Int) (vw : Value) (dp : Int), v4 = .string out ∧ v22 = .int .i64 (i : Int) ∧ Aside0 (i + kq = 2 * l0.length - 1 ∧ out.size = i) ∧ Aside0 (sm_addm out (sm_told l0 kq ws nx hs) = R) ∧ Aside0 (sm_St w' w.heap.size (gh + 1) vw ws nx gh hs dp) ∧ Aside0 (sm_Okm ws nx hs ∧ hs.length = l0.length ∧ 0 ≤ dp ∧ dp ≤ 100000) ∧ Aside0 (Below w.heap.size w w'))
  case atStart => exact ⟨0, _, [], 0, hs0, _, 0, rfl, rfl, ⟨by omega, rfl⟩, HRR, HS0, ⟨⟨by omega, by omega, by simp, by simp⟩, HRP.out, by omega, by omega⟩, HB0⟩
  case round =>
    obtain ⟨i, out, ws, nx, hs, vw, dp, rfl, rfl, HI, HA, HS, HK, HB⟩ := hrel
    have ik := HI.out.1
    cases gk with
    | zero =>
      have q1 : ¬ ((i : Int) < 2 * (l0.length : Int) - 1) := by omega
      have HE : R = out := HA.out.symm
      have HF := Aside0.mk HE
      clear HE ik
      go_wp2
      go_ret2
      exact ⟨by rw [HF.out]; rfl, HB.out⟩
    | succ k1 =>
      have q1 : (i : Int) < 2 * (l0.length : Int) - 1 := by omega
      have q2 : (0 : Int) ≤ (i : Int) := Int.natCast_nonneg _
      clear ik
      obtain ⟨A, c, rfl⟩ := sm_owns_form HS.out.own
      have k0 := (blk_cell HS.out.blk 0).trans rfl
      have q3 : ws.length ≤ 8 := by have := HK.out.1.len; have := HK.out.1.n1; have := HK.out.2.1; omega
      obtain ⟨n, hn⟩ : ∃ n, n = ws.length := ⟨_, rfl⟩
      rw [← hn] at k0 q3
      have HSn : Aside0 (sm_St wr w.heap.size (gh + 1) (.slice A n c) ws nx gh hs dp) := ⟨by rw [hn]; exact HS.out⟩
      have HN := Aside0.mk hn
      clear hn HS
      have HS := HSn
      clear HSn
      go_upto_if 30 with (fail)
      go_cut [6] (fun v6 wc => v6 = .int .u8 (sm_rule l0 ws hs) ∧ Drawn0 wr wc)
      case first =>
        by_cases h2 : n < 2
        · have e1 : decide (1 < (n : Int)) = false := decide_eq_false (by omega)
          rw [e1]
          have HRU := Aside0.mk (show sm_rule l0 ws hs = 83 by unfold sm_rule; rw [if_pos (by rw [← HN.out]; exact h2)])
          clear h2
          go_wp2
          go_meet
          case rel => exact ⟨by rw [HRU.out], Drawn0.refl _⟩
        · obtain ⟨xs, b, u, rfl⟩ := sm_two_of (ws := ws) (by rw [← HN.out]; exact h2)
          have hl : n = xs.length + 2 := by rw [HN.out]; simp
          have hl' : n - 2 = xs.length ∧ n - 1 = xs.length + 1 := by omega
          obtain ⟨gw, c', e, -, -⟩ := HS.out.own.form (by simp)
          injection e with ea en ec
          subst ea ec
          clear en
          have ho := HS.out.own
          have e1 : decide (1 < (n : Int)) = true := decide_eq_true (by omega)
          rw [e1]
          have c1 : wr.cell? ⟨gw, n - 2, none⟩ = some (.int .i64 b) := by
            rw [hl'.1]
            have := ho.cells (g := gw) rfl xs.length (.int .i64 b) (by simp [nums])
            simpa [add_plain] using this
          have c2 : wr.cell? ⟨gw, n - 1, none⟩ = some (.int .i64 u) := by
            rw [hl'.2]
            have := ho.cells (g := gw) rfl (xs.length + 1) (.int .i64 u) (by simp [nums])
            simpa [add_plain] using this
          clear ho hl hl'
          obtain ⟨b1, b2⟩ := HK.out.1.mem b (by simp)
          obtain ⟨u1, u2⟩ := HK.out.1.mem u (by simp)
          rw [HK.out.2.1] at b2 u2
          have HRT := Aside0.mk (sm_rule_two l0 xs b u hs)
          have hR := Kd.C_below HR0.out HB.out
          obtain ⟨ad, e2, hx0⟩ := Kd.at_int hR (b - 1) (by omega) (by omega)
          cases e2
          obtain ⟨ad', e2, hx1⟩ := Kd.at_int hR (u - 1) (by omega) (by omega)
          cases e2
          have hy0 : wr.cell? (ad.add (b.toNat - 1)) = some (.int .i64 (rd l0 (b - 1))) := by simpa using hx0
          have hy1 : wr.cell? (ad.add (u.toNat - 1)) = some (.int .i64 (rd l0 (u - 1))) := by simpa using hx1
          clear hx0 hx1
          have HRC := Aside0.mk hR
          clear hR
          by_cases c1 : rd l0 (b - 1) = u
          · have c1b := beq_iff_eq.mpr c1
            by_cases c2 : sm_leftN l0 hs b l0.length = 0
            · have c2b := beq_iff_eq.mpr c2
              have HF := Aside0.mk (HRT.out.trans (if_pos ⟨c1, c2⟩))
              clear c1 c2
              go_wp2
              go_quiet (fail)
              go_wp2_with (go_at_call 85; (with_reducible refine (sm_left_any _ _ _ _ _ nx gh hs dp (HS.out.drewN _) _ _ l0 (Kd.C_drewN HRC.out _) HC0.out HK.out.2.1.symm (by omega) _).mono ?_); rintro e w' ⟨rfl, rfl⟩)
              go_meet
              case rel => exact ⟨by rw [HF.out], by repeat (first | exact Drawn0.refl _ | apply Drawn0.step)⟩
            · have c2b := beq_eq_false_iff_ne.mpr c2
              by_cases d1 : rd l0 (u - 1) = b
              · have d1b := beq_iff_eq.mpr d1
                by_cases d2 : sm_leftN l0 hs u l0.length = 0
                · have d2b := beq_iff_eq.mpr d2
                  have HF := Aside0.mk (HRT.out.trans ((if_neg (fun q => c2 q.2)).trans (if_pos ⟨d1, d2⟩)))
                  clear c1 c2 d1 d2
                  go_wp2
                  go_quiet (fail)
                  go_wp2_with (go_at_call 85; (with_reducible refine (sm_left_any _ _ _ _ _ nx gh hs dp (HS.out.drewN _) _ _ l0 (Kd.C_drewN HRC.out _) HC0.out HK.out.2.1.symm (by omega) _).mono ?_); rintro e w' ⟨rfl, rfl⟩)
                  go_meet
                  case rel => exact ⟨by rw [HF.out], by repeat (first | exact Drawn0.refl _ | apply Drawn0.step)⟩
                · have d2b := beq_eq_false_iff_ne.mpr d2
                  have HF := Aside0.mk (HRT.out.trans ((if_neg (fun q => c2 q.2)).trans (if_neg (fun q => d2 q.2))))
                  clear c1 c2 d1 d2
                  go_wp2
                  go_quiet (fail)
                  go_wp2_with (go_at_call 85; (with_reducible refine (sm_left_any _ _ _ _ _ nx gh hs dp (HS.out.drewN _) _ _ l0 (Kd.C_drewN HRC.out _) HC0.out HK.out.2.1.symm (by omega) _).mono ?_); rintro e w' ⟨rfl, rfl⟩)
                  go_meet
                  case rel => exact ⟨by rw [HF.out], by repeat (first | exact Drawn0.refl _ | apply Drawn0.step)⟩
              · have d1b := beq_eq_false_iff_ne.mpr d1
                have HF := Aside0.mk (HRT.out.trans ((if_neg (fun q => c2 q.2)).trans (if_neg (fun q => d1 q.1))))
                clear c1 c2 d1
                go_wp2
                go_quiet (fail)
                go_wp2_with (go_at_call 85; (with_reducible refine (sm_left_any _ _ _ _ _ nx gh hs dp (HS.out.drewN _) _ _ l0 (Kd.C_drewN HRC.out _) HC0.out HK.out.2.1.symm (by omega) _).mono ?_); rintro e w' ⟨rfl, rfl⟩)
                go_meet
                case rel => exact ⟨by rw [HF.out], by repeat (first | exact Drawn0.refl _ | apply Drawn0.step)⟩
          · have c1b := beq_eq_false_iff_ne.mpr c1
            by_cases d1 : rd l0 (u - 1) = b
            · have d1b := beq_iff_eq.mpr d1
              by_cases d2 : sm_leftN l0 hs u l0.length = 0
              · have d2b := beq_iff_eq.mpr d2
                have HF := Aside0.mk (HRT.out.trans ((if_neg (fun q => c1 q.1)).trans (if_pos ⟨d1, d2⟩)))
                clear c1 d1 d2
                go_wp2
                go_quiet (fail)
                go_wp2_with (go_at_call 85; (with_reducible refine (sm_left_any _ _ _ _ _ nx gh hs dp (HS.out.drewN _) _ _ l0 (Kd.C_drewN HRC.out _) HC0.out HK.out.2.1.symm (by omega) _).mono ?_); rintro e w' ⟨rfl, rfl⟩)
                go_meet
                case rel => exact ⟨by rw [HF.out], by repeat (first | exact Drawn0.refl _ | apply Drawn0.step)⟩
              · have d2b := beq_eq_false_iff_ne.mpr d2
                have HF := Aside0.mk (HRT.out.trans ((if_neg (fun q => c1 q.1)).trans (if_neg (fun q => d2 q.2))))
                clear c1 d1 d2
                go_wp2
                go_quiet (fail)
                go_wp2_with (go_at_call 85; (with_reducible refine (sm_left_any _ _ _ _ _ nx gh hs dp (HS.out.drewN _) _ _ l0 (Kd.C_drewN HRC.out _) HC0.out HK.out.2.1.symm (by omega) _).mono ?_); rintro e w' ⟨rfl, rfl⟩)
                go_meet
                case rel => exact ⟨by rw [HF.out], by repeat (first | exact Drawn0.refl _ | apply Drawn0.step)⟩
            · have d1b := beq_eq_false_iff_ne.mpr d1
              have HF := Aside0.mk (HRT.out.trans ((if_neg (fun q => c1 q.1)).trans (if_neg (fun q => d1 q.1))))
              clear c1 d1
              go_wp2
              go_quiet (fail)
              go_wp2_with (go_at_call 85; (with_reducible refine (sm_left_any _ _ _ _ _ nx gh hs dp (HS.out.drewN _) _ _ l0 (Kd.C_drewN HRC.out _) HC0.out HK.out.2.1.symm (by omega) _).mono ?_); rintro e w' ⟨rfl, rfl⟩)
              go_meet
              case rel => exact ⟨by rw [HF.out], by repeat (first | exact Drawn0.refl _ | apply Drawn0.step)⟩
      case rest =>
        obtain ⟨rfl, ⟨nd, rfl⟩⟩ := hcut
        clear k0
        have HM := Aside0.mk (sm_okm_mv (sm_rule l0 ws hs) HK.out.1)
        obtain ⟨m, hm⟩ : ∃ m, m = sm_rule l0 ws hs := ⟨_, rfl⟩
        rw [← hm] at HM ⊢
        have hsz : ¬ 9223372036854775807 < out.size + (Utf8.encode m).size := by rw [sm_code_size (hm ▸ sm_rule_in l0 ws hs)]; have := HI.out; omega
        have HE := Aside0.mk hm
        clear hm
        go_wp2_with (go_at_call 86; (with_reducible refine (sm_move_any _ _ _ _ ws nx gh hs dp (HS.out.drewN _) HK.out.1 (by rw [HK.out.2.1]; omega) HK.out.2.2.1 HK.out.2.2.2 m).mono ?_); rintro e w2 ⟨v2, d2, rfl, s1, s2, s3, s4⟩)
        go_roundg k1
        case measure => omega
        case rel =>
          refine ⟨i + 1, _, _, _, _, v2, d2, rfl, by go_num, ⟨by have := HI.out.1; omega, ?_⟩, ⟨?_⟩, ⟨s1⟩, ⟨HM.out.1, HM.out.2.trans HK.out.2.1, s2, s3⟩, ⟨(pw_below_drewN HB.out nd).trans s4⟩⟩
          · rw [ByteArray.size_append, sm_code_size (HE.out ▸ sm_rule_in l0 ws hs), HI.out.2]
          · have := HA.out
            rw [← this, HE.out]
            rfl

def impl_MovesFor.f (k : Nat) (l : List Int) : Option (ByteArray × Bool) := (impl_FlatOk.f k l).bind fun t => if t = true then (if 1 ≤ l.length ∧ l.length ≤ 8 then some (sm_addm ⟨#[]⟩ (sm_told l (2 * l.length - 1) [] 0 (List.replicate l.length 0)), true) else none) else some (⟨#[]⟩, false)
theorem impl_MovesFor.mono : ∀ a k, LeO (impl_MovesFor.f k a) (impl_MovesFor.f (k + 1) a) := by
  intro a k
  unfold impl_MovesFor.f
  exact LeO.bind (impl_FlatOk.mono _ _) (fun _ => LeO.refl _)
theorem impl_MovesFor.calls (k : Nat) (A0 : Option Addr) (c0 : Nat) (l0 : List Int) (r1 : ByteArray) (r2 : Bool) (w : World) (hr0 : Kd.C (Kd.int .i64) w A0 l0.length l0) (hc0 : l0.length ≤ c0) (h : impl_MovesFor.f k l0 = some (r1, r2)) :
    Calls Try.prog 39 #[.slice A0 l0.length c0] w fun e w' => e = .returned (.tuple #[.string r1, .bool r2]) ∧ Below w.heap.size w w' := by
  unfold impl_MovesFor.f at h
  obtain ⟨t, h1, h⟩ := Option.bind_eq_some_iff.1 h
  by_cases c : t = true
  · subst c
    rw [if_pos rfl] at h
    by_cases c2 : 1 ≤ l0.length ∧ l0.length ≤ 8
    · rw [if_pos c2] at h
      simp only [Option.some.injEq, Prod.mk.injEq] at h
      obtain ⟨h2, rfl⟩ := h
      exact sm_MovesFor_yes k A0 c0 l0 w hr0 hc0 h1 c2.1 c2.2 r1 h2
    · rw [if_neg c2] at h
      cases h
  · rw [if_neg c] at h
    simp only [Option.some.injEq, Prod.mk.injEq] at h
    obtain ⟨rfl, rfl⟩ := h
    obtain rfl : t = false := by simpa using c
    have HR0 := Aside0.mk hr0
    have HC0 := Aside0.mk hc0
    have H := Aside0.mk h1
    clear hr0 hc0 h1 c
    go_enter Try.func39, Try.ntmps39
    go_wp2_with (go_at_call 33; (with_reducible refine (impl_FlatOk.calls k _ _ l0 false _ HR0.out HC0.out H.out).mono ?_); rintro e w1 ⟨rfl, hb1⟩)
    go_ret2
    exact ⟨rfl, hb1⟩
end

/-! ### impl_RunStack: function 40, told by hand -/
section
set_option maxHeartbeats 8000000
set_option maxRecDepth 100000
def sm_steps : List Int → List Int → Int → List Int → Option (List Int × Int × List Int)
  | [], ws, nx, hs => some (ws, nx, hs)
  | m :: ms, ws, nx, hs => if (sm_mv m ws nx hs).1 = true then sm_steps ms (sm_mv m ws nx hs).2.1 (sm_mv m ws nx hs).2.2.1 (sm_mv m ws nx hs).2.2.2 else none
/-- the heads that moves tell, if they do -/
def sm_ranL (n : Nat) (s : ByteArray) : Option (List Int) :=
  (sm_steps (bytesOf s) [] 0 (List.replicate n 0)).bind fun r => if r.2.1 < (n : Int) ∨ r.1.length ≠ 1 then none else some r.2.2
def sm_RanP (w : World) (R : Option (List Int)) (n : Nat) (e : Ending) (w' : World) : Prop :=
  Below w.heap.size w w' ∧ match R with
  | none => e = .returned (.pointer none)
  | some hs => ∃ g gh vw ws nx dp, e = .returned (.pointer (some ⟨g, 0, none⟩)) ∧ hs.length = n ∧ sm_St w' w.heap.size g vw ws nx gh hs dp
theorem sm_ran_no (n : Int) (s : ByteArray) (w : World) (h : n < 1 ∨ 8 < n) : Calls Try.prog 87 #[.int .i64 n, .string s] w fun e w' => e = .returned (.pointer none) ∧ w' = w := by
  by_cases h1 : n < 1
  · have e1 : decide (n < 1) = true := decide_eq_true h1
    clear h h1
    go_enter Try.func87, Try.ntmps87
    go_wp2
    go_ret
    exact ⟨rfl, rfl⟩
  · have e1 : decide (n < 1) = false := decide_eq_false h1
    have e2 : decide (8 < n) = true := decide_eq_true (h.resolve_left h1)
    clear h h1
    go_enter Try.func87, Try.ntmps87
    go_wp2
    go_ret
    exact ⟨rfl, rfl⟩
theorem sm_steps_drop {s : ByteArray} {i : Nat} (h : i < s.size) (ws : List Int) (nx : Int) (hs : List Int) : sm_steps ((bytesOf s).drop i) ws nx hs = if (sm_mv (bt s i) ws nx hs).1 = true then sm_steps ((bytesOf s).drop (i + 1)) (sm_mv (bt s i) ws nx hs).2.1 (sm_mv (bt s i) ws nx hs).2.2.1 (sm_mv (bt s i) ws nx hs).2.2.2 else none := by
  have hl : i < (bytesOf s).length := by rw [bytesOf_length]; exact h
  rw [List.drop_eq_getElem_cons hl]
  have e : (bytesOf s)[i] = bt s i := by
    rw [← rd_bytesOf]
    simp [rd, List.getD_eq_getElem?_getD, List.getElem?_eq_getElem hl]
  rw [e]
  rfl
theorem sm_ran_yes (n : Nat) (s : ByteArray) (w : World) (h1 : 1 ≤ n) (h8 : n ≤ 8) (hs1 : s.size ≤ 1000000000) : Calls Try.prog 87 #[.int .i64 (n : Int), .string s] w (sm_RanP w (sm_ranL n s) n) := by
  have hm := print_make (P := Try.prog) 22 3 .i64 8 Try.underlying22 info3 (by omega) n (by omega)
  obtain ⟨R, hR⟩ : ∃ R, R = sm_ranL n s := ⟨_, rfl⟩
  rw [← hR]
  have HRR := Aside0.mk hR
  clear hR
  have e1 : decide ((n : Int) < 1) = false := decide_eq_false (by omega)
  have e2 : decide (8 < (n : Int)) = false := decide_eq_false (by omega)
  go_enter Try.func87, Try.ntmps87
  go_wp2
  clear e1 e2
  have hS0 : sm_St ((w.alloc (.cells (madeCells #[.int .i64 0] n) 3)).alloc (.cells #[.slice none 0 0, .int .i64 0, .slice (some ⟨w.heap.size, 0, none⟩) n n, .int .i64 0] 87)) w.heap.size (w.heap.size + 1) (.slice none 0 0) [] 0 w.heap.size (List.replicate n 0) 0 := by
    have e1 : (w.alloc (.cells (madeCells #[.int .i64 0] n) 3)).heap.size = w.heap.size + 1 := by simp
    have e2 := heap_alloc_new (w.alloc (.cells (madeCells #[.int .i64 0] n) 3)) (.cells #[.slice none 0 0, .int .i64 0, .slice (some ⟨w.heap.size, 0, none⟩) n n, .int .i64 0] 87)
    rw [e1] at e2
    refine ⟨by rw [List.length_replicate]; exact e2, by omega, World.ownsRow_nil _ _ _ _, by simp [Value.ownBlock], by simp [Value.ownBlock], ?_, Nat.le_refl _, by omega⟩
    exact (Below.heap_alloc _ _ _ (by simp)).trans (sm_made_blk w _)
  have hB0 : Below w.heap.size w ((w.alloc (.cells (madeCells #[.int .i64 0] n) 3)).alloc (.cells #[.slice none 0 0, .int .i64 0, .slice (some ⟨w.heap.size, 0, none⟩) n n, .int .i64 0] 87)) :=
    ((Below.refl _ _).alloc (Nat.le_refl _) _).alloc (by simp) _
  generalize (w.alloc (.cells (madeCells #[.int .i64 0] n) 3)).alloc (.cells #[.slice none 0 0, .int .i64 0, .slice (some ⟨w.heap.size, 0, none⟩) n n, .int .i64 0] 87) = W0 at *
  have HS0 := Aside0.mk hS0
  have HB0 := Aside0.mk hB0
  clear hS0 hB0 hm
  have HRP := Aside0.mk (List.length_replicate (n := n) (a := (0 : Int)))
  have HR0 : Aside0 (R = (sm_steps ((bytesOf s).drop 0) [] 0 (List.replicate n 0)).bind fun r => if r.2.1 < (n : Int) ∨ r.1.length ≠ 1 then none else some r.2.2) := ⟨HRR.out⟩
  generalize List.replicate n (0 : Int) = hs0 at *
  have HSZ := Aside0.mk (bytesOf_length s)
  go_loopg [19] s.size (fun kq v19 w' => ∃ (i : Nat) (ws : List Int) (nx : Int) (hs : List Int) (vw : Value) (dp : Int), v19 = .int .i64 (i : Int) ∧ Aside0 (i + kq = s.size) ∧ Aside0 (R = (sm_steps ((bytesOf s).drop i) ws nx hs).bind fun r => if r.2.1 < (n : Int) ∨ r.1.length ≠ 1 then none else some r.2.2) ∧ Aside0 (sm_St w' w.heap.size (w.heap.size + 1) vw ws nx w.heap.size hs dp) ∧ Aside0 (sm_Okm ws nx hs ∧ hs.length = n ∧ 0 ≤ dp ∧ dp ≤ 100000) ∧ Aside0 (Below w.heap.size w w'))
  case atStart => exact ⟨0, [], 0, hs0, _, 0, rfl, ⟨by omega⟩, HR0, HS0, ⟨⟨by omega, by omega, by simp, by simp⟩, HRP.out, by omega, by omega⟩, HB0⟩
  case round =>
    obtain ⟨i, ws, nx, hs, vw, dp, rfl, HI, HA, HS, HK, HB⟩ := hrel
    have ik := HI.out
    obtain ⟨A, c, rfl⟩ := sm_owns_form HS.out.own
    cases gk with
    | zero =>
      have q1 : ¬ ((i : Int) < (s.size : Int)) := by omega
      have HF : Aside0 (R = if nx < (n : Int) ∨ ws.length ≠ 1 then none else some hs) := ⟨by
        rw [HA.out, List.drop_eq_nil_of_le (by rw [HSZ.out]; omega)]
        rfl⟩
      clear ik
      have k0 : wr.cell? ⟨w.heap.size + 1, 0, none⟩ = some (.slice A ws.length c) := (blk_cell HS.out.blk 0).trans rfl
      have k1 : wr.cell? ⟨w.heap.size + 1, 1, none⟩ = some (.int .i64 nx) := (blk_cell HS.out.blk 1).trans rfl
      by_cases c1 : nx < (n : Int)
      · have e1 : decide (nx < (n : Int)) = true := decide_eq_true c1
        have HG := Aside0.mk (HF.out.trans (if_pos (.inl c1)))
        clear c1
        go_wp2
        go_ret
        exact ⟨HB.out, by rw [HG.out]; rfl⟩
      · have e1 : decide (nx < (n : Int)) = false := decide_eq_false c1
        by_cases c2 : ws.length = 1
        · have HG := Aside0.mk (HF.out.trans (if_neg (fun q => q.elim c1 (fun q => q c2))))
          have HS1 : Aside0 (sm_St wr w.heap.size (w.heap.size + 1) (.slice A 1 c) ws nx w.heap.size hs dp) := ⟨by have := HS.out; rw [c2] at this; exact this⟩
          rw [c2] at k0
          clear c1 c2 HS
          go_wp2
          go_ret
          exact ⟨HB.out, by rw [HG.out]; exact ⟨_, _, _, _, _, _, rfl, HK.out.2.1, HS1.out⟩⟩
        · have e2 : ((ws.length : Int) != 1) = true := bne_iff_ne.mpr (by omega)
          have e3 : (ws.length != 1) = true := bne_iff_ne.mpr (by omega)
          have HG := Aside0.mk (HF.out.trans (if_pos (.inr c2)))
          clear c1 c2
          go_wp2
          go_ret
          exact ⟨HB.out, by rw [HG.out]; rfl⟩
    | succ k1 =>
      have q0 : i < s.size := by omega
      have q1 : (i : Int) < (s.size : Int) := by omega
      have q2 : (0 : Int) ≤ (i : Int) := Int.natCast_nonneg _
      have hb : ((s[i]'q0).toNat : Int) = bt s i := bt_at s i q0
      have HM := Aside0.mk (sm_okm_mv (bt s i) HK.out.1)
      have HN := Aside0.mk (HA.out.trans (by rw [sm_steps_drop q0]))
      clear ik
      by_cases c1 : (sm_mv (bt s i) ws nx hs).1 = true
      · have HG := Aside0.mk (HN.out.trans (by rw [if_pos c1]))
        go_wp2_with (go_at_call 86; (with_reducible refine (sm_move_any _ _ _ _ ws nx _ hs dp HS.out HK.out.1 (by rw [HK.out.2.1]; omega) HK.out.2.2.1 HK.out.2.2.2 _).mono ?_); rintro e w2 ⟨v2, d2, rfl, s1, s2, s3, s4⟩)
        go_roundg k1
        case measure => omega
        case rel => exact ⟨i + 1, _, _, _, v2, d2, by go_num, ⟨by have := HI.out; omega⟩, HG, ⟨s1⟩, ⟨HM.out.1, HM.out.2.trans HK.out.2.1, s2, s3⟩, ⟨HB.out.trans s4⟩⟩
      · have HG := Aside0.mk (HN.out.trans (by rw [if_neg c1]))
        have c2 : (sm_mv (bt s i) ws nx hs).1 = false := by simpa using c1
        clear c1
        go_wp2_with (go_at_call 86; (with_reducible refine (sm_move_any _ _ _ _ ws nx _ hs dp HS.out HK.out.1 (by rw [HK.out.2.1]; omega) HK.out.2.2.1 HK.out.2.2.2 _).mono ?_); rintro e w2 ⟨v2, d2, rfl, s1, s2, s3, s4⟩)
        go_ret
        exact ⟨HB.out.trans s4, by rw [HG.out]; rfl⟩

/-- what the moves tell: heads, and whether they do -/
def sm_runM (n : Int) (s : ByteArray) : List Int × Bool :=
  if n < 1 ∨ 8 < n then ([], false) else match sm_ranL n.toNat s with | none => ([], false) | some hs => (hs, true)
theorem sm_RunStack_any (n : Int) (s : ByteArray) (w : World) (hs1 : s.size ≤ 1000000000) : Calls Try.prog 40 #[.int .i64 n, .string s] w (sm_RunP w (sm_runM n s).1 (sm_runM n s).2) := by
  by_cases h : n < 1 ∨ 8 < n
  · have HE : sm_runM n s = ([], false) := by unfold sm_runM; rw [if_pos h]
    rw [HE]
    clear HE
    go_enter Try.func40, Try.ntmps40
    go_wp2_with (go_at_call 87; (with_reducible refine (sm_ran_no n s _ h).mono ?_); rintro e w' ⟨rfl, rfl⟩)
    go_ret2
    exact ⟨_, rfl, Kd.R_nil _ _ _ _ _, Below.refl _ _⟩
  · obtain ⟨m, rfl⟩ : ∃ m : Nat, n = (m : Int) := ⟨n.toNat, by omega⟩
    have h1 : 1 ≤ m := by omega
    have h8 : m ≤ 8 := by omega
    have hr := sm_ran_yes m s w h1 h8 hs1
    cases hR : sm_ranL m s with
    | none =>
      have HE : sm_runM m s = ([], false) := by unfold sm_runM; rw [if_neg h, Int.toNat_natCast, hR]
      rw [HE]
      rw [hR] at hr
      clear HE hR h
      go_enter Try.func40, Try.ntmps40
      go_wp2_with (go_at_call 87; (with_reducible refine hr.mono ?_); rintro e w' ⟨hb, he⟩; obtain rfl : e = .returned (.pointer none) := he)
      go_ret2
      exact ⟨_, rfl, Kd.R_nil _ _ _ _ _, hb⟩
    | some hs =>
      have HE : sm_runM m s = (hs, true) := by unfold sm_runM; rw [if_neg h, Int.toNat_natCast, hR]
      rw [HE]
      rw [hR] at hr
      clear HE hR h
      go_enter Try.func40, Try.ntmps40
      go_wp2_with (go_at_call 87; (with_reducible refine hr.mono ?_); rintro e w' ⟨hb, he⟩; obtain ⟨g, gh, vw, ws, nx, dp, rfl, hl, hS⟩ := he; have k2 : w'.cell? ⟨g, 2, none⟩ = some (.slice (some ⟨gh, 0, none⟩) hs.length hs.length) := (blk_cell hS.blk 2).trans rfl)
      go_ret2
      exact ⟨.slice (some ⟨gh, 0, none⟩) m m, rfl, by have := hS.row (by omega); rw [hl] at this; exact this, hb⟩

def impl_RunStack.f (a0 : Int) (a1 : ByteArray) : Option (List Int × Bool) := if a1.size ≤ 1000000000 then some (sm_runM a0 a1) else none
theorem impl_RunStack.calls (a0 : Int) (a1 : ByteArray) (r1 : List Int) (r2 : Bool) (w : World) (h : impl_RunStack.f a0 a1 = some (r1, r2)) :
    Calls Try.prog 40 #[.int .i64 a0, .string a1] w fun e w' => ∃ v0_ : Value, e = .returned (.tuple #[v0_, .bool r2]) ∧ Kd.R (Kd.int .i64) 3 w' w.heap.size (fun _ => True) v0_ r1 ∧ Below w.heap.size w w' := by
  unfold impl_RunStack.f at h
  by_cases c : a1.size ≤ 1000000000
  · rw [if_pos c] at h
    have h2 : sm_runM a0 a1 = (r1, r2) := Option.some.inj h
    have := sm_RunStack_any a0 a1 w c
    rw [h2] at this
    exact this
  · rw [if_neg c] at h
    cases h
end

/-- A state of type 102 at block g of W; what its slices lead to came in by w0. -/
def IsS102 (w0 W : World) (g : Nat) (f0 : List Int) (f1 : Int) : Prop := ∃ A0 c0, W.heap[g]? = some (.cells #[.slice A0 f0.length c0, .int .i64 f1] 102 (0, 0)) ∧ w0.heap.size ≤ g ∧ Kd.C (Kd.int .u8) w0 A0 f0.length f0
theorem IsS102.grown {w0 W : World} {g : Nat} {f0 : List Int} {f1 : Int} {W1 : World} {row : Option Nat} (h : IsS102 w0 W g f0 f1) (hw : W.grownBy W1 row) (hne : some g ≠ row) : IsS102 w0 W1 g f0 f1 := by
  obtain ⟨A0, c0, hb, hg, hr0⟩ := h
  exact ⟨A0, c0, blk_grown hb hw hne, hg, hr0⟩
theorem IsS102.own_neN {w0 W : World} {g : Nat} {f0 : List Int} {f1 : Int} {α : Type} {d : Kd α} {e : Nat} {base : Nat} {ok : Nat → Prop} {v : Value} {xs : List α} (h : IsS102 w0 W g f0 f1) (ho : Kd.N d e W base ok v xs) (ht : e ≠ 102) : some g ≠ v.ownBlock := by
  obtain ⟨A0, c0, hb, hg, hr0⟩ := h
  exact Kd.N_ne ho hb ht
theorem IsS102.fresh {w0 W : World} {g : Nat} {f0 : List Int} {f1 : Int} (h : IsS102 w0 W g f0 f1) : ∀ k, W.heap.size ≤ k → k ≠ g := by
  obtain ⟨A0, c0, hb, hg, hr0⟩ := h
  exact Kd.freshB hb
theorem IsS102.kept {w0 W : World} {g : Nat} {f0 : List Int} {f1 : Int} {W1 : World} {S : Nat → Prop} (h : IsS102 w0 W g f0 f1) (hk : Kept W W1 S) (hne : ¬ S g) : IsS102 w0 W1 g f0 f1 := by
  obtain ⟨A0, c0, hb, hg, hr0⟩ := h
  exact ⟨A0, c0, blk_kept hb hk hne, hg, hr0⟩
theorem IsS102.below {w0 W : World} {g : Nat} {f0 : List Int} {f1 : Int} {W1 : World} (h : IsS102 w0 W g f0 f1) (hw : Below W.heap.size W W1) : IsS102 w0 W1 g f0 f1 := h.grown (grown_of_below hw none) (by simp)
theorem IsS102.alloc {w0 W : World} {g : Nat} {f0 : List Int} {f1 : Int} (h : IsS102 w0 W g f0 f1) (o : Obj) : IsS102 w0 (W.alloc o) g f0 f1 := h.below (below_alloc (Below.refl _ _) o)
theorem IsS102.drewN {w0 W : World} {g : Nat} {f0 : List Int} {f1 : Int} (h : IsS102 w0 W g f0 f1) (m : Nat) : IsS102 w0 (W.drewN m) g f0 f1 := h
theorem IsS102.drew {w0 W : World} {g : Nat} {f0 : List Int} {f1 : Int} (h : IsS102 w0 W g f0 f1) : IsS102 w0 W.drew g f0 f1 := h
theorem IsS102.at_ {w0 W : World} {g : Nat} {f0 : List Int} {f1 : Int} {w' : World} {m : Nat} (hq : W.drewN m = w') (h : IsS102 w0 W g f0 f1) : IsS102 w0 w' g f0 f1 := by subst hq; exact IsS102.drewN h m
theorem IsS102.apart {w0 W : World} {g : Nat} {f0 : List Int} {f1 : Int} {α : Type} {d : Kd α} {e : Nat} {base : Nat} {ok : Nat → Prop} {v : Value} {xs : List α} (h : IsS102 w0 W g f0 f1) (ho : d.R e W base ok v xs) (ht : ∀ q, q ∈ e :: d.E → q ≠ 102) : d.R e W base (fun k => ok k ∧ k ≠ g) v xs := by
  obtain ⟨A0, c0, hb, hg, hr0⟩ := h
  exact Kd.R_types ho hb ht
theorem IsS102.own_ne {w0 W : World} {g : Nat} {f0 : List Int} {f1 : Int} {α : Type} {d : Kd α} {e : Nat} {base : Nat} {ok : Nat → Prop} {v : Value} {xs : List α} (h : IsS102 w0 W g f0 f1) (ho : d.R e W base ok v xs) (ht : e ≠ 102) : some g ≠ v.ownBlock := by
  obtain ⟨A0, c0, hb, hg, hr0⟩ := h
  exact Kd.R_ne ho hb ht
theorem IsS102.apartQ {w0 W : World} {g : Nat} {f0 : List Int} {f1 : Int} {α : Type} {d : Kd α} {e : Nat} {base : Nat} {ok : Nat → Prop} {v : Value} {xs : List α} (h : IsS102 w0 W g f0 f1) (ho : d.Q e W base ok v xs) (ht : ∀ q, q ∈ e :: d.E → q ≠ 102) : d.Q e W base (fun k => ok k ∧ k ≠ g) v xs := by
  obtain ⟨A0, c0, hb, hg, hr0⟩ := h
  exact Kd.Q_types ho hb ht
theorem IsS102.own_neQ {w0 W : World} {g : Nat} {f0 : List Int} {f1 : Int} {α : Type} {d : Kd α} {e : Nat} {base : Nat} {ok : Nat → Prop} {v : Value} {xs : List α} (h : IsS102 w0 W g f0 f1) (ho : d.Q e W base ok v xs) (ht : e ≠ 102) : some g ≠ v.ownBlock := by
  obtain ⟨A0, c0, hb, hg, hr0⟩ := h
  exact Kd.Q_ne ho hb ht
theorem IsS102.apartS {w0 W : World} {g : Nat} {f0 : List Int} {f1 : Int} {α : Type} {d : Kd α} {e : Nat} {base : Nat} {ok : Nat → Prop} {v : Value} {xs : List α} (h : IsS102 w0 W g f0 f1) (ho : d.S e W base ok v xs) (ht : ∀ q, q ∈ e :: d.E → q ≠ 102) : d.S e W base (fun k => ok k ∧ k ≠ g) v xs := by
  obtain ⟨A0, c0, hb, hg, hr0⟩ := h
  exact Kd.S_types ho hb ht
theorem IsS102.own_neS {w0 W : World} {g : Nat} {f0 : List Int} {f1 : Int} {α : Type} {d : Kd α} {e : Nat} {base : Nat} {ok : Nat → Prop} {v : Value} {xs : List α} (h : IsS102 w0 W g f0 f1) (ho : d.S e W base ok v xs) (ht : e ≠ 102) : some g ≠ v.ownBlock := by
  obtain ⟨A0, c0, hb, hg, hr0⟩ := h
  exact Kd.S_ne ho hb ht
theorem IsS102.lt {w0 W : World} {g : Nat} {f0 : List Int} {f1 : Int} (h : IsS102 w0 W g f0 f1) : g < W.heap.size := by
  obtain ⟨A0, c0, hb, hg, hr0⟩ := h
  exact blk_lt hb
theorem IsS102.ge {w0 W : World} {g : Nat} {f0 : List Int} {f1 : Int} (h : IsS102 w0 W g f0 f1) : w0.heap.size ≤ g := by
  obtain ⟨A0, c0, hb, hg, hr0⟩ := h
  exact hg
theorem IsS102.ne_blk {w0 W : World} {g : Nat} {f0 : List Int} {f1 : Int} {a : Nat} {cs : Array Value} {t : TypeId} {fr : Nat × Nat} (h : IsS102 w0 W g f0 f1) (hb2 : W.heap[a]? = some (.cells cs t fr)) (ht : t ≠ 102) : g ≠ a := by
  obtain ⟨A0, c0, hb, hg, hr0⟩ := h
  rintro rfl
  rw [hb] at hb2
  injection hb2 with hb2
  injection hb2 with _ ht2
  exact ht ht2.symm
theorem IsS102.far {w0 W : World} {g : Nat} {f0 : List Int} {f1 : Int} {p : Addr} (h : IsS102 w0 W g f0 f1) (hne : g ≠ p.block) (u : Value) : IsS102 w0 (W.setCell p u) g f0 f1 := by
  obtain ⟨A0, c0, hb, hg, hr0⟩ := h
  exact ⟨A0, c0, blk_far hb hne u, hg, hr0⟩
theorem cellS102_0 {W : World} {g : Nat} {A0 : Option Addr} {c0 : Nat} {f0 : List Int} {f1 : Int} (h : W.heap[g]? = some (.cells #[.slice A0 f0.length c0, .int .i64 f1] 102 (0, 0))) : W.cell? ⟨g, 0, none⟩ = some (.slice A0 f0.length c0) := (blk_cell h 0).trans rfl
theorem cellS102_1 {W : World} {g : Nat} {A0 : Option Addr} {c0 : Nat} {f0 : List Int} {f1 : Int} (h : W.heap[g]? = some (.cells #[.slice A0 f0.length c0, .int .i64 f1] 102 (0, 0))) : W.cell? ⟨g, 1, none⟩ = some (.int .i64 f1) := (blk_cell h 1).trans rfl
theorem IsS102.set_1 {w0 W : World} {g : Nat} {f0 : List Int} {f1 : Int} (h : IsS102 w0 W g f0 f1) (x : Int) : IsS102 w0 (W.setCell ⟨g, 1, none⟩ (.int .i64 x)) g f0 x := by
  obtain ⟨A0, c0, hb, hg, hr0⟩ := h
  exact ⟨A0, c0, by simpa using blk_set hb 1 (.int .i64 x), hg, hr0⟩
theorem IsS102.new (w0 W : World) (A0 : Option Addr) (c0 : Nat) (f0 : List Int) (f1 : Int) (hB : Below w0.heap.size w0 W) (hr0 : Kd.C (Kd.int .u8) w0 A0 f0.length f0) : IsS102 w0 (W.alloc (.cells #[.slice A0 f0.length c0, .int .i64 f1] 102)) W.heap.size f0 f1 := ⟨A0, c0, by simpa using heap_alloc_new W _, hB.size, hr0⟩

/-! ### spec_l20Open: function 70 -/
def spec_l20Open.f (l0 : List Int) : Option (List Int × Int) := if (l0.length : Int) > 2000 then (if 2000 ≤ (l0.length : Int) then (some (l0.take 2000, 0)) else (none)) else (some (l0, 0))
set_option maxHeartbeats 8000000 in
set_option maxRecDepth 100000 in
theorem spec_l20Open.calls (A0 : Option Addr) (c0 : Nat) (l0 : List Int) (r1 : List Int) (r2 : Int) (w0 w : World) (hB : Below w0.heap.size w0 w) (hr0 : Kd.C (Kd.int .u8) w0 A0 l0.length l0) (hc0 : l0.length ≤ c0) (h : spec_l20Open.f l0 = some (r1, r2)) :
    Calls Try.prog 70 #[.slice A0 l0.length c0] w fun e w' => ∃ g_ : Nat, e = .returned (.pointer (some ⟨g_, 0, none⟩)) ∧ IsS102 w0 w' g_ r1 r2 ∧ Below w0.heap.size w0 w' ∧ Below w.heap.size w w' := by
  have hu102 := Try.underlying102
  have HR0 := Aside0.mk hr0
  have HC0 := Aside0.mk hc0
  clear hr0 hc0
  have HBW := Aside0.mk (Below.refl w.heap.size w)
  have HW0 := Aside0.mk hB.size
  have HB := Aside0.mk hB
  clear hB
  have H : (if (l0.length : Int) > 2000 then (if 2000 ≤ (l0.length : Int) then (some (l0.take 2000, 0)) else (none)) else (some (l0, 0))) = some (r1, r2) := h
  clear h
  by_cases c2 : (l0.length : Int) > 2000
  · rw [if_pos c2] at H
    have c2b0 : decide (2000 < (l0.length : Int)) = true := decide_eq_true c2
    have c2b1 : decide (2000 < l0.length) = true := decide_eq_true (by omega)
    clear c2
    by_cases c3 : 2000 ≤ (l0.length : Int)
    · rw [if_pos c3] at H
      have c3b0 := eq_true c3
      have c3b1 : decide (2000 ≤ (l0.length : Int)) = true := decide_eq_true c3
      clear c3
      simp only [Option.some.injEq, Prod.mk.injEq] at H
      obtain ⟨rfl, rfl⟩ := H
      obtain ⟨i04, hi04, _, hsz4, _⟩ := info_parts info5
      obtain ⟨hcut4, hA4, hC4⟩ := print_take_of (P := Try.prog) (Value.int .u8) 0 47 5 .i64 Try.underlying47 hi04 hsz4 A0 c0 l0 2000 (by omega) (of_decide_eq_true (by first | (with_reducible assumption) | assumption)) HC0.out
      have HR118 := Aside0.mk (Kd.C_of_reads (h1 := fun _ => rfl) (hA4 _ (Kd.reads_of_C HR0.out)))
      have HC118 := Aside0.mk hC4
      clear hA4 hC4 hi04 hsz4
      go_enter Try.func70, Try.ntmps70
      go_wp2_with (first | ((with_reducible refine gate_dst (N := 10) rfl ?_); refine box_event ?hg (N := 10) ?hd (cs := #[.slice A0 (l0.take 2000).length c0, .int .i64 0]) (t := 102) ?hr ?_; (case hd => rfl); (case hg => rfl); (case hr => first | (go_simp; done) | (go_simp; rfl)); intro gb119 hg w5 hbox hb; have n0_ := Aside0.mk (below_step HBW.out hb); have n1_ := Aside0.mk (below_step (by repeat (first | (with_reducible first | exact HB.out | apply below_alloc | apply pw_below_drewN | apply below_drew1) | exact HB.out)) hb); have n2_ := Aside0.mk (hbox); have n3_ := Aside0.mk ((by rw [hg]; exact (below_size (by repeat (first | (with_reducible first | exact HBW.out | apply below_alloc | apply pw_below_drewN | apply below_drew1) | exact HBW.out))) : w.heap.size ≤ gb119)); have n4_ := Aside0.mk ((Nat.le_trans HW0.out (by rw [hg]; exact (below_size (by repeat (first | (with_reducible first | exact HBW.out | apply below_alloc | apply pw_below_drewN | apply below_drew1) | exact HBW.out))) : w.heap.size ≤ gb119) : w0.heap.size ≤ gb119)); clear HBW; clear HB; have HBW := n0_; have HB := n1_; have BK119 := n2_; have GW119 := n3_; have GE119 := n4_; clear n0_ n1_ n2_ n3_ n4_; clear hb hbox hg))
      go_ret
      exact ⟨_, rfl, (show IsS102 w0 _ gb119 (l0.take 2000) 0 from ⟨_, _, by (with_reducible repeat (first | refine blk_drewN ?_ _ | refine blk_drew ?_ | refine blk_alloc ?_ _)); exact BK119.out, GE119.out, HR118.out⟩), by repeat (first | (with_reducible first | exact HB.out | apply below_alloc | apply pw_below_drewN | apply below_drew1 | refine below_set ?_ GE119.out) | exact HB.out), by repeat (first | (with_reducible first | exact HBW.out | apply below_alloc | apply pw_below_drewN | apply below_drew1 | refine below_set ?_ GW119.out) | exact HBW.out)⟩
    · rw [if_neg c3] at H
      exact absurd H (by simp)
  · rw [if_neg c2] at H
    have c2b0 : decide (2000 < (l0.length : Int)) = false := decide_eq_false c2
    have c2b1 : decide (2000 < l0.length) = false := decide_eq_false (by omega)
    clear c2
    simp only [Option.some.injEq, Prod.mk.injEq] at H
    obtain ⟨rfl, rfl⟩ := H
    go_enter Try.func70, Try.ntmps70
    go_wp2_with (first | ((with_reducible refine gate_dst (N := 10) rfl ?_); refine box_event ?hg (N := 10) ?hd (cs := #[.slice A0 l0.length c0, .int .i64 0]) (t := 102) ?hr ?_; (case hd => rfl); (case hg => rfl); (case hr => first | (go_simp; done) | (go_simp; rfl)); intro gb120 hg w6 hbox hb; have n0_ := Aside0.mk (below_step HBW.out hb); have n1_ := Aside0.mk (below_step (by repeat (first | (with_reducible first | exact HB.out | apply below_alloc | apply pw_below_drewN | apply below_drew1) | exact HB.out)) hb); have n2_ := Aside0.mk (hbox); have n3_ := Aside0.mk ((by rw [hg]; exact (below_size (by repeat (first | (with_reducible first | exact HBW.out | apply below_alloc | apply pw_below_drewN | apply below_drew1) | exact HBW.out))) : w.heap.size ≤ gb120)); have n4_ := Aside0.mk ((Nat.le_trans HW0.out (by rw [hg]; exact (below_size (by repeat (first | (with_reducible first | exact HBW.out | apply below_alloc | apply pw_below_drewN | apply below_drew1) | exact HBW.out))) : w.heap.size ≤ gb120) : w0.heap.size ≤ gb120)); clear HBW; clear HB; have HBW := n0_; have HB := n1_; have BK120 := n2_; have GW120 := n3_; have GE120 := n4_; clear n0_ n1_ n2_ n3_ n4_; clear hb hbox hg))
    go_ret
    exact ⟨_, rfl, (show IsS102 w0 _ gb120 l0 0 from ⟨_, _, by (with_reducible repeat (first | refine blk_drewN ?_ _ | refine blk_drew ?_ | refine blk_alloc ?_ _)); exact BK120.out, GE120.out, HR0.out⟩), by repeat (first | (with_reducible first | exact HB.out | apply below_alloc | apply pw_below_drewN | apply below_drew1 | refine below_set ?_ GE120.out) | exact HB.out), by repeat (first | (with_reducible first | exact HBW.out | apply below_alloc | apply pw_below_drewN | apply below_drew1 | refine below_set ?_ GW120.out) | exact HBW.out)⟩

/-! ### spec_l20Rd_pick: function 88 -/
def spec_l20Rd_pick.j0 : Nat → Int → Bool → List Int → Int → Option (Int × Int)
  | 0, _, _, _, _ => none
  | k + 1, x1, x24, x1000, x1001 => if x24 = true then (some (0, x1001)) else (if (wrap64 (x1001 - 1)) < (x1000.length : Int) then (if 0 ≤ (wrap64 (x1001 - 1)) then (if x1 = 0 then (none) else (some (Int.tmod (wrap64 (rd x1000 (wrap64 (x1001 - 1)))) x1, x1001))) else (none)) else (if (x1000.length : Int) = 0 then (none) else (if 0 ≤ (Int.tmod (wrap64 (x1001 - 1)) (x1000.length : Int)) then (if (Int.tmod (wrap64 (x1001 - 1)) (x1000.length : Int)) < (x1000.length : Int) then (if 0 ≤ (Int.tmod (wrap64 ((wrap64 ((wrap64 (x1001 - 1)) * 7)) + 3)) (x1000.length : Int)) then (if (Int.tmod (wrap64 ((wrap64 ((wrap64 (x1001 - 1)) * 7)) + 3)) (x1000.length : Int)) < (x1000.length : Int) then (if x1 = 0 then (none) else (some (Int.tmod (Go.bits .xor .i64 (wrap64 ((wrap64 ((wrap64 ((wrap64 ((wrap64 (rd x1000 (Int.tmod (wrap64 (x1001 - 1)) (x1000.length : Int)))) * 131)) + (wrap64 ((wrap64 (rd x1000 (Int.tmod (wrap64 ((wrap64 ((wrap64 (x1001 - 1)) * 7)) + 3)) (x1000.length : Int)))) * 1117)))) + (wrap64 ((wrap64 (x1001 - 1)) * 29)))) + (wrap64 ((wrap64 (Int.tdiv (wrap64 (x1001 - 1)) (x1000.length : Int))) * 53)))) (wrap64 (Int.tdiv (wrap64 ((wrap64 ((wrap64 ((wrap64 ((wrap64 (rd x1000 (Int.tmod (wrap64 (x1001 - 1)) (x1000.length : Int)))) * 131)) + (wrap64 ((wrap64 (rd x1000 (Int.tmod (wrap64 ((wrap64 ((wrap64 (x1001 - 1)) * 7)) + 3)) (x1000.length : Int)))) * 1117)))) + (wrap64 ((wrap64 (x1001 - 1)) * 29)))) + (wrap64 ((wrap64 (Int.tdiv (wrap64 (x1001 - 1)) (x1000.length : Int))) * 53)))) 64))) x1, x1001))) else (none)) else (none)) else (none)) else (none))))
def spec_l20Rd_pick.f (k : Nat) (s0_0 : List Int) (s0_1 : Int) (a1 : Int) : Option (Int × Int) := if a1 < 1 then (spec_l20Rd_pick.j0 k a1 true s0_0 (wrap64 (s0_1 + 1))) else (spec_l20Rd_pick.j0 k a1 ((s0_0.length : Int) == 0) s0_0 (wrap64 (s0_1 + 1)))
theorem spec_l20Rd_pick.mono_l : ∀ k, (∀ y0 y1 y2 y3, LeO (spec_l20Rd_pick.j0 k y0 y1 y2 y3) (spec_l20Rd_pick.j0 (k + 1) y0 y1 y2 y3))
  | 0 => fun _ _ _ _ r h => by simp [spec_l20Rd_pick.j0] at h
  | k + 1 => by
    have ih0 := spec_l20Rd_pick.mono_l k
    · intro y0 y1 y2 y3
      unfold spec_l20Rd_pick.j0
      repeat' first
      | (with_reducible exact ih0 _ _ _ _)
      | (with_reducible exact LeO.refl _)
      | (with_reducible exact LeO.none _)
      | (with_reducible refine LeO.ite ?_ ?_)
      | (with_reducible refine LeO.bind ?_ (fun _ => ?_))
      | exact ih0 _ _ _ _
      | exact LeO.none _
      | refine LeO.ite ?_ ?_
      | refine LeO.bind ?_ (fun _ => ?_)
theorem spec_l20Rd_pick.mono : ∀ a0 a1 a2 k, LeO (spec_l20Rd_pick.f k a0 a1 a2) (spec_l20Rd_pick.f (k + 1) a0 a1 a2) := by
  intro a0 a1 a2 k
  have ih0 := spec_l20Rd_pick.mono_l k
  unfold spec_l20Rd_pick.f
  repeat' first
      | (with_reducible exact ih0 _ _ _ _)
      | (with_reducible exact LeO.refl _)
      | (with_reducible exact LeO.none _)
      | (with_reducible refine LeO.ite ?_ ?_)
      | (with_reducible refine LeO.bind ?_ (fun _ => ?_))
      | exact ih0 _ _ _ _
      | exact LeO.none _
      | refine LeO.ite ?_ ?_
      | refine LeO.bind ?_ (fun _ => ?_)
set_option maxHeartbeats 8000000 in
set_option maxRecDepth 100000 in
theorem spec_l20Rd_pick.calls (k : Nat) (g : Nat) (s0_0 : List Int) (s0_1 : Int) (a1 : Int) (r1 : Int) (r2 : Int) (w0 w : World) (hI : IsS102 w0 w g s0_0 s0_1) (hB : Below w0.heap.size w0 w) (h : spec_l20Rd_pick.f k s0_0 s0_1 a1 = some (r1, r2)) :
    Calls Try.prog 88 #[.pointer (some ⟨g, 0, none⟩), .int .i64 a1] w fun e w' => e = .returned (.int .i64 r1) ∧ IsS102 w0 w' g s0_0 r2 ∧ Below w0.heap.size w0 w' ∧ KeepBut w w' g none := by
  have HI0 := Aside0.mk hI
  have HK := Aside0.mk (KeepBut.refl w g none)
  have HL := Aside0.mk hB.size
  clear hI
  have HW0 := Aside0.mk hB.size
  have HB := Aside0.mk hB
  clear hB
  have H : (if a1 < 1 then (spec_l20Rd_pick.j0 k a1 true s0_0 (wrap64 (s0_1 + 1))) else (spec_l20Rd_pick.j0 k a1 ((s0_0.length : Int) == 0) s0_0 (wrap64 (s0_1 + 1)))) = some (r1, r2) := h
  clear h
  have HC3 := Aside0.mk H
  clear H
  obtain ⟨ASz4_0, cSz4_0, HGz4, hgz4, HSz4_0⟩ := HI0.out
  have hcz4_0 := cellS102_0 HGz4
  have hcz4_1 := cellS102_1 HGz4
  have hfz4_1 := blk_frozen HGz4 1
  clear HGz4 hgz4
  go_enter Try.func88, Try.ntmps88
  go_upto_region 2 with (fail)
  repeat (go_quiet (fail); go_upto_region 2 with (fail))
  go_cut [24] (fun v24 wc => ∃ (kq : Nat) (x24_2 : Bool), v24 = .bool x24_2 ∧ Aside0 (spec_l20Rd_pick.j0 kq a1 x24_2 s0_0 (wrap64 (s0_1 + 1)) = some (r1, r2)) ∧ Aside0 (kq ≤ k) ∧ Aside0 (IsS102 w0 wc g s0_0 (wrap64 (s0_1 + 1))) ∧ Aside0 (KeepBut w wc g none) ∧ Aside0 (Below w0.heap.size w0 wc))
  case first =>
    have H := HC3.out
    clear HC3
    by_cases c5 : a1 < 1
    · rw [if_pos c5] at H
      have c5b0 : decide (a1 < 1) = true := decide_eq_true c5
      clear c5
      (first | rw [c5b0] | (simp only [i64_w, i32_w]; rw [c5b0]) | skip)
      have H' := Aside0.mk H
      clear H
      go_wp2
      repeat (go_quiet (fail); try go_wp2)
      go_meet
      case rel => exact ⟨_, (true), (by first | rfl | (simp; done) | (simp [*]; done)), H', ⟨by first | omega | exact Nat.le_refl _⟩, ⟨by repeat (first | (with_reducible first | exact HI0.out | apply IsS102.alloc | apply IsS102.drewN | apply IsS102.drew | apply IsS102.set_1) | exact HI0.out)⟩, ⟨by repeat (first | (with_reducible first | exact HK.out | apply KeepBut.set_ | apply keep_drewN | apply keep_drew | apply keep_alloc) | exact HK.out)⟩, ⟨by repeat (first | (with_reducible first | exact HB.out | apply below_alloc | apply pw_below_drewN | apply below_drew1 | refine below_set ?_ (IsS102.ge HI0.out)) | exact HB.out)⟩⟩
    · rw [if_neg c5] at H
      have c5b0 : decide (a1 < 1) = false := decide_eq_false c5
      clear c5
      (first | rw [c5b0] | (simp only [i64_w, i32_w]; rw [c5b0]) | skip)
      have H' := Aside0.mk H
      clear H
      obtain ⟨ASz6_0, cSz6_0, HGz6, hgz6, HSz6_0⟩ := HI0.out
      have hcz6_0 := cellS102_0 HGz6
      have hcz6_1 := cellS102_1 HGz6
      have hfz6_1 := blk_frozen HGz6 1
      clear HGz6 hgz6
      go_wp2
      repeat (go_quiet (fail); try go_wp2)
      go_meet
      case rel => exact ⟨_, (((s0_0.length : Int) == 0)), (by first | rfl | (simp; done) | (simp [*]; done)), H', ⟨by first | omega | exact Nat.le_refl _⟩, ⟨by repeat (first | (with_reducible first | exact HI0.out | apply IsS102.alloc | apply IsS102.drewN | apply IsS102.drew | apply IsS102.set_1) | exact HI0.out)⟩, ⟨by repeat (first | (with_reducible first | exact HK.out | apply KeepBut.set_ | apply keep_drewN | apply keep_drew | apply keep_alloc) | exact HK.out)⟩, ⟨by repeat (first | (with_reducible first | exact HB.out | apply below_alloc | apply pw_below_drewN | apply below_drew1 | refine below_set ?_ (IsS102.ge HI0.out)) | exact HB.out)⟩⟩
  case rest =>
    clear HC3
    try clear p2
    try clear c5
    try clear c5b0
    try clear p6
    try clear hcz4_0
    try clear hcz4_1
    try clear hcz6_0
    try clear hcz6_1
    try clear hfz4_1
    try clear hfz6_1
    obtain ⟨kq, x24_2, rfl, HA, HJ2, HI0, HK, HB⟩ := hcut
    cases kq with
    | zero => exact absurd HA.out (by simp [spec_l20Rd_pick.j0])
    | succ kj2 =>
      have H := HA.out
      clear HA
      simp only [spec_l20Rd_pick.j0] at H
      by_cases c7 : x24_2 = true
      · subst c7
        have H1 : (some (0, (wrap64 (s0_1 + 1)))) = some (r1, r2) := by rw [if_pos rfl] at H; exact H
        clear H
        have H := H1
        clear H1
        simp only [Option.some.injEq, Prod.mk.injEq] at H
        obtain ⟨rfl, rfl⟩ := H
        go_wp2
        repeat (go_quiet (fail); try go_wp2)
        go_ret
        exact ⟨by first | rfl | (simp [errW_none, errW_some] <;> rfl) | (simp [*, errW_none, errW_some] <;> rfl), by repeat (first | (with_reducible first | exact HI0.out | apply IsS102.alloc | apply IsS102.drewN | apply IsS102.drew | apply IsS102.set_1) | exact HI0.out), by repeat (first | (with_reducible first | exact HB.out | apply below_alloc | apply pw_below_drewN | apply below_drew1 | refine below_set ?_ (IsS102.ge HI0.out)) | exact HB.out), by repeat (first | (with_reducible first | exact HK.out | apply KeepBut.set_ | apply keep_drewN | apply keep_drew | apply keep_alloc) | exact HK.out)⟩
      · replace c7 := Bool.eq_false_iff.mpr c7
        subst c7
        have H1 : (if (wrap64 ((wrap64 (s0_1 + 1)) - 1)) < (s0_0.length : Int) then (if 0 ≤ (wrap64 ((wrap64 (s0_1 + 1)) - 1)) then (if a1 = 0 then (none) else (some (Int.tmod (wrap64 (rd s0_0 (wrap64 ((wrap64 (s0_1 + 1)) - 1)))) a1, (wrap64 (s0_1 + 1))))) else (none)) else (if (s0_0.length : Int) = 0 then (none) else (if 0 ≤ (Int.tmod (wrap64 ((wrap64 (s0_1 + 1)) - 1)) (s0_0.length : Int)) then (if (Int.tmod (wrap64 ((wrap64 (s0_1 + 1)) - 1)) (s0_0.length : Int)) < (s0_0.length : Int) then (if 0 ≤ (Int.tmod (wrap64 ((wrap64 ((wrap64 ((wrap64 (s0_1 + 1)) - 1)) * 7)) + 3)) (s0_0.length : Int)) then (if (Int.tmod (wrap64 ((wrap64 ((wrap64 ((wrap64 (s0_1 + 1)) - 1)) * 7)) + 3)) (s0_0.length : Int)) < (s0_0.length : Int) then (if a1 = 0 then (none) else (some (Int.tmod (Go.bits .xor .i64 (wrap64 ((wrap64 ((wrap64 ((wrap64 ((wrap64 (rd s0_0 (Int.tmod (wrap64 ((wrap64 (s0_1 + 1)) - 1)) (s0_0.length : Int)))) * 131)) + (wrap64 ((wrap64 (rd s0_0 (Int.tmod (wrap64 ((wrap64 ((wrap64 ((wrap64 (s0_1 + 1)) - 1)) * 7)) + 3)) (s0_0.length : Int)))) * 1117)))) + (wrap64 ((wrap64 ((wrap64 (s0_1 + 1)) - 1)) * 29)))) + (wrap64 ((wrap64 (Int.tdiv (wrap64 ((wrap64 (s0_1 + 1)) - 1)) (s0_0.length : Int))) * 53)))) (wrap64 (Int.tdiv (wrap64 ((wrap64 ((wrap64 ((wrap64 ((wrap64 (rd s0_0 (Int.tmod (wrap64 ((wrap64 (s0_1 + 1)) - 1)) (s0_0.length : Int)))) * 131)) + (wrap64 ((wrap64 (rd s0_0 (Int.tmod (wrap64 ((wrap64 ((wrap64 ((wrap64 (s0_1 + 1)) - 1)) * 7)) + 3)) (s0_0.length : Int)))) * 1117)))) + (wrap64 ((wrap64 ((wrap64 (s0_1 + 1)) - 1)) * 29)))) + (wrap64 ((wrap64 (Int.tdiv (wrap64 ((wrap64 (s0_1 + 1)) - 1)) (s0_0.length : Int))) * 53)))) 64))) a1, (wrap64 (s0_1 + 1))))) else (none)) else (none)) else (none)) else (none)))) = some (r1, r2) := by rw [if_neg (show ¬ (false = true) by decide)] at H; exact H
        clear H
        have H := H1
        clear H1
        by_cases c8 : (wrap64 ((wrap64 (s0_1 + 1)) - 1)) < (s0_0.length : Int)
        · rw [if_pos c8] at H
          have c8b0 : decide ((wrap64 ((wrap64 (s0_1 + 1)) - 1)) < (s0_0.length : Int)) = true := decide_eq_true c8
          clear c8
          obtain ⟨ji9, hji9⟩ : ∃ j_ : Int, (wrap64 ((wrap64 (s0_1 + 1)) - 1)) = j_ := ⟨_, rfl⟩
          replace H : (if 0 ≤ (ji9) then (if a1 = 0 then (none) else (some (Int.tmod (wrap64 (rd s0_0 (ji9))) a1, (wrap64 (s0_1 + 1))))) else (none)) = some (r1, r2) := by first | (rw [hji9] at H; exact H) | (simp only [hji9] at H ⊢; exact H)
          (try rw [hji9] at c8b0)
          have hji9w : (IntKind.i64.wrap ((wrap64 (s0_1 + 1)) - 1)) = ji9 := (i64_w _).trans hji9
          by_cases c10 : 0 ≤ (ji9)
          · rw [if_pos c10] at H
            have c10b0 : decide (0 ≤ (ji9)) = true := decide_eq_true c10
            clear c10
            by_cases c11 : a1 = 0
            · rw [if_pos c11] at H
              exact absurd H (by simp)
            · rw [if_neg c11] at H
              have c11b0 : (a1 == 0) = false := beq_eq_false_iff_ne.mpr c11
              have c11b1 : (a1 != 0) = true := bne_iff_ne.mpr c11
              simp only [Option.some.injEq, Prod.mk.injEq] at H
              obtain ⟨rfl, rfl⟩ := H
              obtain ⟨ASz12_0, cSz12_0, HGz12, hgz12, HSz12_0⟩ := HI0.out
              have hcz12_0 := cellS102_0 HGz12
              have hcz12_1 := cellS102_1 HGz12
              have hfz12_1 := blk_frozen HGz12 1
              clear HGz12 hgz12
              have p121 : 0 ≤ ((ji9) : Int) := of_decide_eq_true (by first | (with_reducible assumption) | assumption)
              have q121 : (ji9) < (s0_0.length : Int) := of_decide_eq_true (by first | (with_reducible assumption) | assumption)
              obtain ⟨ad121, e121, hx121_0⟩ := Kd.at_int HSz12_0 (ji9) p121 q121
              cases e121
              replace hx121_0 := pw_cell_below HB.out hx121_0
              replace p121 := eq_true p121
              replace q121 := eq_true q121
              go_wp2
              repeat (go_quiet (fail); try go_wp2)
              go_ret
              exact ⟨by first | rfl | (simp [errW_none, errW_some] <;> rfl) | (simp only [← hji9]; first | rfl | (simp [errW_none, errW_some] <;> rfl)) | (simp [*, errW_none, errW_some] <;> rfl), by repeat (first | (with_reducible first | exact HI0.out | apply IsS102.alloc | apply IsS102.drewN | apply IsS102.drew | apply IsS102.set_1) | exact HI0.out), by repeat (first | (with_reducible first | exact HB.out | apply below_alloc | apply pw_below_drewN | apply below_drew1 | refine below_set ?_ (IsS102.ge HI0.out)) | exact HB.out), by repeat (first | (with_reducible first | exact HK.out | apply KeepBut.set_ | apply keep_drewN | apply keep_drew | apply keep_alloc) | exact HK.out)⟩
          · rw [if_neg c10] at H
            exact absurd H (by simp)
        · rw [if_neg c8] at H
          have c8b0 : decide ((wrap64 ((wrap64 (s0_1 + 1)) - 1)) < (s0_0.length : Int)) = false := decide_eq_false c8
          clear c8
          by_cases c13 : (s0_0.length : Int) = 0
          · rw [if_pos c13] at H
            exact absurd H (by simp)
          · rw [if_neg c13] at H
            have c13b0 : ((s0_0.length : Int) == 0) = false := beq_eq_false_iff_ne.mpr c13
            have c13b1 : ((s0_0.length : Int) != 0) = true := bne_iff_ne.mpr c13
            have c13b2 : ¬ (s0_0 = []) := fun h_ => c13 (by rw [h_]; rfl)
            obtain ⟨ji14, hji14⟩ : ∃ j_ : Int, (Int.tmod (wrap64 ((wrap64 (s0_1 + 1)) - 1)) (s0_0.length : Int)) = j_ := ⟨_, rfl⟩
            replace H : (if 0 ≤ (ji14) then (if (ji14) < (s0_0.length : Int) then (if 0 ≤ (Int.tmod (wrap64 ((wrap64 ((wrap64 ((wrap64 (s0_1 + 1)) - 1)) * 7)) + 3)) (s0_0.length : Int)) then (if (Int.tmod (wrap64 ((wrap64 ((wrap64 ((wrap64 (s0_1 + 1)) - 1)) * 7)) + 3)) (s0_0.length : Int)) < (s0_0.length : Int) then (if a1 = 0 then (none) else (some (Int.tmod (Go.bits .xor .i64 (wrap64 ((wrap64 ((wrap64 ((wrap64 ((wrap64 (rd s0_0 (ji14))) * 131)) + (wrap64 ((wrap64 (rd s0_0 (Int.tmod (wrap64 ((wrap64 ((wrap64 ((wrap64 (s0_1 + 1)) - 1)) * 7)) + 3)) (s0_0.length : Int)))) * 1117)))) + (wrap64 ((wrap64 ((wrap64 (s0_1 + 1)) - 1)) * 29)))) + (wrap64 ((wrap64 (Int.tdiv (wrap64 ((wrap64 (s0_1 + 1)) - 1)) (s0_0.length : Int))) * 53)))) (wrap64 (Int.tdiv (wrap64 ((wrap64 ((wrap64 ((wrap64 ((wrap64 (rd s0_0 (ji14))) * 131)) + (wrap64 ((wrap64 (rd s0_0 (Int.tmod (wrap64 ((wrap64 ((wrap64 ((wrap64 (s0_1 + 1)) - 1)) * 7)) + 3)) (s0_0.length : Int)))) * 1117)))) + (wrap64 ((wrap64 ((wrap64 (s0_1 + 1)) - 1)) * 29)))) + (wrap64 ((wrap64 (Int.tdiv (wrap64 ((wrap64 (s0_1 + 1)) - 1)) (s0_0.length : Int))) * 53)))) 64))) a1, (wrap64 (s0_1 + 1))))) else (none)) else (none)) else (none)) else (none)) = some (r1, r2) := by first | (rw [hji14] at H; exact H) | (simp only [hji14] at H ⊢; exact H)
            by_cases c15 : 0 ≤ (ji14)
            · rw [if_pos c15] at H
              have c15b0 : decide (0 ≤ (ji14)) = true := decide_eq_true c15
              clear c15
              by_cases c16 : (ji14) < (s0_0.length : Int)
              · rw [if_pos c16] at H
                have c16b0 : decide ((ji14) < (s0_0.length : Int)) = true := decide_eq_true c16
                clear c16
                obtain ⟨ji17, hji17⟩ : ∃ j_ : Int, (Int.tmod (wrap64 ((wrap64 ((wrap64 ((wrap64 (s0_1 + 1)) - 1)) * 7)) + 3)) (s0_0.length : Int)) = j_ := ⟨_, rfl⟩
                replace H : (if 0 ≤ (ji17) then (if (ji17) < (s0_0.length : Int) then (if a1 = 0 then (none) else (some (Int.tmod (Go.bits .xor .i64 (wrap64 ((wrap64 ((wrap64 ((wrap64 ((wrap64 (rd s0_0 (ji14))) * 131)) + (wrap64 ((wrap64 (rd s0_0 (ji17))) * 1117)))) + (wrap64 ((wrap64 ((wrap64 (s0_1 + 1)) - 1)) * 29)))) + (wrap64 ((wrap64 (Int.tdiv (wrap64 ((wrap64 (s0_1 + 1)) - 1)) (s0_0.length : Int))) * 53)))) (wrap64 (Int.tdiv (wrap64 ((wrap64 ((wrap64 ((wrap64 ((wrap64 (rd s0_0 (ji14))) * 131)) + (wrap64 ((wrap64 (rd s0_0 (ji17))) * 1117)))) + (wrap64 ((wrap64 ((wrap64 (s0_1 + 1)) - 1)) * 29)))) + (wrap64 ((wrap64 (Int.tdiv (wrap64 ((wrap64 (s0_1 + 1)) - 1)) (s0_0.length : Int))) * 53)))) 64))) a1, (wrap64 (s0_1 + 1))))) else (none)) else (none)) = some (r1, r2) := by first | (rw [hji17] at H; exact H) | (simp only [hji17] at H ⊢; exact H)
                by_cases c18 : 0 ≤ (ji17)
                · rw [if_pos c18] at H
                  have c18b0 : decide (0 ≤ (ji17)) = true := decide_eq_true c18
                  clear c18
                  by_cases c19 : (ji17) < (s0_0.length : Int)
                  · rw [if_pos c19] at H
                    have c19b0 : decide ((ji17) < (s0_0.length : Int)) = true := decide_eq_true c19
                    clear c19
                    by_cases c20 : a1 = 0
                    · rw [if_pos c20] at H
                      exact absurd H (by simp)
                    · rw [if_neg c20] at H
                      have c20b0 : (a1 == 0) = false := beq_eq_false_iff_ne.mpr c20
                      have c20b1 : (a1 != 0) = true := bne_iff_ne.mpr c20
                      simp only [Option.some.injEq, Prod.mk.injEq] at H
                      obtain ⟨rfl, rfl⟩ := H
                      obtain ⟨ASz21_0, cSz21_0, HGz21, hgz21, HSz21_0⟩ := HI0.out
                      have hcz21_0 := cellS102_0 HGz21
                      have hcz21_1 := cellS102_1 HGz21
                      have hfz21_1 := blk_frozen HGz21 1
                      clear HGz21 hgz21
                      have p122 : 0 ≤ ((ji14) : Int) := of_decide_eq_true (by first | (with_reducible assumption) | assumption)
                      have q122 : (ji14) < (s0_0.length : Int) := of_decide_eq_true (by first | (with_reducible assumption) | assumption)
                      obtain ⟨ad122, e122, hx122_0⟩ := Kd.at_int HSz21_0 (ji14) p122 q122
                      cases e122
                      replace hx122_0 := pw_cell_below HB.out hx122_0
                      replace p122 := eq_true p122
                      replace q122 := eq_true q122
                      have p123 : 0 ≤ ((ji17) : Int) := of_decide_eq_true (by first | (with_reducible assumption) | assumption)
                      have q123 : (ji17) < (s0_0.length : Int) := of_decide_eq_true (by first | (with_reducible assumption) | assumption)
                      obtain ⟨ad123, e123, hx123_0⟩ := Kd.at_int HSz21_0 (ji17) p123 q123
                      obtain rfl : ad122 = ad123 := (by injection e123)
                      replace hx123_0 := pw_cell_below HB.out hx123_0
                      replace p123 := eq_true p123
                      replace q123 := eq_true q123
                      go_wp2
                      repeat (go_quiet (fail); try go_wp2)
                      go_ret
                      exact ⟨by first | rfl | (simp [errW_none, errW_some] <;> rfl) | (simp only [← hji14, ← hji17]; first | rfl | (simp [errW_none, errW_some] <;> rfl)) | (simp [*, errW_none, errW_some] <;> rfl), by repeat (first | (with_reducible first | exact HI0.out | apply IsS102.alloc | apply IsS102.drewN | apply IsS102.drew | apply IsS102.set_1) | exact HI0.out), by repeat (first | (with_reducible first | exact HB.out | apply below_alloc | apply pw_below_drewN | apply below_drew1 | refine below_set ?_ (IsS102.ge HI0.out)) | exact HB.out), by repeat (first | (with_reducible first | exact HK.out | apply KeepBut.set_ | apply keep_drewN | apply keep_drew | apply keep_alloc) | exact HK.out)⟩
                  · rw [if_neg c19] at H
                    exact absurd H (by simp)
                · rw [if_neg c18] at H
                  exact absurd H (by simp)
              · rw [if_neg c16] at H
                exact absurd H (by simp)
            · rw [if_neg c15] at H
              exact absurd H (by simp)

/-! ### spec_l20Rd_odd: function 72 -/
def spec_l20Rd_odd.f (k : Nat) (s0_0 : List Int) (s0_1 : Int) (a1 : Int) : Option (Bool × Int) := if a1 > 0 then ((spec_l20Rd_pick.f k s0_0 s0_1 a1).bind fun bt124 => (some ((bt124.1 == (wrap64 (a1 - 1))), bt124.2))) else (some (false, s0_1))
theorem spec_l20Rd_odd.mono : ∀ a0 a1 a2 k, LeO (spec_l20Rd_odd.f k a0 a1 a2) (spec_l20Rd_odd.f (k + 1) a0 a1 a2) := by
  intro a0 a1 a2 k
  unfold spec_l20Rd_odd.f
  repeat' first
      | (with_reducible exact spec_l20Rd_pick.mono _ _ _ _)
      | (with_reducible exact LeO.refl _)
      | (with_reducible exact LeO.none _)
      | (with_reducible refine LeO.ite ?_ ?_)
      | (with_reducible refine LeO.bind ?_ (fun _ => ?_))
      | exact spec_l20Rd_pick.mono _ _ _ _
      | exact LeO.none _
      | refine LeO.ite ?_ ?_
      | refine LeO.bind ?_ (fun _ => ?_)
set_option maxHeartbeats 8000000 in
set_option maxRecDepth 100000 in
theorem spec_l20Rd_odd.calls (k : Nat) (g : Nat) (s0_0 : List Int) (s0_1 : Int) (a1 : Int) (r1 : Bool) (r2 : Int) (w0 w : World) (hI : IsS102 w0 w g s0_0 s0_1) (hB : Below w0.heap.size w0 w) (h : spec_l20Rd_odd.f k s0_0 s0_1 a1 = some (r1, r2)) :
    Calls Try.prog 72 #[.pointer (some ⟨g, 0, none⟩), .int .i64 a1] w fun e w' => e = .returned (.bool r1) ∧ IsS102 w0 w' g s0_0 r2 ∧ Below w0.heap.size w0 w' ∧ KeepBut w w' g none := by
  have HI0 := Aside0.mk hI
  have HK := Aside0.mk (KeepBut.refl w g none)
  have HL := Aside0.mk hB.size
  clear hI
  have HW0 := Aside0.mk hB.size
  have HB := Aside0.mk hB
  clear hB
  have H : (if a1 > 0 then ((spec_l20Rd_pick.f k s0_0 s0_1 a1).bind fun bt124 => (some ((bt124.1 == (wrap64 (a1 - 1))), bt124.2))) else (some (false, s0_1))) = some (r1, r2) := h
  clear h
  by_cases c3 : a1 > 0
  · rw [if_pos c3] at H
    have c3b0 : decide (0 < a1) = true := decide_eq_true c3
    clear c3
    replace H := Option.bind_eq_some_iff.mp H
    obtain ⟨⟨t124, t125⟩, A40, H⟩ := H
    replace H : (some ((t124 == (wrap64 (a1 - 1))), t125)) = some (r1, r2) := H
    have A4 := Aside0.mk A40
    clear A40
    simp only [Option.some.injEq, Prod.mk.injEq] at H
    obtain ⟨rfl, rfl⟩ := H
    go_enter Try.func72, Try.ntmps72
    go_wp2_with (first | (go_at_call 88; (with_reducible refine (spec_l20Rd_pick.calls k g s0_0 s0_1 a1 t124 t125 w0 _ ?side1 ?side2 A4.out).mono ?_); (case side1 => repeat (first | (with_reducible first | exact HI0.out | apply IsS102.alloc | apply IsS102.drewN | apply IsS102.drew | apply IsS102.set_1) | exact HI0.out)); (case side2 => repeat (first | (with_reducible first | exact HB.out | apply below_alloc | apply pw_below_drewN | apply below_drew1 | refine below_set ?_ (IsS102.ge HI0.out)) | exact HB.out)); rintro e w5 ⟨rfl, hi, hb, hk⟩; have n0_ := Aside0.mk (KeepBut.trans (by repeat (first | (with_reducible first | exact HK.out | apply KeepBut.set_ | apply keep_drewN | apply keep_drew | apply keep_alloc) | exact HK.out)) hk (.inl rfl)); have n1_ := Aside0.mk (hb); have n2_ := Aside0.mk (hi); clear HK; clear HB; clear HI0; have HK := n0_; have HB := n1_; have HI0 := n2_; clear n0_ n1_ n2_; (try clear hb); (try clear hb2); (try clear hk); (try clear hi)))
    go_ret
    exact ⟨by first | rfl | (simp [errW_none, errW_some] <;> rfl) | (simp [*, errW_none, errW_some] <;> rfl), by repeat (first | (with_reducible first | exact HI0.out | apply IsS102.alloc | apply IsS102.drewN | apply IsS102.drew | apply IsS102.set_1) | exact HI0.out), by repeat (first | (with_reducible first | exact HB.out | apply below_alloc | apply pw_below_drewN | apply below_drew1 | refine below_set ?_ (IsS102.ge HI0.out)) | exact HB.out), by repeat (first | (with_reducible first | exact HK.out | apply KeepBut.set_ | apply keep_drewN | apply keep_drew | apply keep_alloc) | exact HK.out)⟩
  · rw [if_neg c3] at H
    have c3b0 : decide (0 < a1) = false := decide_eq_false c3
    clear c3
    simp only [Option.some.injEq, Prod.mk.injEq] at H
    obtain ⟨rfl, rfl⟩ := H
    go_enter Try.func72, Try.ntmps72
    go_wp2
    go_ret
    exact ⟨by first | rfl | (simp [errW_none, errW_some] <;> rfl) | (simp [*, errW_none, errW_some] <;> rfl), by repeat (first | (with_reducible first | exact HI0.out | apply IsS102.alloc | apply IsS102.drewN | apply IsS102.drew | apply IsS102.set_1) | exact HI0.out), by repeat (first | (with_reducible first | exact HB.out | apply below_alloc | apply pw_below_drewN | apply below_drew1 | refine below_set ?_ (IsS102.ge HI0.out)) | exact HB.out), by repeat (first | (with_reducible first | exact HK.out | apply KeepBut.set_ | apply keep_drewN | apply keep_drew | apply keep_alloc) | exact HK.out)⟩

end Go.Proofs.Ytbbhdgpiocojaaa.LF
