/- Printed by a program of this session (wip/lp/lp.py) out of the translation: functions with the same answers as the Go code, and their contracts; no conditions beyond those that each theorem names. -/
import Derived.Test.YtbbhdgpiocojaaaLHx0
import Derived.Test.YtbbhdgpiocojaaaLHx1
import Derived.Test.YtbbhdgpiocojaaaLHx2
import Derived.Test.YtbbhdgpiocojaaaLHx4
import Derived.Test.YtbbhdgpiocojaaaLHx7
namespace Go.Proofs.Ytbbhdgpiocojaaa.LH
open Go.RowKit Go.Proofs.YtbbhdgpiocojaaaV.PrintWords Go.Proofs.YtbbhdgpiocojaaaV.PrintLast Go.Proofs.YtbbhdgpiocojaaaV.PrintMore
attribute [local go_sem] max2_int min2_int max_two min_two max_three min_three max_four min_four   -- for this text's walks alone
set_option linter.unusedVariables false
set_option linter.unusedSimpArgs false

/-! ### impl_flatOrders: function 99, told by hand -/
section
attribute [local go_sem ↓] Go.wp_at_zero Go.wp_at_succ
set_option maxHeartbeats 8000000
set_option maxRecDepth 100000
/-- is the block taken already -/
def fo_ubit (u : Int) (k : Nat) : Bool := Go.bits .and .i64 (u / 2 ^ k) 1 == 1
def fo_uset (u : Int) (k : Nat) : Int := Go.bits .or .i64 u (wrap64 (2 ^ k))
def fo_ufull (n : Nat) : Int := wrap64 (wrap64 (2 ^ n) - 1)
def fo_oRows (P : List Int → Option (List (List Int))) (o : List Int) : (List (List Int)) → Option (List (List Int))
  | [] => some []
  | r :: rs => if (o ++ r).length ≤ 100 then (P (o ++ r)).bind fun a => (fo_oRows P o rs).bind fun b => some (a ++ b) else none
def fo_oBlk (P : List Int → Int → Option (List (List Int))) (o : List Int) (u : Int) : Nat → List (List (List Int)) → Option (List (List Int))
  | _, [] => some []
  | k, b :: bs => if fo_ubit u k = true then fo_oBlk P o u (k + 1) bs else (fo_oRows (fun o => P o (fo_uset u k)) o b).bind fun a => (fo_oBlk P o u (k + 1) bs).bind fun c => some (a ++ c)
/-- all rows that the closure adds -/
def fo_oPut (bs : List (List (List Int))) : Nat → List Int → Int → Option (List (List Int))
  | 0, _, _ => none
  | m + 1, o, u => if u = fo_ufull bs.length then some [o] else fo_oBlk (fo_oPut bs m) o u 0 bs
/-- what the closure finds: the blocks, read only; the rows told so far; itself -/
structure fo_PIn (wB : World) (B lo : Nat) (gb ga gp : Nat) (bs : List (List (List Int))) (w : World) (va : Value) (acc : (List (List Int))) : Prop where
  eB : wB.heap.size = B
  bel : Below B wB w
  lb : gb < B
  la : B ≤ ga
  lp : B ≤ gp
  ne : ga ≠ gp
  sz : lo ≤ w.heap.size
  lga : ga < lo
  lgp : gp < lo
  sB : B ≤ w.heap.size
  blk : ∃ Ab cb, wB.heap[gb]? = some (.cells #[.slice Ab bs.length cb] 111 (0, 0)) ∧ Kd.C (Kd.slice 22 (Kd.slice 3 (Kd.int .i64))) wB Ab bs.length bs
  all : w.heap[ga]? = some (.cells #[va] 23 (0, 0))
  own : Kd.S (Kd.slice 3 (Kd.int .i64)) 22 w B (fun k => B ≤ k ∧ k < lo) va acc
  fn : w.heap[gp]? = some (.cells #[.func (.func 125) #[] #[.pointer (some ⟨gb, 0, none⟩), .pointer (some ⟨ga, 0, none⟩), .pointer (some ⟨gp, 0, none⟩)]] 112 (0, 0))
theorem fo_PIn.nega {wB : World} {B lo gb ga gp : Nat} {bs : List (List (List Int))} {w : World} {va : Value} {acc : (List (List Int))} (h : fo_PIn wB B lo gb ga gp bs w va acc) : some ga ≠ va.ownBlock ∧ some gp ≠ va.ownBlock ∧ some gb ≠ va.ownBlock := by
  refine ⟨Kd.S_ne h.own h.all (by decide), Kd.S_ne h.own h.fn (by decide), fun q => ?_⟩
  have := Kd.S_base h.own gb q.symm
  have := h.lb
  omega
theorem fo_PIn.below {wB : World} {B lo gb ga gp : Nat} {bs : List (List (List Int))} {w w1 : World} {va : Value} {acc : (List (List Int))} (h : fo_PIn wB B lo gb ga gp bs w va acc) (hb : Below w.heap.size w w1) : fo_PIn wB B w.heap.size gb ga gp bs w1 va acc :=
  ⟨h.eB, h.bel.trans (hb.mono h.sB), h.lb, h.la, h.lp, h.ne, hb.size, blk_lt h.all, blk_lt h.fn, Nat.le_trans h.sB hb.size, h.blk, blk_below h.all hb, Kd.S_mono (Kd.S_below h.own hb) (fun k hk => ⟨hk.1, Nat.lt_of_lt_of_le hk.2 h.sz⟩), blk_below h.fn hb⟩
def fo_PutP (wB : World) (B : Nat) (gb ga gp : Nat) (bs : List (List (List Int))) (w : World) (va : Value) (acc : (List (List Int))) (e : Ending) (w' : World) : Prop :=
  ∃ va', e = .returned (.tuple #[]) ∧ fo_PIn wB B w'.heap.size gb ga gp bs w' va' acc ∧ KeepBut w w' ga va.ownBlock ∧ (va'.ownBlock = va.ownBlock ∨ ∃ b, va'.ownBlock = some b ∧ w.heap.size ≤ b) ∧ Below B w w'
theorem fo_put_leaf {wB : World} {B lo gb ga gp : Nat} {bs : List (List (List Int))} {w w1 : World} {va v1 : Value} {acc acc' : (List (List Int))} (h : fo_PIn wB B lo gb ga gp bs w va acc) (hs : Kd.S (Kd.slice 3 (Kd.int .i64)) 22 w1 B (fun k => B ≤ k) v1 acc') (hb : Below B w w1) (hg : w.grownBy w1 va.ownBlock) (hat : v1.ownBlock = va.ownBlock ∨ ∃ b, v1.ownBlock = some b ∧ w.heap.size ≤ b) :
    fo_PIn wB B (w1.setCell ⟨ga, 0, none⟩ v1).heap.size gb ga gp bs (w1.setCell ⟨ga, 0, none⟩ v1) v1 acc' ∧ KeepBut w (w1.setCell ⟨ga, 0, none⟩ v1) ga va.ownBlock ∧ Below B w (w1.setCell ⟨ga, 0, none⟩ v1) := by
  obtain ⟨n1, n2, n3⟩ := h.nega
  have ha := blk_grown h.all hg n1
  have hf := blk_grown h.fn hg n2
  have hbb : Below B w (w1.setCell ⟨ga, 0, none⟩ v1) := hb.setCell h.la v1
  refine ⟨⟨h.eB, h.bel.trans hbb, h.lb, h.la, h.lp, h.ne, Nat.le_refl _, by have := hbb.size; have := blk_lt h.all; omega, by have := hbb.size; have := blk_lt h.fn; omega, by have := hbb.size; have := h.sB; omega, h.blk, blk_put ha 0 v1 rfl, ?_, ?_⟩, (KeepBut.of_grown hg ga).set_ 0 v1, hbb⟩
  · refine Kd.S_mono (Kd.S_bound (Kd.S_set hs ha (by decide) 0 v1)) (fun k hk => ⟨hk.1, hk.2.2.1⟩)
  · rw [heap_setCell_other w1 ⟨ga, 0, none⟩ gp v1 (fun q => h.ne q.symm)]
    exact hf
theorem fo_put_any (wB : World) (B gb ga gp : Nat) (bs : List (List (List Int))) (hbl : bs.length ≤ 8) (HBR : Aside0 (∀ x, x ∈ bs → x.length ≤ 1000000000)) : ∀ (m : Nat) (o : List Int) (u : Int) (R acc : (List (List Int))) (w : World) (va : Value) (lo : Nat) (Ao : Option Addr) (co : Nat), fo_PIn wB B lo gb ga gp bs w va acc → Kd.R (Kd.int .i64) 3 w B (fun k => lo ≤ k) (.slice Ao o.length co) o → o.length ≤ 100 → fo_oPut bs m o u = some R → (acc ++ R).length ≤ 1000000000 →
    Calls Try.prog 125 #[.slice Ao o.length co, .int .i64 u, .pointer (some ⟨gb, 0, none⟩), .pointer (some ⟨ga, 0, none⟩), .pointer (some ⟨gp, 0, none⟩)] w (fo_PutP wB B gb ga gp bs w va (acc ++ R))
  | 0, o, u, R, acc, w, va, lo, Ao, co, _, _, _, h, _ => by cases h
  | m + 1, o, u, R, acc, w, va, lo, Ao, co, hI, hO, hl, h, hsz => by
    have HI := Aside0.mk hI
    have HO := Aside0.mk hO
    obtain ⟨Ab, cb, hb0, hb2⟩ := hI.blk
    have hb1 := (hI.bel.block gb hI.lb).trans hb0
    have HB := Aside0.mk hb2
    have k1 : w.cell? ⟨gb, 0, none⟩ = some (.slice Ab bs.length cb) := (blk_cell hb1 0).trans rfl
    have k2 : w.cell? ⟨ga, 0, none⟩ = some va := (blk_cell hI.all 0).trans rfl
    have k3 : w.cell? ⟨gp, 0, none⟩ = some (.func (.func 125) #[] #[.pointer (some ⟨gb, 0, none⟩), .pointer (some ⟨ga, 0, none⟩), .pointer (some ⟨gp, 0, none⟩)]) := (blk_cell hI.fn 0).trans rfl
    have hf1 := blk_frozen hI.all 0
    unfold fo_oPut at h
    clear hI hO hb0 hb1 hb2
    by_cases c : u = fo_ufull bs.length
    · rw [if_pos c] at h
      obtain rfl := Option.some.inj h
      have cb1 : (u == wrap64 (wrap64 (2 ^ bs.length) - 1)) = true := beq_iff_eq.mpr c
      clear h c
      have HL : Aside0 ((acc.length + 1) * 24 ≤ 140737488355328) := ⟨by simp at hsz; omega⟩
      clear hsz
      go_enter Try.func125, Try.ntmps125
      go_wp2_with (at_builtin; go_must (refine Kd.S_append (Kd.slice 3 (Kd.int .i64)) (w0 := w) B rfl (.tmp 17) (.tmp 19) 23 22 (.slice none 0 0) 24 rfl Try.underlying23 info22 rfl (by decide) (by decide) va acc o [.slice Ao o.length co] (fun k => B ≤ k) (fun k => lo ≤ k ∧ B ≤ k) rfl rfl ?hp (fun k hk => ⟨hk.2, fun q => by have := (Kd.S_R HI.out.own).1 k q.symm; omega⟩) (fun k hk => Nat.le_trans HI.out.sB hk) (Kd.S_mono HI.out.own (fun k hk => ⟨hk.1, fun q => by omega⟩)) (Below.refl _ _) HI.out.sB HL.out ?_; (case hp => exact ⟨_, rfl, Kd.R_mono (Kd.R_bound HO.out) (fun k hk => ⟨hk.1, hk.2.1⟩)⟩); intro v1 w1 s1 s2 s3 s4; obtain ⟨A1, c1, rfl⟩ := Kd.S_slice s1; have ka := blk_grown HI.out.all s3 HI.out.nega.1; have kc : w1.cell? ⟨ga, 0, none⟩ = some va := (blk_cell ka 0).trans rfl; have kd := blk_frozen ka 0; have S1 := Aside0.mk s1; have S4 := Aside0.mk s4; clear ka s1 s4))
      (try simp only [Exit.inBlock, Exit.then])
      refine bodyPost_ret (results_none rfl _ _ _) rfl ?_
      obtain ⟨z1, z2, z3⟩ := fo_put_leaf HI.out S1.out s2 s3 S4.out
      have hl2 : (acc ++ [o]).length = acc.length + 1 := by simp
      have z4 := S4.out
      rw [hl2] at z1 z2 z3 z4
      exact ⟨_, rfl, z1, z2, z4, z3⟩
    · rw [if_neg c] at h
      have cb1 : (u == wrap64 (wrap64 (2 ^ bs.length) - 1)) = false := beq_eq_false_iff_ne.mpr c
      have H := Aside0.mk h
      clear h c
      have HS := Aside0.mk hsz
      have ih := fo_put_any wB B gb ga gp bs hbl HBR m
      have IH := Aside0.mk ih
      clear hsz ih
      go_enter Try.func125, Try.ntmps125
      go_wp2
      go_loopg [23] bs.length (fun kq v23 w' => ∃ (k : Nat) (va1 : Value) (acc1 rest : (List (List Int))), v23 = .int .i64 (k : Int) ∧ Aside0 (k + kq = bs.length) ∧ Aside0 (fo_oBlk (fo_oPut bs m) o u k (bs.drop k) = some rest) ∧ Aside0 (acc1 ++ rest = acc ++ R) ∧ Aside0 (fo_PIn wB B w'.heap.size gb ga gp bs w' va1 acc1) ∧ Aside0 (KeepBut w w' ga va.ownBlock) ∧ Aside0 (va1.ownBlock = va.ownBlock ∨ ∃ b, va1.ownBlock = some b ∧ w.heap.size ≤ b) ∧ Aside0 (Below B w w'))
      case atStart => exact ⟨0, va, acc, R, rfl, ⟨by omega⟩, ⟨by simpa using H.out⟩, ⟨rfl⟩, ⟨{ HI.out with sz := Nat.le_refl _, lga := blk_lt HI.out.all, lgp := blk_lt HI.out.fn, own := Kd.S_mono HI.out.own (fun k hk => ⟨hk.1, Nat.lt_of_lt_of_le hk.2 HI.out.sz⟩) }⟩, ⟨KeepBut.refl _ _ _⟩, ⟨.inl rfl⟩, ⟨Below.refl _ _⟩⟩
      case round =>
        obtain ⟨k, va1, acc1, rest, rfl, HK, HA, HE, HP, HQ, HV, HX⟩ := hrel
        cases gk with
        | zero => 
          have q1 : ¬ (k : Int) < (bs.length : Int) := by have := HK.out; omega
          go_wp2
          go_end0
          have hr : rest = [] := by
            have := HA.out
            rw [List.drop_eq_nil_of_le (by have := HK.out; omega)] at this
            simpa [fo_oBlk] using this.symm
          have he := HE.out
          rw [hr, List.append_nil] at he
          exact ⟨va1, rfl, by rw [← he]; exact HP.out, HQ.out, HV.out, HX.out⟩
        | succ kk =>
          have hk := HK.out
          have q0 : k < bs.length := by omega
          have q1 : (k : Int) < (bs.length : Int) := by omega
          have q2 : (0 : Int) ≤ (k : Int) := Int.natCast_nonneg _
          have hd : bs.drop k = bs[k] :: bs.drop (k + 1) := List.drop_eq_getElem_cons q0
          obtain ⟨ad, cs, e1, e2, e3, e4⟩ := Kd.C_get HB.out [] (k : Int) q2 q1
          cases e1
          obtain ⟨A2, c2, rfl, e5, e6⟩ := e3
          have e7 := e4 0 _ rfl
          have hge : bs.getD (k : Int).toNat [] = bs[k] := by simp [List.getD_eq_getElem?_getD, q0]
          rw [hge] at e5 e6 e7
          have e8 : wr.cell? (ad.add k) = some (.slice A2 bs[k].length c2) := by
            have : (k : Int).toNat * (Kd.slice 22 (Kd.slice 3 (Kd.int .i64))).sz + 0 = k := by show (k : Int).toNat * 1 + 0 = k; omega
            rw [this] at e7
            exact pw_cell_below (by rw [HP.out.eB]; exact HP.out.bel) e7
          clear e2 e4 e7 hge
          have HA3 := Aside0.mk HA.out
          rw [hd] at HA3
          by_cases cb : fo_ubit u k = true
          · have cbb := cb
            unfold fo_ubit at cbb
            have HA4 : Aside0 (fo_oBlk (fo_oPut bs m) o u (k + 1) (bs.drop (k + 1)) = some rest) := ⟨by
              have := HA3.out
              unfold fo_oBlk at this
              rw [if_pos cb] at this
              exact this⟩
            clear cb
            go_wp2
            go_roundg kk
            case measure => omega
            case rel => exact ⟨k + 1, va1, acc1, rest, by go_num, ⟨by omega⟩, HA4, HE, HP, HQ, HV, HX⟩
          · have cbb : fo_ubit u k = false := by simpa using cb
            unfold fo_ubit at cbb
            have hA := HA3.out
            unfold fo_oBlk at hA
            rw [if_neg cb] at hA
            obtain ⟨ra, hA1, hA⟩ := Option.bind_eq_some_iff.1 hA
            obtain ⟨rc, hA2, hA⟩ := Option.bind_eq_some_iff.1 hA
            have hA3 : ra ++ rc = rest := Option.some.inj hA
            have HA1 := Aside0.mk hA1
            have HA2 := Aside0.mk hA2
            have HE2 : Aside0 (acc1 ++ (ra ++ rc) = acc ++ R) := ⟨by rw [hA3]; exact HE.out⟩
            clear cb hA hA1 hA2 hA3
            have E6 := Aside0.mk e6
            clear e6
            have hrl : bs[k].length ≤ 1000000000 := HBR.out _ (List.getElem_mem ..)
            generalize bs[k] = rows at *
            go_wp2
            go_loopg [35] rows.length (fun jq v35 w' => ∃ (j : Nat) (va2 : Value) (acc2 rs : (List (List Int))), v35 = .int .i64 (j : Int) ∧ Aside0 (j + jq = rows.length) ∧ Aside0 (fo_oRows (fun o => fo_oPut bs m o (fo_uset u k)) o (rows.drop j) = some rs) ∧ Aside0 (acc2 ++ (rs ++ rc) = acc ++ R) ∧ Aside0 (fo_PIn wB B w'.heap.size gb ga gp bs w' va2 acc2) ∧ Aside0 (KeepBut w w' ga va.ownBlock) ∧ Aside0 (va2.ownBlock = va.ownBlock ∨ ∃ b, va2.ownBlock = some b ∧ w.heap.size ≤ b) ∧ Aside0 (Below B w w'))
            case atStart => exact ⟨0, va1, acc1, ra, rfl, ⟨by omega⟩, ⟨by simpa using HA1.out⟩, HE2, HP, HQ, HV, HX⟩
            case round =>
              obtain ⟨j, va2, acc2, rs, rfl, HJ, HR1, HE3, HP3, HQ3, HV3, HX3⟩ := hrel
              cases gk with
              | zero =>
                have q3 : ¬ (j : Int) < (rows.length : Int) := by have := HJ.out; omega
                have hr : rs = [] := by
                  have := HR1.out
                  rw [List.drop_eq_nil_of_le (by have := HJ.out; omega)] at this
                  simpa [fo_oRows] using this.symm
                have HE4 : Aside0 (acc2 ++ rc = acc ++ R) := ⟨by have := HE3.out; rw [hr] at this; exact this⟩
                go_wp2
                go_roundg kk
                case measure => omega
                case rel => exact ⟨k + 1, va2, acc2, rc, by go_num, ⟨by omega⟩, HA2, HE4, HP3, HQ3, HV3, HX3⟩
              | succ jj =>
                have hj := HJ.out
                have q4 : j < rows.length := by omega
                have q3 : (j : Int) < (rows.length : Int) := by omega
                have q5 : (0 : Int) ≤ (j : Int) := Int.natCast_nonneg _
                obtain ⟨ad2, cs2, d1, d2, d3, d4⟩ := Kd.C_get E6.out [] (j : Int) q5 q3
                cases d1
                obtain ⟨A3, c3, rfl, d5, d6⟩ := d3
                have d7 := d4 0 _ rfl
                have hge2 : rows.getD (j : Int).toNat [] = rows[j] := by simp [List.getD_eq_getElem?_getD, q4]
                rw [hge2] at d5 d6 d7
                have d8 : wr.cell? (ad2.add j) = some (.slice A3 rows[j].length c3) := by
                  have : (j : Int).toNat * (Kd.slice 3 (Kd.int .i64)).sz + 0 = j := by show (j : Int).toNat * 1 + 0 = j; omega
                  rw [this] at d7
                  exact pw_cell_below (by rw [HP3.out.eB]; exact HP3.out.bel) d7
                clear d2 d4 d7 hge2
                have D6 := Aside0.mk d6
                clear d6
                have hd2 : rows.drop j = rows[j] :: rows.drop (j + 1) := List.drop_eq_getElem_cons q4
                have HR2 := Aside0.mk HR1.out
                rw [hd2] at HR2
                generalize rows[j] = row at *
                have kf : wr.cell? ⟨gp, 0, none⟩ = some (.func (.func 125) #[] #[.pointer (some ⟨gb, 0, none⟩), .pointer (some ⟨ga, 0, none⟩), .pointer (some ⟨gp, 0, none⟩)]) := (blk_cell HP3.out.fn 0).trans rfl
                have hOw : Kd.R (Kd.int .i64) 3 wr B (fun k => lo ≤ k) (.slice Ao o.length co) o := Kd.R_step HO.out (fun q hq hlt => HQ3.out.2 q hlt (fun e => by have := HI.out.lga; omega) (fun e => by have := ((Kd.S_R HI.out.own).1 q e.symm).2; omega))
                obtain ⟨_, hol, hcO⟩ := Kd.R_reads' hOw
                have HCO := Aside0.mk hcO
                have HOL := Aside0.mk hol
                clear hcO hol hOw
                have hR3 := HR2.out
                unfold fo_oRows at hR3
                by_cases hrow : (o ++ row).length ≤ 100
                rotate_left
                · rw [if_neg hrow] at hR3; cases hR3
                rw [if_pos hrow] at hR3
                obtain ⟨r1_, hr1, hR3⟩ := Option.bind_eq_some_iff.1 hR3
                obtain ⟨r2_, hr2, hR3⟩ := Option.bind_eq_some_iff.1 hR3
                have hR4 : r1_ ++ r2_ = rs := Option.some.inj hR3
                have HR3 : Aside0 (fo_oPut bs m (o ++ row) (Go.bits .or .i64 u (wrap64 (2 ^ k))) = some r1_) := ⟨hr1⟩
                have HR4 := Aside0.mk hr2
                have HE4 : Aside0 ((acc2 ++ r1_) ++ (r2_ ++ rc) = acc ++ R) := ⟨by rw [← HE3.out, ← hR4]; simp⟩
                have HZ : Aside0 ((acc2 ++ r1_).length ≤ 1000000000) := ⟨by have := congrArg List.length HE4.out; simp only [List.length_append] at this ⊢; have := HS.out; simp only [List.length_append] at this; omega⟩
                have D5 := Aside0.mk d5
                have HRW := Aside0.mk hrow
                clear hrow d5 hr1 hr2 hR3 hR4 HR2
                go_upto_region 9 with (fail)
                have kfd : wr.drew.cell? ⟨gp, 0, none⟩ = some (.func (.func 125) #[] #[.pointer (some ⟨gb, 0, none⟩), .pointer (some ⟨ga, 0, none⟩), .pointer (some ⟨gp, 0, none⟩)]) := kf
                go_region_held3 (fun w' => w'.cell? ⟨gp, 0, none⟩ = some (.func (.func 125) #[] #[.pointer (some ⟨gb, 0, none⟩), .pointer (some ⟨ga, 0, none⟩), .pointer (some ⟨gp, 0, none⟩)])) (assumption) (first
                  | (go_at_call 126; (refine (slices_Clone_int_int.calls Ao co o o _ (Kd.C_below HCO.out (below_drew (Below.refl _ _))) HOL.out (if_pos (by omega))).mono ?_); rintro e w3 ⟨v0, rfl, hR0, hb0⟩; have kf3 := pw_cell_below hb0 kfd; have HR0 := Aside0.mk (Kd.R_mono (Kd.R_bound hR0) (ok' := fun k => wr.drew.heap.size ≤ k) (fun k hk => hk.2.1)); have HB0 := Aside0.mk hb0; have hbw : Below B wB w3 := (HP3.out.bel.drew).trans (hb0.mono HP3.out.sB); have HD := Aside0.mk (Kd.C_below D6.out (by rw [HP3.out.eB]; exact hbw)); clear hR0 hb0 hbw)
                  | (go_at_call 125; go_must (rw [i64_w, ← List.length_append]; ((with_reducible refine Calls.mono (IH.out (o ++ row) (Go.bits .or .i64 u (wrap64 (2 ^ k))) r1_ acc2 w4 va2 wr.drew.heap.size A5 c5 ((HP3.out.below (below_drew (Below.refl _ _))).below HB4.out) HR5.out HRW.out HR3.out HZ.out) ?_)); rintro e w5 ⟨va5, rfl, p1, p2, p3, p4⟩; have kf5 : w5.cell? ⟨gp, 0, none⟩ = some (.func (.func 125) #[] #[.pointer (some ⟨gb, 0, none⟩), .pointer (some ⟨ga, 0, none⟩), .pointer (some ⟨gp, 0, none⟩)]) := (blk_cell p1.fn 0).trans rfl; have P1 := Aside0.mk p1; have P2 := Aside0.mk p2; have P3 := Aside0.mk p3; have P4 := Aside0.mk p4; clear p1 p2 p3 p4))
                  | (refine Kd.R_append_rows_step (Kd.int .i64) (w0 := w3) wr.drew.heap.size (by simp [Region.wanted]) (.tmp 41) (.tmp 42) 22 3 (.int .i64 0) 8 (by rfl) Try.underlying22 info3 rfl (by decide) (by decide) v0 o row A3 row.length c3 (fun k => wr.drew.heap.size ≤ k) (fun _ => False) (by rfl) (by rfl) HR0.out HD.out (fun x cs h => h) (fun k hk => hk.elim) (fun k hk => Nat.le_trans HB0.out.size hk) (Below.refl _ _) HB0.out.size (by have := HRW.out; simp at this; omega) ?_; intro v1 w4 r1 r2 r3 r4; obtain ⟨A5, c5, rfl⟩ := Kd.R_slice r1; have HB4 : Aside0 (Below wr.drew.heap.size wr.drew w4) := ⟨HB0.out.trans r2⟩; have kf4 := pw_cell_below HB4.out kfd; have HR5 : Aside0 (Kd.R (Kd.int .i64) 3 w4 B (fun k => wr.drew.heap.size ≤ k) (.slice A5 (o ++ row).length c5) (o ++ row)) := ⟨Kd.R_lower r1 HP3.out.sB⟩; clear r1 r2 r3 r4)
                  | fail)
                have HB6 : Aside0 (Below wr.heap.size wr w4) := ⟨(below_drew (Below.refl _ _) : Below wr.heap.size wr wr.drew).trans HB4.out⟩
                have HK5 : Aside0 (KeepBut w w5 ga va.ownBlock) := ⟨HQ3.out.trans ((KeepBut.of_below HB6.out ga va2.ownBlock).trans P2.out (.inl rfl)) HV3.out⟩
                have HV5 : Aside0 (va5.ownBlock = va.ownBlock ∨ ∃ b, va5.ownBlock = some b ∧ w.heap.size ≤ b) := ⟨by
                  rcases P3.out with e | ⟨q, e, hq⟩
                  · rw [e]; exact HV3.out
                  · exact .inr ⟨q, e, by have := HX3.out.size; have := HB6.out.size; omega⟩⟩
                have HX5 : Aside0 (Below B w w5) := ⟨(HX3.out.trans (HB6.out.mono HP3.out.sB)).trans P4.out⟩
                go_wp2
                go_roundg jj
                case measure => omega
                case rel => exact ⟨j + 1, va5, acc2 ++ r1_, r2_, by go_num, ⟨by omega⟩, HR4, HE4, P1, HK5, HV5, HX5⟩
def fo_fKids (P : Int → Option (List (List Int))) (w : Int) : List Int → Nat → Option (List (List (List Int)))
  | [], _ => some []
  | h :: t, j => if h = w then (P ((j : Int) + 1)).bind fun a => (fo_fKids P w t (j + 1)).bind fun b => some (a :: b) else fo_fKids P w t (j + 1)
def fo_fOrd (l : List Int) : Nat → Int → Option (List (List Int))
  | 0, _ => none
  | m + 1, w => (fo_fKids (fo_fOrd l m) w l 0).bind fun bs => if bs.length ≤ 7 ∧ ∀ x, x ∈ bs → x.length ≤ 1000000000 then (fo_oPut ([[w]] :: bs) 9 [] 0).bind fun R => if R.length ≤ 1000000000 then some R else none else none
def fo_FordP (w : World) (R : (List (List Int))) (e : Ending) (w' : World) : Prop := ∃ v, e = .returned v ∧ Kd.S (Kd.slice 3 (Kd.int .i64)) 22 w' w.heap.size (fun _ => True) v R ∧ Below w.heap.size w w'
theorem fo_R_one {α : Type} (d : Kd α) (hd : d.sz = 1) (w : World) {base e : Nat} {ok okp : Nat → Prop} {x : α} {u : Value} (hm : d.M w base okp x [u]) (hok : ∀ k, okp k → ok k) (hf : ok w.heap.size) (hb : base ≤ w.heap.size) : d.R e (w.alloc (.cells #[u] e)) base ok (.slice (some ⟨w.heap.size, 0, none⟩) 1 1) [x] := by
  refine ⟨fun k hk => ?_, [u], ?_, ?_⟩
  · have : w.heap.size = k := by simpa [Value.ownBlock] using hk
    subst this
    exact hf
  · have h2 := World.rowOf_lit (base := base) (e := e) (size := d.sz) w #[u] 1 hb (by simp [maxLen]) (by simp [hd])
    simpa using h2
  · have hr : Reps (d.M w base okp) d.sz [x] [u] := by rw [hd]; exact Reps.one hm (Reps.none _ _)
    refine hr.imp_ (fun p c hp => d.M_mono (fun k hk => ⟨hok k hk.1, fun he => ?_⟩) (Kd.M_below (d.M_bound hp) (below_alloc (Below.refl _ _) _)))
    have h3 : k = w.heap.size := by simpa [Value.ownBlock] using he
    have := hk.2.2.1
    omega
theorem fo_first_parts (w : World) (x : Int) : Kd.R (Kd.slice 22 (Kd.slice 3 (Kd.int .i64))) 23 ((((w.alloc (Obj.cells #[Value.int IntKind.i64 x] 3)).alloc (Obj.cells #[Value.slice (some { block := w.heap.size, off := 0 }) 1 1] 22)).alloc (Obj.cells #[Value.slice (some { block := w.heap.size + 1, off := 0 }) 1 1] 23)).alloc (Obj.cells #[Value.slice (some { block := w.heap.size + 1 + 1, off := 0 }) 1 1] 111)) w.heap.size (fun k => k ≠ w.heap.size + 1 + 1 + 1) (.slice (some ⟨w.heap.size + 1 + 1, 0, none⟩) 1 1) [[[x]]] ∧
    Below w.heap.size w ((((w.alloc (Obj.cells #[Value.int IntKind.i64 x] 3)).alloc (Obj.cells #[Value.slice (some { block := w.heap.size, off := 0 }) 1 1] 22)).alloc (Obj.cells #[Value.slice (some { block := w.heap.size + 1, off := 0 }) 1 1] 23)).alloc (Obj.cells #[Value.slice (some { block := w.heap.size + 1 + 1, off := 0 }) 1 1] 111)) := by
  have r1 := fo_R_one (Kd.int .i64) rfl w (base := w.heap.size) (e := 3) (ok := fun _ => True) (okp := fun _ => False) (x := x) (u := .int .i64 x) rfl (fun _ h => h.elim) trivial (Nat.le_refl _)
  have r2 := fo_R_one (Kd.slice 3 (Kd.int .i64)) rfl (w.alloc (Obj.cells #[Value.int IntKind.i64 x] 3)) (base := w.heap.size) (e := 22) (ok := fun _ => True) (okp := fun _ => True) (x := [x]) ⟨_, rfl, r1⟩ (fun _ h => h) trivial (by simp)
  have r3 := fo_R_one (Kd.slice 22 (Kd.slice 3 (Kd.int .i64))) rfl ((w.alloc (Obj.cells #[Value.int IntKind.i64 x] 3)).alloc (Obj.cells #[Value.slice (some { block := w.heap.size, off := 0 }) 1 1] 22)) (base := w.heap.size) (e := 23) (ok := fun _ => True) (okp := fun _ => True) (x := [[x]]) ⟨_, rfl, by simpa using r2⟩ (fun _ h => h) trivial (by simp; omega)
  refine ⟨?_, ?_⟩
  · have r4 := Kd.R_alloc (Kd.R_bound r3) (Obj.cells #[Value.slice (some { block := w.heap.size + 1 + 1, off := 0 }) 1 1] 111)
    have r5 := Kd.R_mono r4 (ok' := fun k => k ≠ w.heap.size + 1 + 1 + 1) (fun k hk => by have := hk.2.2.1; simp at this; omega)
    simpa using r5
  · exact (((below_alloc (Below.refl _ _) _).alloc (by simp) _).alloc (by simp; omega) _).alloc (by simp; omega) _
theorem fo_first_blk (w : World) (x : Int) : ((((w.alloc (Obj.cells #[Value.int IntKind.i64 x] 3)).alloc (Obj.cells #[Value.slice (some { block := w.heap.size, off := 0 }) 1 1] 22)).alloc (Obj.cells #[Value.slice (some { block := w.heap.size + 1, off := 0 }) 1 1] 23)).alloc (Obj.cells #[Value.slice (some { block := w.heap.size + 1 + 1, off := 0 }) 1 1] 111)).heap[w.heap.size + 1 + 1 + 1]? = some (.cells #[.slice (some { block := w.heap.size + 1 + 1, off := 0 }) 1 1] 111 (0, 0)) := by
  have := heap_alloc_new ((((w.alloc (Obj.cells #[Value.int IntKind.i64 x] 3)).alloc (Obj.cells #[Value.slice (some { block := w.heap.size, off := 0 }) 1 1] 22)).alloc (Obj.cells #[Value.slice (some { block := w.heap.size + 1, off := 0 }) 1 1] 23))) (Obj.cells #[Value.slice (some { block := w.heap.size + 1 + 1, off := 0 }) 1 1] 111)
  simpa using this
theorem fo_S_empty {α : Type} (d : Kd α) (w : World) {base e : Nat} {ok : Nat → Prop} (hf : ok w.heap.size) (hb : base ≤ w.heap.size) : Kd.S d e (w.alloc (.cells #[] e)) base ok (.slice (some ⟨w.heap.size, 0, none⟩) 0 0) [] := by
  refine ⟨fun _ => 0, fun k hk => ?_, [], ?_, Reps.none _ _⟩
  · have : w.heap.size = k := by simpa [Value.ownBlock] using hk
    subst this
    exact hf
  · have h2 := World.rowOf_lit (base := base) (e := e) (size := (Kd.tag (fun _ => 0) d).sz) w #[] 0 hb (by simp [maxLen]) (by simp)
    simpa using h2
/-- what the closure finds at first -/
theorem fo_first_in {w wr : World} {g0 : Nat} {vb : Value} {bs : List (List (List Int))} (hlt : g0 < wr.heap.size) (hg : wr.heap[g0]? = some (.cells #[vb] 111 (0, 0))) {ok : Nat → Prop} {base : Nat} (hR : Kd.R (Kd.slice 22 (Kd.slice 3 (Kd.int .i64))) 23 wr base ok vb bs) :
    fo_PIn wr wr.heap.size (wr.heap.size + 1 + 1 + 1) g0 (wr.heap.size + 1) (wr.heap.size + 1 + 1) bs (((wr.alloc (Obj.cells #[] 22)).alloc (Obj.cells #[Value.slice (some { block := wr.heap.size, off := 0 }) 0 0] 23)).alloc (Obj.cells #[Value.func (Fn.func 125) #[] #[Value.pointer (some { block := g0, off := 0 }), Value.pointer (some { block := wr.heap.size + 1, off := 0 }), Value.pointer (some { block := wr.heap.size + 1 + 1, off := 0 })]] 112)) (.slice (some ⟨wr.heap.size, 0, none⟩) 0 0) [] := by
  have b1 : Below wr.heap.size wr (wr.alloc (Obj.cells #[] 22)) := below_alloc (Below.refl _ _) _
  have h1 := heap_alloc_new (wr.alloc (Obj.cells #[] 22)) (Obj.cells #[Value.slice (some { block := wr.heap.size, off := 0 }) 0 0] 23)
  have h2 := heap_alloc_new ((wr.alloc (Obj.cells #[] 22)).alloc (Obj.cells #[Value.slice (some { block := wr.heap.size, off := 0 }) 0 0] 23)) (Obj.cells #[Value.func (Fn.func 125) #[] #[Value.pointer (some { block := g0, off := 0 }), Value.pointer (some { block := wr.heap.size + 1, off := 0 }), Value.pointer (some { block := wr.heap.size + 1 + 1, off := 0 })]] 112)
  obtain ⟨A, c, rfl, _, hC⟩ := Kd.R_reads hR
  exact {
    eB := rfl
    bel := (b1.alloc (by simp) _).alloc (by simp; omega) _
    lb := hlt
    la := by omega
    lp := by omega
    ne := by omega
    sz := by simp
    lga := by omega
    lgp := by omega
    sB := by simp; omega
    blk := ⟨A, c, hg, hC⟩
    all := by
      have := blk_alloc h1 (Obj.cells #[Value.func (Fn.func 125) #[] #[Value.pointer (some { block := g0, off := 0 }), Value.pointer (some { block := wr.heap.size + 1, off := 0 }), Value.pointer (some { block := wr.heap.size + 1 + 1, off := 0 })]] 112)
      simpa using this
    own := Kd.S_alloc (Kd.S_alloc (fo_S_empty (Kd.slice 3 (Kd.int .i64)) wr ⟨Nat.le_refl _, by omega⟩ (Nat.le_refl _)) _) _
    fn := by simpa using h2 }
theorem fo_ford_any (l : List Int) (hl : l.length ≤ 8) : ∀ (m : Nat) (x : Int) (R : (List (List Int))) (w : World) (A : Option Addr) (c : Nat), Kd.C (Kd.int .i64) w A l.length l → l.length ≤ c → fo_fOrd l m x = some R →
    Calls Try.prog 99 #[.slice A l.length c, .int .i64 x] w (fo_FordP w R)
  | 0, x, R, w, A, c, _, _, h => by cases h
  | m + 1, x, R, w, A, c, hC, hc, h => by
    have HC := Aside0.mk hC
    have ih := fo_ford_any l hl m
    have IH := Aside0.mk ih
    unfold fo_fOrd at h
    obtain ⟨BS, hk, h⟩ := Option.bind_eq_some_iff.1 h
    by_cases hg : BS.length ≤ 7 ∧ ∀ x, x ∈ BS → x.length ≤ 1000000000
    rotate_left
    · rw [if_neg hg] at h; cases h
    rw [if_pos hg] at h
    obtain ⟨R', h2, h⟩ := Option.bind_eq_some_iff.1 h
    by_cases hr : R'.length ≤ 1000000000
    rotate_left
    · rw [if_neg hr] at h; cases h
    rw [if_pos hr] at h
    obtain rfl := Option.some.inj h
    have HK := Aside0.mk hk
    have HG0 := Aside0.mk hg
    have H := Aside0.mk h2
    have HRL := Aside0.mk hr
    clear hC ih h h2 hk hg hr
    go_enter Try.func99, Try.ntmps99
    have hmf : ∀ (fn : Fn) (first cap : Array Value) (w : World), (Instr.makeFunc fn first cap).run Try.prog w = .ok (.func fn first cap) w := fun _ _ _ _ => rfl
    have hsf : ∀ (a : Addr) (c : Array Value) (w : World) (v : Value), w.cell? a = some v → w.frozen? a = false → (Go.store a (.func (.func 125) #[] c)).run Try.prog w = .ok () (w.setCell a (.func (.func 125) #[] c)) := by
      intro a c w v h1 h2
      rw [run_store Try.prog w a (.func (.func 125) #[] c) .plain rfl, h1, h2]
      rfl
    go_wp2
    go_loopg [16] l.length (fun kq v16 w' => ∃ (j : Nat) (vb : Value) (bs rest : List (List (List Int))), v16 = .int .i64 (j : Int) ∧ Aside0 (j + kq = l.length) ∧ Aside0 (fo_fKids (fo_fOrd l m) x (l.drop j) j = some rest) ∧ Aside0 (bs ++ rest = BS) ∧ Aside0 (bs.length ≤ j) ∧ Aside0 (w'.heap[w.heap.size + 1 + 1 + 1]? = some (.cells #[vb] 111 (0, 0))) ∧ Aside0 (Kd.R (Kd.slice 22 (Kd.slice 3 (Kd.int .i64))) 23 w' w.heap.size (fun k => k ≠ w.heap.size + 1 + 1 + 1) vb ([[x]] :: bs)) ∧ Aside0 (Below w.heap.size w w'))
    case atStart => exact ⟨0, _, [], BS, rfl, ⟨by omega⟩, ⟨by simpa using HK.out⟩, ⟨rfl⟩, ⟨Nat.le_refl _⟩, ⟨fo_first_blk w x⟩, ⟨(fo_first_parts w x).1⟩, ⟨(fo_first_parts w x).2⟩⟩
    case round =>
      obtain ⟨j, vb, bs, rest, rfl, HJ, HF, HE, HL, HG, HR, HB⟩ := hrel
      have k1 : wr.cell? ⟨w.heap.size + 1 + 1 + 1, 0, none⟩ = some vb := (blk_cell HG.out 0).trans rfl
      have k2 := blk_frozen HG.out 0
      cases gk with
      | zero =>
        have q1 : ¬ (j : Int) < (l.length : Int) := by have := HJ.out; omega
        have hr0 : rest = [] := by
          have := HF.out
          rw [List.drop_eq_nil_of_le (by have := HJ.out; omega)] at this
          simpa [fo_fKids] using this.symm
        have HR1 : Aside0 (Kd.R (Kd.slice 22 (Kd.slice 3 (Kd.int .i64))) 23 wr w.heap.size (fun k => k ≠ w.heap.size + 1 + 1 + 1) vb ([[x]] :: BS)) := ⟨by have := HE.out; rw [hr0, List.append_nil] at this; rw [← this]; exact HR.out⟩
        have HI := Aside0.mk (fo_first_in (w := w) (blk_lt HG.out) HG.out HR1.out)
        have hbl : ([[x]] :: BS).length ≤ 8 := by have := HG0.out.1; simp; omega
        have HBR : Aside0 (∀ y, y ∈ ([[x]] :: BS) → y.length ≤ 1000000000) := ⟨fun y hy => by
          rcases List.mem_cons.mp hy with rfl | hy
          · simp
          · exact HG0.out.2 y hy⟩
        have HBL := Aside0.mk hbl
        have HRL2 : Aside0 ((([] : (List (List Int))) ++ R').length ≤ 1000000000) := ⟨HRL.out⟩
        clear hr0 hbl
        go_wp2_with (go_at_call 125; go_must ((with_reducible refine Calls.mono (fo_put_any wr wr.heap.size (w.heap.size + 1 + 1 + 1) (wr.heap.size + 1) (wr.heap.size + 1 + 1) ([[x]] :: BS) HBL.out HBR 9 [] 0 R' [] _ _ _ none 0 HI.out (Kd.R_nil _ _ _ _ _) (by simp) H.out HRL2.out) ?_); rintro e w5 ⟨va5, rfl, p1, p2, p3, p4⟩; have k5 : w5.cell? ⟨wr.heap.size + 1, 0, none⟩ = some va5 := (blk_cell p1.all 0).trans rfl; have P1 := Aside0.mk p1; have P4 := Aside0.mk p4; clear p1 p2 p3 p4))
        go_ret
        exact ⟨_, rfl, Kd.S_mono (Kd.S_lower P1.out.own (HB.out.size)) (fun _ _ => trivial), (HB.out.trans ((HI.out.bel.trans P4.out).mono HB.out.size))⟩
      | succ kk =>
        have hj := HJ.out
        have q0 : j < l.length := by omega
        have q1 : (j : Int) < (l.length : Int) := by omega
        have q2 : (0 : Int) ≤ (j : Int) := Int.natCast_nonneg _
        have hd : l.drop j = l[j] :: l.drop (j + 1) := List.drop_eq_getElem_cons q0
        have hf := HF.out
        rw [hd] at hf
        unfold fo_fKids at hf
        obtain ⟨ad, e1, e2⟩ := Kd.at_int (Kd.C_below HC.out HB.out) (j : Int) q2 q1
        subst e1
        rw [Int.toNat_natCast] at e2
        have HF2 : Aside0 ((if rd l (j : Int) = x then (fo_fOrd l m ((j : Int) + 1)).bind fun a => (fo_fKids (fo_fOrd l m) x (l.drop (j + 1)) (j + 1)).bind fun b => some (a :: b) else fo_fKids (fo_fOrd l m) x (l.drop (j + 1)) (j + 1)) = some rest) := ⟨by
          have : rd l (j : Int) = l[j] := by simp [rd, q0]
          rw [this]; exact hf⟩
        clear hd hf HF
        by_cases c1 : rd l (j : Int) = x
        rotate_left
        · have cb1 : (rd l (j : Int) == x) = false := beq_eq_false_iff_ne.mpr c1
          have hf := HF2.out
          rw [if_neg c1] at hf
          have HF3 := Aside0.mk hf
          clear hf c1 HF2
          go_wp2
          go_roundg kk
          case measure => omega
          case rel => exact ⟨j + 1, vb, bs, rest, by go_num, ⟨by omega⟩, HF3, HE, ⟨by have := HL.out; omega⟩, HG, HR, HB⟩
        · have cb1 : (rd l (j : Int) == x) = true := beq_iff_eq.mpr c1
          have hf := HF2.out
          rw [if_pos c1] at hf
          obtain ⟨r1, hf1, hf⟩ := Option.bind_eq_some_iff.1 hf
          obtain ⟨r2, hf2, hf⟩ := Option.bind_eq_some_iff.1 hf
          have HF4 := Aside0.mk hf1
          have HF3 := Aside0.mk hf2
          have HE3 : Aside0 ((bs ++ [r1]) ++ r2 = BS) := ⟨by rw [← HE.out, ← Option.some.inj hf]; simp⟩
          clear hf hf1 hf2 c1 HF2
          have hjw : IntKind.i64.wrap ((j : Int) + 1) = (j : Int) + 1 := by rw [i64_w]; unfold wrap64; omega
          go_upto_region 6 with (fail)
          have hgb : w.heap.size + 1 + 1 + 1 < wr.heap.size := blk_lt HG.out
          have HS := Aside0.mk hgb
          clear hgb
          go_region_law? (first
            | (go_simp; go_at_call 99; (with_reducible refine Calls.mono (IH.out ((j : Int) + 1) r1 _ (some ad) c (Kd.C_below HC.out (below_drew HB.out)) hc HF4.out) ?_); rintro e w3 ⟨v3, rfl, hs3, hb3⟩; obtain ⟨A3, c3, rfl⟩ := Kd.S_slice hs3; have kc3 := pw_cell_below hb3 (show wr.drew.cell? _ = _ from k1); have kd3 : ∀ o : Obj, (w3.alloc o).cell? ⟨w.heap.size + 1 + 1 + 1, 0, none⟩ = some vb := fun o => pw_cell_below (below_alloc (Below.refl _ _) o) kc3; have S3 := Aside0.mk hs3; have B3 := Aside0.mk hb3; clear hs3 hb3)
            | (refine Kd.R_append_step (Kd.slice 22 (Kd.slice 3 (Kd.int .i64))) (w0 := wr.drew) (W := w3) w.heap.size (by simp [Region.wanted]) (.tmp 24) (.tmp 29) 111 23 (.slice none 0 0) 24 (by rfl) Try.underlying111 info23 rfl (by decide) (by decide) vb ([[x]] :: bs) r1 [.slice A3 r1.length c3] (fun k => k ≠ w.heap.size + 1 + 1 + 1) (fun k => wr.drew.heap.size ≤ k) (by rfl) (by rfl) ?hp ?hok ?hfr ?hro ?hbb ?hbs ?hl ?_; (case hp => exact ⟨_, rfl, Kd.R_lower (Kd.R_mono (Kd.R_bound (Kd.S_R S3.out)) (fun k hk => hk.2.1)) (Nat.le_of_lt (by have := HS.out; show w.heap.size < wr.heap.size; omega))⟩); (case hok => intro k hk; exact ⟨fun e => by have := HS.out; have : wr.heap.size ≤ k := hk; omega, fun e => by have := ((Kd.R_bound HR.out).1 k e.symm).2.2.1; have : wr.heap.size ≤ k := hk; omega⟩); (case hfr => intro k hk; have := HS.out; have : wr.heap.size ≤ w3.heap.size := B3.out.size; omega); (case hro => exact Kd.R_below HR.out ((below_drew (Below.refl _ _) : Below wr.heap.size wr wr.drew).trans B3.out)); (case hbb => exact B3.out.mono (by have := HS.out; show w.heap.size ≤ wr.heap.size; omega)); (case hbs => have := HS.out; have : wr.heap.size ≤ w3.heap.size := B3.out.size; omega); (case hl => have := HL.out; simp; omega); intro v4 w4 a1 a2 a3 a4; obtain ⟨A4, c4, rfl⟩ := Kd.R_slice a1; generalize (([[x]] :: bs) ++ [r1]).length = n4 at *; have HG4 : Aside0 (w4.heap[w.heap.size + 1 + 1 + 1]? = some (.cells #[vb] 111 (0, 0))) := ⟨blk_grown (blk_below HG.out ((below_drew (Below.refl _ _) : Below wr.heap.size wr wr.drew).trans B3.out)) a3 (fun q => HR.out.1 _ q.symm rfl)⟩; have kc4 : w4.cell? ⟨w.heap.size + 1 + 1 + 1, 0, none⟩ = some vb := (blk_cell HG4.out 0).trans rfl; have kf4 := blk_frozen HG4.out 0; have A1 : Aside0 (Kd.R (Kd.slice 22 (Kd.slice 3 (Kd.int .i64))) 23 w4 w.heap.size (fun k => k ≠ w.heap.size + 1 + 1 + 1) (.slice A4 n4 c4) ([[x]] :: (bs ++ [r1]))) := ⟨a1⟩; have A2 := Aside0.mk a2; clear a1 a2 a3 a4))
          all_goals
            have HL5 : Aside0 ((bs ++ [r1]).length ≤ j + 1) := ⟨by have := HL.out; simp; omega⟩
            have HG5 : Aside0 ((w4.setCell ⟨w.heap.size + 1 + 1 + 1, 0, none⟩ (.slice A4 n4 c4)).heap[w.heap.size + 1 + 1 + 1]? = some (.cells #[.slice A4 n4 c4] 111 (0, 0))) := ⟨blk_put HG4.out 0 (.slice A4 n4 c4) rfl⟩
            have HR5 := Aside0.mk (Kd.R_far A1.out (p := ⟨w.heap.size + 1 + 1 + 1, 0, none⟩) (fun k hk => hk) (.slice A4 n4 c4))
            have HB5 : Aside0 (Below w.heap.size w (w4.setCell ⟨w.heap.size + 1 + 1 + 1, 0, none⟩ (.slice A4 n4 c4))) := ⟨((HB.out.drew).trans A2.out).setCell (by simp; omega) _⟩
            go_wp2
            go_roundg kk
            case measure => omega
            case rel => exact ⟨j + 1, _, bs ++ [r1], r2, by go_num, ⟨by omega⟩, HF3, HE3, HL5, HG5, HR5, HB5⟩
end
def impl_flatOrders.f (l0 : List Int) (a1 : Int) : Option (List (List Int)) := if l0.length ≤ 8 then fo_fOrd l0 9 a1 else none
theorem impl_flatOrders.calls (A0 : Option Addr) (c0 : Nat) (l0 : List Int) (a1 : Int) (r : List (List Int)) (w : World) (hr0 : Kd.C (Kd.int .i64) w A0 l0.length l0) (hc0 : l0.length ≤ c0) (h : impl_flatOrders.f l0 a1 = some r) :
    Calls Try.prog 99 #[.slice A0 l0.length c0, .int .i64 a1] w fun e w' => ∃ v0_ : Value, e = .returned (v0_) ∧ Kd.S (Kd.slice 3 (Kd.int .i64)) 22 w' w.heap.size (fun _ => True) v0_ r ∧ Below w.heap.size w w' := by
  unfold impl_flatOrders.f at h
  by_cases c : l0.length ≤ 8
  · rw [if_pos c] at h
    exact fo_ford_any l0 c 9 a1 r w A0 c0 hr0 hc0 h
  · rw [if_neg c] at h; cases h

/-! ### impl_length: function 101 -/
def impl_length.l0 : Nat → Int → List Int → Int → Int → Option (Int)
  | 0, _, _, _, _ => none
  | k + 1, x3, x6, x7, x8 => if x8 < x7 then (if 0 ≤ x8 then (if x8 < (x6.length : Int) then (if (rd x6 x8) = 0 then (impl_length.l0 k x3 x6 x7 (wrap64 (x8 + 1))) else (impl_length.l0 k (wrap64 (x3 + (mx (wrap64 ((wrap64 (x8 + 1)) - (rd x6 x8))) (wrap64 ((wrap64 ((rd x6 x8) - x8)) - 1))))) x6 x7 (wrap64 (x8 + 1)))) else (none)) else (none)) else (some x3)
def impl_length.f (k : Nat) (l0 : List Int) : Option (Int) := impl_length.l0 k 0 l0 (l0.length : Int) 0
theorem impl_length.mono_l : ∀ k, (∀ y0 y1 y2 y3, LeO (impl_length.l0 k y0 y1 y2 y3) (impl_length.l0 (k + 1) y0 y1 y2 y3))
  | 0 => fun _ _ _ _ r h => by simp [impl_length.l0] at h
  | k + 1 => by
    have ih0 := impl_length.mono_l k
    · intro y0 y1 y2 y3
      unfold impl_length.l0
      repeat' first
      | (with_reducible exact ih0 _ _ _ _)
      | (with_reducible exact LeO.refl _)
      | (with_reducible exact LeO.none _)
      | (with_reducible refine LeO.ite ?_ ?_)
      | (with_reducible refine LeO.bind ?_ (fun _ => ?_))
      | exact ih0 _ _ _ _
      | exact LeO.none _
      | refine LeO.ite ?_ ?_
      | refine LeO.bind ?_ (fun _ => ?_)
theorem impl_length.mono : ∀ a0 k, LeO (impl_length.f k a0) (impl_length.f (k + 1) a0) := by
  intro a0 k
  have ih0 := impl_length.mono_l k
  unfold impl_length.f
  repeat' first
      | (with_reducible exact ih0 _ _ _ _)
      | (with_reducible exact LeO.refl _)
      | (with_reducible exact LeO.none _)
      | (with_reducible refine LeO.ite ?_ ?_)
      | (with_reducible refine LeO.bind ?_ (fun _ => ?_))
      | exact ih0 _ _ _ _
      | exact LeO.none _
      | refine LeO.ite ?_ ?_
      | refine LeO.bind ?_ (fun _ => ?_)
set_option maxHeartbeats 8000000 in
set_option maxRecDepth 100000 in
theorem impl_length.calls (k : Nat) (A0 : Option Addr) (c0 : Nat) (l0 : List Int) (r : Int) (w : World) (hr0 : Kd.C (Kd.int .i64) w A0 l0.length l0) (hc0 : l0.length ≤ c0) (h : impl_length.f k l0 = some r) :
    Calls Try.prog 101 #[.slice A0 l0.length c0] w fun e w' => e = .returned (.int .i64 r) ∧ Below w.heap.size w w' := by
  have HR0 := Aside0.mk hr0
  have HC0 := Aside0.mk hc0
  clear hr0 hc0
  have HB := Aside0.mk (Below.refl w.heap.size w)
  have H : (impl_length.l0 k 0 l0 (l0.length : Int) 0) = some r := h
  clear h
  have H' := Aside0.mk H
  clear H
  go_enter Try.func101, Try.ntmps101
  go_wp2
  go_loopg [3, 8] k (fun kq v3 v8 w' => ∃ (x3_1 : Int) (x8_1 : Int), v3 = .int .i64 x3_1 ∧ v8 = .int .i64 x8_1 ∧ Aside0 (impl_length.l0 kq x3_1 l0 (l0.length : Int) x8_1 = some r) ∧ Aside0 (kq ≤ k) ∧ Aside0 (Below w.heap.size w w'))
  case atStart => exact ⟨(0), (0), (by first | rfl | (simp; done) | (simp [*]; done)), (by first | rfl | (simp; done) | (simp [*]; done)), H', ⟨Nat.le_refl _⟩, ⟨by repeat (first | (with_reducible first | exact HB.out | apply below_alloc | apply pw_below_drewN | apply below_drew1) | exact HB.out)⟩⟩
  case round =>
    clear H'
    try clear c1
    obtain ⟨x3_1, x8_1, rfl, rfl, HA, HK1, HB⟩ := hrel
    cases gk with
    | zero => exact absurd HA.out (by simp [impl_length.l0])
    | succ k1 =>
      have H := HA.out
      clear HA
      simp only [impl_length.l0] at H
      by_cases c2 : x8_1 < (l0.length : Int)
      · rw [if_pos c2] at H
        have c2b0 : decide (x8_1 < (l0.length : Int)) = true := decide_eq_true c2
        clear c2
        by_cases c3 : 0 ≤ x8_1
        · rw [if_pos c3] at H
          have c3b0 : decide (0 ≤ x8_1) = true := decide_eq_true c3
          clear c3
          by_cases c4 : x8_1 < (l0.length : Int)
          · rw [if_pos c4] at H
            have c4b0 : decide (x8_1 < (l0.length : Int)) = true := decide_eq_true c4
            clear c4
            by_cases c5 : (rd l0 x8_1) = 0
            · rw [if_pos c5] at H
              have c5b0 : ((rd l0 x8_1) == 0) = true := beq_iff_eq.mpr c5
              have c5b1 : ((rd l0 x8_1) != 0) = false := bne_eq_false_iff_eq.mpr c5
              clear c5
              have H' := Aside0.mk H
              clear H
              have p256 : 0 ≤ (x8_1 : Int) := of_decide_eq_true (by first | (with_reducible assumption) | assumption)
              have q256 : x8_1 < (l0.length : Int) := of_decide_eq_true (by first | (with_reducible assumption) | assumption)
              obtain ⟨ad256, e256, hx256_0⟩ := Kd.at_int HR0.out x8_1 p256 q256
              cases e256
              replace hx256_0 := (HB.out.cell (World.block_lt_of_cell? w _ hx256_0)).trans hx256_0
              replace p256 := eq_true p256
              replace q256 := eq_true q256
              go_wp2
              go_roundg k1
              case measure => have := HK1.out; omega
              case rel => exact ⟨(x3_1), (wrap64 (x8_1 + 1)), (by first | rfl | (simp; done) | (simp [*]; done)), (by first | rfl | (simp; done) | (simp [*]; done)), H', ⟨by have := HK1.out; omega⟩, ⟨by repeat (first | (with_reducible first | exact HB.out | apply below_alloc | apply pw_below_drewN | apply below_drew1) | exact HB.out)⟩⟩
            · rw [if_neg c5] at H
              have c5b0 : ((rd l0 x8_1) == 0) = false := beq_eq_false_iff_ne.mpr c5
              have c5b1 : ((rd l0 x8_1) != 0) = true := bne_iff_ne.mpr c5
              obtain ⟨ji6, hji6⟩ : ∃ j_ : Int, (mx (wrap64 ((wrap64 (x8_1 + 1)) - (rd l0 x8_1))) (wrap64 ((wrap64 ((rd l0 x8_1) - x8_1)) - 1))) = j_ := ⟨_, rfl⟩
              replace H : (impl_length.l0 k1 (wrap64 (x3_1 + (ji6))) l0 (l0.length : Int) (wrap64 (x8_1 + 1))) = some r := by first | (rw [hji6] at H; exact H) | (simp only [hji6] at H ⊢; exact H)
              have hji6_ : (if (wrap64 ((wrap64 (x8_1 + 1)) - (rd l0 x8_1))) < (wrap64 ((wrap64 ((rd l0 x8_1) - x8_1)) - 1)) then (wrap64 ((wrap64 ((rd l0 x8_1) - x8_1)) - 1)) else (wrap64 ((wrap64 (x8_1 + 1)) - (rd l0 x8_1)))) = ji6 := hji6
              have H' := Aside0.mk H
              clear H
              have p256 : 0 ≤ (x8_1 : Int) := of_decide_eq_true (by first | (with_reducible assumption) | assumption)
              have q256 : x8_1 < (l0.length : Int) := of_decide_eq_true (by first | (with_reducible assumption) | assumption)
              obtain ⟨ad256, e256, hx256_0⟩ := Kd.at_int HR0.out x8_1 p256 q256
              cases e256
              replace hx256_0 := (HB.out.cell (World.block_lt_of_cell? w _ hx256_0)).trans hx256_0
              replace p256 := eq_true p256
              replace q256 := eq_true q256
              go_wp2
              go_roundg k1
              case measure => have := HK1.out; omega
              case rel => exact ⟨(wrap64 (x3_1 + (ji6))), (wrap64 (x8_1 + 1)), (by first | rfl | (simp; done) | (simp only [← hji6] <;> (first | rfl | simp)) | (simp [*]; done)), (by first | rfl | (simp; done) | (simp [*]; done)), H', ⟨by have := HK1.out; omega⟩, ⟨by repeat (first | (with_reducible first | exact HB.out | apply below_alloc | apply pw_below_drewN | apply below_drew1) | exact HB.out)⟩⟩
          · rw [if_neg c4] at H
            exact absurd H (by simp)
        · rw [if_neg c3] at H
          exact absurd H (by simp)
      · rw [if_neg c2] at H
        have c2b0 : decide (x8_1 < (l0.length : Int)) = false := decide_eq_false c2
        clear c2
        obtain rfl := Option.some.inj H
        go_wp2
        go_ret
        exact ⟨by first | rfl | (simp [errW_none, errW_some] <;> rfl) | (simp [*, errW_none, errW_some] <;> rfl), by repeat (first | (with_reducible first | exact HB.out | apply below_alloc | apply pw_below_drewN | apply below_drew1) | exact HB.out)⟩

/-! ### impl_LeastLength: function 47 -/
def impl_LeastLength.l0 : Nat → List Int → Int → List (List Int) → Int → Int → Option (Int)
  | 0, _, _, _, _, _ => none
  | k + 1, x0, x3, x13, x14, x15 => if x15 < x14 then (if 0 ≤ x15 then (if x15 < (x13.length : Int) then ((impl_put.f k x0 (rd_L1 x13 x15)).bind fun t263 => ((impl_length.f k t263).bind fun t266 => (if x3 < 0 then (impl_LeastLength.l0 k x0 t266 x13 x14 (wrap64 (x15 + 1))) else (if t266 < x3 then (impl_LeastLength.l0 k x0 t266 x13 x14 (wrap64 (x15 + 1))) else (impl_LeastLength.l0 k x0 x3 x13 x14 (wrap64 (x15 + 1))))))) else (none)) else (none)) else (some x3)
def impl_LeastLength.f (k : Nat) (l0 : List Int) : Option (Int) := (impl_TreeOk.f k l0).bind fun t257 => (if t257 = true then ((impl_RootOf.f k l0).bind fun t258 => ((impl_flatOrders.f l0 t258).bind fun t259 => (impl_LeastLength.l0 k l0 (-1) t259 (t259.length : Int) 0))) else (some (-1)))
theorem impl_LeastLength.mono_l : ∀ k, (∀ y0 y1 y2 y3 y4, LeO (impl_LeastLength.l0 k y0 y1 y2 y3 y4) (impl_LeastLength.l0 (k + 1) y0 y1 y2 y3 y4))
  | 0 => fun _ _ _ _ _ r h => by simp [impl_LeastLength.l0] at h
  | k + 1 => by
    have ih0 := impl_LeastLength.mono_l k
    · intro y0 y1 y2 y3 y4
      unfold impl_LeastLength.l0
      repeat' first
      | (with_reducible exact ih0 _ _ _ _ _)
      | (with_reducible exact impl_RootOf.mono _ _)
      | (with_reducible exact impl_TreeOk.mono _ _)
      | (with_reducible exact impl_length.mono _ _)
      | (with_reducible exact impl_put.mono _ _ _)
      | (with_reducible exact LeO.refl _)
      | (with_reducible exact LeO.none _)
      | (with_reducible refine LeO.ite ?_ ?_)
      | (with_reducible refine LeO.bind ?_ (fun _ => ?_))
      | exact ih0 _ _ _ _ _
      | exact impl_RootOf.mono _ _
      | exact impl_TreeOk.mono _ _
      | exact impl_length.mono _ _
      | exact impl_put.mono _ _ _
      | exact LeO.none _
      | refine LeO.ite ?_ ?_
      | refine LeO.bind ?_ (fun _ => ?_)
theorem impl_LeastLength.mono : ∀ a0 k, LeO (impl_LeastLength.f k a0) (impl_LeastLength.f (k + 1) a0) := by
  intro a0 k
  have ih0 := impl_LeastLength.mono_l k
  unfold impl_LeastLength.f
  repeat' first
      | (with_reducible exact ih0 _ _ _ _ _)
      | (with_reducible exact impl_RootOf.mono _ _)
      | (with_reducible exact impl_TreeOk.mono _ _)
      | (with_reducible exact impl_length.mono _ _)
      | (with_reducible exact impl_put.mono _ _ _)
      | (with_reducible exact LeO.refl _)
      | (with_reducible exact LeO.none _)
      | (with_reducible refine LeO.ite ?_ ?_)
      | (with_reducible refine LeO.bind ?_ (fun _ => ?_))
      | exact ih0 _ _ _ _ _
      | exact impl_RootOf.mono _ _
      | exact impl_TreeOk.mono _ _
      | exact impl_length.mono _ _
      | exact impl_put.mono _ _ _
      | exact LeO.none _
      | refine LeO.ite ?_ ?_
      | refine LeO.bind ?_ (fun _ => ?_)
set_option maxHeartbeats 8000000 in
set_option maxRecDepth 100000 in
theorem impl_LeastLength.calls (k : Nat) (A0 : Option Addr) (c0 : Nat) (l0 : List Int) (r : Int) (w : World) (hr0 : Kd.C (Kd.int .i64) w A0 l0.length l0) (hc0 : l0.length ≤ c0) (h : impl_LeastLength.f k l0 = some r) :
    Calls Try.prog 47 #[.slice A0 l0.length c0] w fun e w' => e = .returned (.int .i64 r) ∧ Below w.heap.size w w' := by
  have HR0 := Aside0.mk hr0
  have HC0 := Aside0.mk hc0
  clear hr0 hc0
  have HB := Aside0.mk (Below.refl w.heap.size w)
  have H : ((impl_TreeOk.f k l0).bind fun t257 => (if t257 = true then ((impl_RootOf.f k l0).bind fun t258 => ((impl_flatOrders.f l0 t258).bind fun t259 => (impl_LeastLength.l0 k l0 (-1) t259 (t259.length : Int) 0))) else (some (-1)))) = some r := h
  clear h
  replace H := Option.bind_eq_some_iff.mp H
  obtain ⟨t257, A20, H⟩ := H
  replace H : (if t257 = true then ((impl_RootOf.f k l0).bind fun t258 => ((impl_flatOrders.f l0 t258).bind fun t259 => (impl_LeastLength.l0 k l0 (-1) t259 (t259.length : Int) 0))) else (some (-1))) = some r := H
  have A2 := Aside0.mk A20
  clear A20
  by_cases c3 : t257 = true
  · subst c3
    have H1 : ((impl_RootOf.f k l0).bind fun t258 => ((impl_flatOrders.f l0 t258).bind fun t259 => (impl_LeastLength.l0 k l0 (-1) t259 (t259.length : Int) 0))) = some r := by rw [if_pos rfl] at H; exact H
    clear H
    have H := H1
    clear H1
    replace H := Option.bind_eq_some_iff.mp H
    obtain ⟨t258, A40, H⟩ := H
    replace H : ((impl_flatOrders.f l0 t258).bind fun t259 => (impl_LeastLength.l0 k l0 (-1) t259 (t259.length : Int) 0)) = some r := H
    have A4 := Aside0.mk A40
    clear A40
    replace H := Option.bind_eq_some_iff.mp H
    obtain ⟨t259, A50, H⟩ := H
    replace H : (impl_LeastLength.l0 k l0 (-1) t259 (t259.length : Int) 0) = some r := H
    have A5 := Aside0.mk A50
    clear A50
    have H' := Aside0.mk H
    clear H
    go_enter Try.func47, Try.ntmps47
    go_wp2_with (first | ((with_reducible refine gate_callee (f := 38) rfl ?_); refine goesL_ (some 8) rfl rfl Try.func38 (by kernel_rfl) rfl #[.slice A0 l0.length c0] rfl (by (try simp only [List.map_toArray, List.map_cons, List.map_nil]); first | done | rfl | (simp only [List.length_drop, List.length_take]; rfl)) ?_; (with_reducible refine (impl_TreeOk.calls k _ _ l0 true _ ?side1 ?side2 A2.out).mono ?_); (case side1 => repeat (first | exact HR0.out | (with_reducible refine Kd.C_alloc ?_ _) | (with_reducible refine Kd.C_drewN ?_ _) | (with_reducible refine Kd.C_drew ?_))); (case side2 => exact HC0.out); rintro e w' ⟨rfl, ⟨nd, rfl⟩⟩; refine ⟨_, rfl, ?_⟩) | ((with_reducible refine gate_callee (f := 100) rfl ?_); refine goesL_ (some 12) rfl rfl Try.func100 (by kernel_rfl) rfl #[.slice A0 l0.length c0] rfl (by (try simp only [List.map_toArray, List.map_cons, List.map_nil]); first | done | rfl | (simp only [List.length_drop, List.length_take]; rfl)) ?_; (with_reducible refine (impl_RootOf.calls k _ _ l0 t258 _ ?side1 ?side2 A4.out).mono ?_); (case side1 => repeat (first | exact HR0.out | (with_reducible refine Kd.C_alloc ?_ _) | (with_reducible refine Kd.C_drewN ?_ _) | (with_reducible refine Kd.C_drew ?_))); (case side2 => exact HC0.out); rintro e w' ⟨rfl, ⟨nd, rfl⟩⟩; refine ⟨_, rfl, ?_⟩) | ((with_reducible refine gate_callee (f := 99) rfl ?_); refine goesL_ (some 13) rfl rfl Try.func99 (by kernel_rfl) rfl #[.slice A0 l0.length c0, .int .i64 t258] rfl (by (try simp only [List.map_toArray, List.map_cons, List.map_nil]); first | done | rfl | (simp only [List.length_drop, List.length_take]; rfl)) ?_; (with_reducible refine (impl_flatOrders.calls _ _ l0 t258 t259 _ ?side1 ?side2 A5.out).mono ?_); (case side1 => repeat (first | exact HR0.out | (with_reducible refine Kd.C_alloc ?_ _) | (with_reducible refine Kd.C_drewN ?_ _) | (with_reducible refine Kd.C_drew ?_))); (case side2 => exact HC0.out); rintro e w6 ⟨v260, rfl, ho0, hb⟩; refine ⟨_, rfl, ?_⟩; have n0_ := Aside0.mk (Kd.S_lower ho0 (below_size (by repeat (first | (with_reducible first | exact HB.out | apply below_alloc | apply pw_below_drewN | apply below_drew1) | exact HB.out)))); have n1_ := Aside0.mk (below_step (by repeat (first | (with_reducible first | exact HB.out | apply below_alloc | apply pw_below_drewN | apply below_drew1) | exact HB.out)) hb); clear HB; have HO261 := n0_; have HB := n1_; clear n0_ n1_; (try clear hb); (try clear hb2); (try clear hk); (try clear hi); (try clear ho0); obtain ⟨Ao7, co7, eo7⟩ := Kd.S_slice HO261.out; subst eo7))
    go_loopg [3, 15] k (fun kq v3 v15 w' => ∃ (x3_1 : Int) (x15_1 : Int), v3 = .int .i64 x3_1 ∧ v15 = .int .i64 x15_1 ∧ Aside0 (impl_LeastLength.l0 kq l0 x3_1 t259 (t259.length : Int) x15_1 = some r) ∧ Aside0 (kq ≤ k) ∧ Aside0 (Kd.S (Kd.slice 3 (Kd.int .i64)) 22 w' w.heap.size (fun _ => True) (.slice Ao7 t259.length co7) t259) ∧ Aside0 (Below w.heap.size w w'))
    case atStart => exact ⟨((-1)), (0), (by first | rfl | (simp; done) | (simp [*]; done)), (by first | rfl | (simp; done) | (simp [*]; done)), H', ⟨Nat.le_refl _⟩, ⟨by (with_reducible repeat (first | apply Kd.S_alloc | apply Kd.S_drewN | apply Kd.S_drew)); exact HO261.out⟩, ⟨by repeat (first | (with_reducible first | exact HB.out | apply below_alloc | apply pw_below_drewN | apply below_drew1) | exact HB.out)⟩⟩
    case round =>
      clear H'
      try clear c1
      try clear p2
      try clear c3
      try clear c4
      obtain ⟨x3_1, x15_1, rfl, rfl, HA, HK1, HO_13, HB⟩ := hrel
      cases gk with
      | zero => exact absurd HA.out (by simp [impl_LeastLength.l0])
      | succ k1 =>
        have H := HA.out
        clear HA
        simp only [impl_LeastLength.l0] at H
        by_cases c8 : x15_1 < (t259.length : Int)
        · rw [if_pos c8] at H
          have c8b0 : decide (x15_1 < (t259.length : Int)) = true := decide_eq_true c8
          clear c8
          by_cases c9 : 0 ≤ x15_1
          · rw [if_pos c9] at H
            have c9b0 : decide (0 ≤ x15_1) = true := decide_eq_true c9
            clear c9
            by_cases c10 : x15_1 < (t259.length : Int)
            · rw [if_pos c10] at H
              have c10b0 : decide (x15_1 < (t259.length : Int)) = true := decide_eq_true c10
              clear c10
              replace H := Option.bind_eq_some_iff.mp H
              obtain ⟨t263, A110, H⟩ := H
              replace H : ((impl_length.f k1 t263).bind fun t266 => (if x3_1 < 0 then (impl_LeastLength.l0 k1 l0 t266 t259 (t259.length : Int) (wrap64 (x15_1 + 1))) else (if t266 < x3_1 then (impl_LeastLength.l0 k1 l0 t266 t259 (t259.length : Int) (wrap64 (x15_1 + 1))) else (impl_LeastLength.l0 k1 l0 x3_1 t259 (t259.length : Int) (wrap64 (x15_1 + 1)))))) = some r := H
              have A11 := Aside0.mk A110
              clear A110
              replace H := Option.bind_eq_some_iff.mp H
              obtain ⟨t266, A120, H⟩ := H
              replace H : (if x3_1 < 0 then (impl_LeastLength.l0 k1 l0 t266 t259 (t259.length : Int) (wrap64 (x15_1 + 1))) else (if t266 < x3_1 then (impl_LeastLength.l0 k1 l0 t266 t259 (t259.length : Int) (wrap64 (x15_1 + 1))) else (impl_LeastLength.l0 k1 l0 x3_1 t259 (t259.length : Int) (wrap64 (x15_1 + 1))))) = some r := H
              have A12 := Aside0.mk A120
              clear A120
              by_cases c13 : x3_1 < 0
              · rw [if_pos c13] at H
                have c13b0 : decide (x3_1 < 0) = true := decide_eq_true c13
                clear c13
                have H' := Aside0.mk H
                clear H
                have p262 : 0 ≤ (x15_1 : Int) := of_decide_eq_true (by first | (with_reducible assumption) | assumption)
                have q262 : x15_1 < (t259.length : Int) := of_decide_eq_true (by first | (with_reducible assumption) | assumption)
                obtain ⟨ad262, A262_0, c262_0, e262, hx262_0, hl262_0, hi262_0⟩ := at_L1 (Kd.S_reads' HO_13.out).2.2 x15_1 p262 q262
                cases e262
                obtain ⟨ce262, hce262, hMe262, hcc262⟩ := Kd.S_get HO_13.out [] x15_1 p262 (by first | exact q262 | exact of_decide_eq_true (by first | (with_reducible assumption) | assumption) | (have e_ := (Kd.S_reads' HO_13.out).1; omega))
                obtain ⟨ve262_0, rfl, ge262_0⟩ := hMe262
                have hv262_0 := hcc262 0 _ rfl
                rw [Nat.add_zero, show ((Kd.slice 3 (Kd.int .i64))).sz = 1 from rfl, Nat.mul_one] at hv262_0
                replace hv262_0 := Option.some.inj (hv262_0.symm.trans hx262_0)
                rw [hv262_0] at ge262_0
                have HL262_0 := Aside0.mk (show Kd.R (Kd.int .i64) 3 _ _ _ _ (rd_L1 t259 x15_1) from ge262_0)
                clear hv262_0 ge262_0
                clear hcc262 hce262
                have HR262_0 := Aside0.mk hi262_0
                have HC262_0 := Aside0.mk hl262_0
                clear hi262_0 hl262_0
                replace p262 := eq_true p262
                replace q262 := eq_true q262
                go_wp2_with (first | ((with_reducible refine gate_callee (f := 102) rfl ?_); refine goesL_ (some 21) rfl rfl Try.func102 (by kernel_rfl) rfl #[.slice A0 l0.length c0, .slice A262_0 (rd_L1 t259 x15_1).length c262_0] rfl (by (try simp only [List.map_toArray, List.map_cons, List.map_nil]); first | done | rfl | (simp only [List.length_drop, List.length_take]; rfl)) ?_; (with_reducible refine (impl_put.calls k1 _ _ l0 _ _ (rd_L1 t259 x15_1) t263 _ ?side1 ?side2 ?side3 ?side4 A11.out).mono ?_); (case side1 => repeat (first | exact (Kd.C_below HR0.out HB.out) | (with_reducible refine Kd.C_alloc ?_ _) | (with_reducible refine Kd.C_drewN ?_ _) | (with_reducible refine Kd.C_drew ?_))); (case side2 => exact HC0.out); (case side3 => repeat (first | exact (by repeat (first | (with_reducible exact HR262_0.out) | (with_reducible refine Kd.C_alloc ?_ _) | (with_reducible refine Kd.C_drewN ?_ _) | (with_reducible refine Kd.C_drew ?_) | exact HR262_0.out)) | (with_reducible refine Kd.C_alloc ?_ _) | (with_reducible refine Kd.C_drewN ?_ _) | (with_reducible refine Kd.C_drew ?_))); (case side4 => exact HC262_0.out); rintro e w14 ⟨v264, rfl, ho0, hb⟩; refine ⟨_, rfl, ?_⟩; have n0_ := Aside0.mk (Kd.S_elder' (by (with_reducible repeat (first | apply Kd.S_alloc | apply Kd.S_drewN | apply Kd.S_drew)); exact HO_13.out) (Kd.R_base ho0) hb); have n1_ := Aside0.mk (Kd.R_elder' (by (with_reducible repeat (first | apply Kd.R_alloc | apply Kd.R_drewN | apply Kd.R_drew)); exact HL262_0.out) (Kd.R_base ho0) hb); have n2_ := Aside0.mk (Kd.R_lower (Kd.R_new' ho0 (Kd.R_lt (by (with_reducible repeat (first | apply Kd.R_alloc | apply Kd.R_drewN | apply Kd.R_drew)); exact HL262_0.out))) (below_size (by repeat (first | (with_reducible first | exact HB.out | apply below_alloc | apply pw_below_drewN | apply below_drew1) | exact HB.out)))); have n3_ := Aside0.mk (Kd.C_below (by repeat (first | (with_reducible exact HR262_0.out) | (with_reducible refine Kd.C_alloc ?_ _) | (with_reducible refine Kd.C_drewN ?_ _) | (with_reducible refine Kd.C_drew ?_) | exact HR262_0.out)) hb); have n4_ := Aside0.mk (below_step (by repeat (first | (with_reducible first | exact HB.out | apply below_alloc | apply pw_below_drewN | apply below_drew1) | exact HB.out)) hb); clear HO_13; clear HL262_0; clear HR262_0; clear HB; have HO_13 := n0_; have HL262_0 := n1_; have HO265 := n2_; have HR262_0 := n3_; have HB := n4_; clear n0_ n1_ n2_ n3_ n4_; (try clear hb); (try clear hb2); (try clear hk); (try clear hi); (try clear ho0); obtain ⟨Ao15, co15, eo15⟩ := Kd.R_slice HO265.out; subst eo15) | ((with_reducible refine gate_callee (f := 101) rfl ?_); refine goesL_ (some 22) rfl rfl Try.func101 (by kernel_rfl) rfl #[.slice Ao15 t263.length co15] rfl (by (try simp only [List.map_toArray, List.map_cons, List.map_nil]); first | done | rfl | (simp only [List.length_drop, List.length_take]; rfl)) ?_; (with_reducible refine (impl_length.calls k1 _ _ t263 t266 _ ?side1 ?side2 A12.out).mono ?_); (case side1 => repeat (first | exact (Kd.R_reads' HO265.out).2.2 | (with_reducible refine Kd.C_alloc ?_ _) | (with_reducible refine Kd.C_drewN ?_ _) | (with_reducible refine Kd.C_drew ?_))); (case side2 => exact (Kd.R_reads' HO265.out).2.1); rintro e w16 ⟨rfl, hb⟩; refine ⟨_, rfl, ?_⟩; have n0_ := Aside0.mk (Kd.S_below (by (with_reducible repeat (first | apply Kd.S_alloc | apply Kd.S_drewN | apply Kd.S_drew)); exact HO_13.out) hb); have n1_ := Aside0.mk (Kd.R_below (by (with_reducible repeat (first | apply Kd.R_alloc | apply Kd.R_drewN | apply Kd.R_drew)); exact HL262_0.out) hb); have n2_ := Aside0.mk (Kd.R_below (by (with_reducible repeat (first | apply Kd.R_alloc | apply Kd.R_drewN | apply Kd.R_drew)); exact HO265.out) hb); have n3_ := Aside0.mk (Kd.C_below (by repeat (first | (with_reducible exact HR262_0.out) | (with_reducible refine Kd.C_alloc ?_ _) | (with_reducible refine Kd.C_drewN ?_ _) | (with_reducible refine Kd.C_drew ?_) | exact HR262_0.out)) hb); have n4_ := Aside0.mk (below_step (by repeat (first | (with_reducible first | exact HB.out | apply below_alloc | apply pw_below_drewN | apply below_drew1) | exact HB.out)) hb); clear HO_13; clear HL262_0; clear HO265; clear HR262_0; clear HB; have HO_13 := n0_; have HL262_0 := n1_; have HO265 := n2_; have HR262_0 := n3_; have HB := n4_; clear n0_ n1_ n2_ n3_ n4_; (try clear hb); (try clear hb2); (try clear hk); (try clear hi)))
                go_roundg k1
                case measure => have := HK1.out; omega
                case rel => exact ⟨(t266), (wrap64 (x15_1 + 1)), (by first | rfl | (simp; done) | (simp [*]; done)), (by first | rfl | (simp; done) | (simp [*]; done)), H', ⟨by have := HK1.out; omega⟩, ⟨by (with_reducible repeat (first | apply Kd.S_alloc | apply Kd.S_drewN | apply Kd.S_drew)); exact Kd.S_mono HO_13.out (fun _ hk => trivial)⟩, ⟨by repeat (first | (with_reducible first | exact HB.out | apply below_alloc | apply pw_below_drewN | apply below_drew1) | exact HB.out)⟩⟩
              · rw [if_neg c13] at H
                have c13b0 : decide (x3_1 < 0) = false := decide_eq_false c13
                clear c13
                by_cases c17 : t266 < x3_1
                · rw [if_pos c17] at H
                  have c17b0 : decide (t266 < x3_1) = true := decide_eq_true c17
                  clear c17
                  have H' := Aside0.mk H
                  clear H
                  have p262 : 0 ≤ (x15_1 : Int) := of_decide_eq_true (by first | (with_reducible assumption) | assumption)
                  have q262 : x15_1 < (t259.length : Int) := of_decide_eq_true (by first | (with_reducible assumption) | assumption)
                  obtain ⟨ad262, A262_0, c262_0, e262, hx262_0, hl262_0, hi262_0⟩ := at_L1 (Kd.S_reads' HO_13.out).2.2 x15_1 p262 q262
                  cases e262
                  obtain ⟨ce262, hce262, hMe262, hcc262⟩ := Kd.S_get HO_13.out [] x15_1 p262 (by first | exact q262 | exact of_decide_eq_true (by first | (with_reducible assumption) | assumption) | (have e_ := (Kd.S_reads' HO_13.out).1; omega))
                  obtain ⟨ve262_0, rfl, ge262_0⟩ := hMe262
                  have hv262_0 := hcc262 0 _ rfl
                  rw [Nat.add_zero, show ((Kd.slice 3 (Kd.int .i64))).sz = 1 from rfl, Nat.mul_one] at hv262_0
                  replace hv262_0 := Option.some.inj (hv262_0.symm.trans hx262_0)
                  rw [hv262_0] at ge262_0
                  have HL262_0 := Aside0.mk (show Kd.R (Kd.int .i64) 3 _ _ _ _ (rd_L1 t259 x15_1) from ge262_0)
                  clear hv262_0 ge262_0
                  clear hcc262 hce262
                  have HR262_0 := Aside0.mk hi262_0
                  have HC262_0 := Aside0.mk hl262_0
                  clear hi262_0 hl262_0
                  replace p262 := eq_true p262
                  replace q262 := eq_true q262
                  go_wp2_with (first | ((with_reducible refine gate_callee (f := 102) rfl ?_); refine goesL_ (some 21) rfl rfl Try.func102 (by kernel_rfl) rfl #[.slice A0 l0.length c0, .slice A262_0 (rd_L1 t259 x15_1).length c262_0] rfl (by (try simp only [List.map_toArray, List.map_cons, List.map_nil]); first | done | rfl | (simp only [List.length_drop, List.length_take]; rfl)) ?_; (with_reducible refine (impl_put.calls k1 _ _ l0 _ _ (rd_L1 t259 x15_1) t263 _ ?side1 ?side2 ?side3 ?side4 A11.out).mono ?_); (case side1 => repeat (first | exact (Kd.C_below HR0.out HB.out) | (with_reducible refine Kd.C_alloc ?_ _) | (with_reducible refine Kd.C_drewN ?_ _) | (with_reducible refine Kd.C_drew ?_))); (case side2 => exact HC0.out); (case side3 => repeat (first | exact (by repeat (first | (with_reducible exact HR262_0.out) | (with_reducible refine Kd.C_alloc ?_ _) | (with_reducible refine Kd.C_drewN ?_ _) | (with_reducible refine Kd.C_drew ?_) | exact HR262_0.out)) | (with_reducible refine Kd.C_alloc ?_ _) | (with_reducible refine Kd.C_drewN ?_ _) | (with_reducible refine Kd.C_drew ?_))); (case side4 => exact HC262_0.out); rintro e w18 ⟨v264, rfl, ho0, hb⟩; refine ⟨_, rfl, ?_⟩; have n0_ := Aside0.mk (Kd.S_elder' (by (with_reducible repeat (first | apply Kd.S_alloc | apply Kd.S_drewN | apply Kd.S_drew)); exact HO_13.out) (Kd.R_base ho0) hb); have n1_ := Aside0.mk (Kd.R_elder' (by (with_reducible repeat (first | apply Kd.R_alloc | apply Kd.R_drewN | apply Kd.R_drew)); exact HL262_0.out) (Kd.R_base ho0) hb); have n2_ := Aside0.mk (Kd.R_lower (Kd.R_new' ho0 (Kd.R_lt (by (with_reducible repeat (first | apply Kd.R_alloc | apply Kd.R_drewN | apply Kd.R_drew)); exact HL262_0.out))) (below_size (by repeat (first | (with_reducible first | exact HB.out | apply below_alloc | apply pw_below_drewN | apply below_drew1) | exact HB.out)))); have n3_ := Aside0.mk (Kd.C_below (by repeat (first | (with_reducible exact HR262_0.out) | (with_reducible refine Kd.C_alloc ?_ _) | (with_reducible refine Kd.C_drewN ?_ _) | (with_reducible refine Kd.C_drew ?_) | exact HR262_0.out)) hb); have n4_ := Aside0.mk (below_step (by repeat (first | (with_reducible first | exact HB.out | apply below_alloc | apply pw_below_drewN | apply below_drew1) | exact HB.out)) hb); clear HO_13; clear HL262_0; clear HR262_0; clear HB; have HO_13 := n0_; have HL262_0 := n1_; have HO265 := n2_; have HR262_0 := n3_; have HB := n4_; clear n0_ n1_ n2_ n3_ n4_; (try clear hb); (try clear hb2); (try clear hk); (try clear hi); (try clear ho0); obtain ⟨Ao19, co19, eo19⟩ := Kd.R_slice HO265.out; subst eo19) | ((with_reducible refine gate_callee (f := 101) rfl ?_); refine goesL_ (some 22) rfl rfl Try.func101 (by kernel_rfl) rfl #[.slice Ao19 t263.length co19] rfl (by (try simp only [List.map_toArray, List.map_cons, List.map_nil]); first | done | rfl | (simp only [List.length_drop, List.length_take]; rfl)) ?_; (with_reducible refine (impl_length.calls k1 _ _ t263 t266 _ ?side1 ?side2 A12.out).mono ?_); (case side1 => repeat (first | exact (Kd.R_reads' HO265.out).2.2 | (with_reducible refine Kd.C_alloc ?_ _) | (with_reducible refine Kd.C_drewN ?_ _) | (with_reducible refine Kd.C_drew ?_))); (case side2 => exact (Kd.R_reads' HO265.out).2.1); rintro e w20 ⟨rfl, hb⟩; refine ⟨_, rfl, ?_⟩; have n0_ := Aside0.mk (Kd.S_below (by (with_reducible repeat (first | apply Kd.S_alloc | apply Kd.S_drewN | apply Kd.S_drew)); exact HO_13.out) hb); have n1_ := Aside0.mk (Kd.R_below (by (with_reducible repeat (first | apply Kd.R_alloc | apply Kd.R_drewN | apply Kd.R_drew)); exact HL262_0.out) hb); have n2_ := Aside0.mk (Kd.R_below (by (with_reducible repeat (first | apply Kd.R_alloc | apply Kd.R_drewN | apply Kd.R_drew)); exact HO265.out) hb); have n3_ := Aside0.mk (Kd.C_below (by repeat (first | (with_reducible exact HR262_0.out) | (with_reducible refine Kd.C_alloc ?_ _) | (with_reducible refine Kd.C_drewN ?_ _) | (with_reducible refine Kd.C_drew ?_) | exact HR262_0.out)) hb); have n4_ := Aside0.mk (below_step (by repeat (first | (with_reducible first | exact HB.out | apply below_alloc | apply pw_below_drewN | apply below_drew1) | exact HB.out)) hb); clear HO_13; clear HL262_0; clear HO265; clear HR262_0; clear HB; have HO_13 := n0_; have HL262_0 := n1_; have HO265 := n2_; have HR262_0 := n3_; have HB := n4_; clear n0_ n1_ n2_ n3_ n4_; (try clear hb); (try clear hb2); (try clear hk); (try clear hi)))
                  go_roundg k1
                  case measure => have := HK1.out; omega
                  case rel => exact ⟨(t266), (wrap64 (x15_1 + 1)), (by first | rfl | (simp; done) | (simp [*]; done)), (by first | rfl | (simp; done) | (simp [*]; done)), H', ⟨by have := HK1.out; omega⟩, ⟨by (with_reducible repeat (first | apply Kd.S_alloc | apply Kd.S_drewN | apply Kd.S_drew)); exact Kd.S_mono HO_13.out (fun _ hk => trivial)⟩, ⟨by repeat (first | (with_reducible first | exact HB.out | apply below_alloc | apply pw_below_drewN | apply below_drew1) | exact HB.out)⟩⟩
                · rw [if_neg c17] at H
                  have c17b0 : decide (t266 < x3_1) = false := decide_eq_false c17
                  clear c17
                  have H' := Aside0.mk H
                  clear H
                  have p262 : 0 ≤ (x15_1 : Int) := of_decide_eq_true (by first | (with_reducible assumption) | assumption)
                  have q262 : x15_1 < (t259.length : Int) := of_decide_eq_true (by first | (with_reducible assumption) | assumption)
                  obtain ⟨ad262, A262_0, c262_0, e262, hx262_0, hl262_0, hi262_0⟩ := at_L1 (Kd.S_reads' HO_13.out).2.2 x15_1 p262 q262
                  cases e262
                  obtain ⟨ce262, hce262, hMe262, hcc262⟩ := Kd.S_get HO_13.out [] x15_1 p262 (by first | exact q262 | exact of_decide_eq_true (by first | (with_reducible assumption) | assumption) | (have e_ := (Kd.S_reads' HO_13.out).1; omega))
                  obtain ⟨ve262_0, rfl, ge262_0⟩ := hMe262
                  have hv262_0 := hcc262 0 _ rfl
                  rw [Nat.add_zero, show ((Kd.slice 3 (Kd.int .i64))).sz = 1 from rfl, Nat.mul_one] at hv262_0
                  replace hv262_0 := Option.some.inj (hv262_0.symm.trans hx262_0)
                  rw [hv262_0] at ge262_0
                  have HL262_0 := Aside0.mk (show Kd.R (Kd.int .i64) 3 _ _ _ _ (rd_L1 t259 x15_1) from ge262_0)
                  clear hv262_0 ge262_0
                  clear hcc262 hce262
                  have HR262_0 := Aside0.mk hi262_0
                  have HC262_0 := Aside0.mk hl262_0
                  clear hi262_0 hl262_0
                  replace p262 := eq_true p262
                  replace q262 := eq_true q262
                  go_wp2_with (first | ((with_reducible refine gate_callee (f := 102) rfl ?_); refine goesL_ (some 21) rfl rfl Try.func102 (by kernel_rfl) rfl #[.slice A0 l0.length c0, .slice A262_0 (rd_L1 t259 x15_1).length c262_0] rfl (by (try simp only [List.map_toArray, List.map_cons, List.map_nil]); first | done | rfl | (simp only [List.length_drop, List.length_take]; rfl)) ?_; (with_reducible refine (impl_put.calls k1 _ _ l0 _ _ (rd_L1 t259 x15_1) t263 _ ?side1 ?side2 ?side3 ?side4 A11.out).mono ?_); (case side1 => repeat (first | exact (Kd.C_below HR0.out HB.out) | (with_reducible refine Kd.C_alloc ?_ _) | (with_reducible refine Kd.C_drewN ?_ _) | (with_reducible refine Kd.C_drew ?_))); (case side2 => exact HC0.out); (case side3 => repeat (first | exact (by repeat (first | (with_reducible exact HR262_0.out) | (with_reducible refine Kd.C_alloc ?_ _) | (with_reducible refine Kd.C_drewN ?_ _) | (with_reducible refine Kd.C_drew ?_) | exact HR262_0.out)) | (with_reducible refine Kd.C_alloc ?_ _) | (with_reducible refine Kd.C_drewN ?_ _) | (with_reducible refine Kd.C_drew ?_))); (case side4 => exact HC262_0.out); rintro e w21 ⟨v264, rfl, ho0, hb⟩; refine ⟨_, rfl, ?_⟩; have n0_ := Aside0.mk (Kd.S_elder' (by (with_reducible repeat (first | apply Kd.S_alloc | apply Kd.S_drewN | apply Kd.S_drew)); exact HO_13.out) (Kd.R_base ho0) hb); have n1_ := Aside0.mk (Kd.R_elder' (by (with_reducible repeat (first | apply Kd.R_alloc | apply Kd.R_drewN | apply Kd.R_drew)); exact HL262_0.out) (Kd.R_base ho0) hb); have n2_ := Aside0.mk (Kd.R_lower (Kd.R_new' ho0 (Kd.R_lt (by (with_reducible repeat (first | apply Kd.R_alloc | apply Kd.R_drewN | apply Kd.R_drew)); exact HL262_0.out))) (below_size (by repeat (first | (with_reducible first | exact HB.out | apply below_alloc | apply pw_below_drewN | apply below_drew1) | exact HB.out)))); have n3_ := Aside0.mk (Kd.C_below (by repeat (first | (with_reducible exact HR262_0.out) | (with_reducible refine Kd.C_alloc ?_ _) | (with_reducible refine Kd.C_drewN ?_ _) | (with_reducible refine Kd.C_drew ?_) | exact HR262_0.out)) hb); have n4_ := Aside0.mk (below_step (by repeat (first | (with_reducible first | exact HB.out | apply below_alloc | apply pw_below_drewN | apply below_drew1) | exact HB.out)) hb); clear HO_13; clear HL262_0; clear HR262_0; clear HB; have HO_13 := n0_; have HL262_0 := n1_; have HO265 := n2_; have HR262_0 := n3_; have HB := n4_; clear n0_ n1_ n2_ n3_ n4_; (try clear hb); (try clear hb2); (try clear hk); (try clear hi); (try clear ho0); obtain ⟨Ao22, co22, eo22⟩ := Kd.R_slice HO265.out; subst eo22) | ((with_reducible refine gate_callee (f := 101) rfl ?_); refine goesL_ (some 22) rfl rfl Try.func101 (by kernel_rfl) rfl #[.slice Ao22 t263.length co22] rfl (by (try simp only [List.map_toArray, List.map_cons, List.map_nil]); first | done | rfl | (simp only [List.length_drop, List.length_take]; rfl)) ?_; (with_reducible refine (impl_length.calls k1 _ _ t263 t266 _ ?side1 ?side2 A12.out).mono ?_); (case side1 => repeat (first | exact (Kd.R_reads' HO265.out).2.2 | (with_reducible refine Kd.C_alloc ?_ _) | (with_reducible refine Kd.C_drewN ?_ _) | (with_reducible refine Kd.C_drew ?_))); (case side2 => exact (Kd.R_reads' HO265.out).2.1); rintro e w23 ⟨rfl, hb⟩; refine ⟨_, rfl, ?_⟩; have n0_ := Aside0.mk (Kd.S_below (by (with_reducible repeat (first | apply Kd.S_alloc | apply Kd.S_drewN | apply Kd.S_drew)); exact HO_13.out) hb); have n1_ := Aside0.mk (Kd.R_below (by (with_reducible repeat (first | apply Kd.R_alloc | apply Kd.R_drewN | apply Kd.R_drew)); exact HL262_0.out) hb); have n2_ := Aside0.mk (Kd.R_below (by (with_reducible repeat (first | apply Kd.R_alloc | apply Kd.R_drewN | apply Kd.R_drew)); exact HO265.out) hb); have n3_ := Aside0.mk (Kd.C_below (by repeat (first | (with_reducible exact HR262_0.out) | (with_reducible refine Kd.C_alloc ?_ _) | (with_reducible refine Kd.C_drewN ?_ _) | (with_reducible refine Kd.C_drew ?_) | exact HR262_0.out)) hb); have n4_ := Aside0.mk (below_step (by repeat (first | (with_reducible first | exact HB.out | apply below_alloc | apply pw_below_drewN | apply below_drew1) | exact HB.out)) hb); clear HO_13; clear HL262_0; clear HO265; clear HR262_0; clear HB; have HO_13 := n0_; have HL262_0 := n1_; have HO265 := n2_; have HR262_0 := n3_; have HB := n4_; clear n0_ n1_ n2_ n3_ n4_; (try clear hb); (try clear hb2); (try clear hk); (try clear hi)))
                  go_roundg k1
                  case measure => have := HK1.out; omega
                  case rel => exact ⟨(x3_1), (wrap64 (x15_1 + 1)), (by first | rfl | (simp; done) | (simp [*]; done)), (by first | rfl | (simp; done) | (simp [*]; done)), H', ⟨by have := HK1.out; omega⟩, ⟨by (with_reducible repeat (first | apply Kd.S_alloc | apply Kd.S_drewN | apply Kd.S_drew)); exact Kd.S_mono HO_13.out (fun _ hk => trivial)⟩, ⟨by repeat (first | (with_reducible first | exact HB.out | apply below_alloc | apply pw_below_drewN | apply below_drew1) | exact HB.out)⟩⟩
            · rw [if_neg c10] at H
              exact absurd H (by simp)
          · rw [if_neg c9] at H
            exact absurd H (by simp)
        · rw [if_neg c8] at H
          have c8b0 : decide (x15_1 < (t259.length : Int)) = false := decide_eq_false c8
          clear c8
          obtain rfl := Option.some.inj H
          go_wp2
          go_ret
          exact ⟨by first | rfl | (simp [errW_none, errW_some] <;> rfl) | (simp [*, errW_none, errW_some] <;> rfl), by repeat (first | (with_reducible first | exact HB.out | apply below_alloc | apply pw_below_drewN | apply below_drew1) | exact HB.out)⟩
  · replace c3 := Bool.eq_false_iff.mpr c3
    subst c3
    have H1 : (some (-1)) = some r := by rw [if_neg (show ¬ (false = true) by decide)] at H; exact H
    clear H
    have H := H1
    clear H1
    obtain rfl := Option.some.inj H
    go_enter Try.func47, Try.ntmps47
    go_wp2_with (first | ((with_reducible refine gate_callee (f := 38) rfl ?_); refine goesL_ (some 8) rfl rfl Try.func38 (by kernel_rfl) rfl #[.slice A0 l0.length c0] rfl (by (try simp only [List.map_toArray, List.map_cons, List.map_nil]); first | done | rfl | (simp only [List.length_drop, List.length_take]; rfl)) ?_; (with_reducible refine (impl_TreeOk.calls k _ _ l0 false _ ?side1 ?side2 A2.out).mono ?_); (case side1 => repeat (first | exact HR0.out | (with_reducible refine Kd.C_alloc ?_ _) | (with_reducible refine Kd.C_drewN ?_ _) | (with_reducible refine Kd.C_drew ?_))); (case side2 => exact HC0.out); rintro e w' ⟨rfl, ⟨nd, rfl⟩⟩; refine ⟨_, rfl, ?_⟩))
    go_ret
    exact ⟨by first | rfl | (simp [errW_none, errW_some] <;> rfl) | (simp [*, errW_none, errW_some] <;> rfl), by repeat (first | (with_reducible first | exact HB.out | apply below_alloc | apply pw_below_drewN | apply below_drew1) | exact HB.out)⟩

/-- A state of type 102 at block g of W; what its slices lead to came in by w0. -/
def IsS102 (w0 W : World) (g : Nat) (f0 : List Int) (f1 : Int) : Prop := ∃ A0 c0, W.heap[g]? = some (.cells #[.slice A0 f0.length c0, .int .i64 f1] 102 (0, 0)) ∧ w0.heap.size ≤ g ∧ Kd.C (Kd.int .u8) w0 A0 f0.length f0
theorem IsS102.grown {w0 W : World} {g : Nat} {f0 : List Int} {f1 : Int} {W1 : World} {row : Option Nat} (h : IsS102 w0 W g f0 f1) (hw : W.grownBy W1 row) (hne : some g ≠ row) : IsS102 w0 W1 g f0 f1 := by
  obtain ⟨A0, c0, hb, hg, hr0⟩ := h
  exact ⟨A0, c0, blk_grown hb hw hne, hg, hr0⟩
theorem IsS102.own_neN {w0 W : World} {g : Nat} {f0 : List Int} {f1 : Int} {α : Type} {d : Kd α} {e : Nat} {base : Nat} {ok : Nat → Prop} {v : Value} {xs : List α} (h : IsS102 w0 W g f0 f1) (ho : Kd.N d e W base ok v xs) (ht : e ≠ 102) : some g ≠ v.ownBlock := by
  obtain ⟨A0, c0, hb, hg, hr0⟩ := h
  exact Kd.N_ne ho hb ht
theorem IsS102.fresh {w0 W : World} {g : Nat} {f0 : List Int} {f1 : Int} (h : IsS102 w0 W g f0 f1) : ∀ k, W.heap.size ≤ k → k ≠ g := by
  obtain ⟨A0, c0, hb, hg, hr0⟩ := h
  exact Kd.freshB hb
theorem IsS102.kept {w0 W : World} {g : Nat} {f0 : List Int} {f1 : Int} {W1 : World} {S : Nat → Prop} (h : IsS102 w0 W g f0 f1) (hk : Kept W W1 S) (hne : ¬ S g) : IsS102 w0 W1 g f0 f1 := by
  obtain ⟨A0, c0, hb, hg, hr0⟩ := h
  exact ⟨A0, c0, blk_kept hb hk hne, hg, hr0⟩
theorem IsS102.below {w0 W : World} {g : Nat} {f0 : List Int} {f1 : Int} {W1 : World} (h : IsS102 w0 W g f0 f1) (hw : Below W.heap.size W W1) : IsS102 w0 W1 g f0 f1 := h.grown (grown_of_below hw none) (by simp)
theorem IsS102.alloc {w0 W : World} {g : Nat} {f0 : List Int} {f1 : Int} (h : IsS102 w0 W g f0 f1) (o : Obj) : IsS102 w0 (W.alloc o) g f0 f1 := h.below (below_alloc (Below.refl _ _) o)
theorem IsS102.drewN {w0 W : World} {g : Nat} {f0 : List Int} {f1 : Int} (h : IsS102 w0 W g f0 f1) (m : Nat) : IsS102 w0 (W.drewN m) g f0 f1 := h
theorem IsS102.drew {w0 W : World} {g : Nat} {f0 : List Int} {f1 : Int} (h : IsS102 w0 W g f0 f1) : IsS102 w0 W.drew g f0 f1 := h
theorem IsS102.at_ {w0 W : World} {g : Nat} {f0 : List Int} {f1 : Int} {w' : World} {m : Nat} (hq : W.drewN m = w') (h : IsS102 w0 W g f0 f1) : IsS102 w0 w' g f0 f1 := by subst hq; exact IsS102.drewN h m
theorem IsS102.apart {w0 W : World} {g : Nat} {f0 : List Int} {f1 : Int} {α : Type} {d : Kd α} {e : Nat} {base : Nat} {ok : Nat → Prop} {v : Value} {xs : List α} (h : IsS102 w0 W g f0 f1) (ho : d.R e W base ok v xs) (ht : ∀ q, q ∈ e :: d.E → q ≠ 102) : d.R e W base (fun k => ok k ∧ k ≠ g) v xs := by
  obtain ⟨A0, c0, hb, hg, hr0⟩ := h
  exact Kd.R_types ho hb ht
theorem IsS102.own_ne {w0 W : World} {g : Nat} {f0 : List Int} {f1 : Int} {α : Type} {d : Kd α} {e : Nat} {base : Nat} {ok : Nat → Prop} {v : Value} {xs : List α} (h : IsS102 w0 W g f0 f1) (ho : d.R e W base ok v xs) (ht : e ≠ 102) : some g ≠ v.ownBlock := by
  obtain ⟨A0, c0, hb, hg, hr0⟩ := h
  exact Kd.R_ne ho hb ht
theorem IsS102.apartQ {w0 W : World} {g : Nat} {f0 : List Int} {f1 : Int} {α : Type} {d : Kd α} {e : Nat} {base : Nat} {ok : Nat → Prop} {v : Value} {xs : List α} (h : IsS102 w0 W g f0 f1) (ho : d.Q e W base ok v xs) (ht : ∀ q, q ∈ e :: d.E → q ≠ 102) : d.Q e W base (fun k => ok k ∧ k ≠ g) v xs := by
  obtain ⟨A0, c0, hb, hg, hr0⟩ := h
  exact Kd.Q_types ho hb ht
theorem IsS102.own_neQ {w0 W : World} {g : Nat} {f0 : List Int} {f1 : Int} {α : Type} {d : Kd α} {e : Nat} {base : Nat} {ok : Nat → Prop} {v : Value} {xs : List α} (h : IsS102 w0 W g f0 f1) (ho : d.Q e W base ok v xs) (ht : e ≠ 102) : some g ≠ v.ownBlock := by
  obtain ⟨A0, c0, hb, hg, hr0⟩ := h
  exact Kd.Q_ne ho hb ht
theorem IsS102.apartS {w0 W : World} {g : Nat} {f0 : List Int} {f1 : Int} {α : Type} {d : Kd α} {e : Nat} {base : Nat} {ok : Nat → Prop} {v : Value} {xs : List α} (h : IsS102 w0 W g f0 f1) (ho : d.S e W base ok v xs) (ht : ∀ q, q ∈ e :: d.E → q ≠ 102) : d.S e W base (fun k => ok k ∧ k ≠ g) v xs := by
  obtain ⟨A0, c0, hb, hg, hr0⟩ := h
  exact Kd.S_types ho hb ht
theorem IsS102.own_neS {w0 W : World} {g : Nat} {f0 : List Int} {f1 : Int} {α : Type} {d : Kd α} {e : Nat} {base : Nat} {ok : Nat → Prop} {v : Value} {xs : List α} (h : IsS102 w0 W g f0 f1) (ho : d.S e W base ok v xs) (ht : e ≠ 102) : some g ≠ v.ownBlock := by
  obtain ⟨A0, c0, hb, hg, hr0⟩ := h
  exact Kd.S_ne ho hb ht
theorem IsS102.lt {w0 W : World} {g : Nat} {f0 : List Int} {f1 : Int} (h : IsS102 w0 W g f0 f1) : g < W.heap.size := by
  obtain ⟨A0, c0, hb, hg, hr0⟩ := h
  exact blk_lt hb
theorem IsS102.ge {w0 W : World} {g : Nat} {f0 : List Int} {f1 : Int} (h : IsS102 w0 W g f0 f1) : w0.heap.size ≤ g := by
  obtain ⟨A0, c0, hb, hg, hr0⟩ := h
  exact hg
theorem IsS102.ne_blk {w0 W : World} {g : Nat} {f0 : List Int} {f1 : Int} {a : Nat} {cs : Array Value} {t : TypeId} {fr : Nat × Nat} (h : IsS102 w0 W g f0 f1) (hb2 : W.heap[a]? = some (.cells cs t fr)) (ht : t ≠ 102) : g ≠ a := by
  obtain ⟨A0, c0, hb, hg, hr0⟩ := h
  rintro rfl
  rw [hb] at hb2
  injection hb2 with hb2
  injection hb2 with _ ht2
  exact ht ht2.symm
theorem IsS102.far {w0 W : World} {g : Nat} {f0 : List Int} {f1 : Int} {p : Addr} (h : IsS102 w0 W g f0 f1) (hne : g ≠ p.block) (u : Value) : IsS102 w0 (W.setCell p u) g f0 f1 := by
  obtain ⟨A0, c0, hb, hg, hr0⟩ := h
  exact ⟨A0, c0, blk_far hb hne u, hg, hr0⟩
theorem cellS102_0 {W : World} {g : Nat} {A0 : Option Addr} {c0 : Nat} {f0 : List Int} {f1 : Int} (h : W.heap[g]? = some (.cells #[.slice A0 f0.length c0, .int .i64 f1] 102 (0, 0))) : W.cell? ⟨g, 0, none⟩ = some (.slice A0 f0.length c0) := (blk_cell h 0).trans rfl
theorem cellS102_1 {W : World} {g : Nat} {A0 : Option Addr} {c0 : Nat} {f0 : List Int} {f1 : Int} (h : W.heap[g]? = some (.cells #[.slice A0 f0.length c0, .int .i64 f1] 102 (0, 0))) : W.cell? ⟨g, 1, none⟩ = some (.int .i64 f1) := (blk_cell h 1).trans rfl
theorem IsS102.set_1 {w0 W : World} {g : Nat} {f0 : List Int} {f1 : Int} (h : IsS102 w0 W g f0 f1) (x : Int) : IsS102 w0 (W.setCell ⟨g, 1, none⟩ (.int .i64 x)) g f0 x := by
  obtain ⟨A0, c0, hb, hg, hr0⟩ := h
  exact ⟨A0, c0, by simpa using blk_set hb 1 (.int .i64 x), hg, hr0⟩
theorem IsS102.new (w0 W : World) (A0 : Option Addr) (c0 : Nat) (f0 : List Int) (f1 : Int) (hB : Below w0.heap.size w0 W) (hr0 : Kd.C (Kd.int .u8) w0 A0 f0.length f0) : IsS102 w0 (W.alloc (.cells #[.slice A0 f0.length c0, .int .i64 f1] 102)) W.heap.size f0 f1 := ⟨A0, c0, by simpa using heap_alloc_new W _, hB.size, hr0⟩

/-! ### spec_l20Open: function 70 -/
def spec_l20Open.f (l0 : List Int) : Option (List Int × Int) := if (l0.length : Int) > 2000 then (if 2000 ≤ (l0.length : Int) then (some (l0.take 2000, 0)) else (none)) else (some (l0, 0))
set_option maxHeartbeats 8000000 in
set_option maxRecDepth 100000 in
theorem spec_l20Open.calls (A0 : Option Addr) (c0 : Nat) (l0 : List Int) (r1 : List Int) (r2 : Int) (w0 w : World) (hB : Below w0.heap.size w0 w) (hr0 : Kd.C (Kd.int .u8) w0 A0 l0.length l0) (hc0 : l0.length ≤ c0) (h : spec_l20Open.f l0 = some (r1, r2)) :
    Calls Try.prog 70 #[.slice A0 l0.length c0] w fun e w' => ∃ g_ : Nat, e = .returned (.pointer (some ⟨g_, 0, none⟩)) ∧ IsS102 w0 w' g_ r1 r2 ∧ Below w0.heap.size w0 w' ∧ Below w.heap.size w w' := by
  have hu102 := Try.underlying102
  have HR0 := Aside0.mk hr0
  have HC0 := Aside0.mk hc0
  clear hr0 hc0
  have HBW := Aside0.mk (Below.refl w.heap.size w)
  have HW0 := Aside0.mk hB.size
  have HB := Aside0.mk hB
  clear hB
  have H : (if (l0.length : Int) > 2000 then (if 2000 ≤ (l0.length : Int) then (some (l0.take 2000, 0)) else (none)) else (some (l0, 0))) = some (r1, r2) := h
  clear h
  by_cases c2 : (l0.length : Int) > 2000
  · rw [if_pos c2] at H
    have c2b0 : decide (2000 < (l0.length : Int)) = true := decide_eq_true c2
    have c2b1 : decide (2000 < l0.length) = true := decide_eq_true (by omega)
    clear c2
    by_cases c3 : 2000 ≤ (l0.length : Int)
    · rw [if_pos c3] at H
      have c3b0 := eq_true c3
      have c3b1 : decide (2000 ≤ (l0.length : Int)) = true := decide_eq_true c3
      clear c3
      simp only [Option.some.injEq, Prod.mk.injEq] at H
      obtain ⟨rfl, rfl⟩ := H
      obtain ⟨i04, hi04, _, hsz4, _⟩ := info_parts info5
      obtain ⟨hcut4, hA4, hC4⟩ := print_take_of (P := Try.prog) (Value.int .u8) 0 47 5 .i64 Try.underlying47 hi04 hsz4 A0 c0 l0 2000 (by omega) (of_decide_eq_true (by first | (with_reducible assumption) | assumption)) HC0.out
      have HR267 := Aside0.mk (Kd.C_of_reads (h1 := fun _ => rfl) (hA4 _ (Kd.reads_of_C HR0.out)))
      have HC267 := Aside0.mk hC4
      clear hA4 hC4 hi04 hsz4
      go_enter Try.func70, Try.ntmps70
      go_wp2_with (first | ((with_reducible refine gate_dst (N := 10) rfl ?_); refine box_event ?hg (N := 10) ?hd (cs := #[.slice A0 (l0.take 2000).length c0, .int .i64 0]) (t := 102) ?hr ?_; (case hd => rfl); (case hg => rfl); (case hr => first | (go_simp; done) | (go_simp; rfl)); intro gb268 hg w5 hbox hb; have n0_ := Aside0.mk (below_step HBW.out hb); have n1_ := Aside0.mk (below_step (by repeat (first | (with_reducible first | exact HB.out | apply below_alloc | apply pw_below_drewN | apply below_drew1) | exact HB.out)) hb); have n2_ := Aside0.mk (hbox); have n3_ := Aside0.mk ((by rw [hg]; exact (below_size (by repeat (first | (with_reducible first | exact HBW.out | apply below_alloc | apply pw_below_drewN | apply below_drew1) | exact HBW.out))) : w.heap.size ≤ gb268)); have n4_ := Aside0.mk ((Nat.le_trans HW0.out (by rw [hg]; exact (below_size (by repeat (first | (with_reducible first | exact HBW.out | apply below_alloc | apply pw_below_drewN | apply below_drew1) | exact HBW.out))) : w.heap.size ≤ gb268) : w0.heap.size ≤ gb268)); clear HBW; clear HB; have HBW := n0_; have HB := n1_; have BK268 := n2_; have GW268 := n3_; have GE268 := n4_; clear n0_ n1_ n2_ n3_ n4_; clear hb hbox hg))
      go_ret
      exact ⟨_, rfl, (show IsS102 w0 _ gb268 (l0.take 2000) 0 from ⟨_, _, by (with_reducible repeat (first | refine blk_drewN ?_ _ | refine blk_drew ?_ | refine blk_alloc ?_ _)); exact BK268.out, GE268.out, HR267.out⟩), by repeat (first | (with_reducible first | exact HB.out | apply below_alloc | apply pw_below_drewN | apply below_drew1 | refine below_set ?_ GE268.out) | exact HB.out), by repeat (first | (with_reducible first | exact HBW.out | apply below_alloc | apply pw_below_drewN | apply below_drew1 | refine below_set ?_ GW268.out) | exact HBW.out)⟩
    · rw [if_neg c3] at H
      exact absurd H (by simp)
  · rw [if_neg c2] at H
    have c2b0 : decide (2000 < (l0.length : Int)) = false := decide_eq_false c2
    have c2b1 : decide (2000 < l0.length) = false := decide_eq_false (by omega)
    clear c2
    simp only [Option.some.injEq, Prod.mk.injEq] at H
    obtain ⟨rfl, rfl⟩ := H
    go_enter Try.func70, Try.ntmps70
    go_wp2_with (first | ((with_reducible refine gate_dst (N := 10) rfl ?_); refine box_event ?hg (N := 10) ?hd (cs := #[.slice A0 l0.length c0, .int .i64 0]) (t := 102) ?hr ?_; (case hd => rfl); (case hg => rfl); (case hr => first | (go_simp; done) | (go_simp; rfl)); intro gb269 hg w6 hbox hb; have n0_ := Aside0.mk (below_step HBW.out hb); have n1_ := Aside0.mk (below_step (by repeat (first | (with_reducible first | exact HB.out | apply below_alloc | apply pw_below_drewN | apply below_drew1) | exact HB.out)) hb); have n2_ := Aside0.mk (hbox); have n3_ := Aside0.mk ((by rw [hg]; exact (below_size (by repeat (first | (with_reducible first | exact HBW.out | apply below_alloc | apply pw_below_drewN | apply below_drew1) | exact HBW.out))) : w.heap.size ≤ gb269)); have n4_ := Aside0.mk ((Nat.le_trans HW0.out (by rw [hg]; exact (below_size (by repeat (first | (with_reducible first | exact HBW.out | apply below_alloc | apply pw_below_drewN | apply below_drew1) | exact HBW.out))) : w.heap.size ≤ gb269) : w0.heap.size ≤ gb269)); clear HBW; clear HB; have HBW := n0_; have HB := n1_; have BK269 := n2_; have GW269 := n3_; have GE269 := n4_; clear n0_ n1_ n2_ n3_ n4_; clear hb hbox hg))
    go_ret
    exact ⟨_, rfl, (show IsS102 w0 _ gb269 l0 0 from ⟨_, _, by (with_reducible repeat (first | refine blk_drewN ?_ _ | refine blk_drew ?_ | refine blk_alloc ?_ _)); exact BK269.out, GE269.out, HR0.out⟩), by repeat (first | (with_reducible first | exact HB.out | apply below_alloc | apply pw_below_drewN | apply below_drew1 | refine below_set ?_ GE269.out) | exact HB.out), by repeat (first | (with_reducible first | exact HBW.out | apply below_alloc | apply pw_below_drewN | apply below_drew1 | refine below_set ?_ GW269.out) | exact HBW.out)⟩

end Go.Proofs.Ytbbhdgpiocojaaa.LH
