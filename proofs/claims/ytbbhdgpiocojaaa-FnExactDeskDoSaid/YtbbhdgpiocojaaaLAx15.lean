/- Printed by a program of this session (wip/lp/lp.py) out of the translation: functions with the same answers as the Go code, and their contracts; no conditions beyond those that each theorem names. -/
import Derived.Test.YtbbhdgpiocojaaaLAx0
import Derived.Test.YtbbhdgpiocojaaaLAx2
import Derived.Test.YtbbhdgpiocojaaaLAx6
import Derived.Test.YtbbhdgpiocojaaaLAx7
import Derived.Test.YtbbhdgpiocojaaaLAx13
import Derived.Test.YtbbhdgpiocojaaaLAx14
namespace Go.Proofs.Ytbbhdgpiocojaaa.LA
open Go.RowKit Go.Proofs.YtbbhdgpiocojaaaV.PrintWords Go.Proofs.YtbbhdgpiocojaaaV.PrintLast Go.Proofs.YtbbhdgpiocojaaaV.PrintMore
attribute [local go_sem] max2_int min2_int max_two min_two max_three min_three max_four min_four   -- for this text's walks alone
set_option linter.unusedVariables false
set_option linter.unusedSimpArgs false

/-! ### laws_FnExactDeskDo: function 3, told by hand -/
def laws_FnExactDeskDo.f (k : Nat) (l0 : List Int) (l1 : List (List Int)) (a b c : Int) : Option Bool :=
  (laws_szDesk.f k l0 l1 1048576).bind fun t => if t < 0 then some true else
  (laws_toDesk.f k l0 l1).bind fun d1 => (spec_DeskDo.f k d1.1 d1.2 a b c).bind fun w => (laws_toDesk.f k l0 l1).bind fun d2 => (impl_DeskDo.f k d2.1 d2.2 a b c).bind fun g => (laws_eqDesk.f k g.1 g.2.1 w.1 w.2.1).bind fun e1 => (laws_toDesk.f k l0 l1).bind fun d3 => (laws_eqDesk.f k d2.1 d2.2 d3.1 d3.2).bind fun e2 =>
  (laws_markDesk.f k d2.1 d2.2 1).bind fun m1 => (laws_markDesk.f k g.1 g.2.1 1).bind fun m2 => (laws_heldDesk.f k m2.2.1 m2.2.2 1).bind fun q => (laws_toDesk.f k l0 l1).bind fun d4 => (impl_DeskDo.f k d4.1 d4.2 a b c).bind fun h => (laws_eqDesk.f k h.1 h.2.1 w.1 w.2.1).bind fun e3 =>
  if g.2.2 = w.2.2 ∧ h.2.2 = w.2.2 ∧ e1 = true ∧ e2 = true ∧ e3 = true ∧ 0 ≤ m1.1 ∧ 0 ≤ q ∧ q = m2.1 then some true else none
set_option maxHeartbeats 16000000 in
set_option maxRecDepth 100000 in
theorem laws_FnExactDeskDo.calls (k : Nat) (A0 : Option Addr) (c0 : Nat) (l0 : List Int) (A1 : Option Addr) (c1 : Nat) (l1 : List (List Int)) (a b c : Int) (r : Bool) (w : World) (hr0 : Kd.C (Kd.int .i64) w A0 l0.length l0) (hc0 : l0.length ≤ c0) (hr1 : Kd.C (Kd.slice 3 (Kd.int .i64)) w A1 l1.length l1) (hc1 : l1.length ≤ c1) (h : laws_FnExactDeskDo.f k l0 l1 a b c = some r) :
    Calls Try.prog 3 #[.agg #[.slice A0 l0.length c0, .slice A1 l1.length c1], .agg #[.int .i64 a, .int .i64 b, .int .i64 c]] w fun e w' => e = .returned (.bool r) ∧ Below w.heap.size w w' := by
  have HR0 := Aside0.mk hr0
  have HC0 := Aside0.mk hc0
  have HR1 := Aside0.mk hr1
  have HC1 := Aside0.mk hc1
  clear hr0 hc0 hr1 hc1
  have HB := Aside0.mk (Below.refl w.heap.size w)
  have HZ := Aside0.mk (Nat.le_refl w.heap.size)
  unfold laws_FnExactDeskDo.f at h
  obtain ⟨t, e_, h⟩ := Option.bind_eq_some_iff.mp h
  have E1 := Aside0.mk e_
  clear e_
  by_cases c : t < 0
  · rw [if_pos c] at h
    obtain rfl := Option.some.inj h
    have cb : decide (t < 0) = true := decide_eq_true c
    clear c
    go_enter Try.func3, Try.ntmps3
    go_wp2_with (first | ((with_reducible refine gate_dst (N := 2) rfl ?_); refine box_event ?hg (N := 2) ?hd (cs := #[.slice A0 l0.length c0, .slice A1 l1.length c1]) (t := 25) ?hr ?_; (case hd => rfl); (case hg => rfl); (case hr => first | (go_simp; done) | (go_simp; rfl)); intro gb1 hg U1 hbox hb; have HQ1 := Aside0.mk (show _ ≤ gb1 from by rw [hg]; exact HZ.out); clear HZ; have HZ := Aside0.mk (show gb1 + 1 ≤ U1.heap.size from blk_lt hbox); have n_ := Aside0.mk (below_step HB.out hb); clear HB; have HB := n_; clear n_; have HXp := Aside0.mk hbox; have HXpa := cell2_0 HXp.out; have HXpb := cell2_1 HXp.out; clear hbox hb hg) | ((with_reducible refine gate_dst (N := 3) rfl ?_); refine box_event ?hg (N := 3) ?hd (cs := #[.int .i64 a, .int .i64 b, .int .i64 c]) (t := 27) ?hr ?_; (case hd => rfl); (case hg => rfl); (case hr => first | (go_simp; done) | (go_simp; rfl)); intro gb2 hg U2 hbox hb; have n_ := Aside0.mk (blk_below HXp.out hb); clear HXp HXpa HXpb; have HXp := n_; clear n_; have HXpa := cell2_0 HXp.out; have HXpb := cell2_1 HXp.out; have HQ2 := Aside0.mk (show _ ≤ gb2 from by rw [hg]; exact HZ.out); clear HZ; have HZ := Aside0.mk (show gb2 + 1 ≤ U2.heap.size from blk_lt hbox); have n_ := Aside0.mk (below_step HB.out hb); clear HB; have HB := n_; clear n_; have HXq := Aside0.mk hbox; have HXqa := cell3_0 HXq.out; have HXqb := cell3_1 HXq.out; have HXqc := cell3_2 HXq.out; clear hbox hb hg) | (go_at_call 11; (with_reducible refine (laws_szDesk.calls k _ _ l0 _ _ l1 1048576 t _ (Kd.C_below HR0.out HB.out) HC0.out (Kd.C_below HR1.out HB.out) HC1.out E1.out).mono ?_); clear E1; rintro e W1 ⟨rfl, hb⟩; have n_ := Aside0.mk (blk_below HXp.out hb); clear HXp HXpa HXpb; have HXp := n_; clear n_; have HXpa := cell2_0 HXp.out; have HXpb := cell2_1 HXp.out; have n_ := Aside0.mk (blk_below HXq.out hb); clear HXq HXqa HXqb HXqc; have HXq := n_; clear n_; have HXqa := cell3_0 HXq.out; have HXqb := cell3_1 HXq.out; have HXqc := cell3_2 HXq.out; have n_ := Aside0.mk (below_step HB.out hb); clear HB; have HB := n_; clear n_; have n_ := Aside0.mk (Nat.le_trans HZ.out hb.size); clear HZ; have HZ := n_; clear n_ hb))
    go_ret
    exact ⟨rfl, HB.out⟩
  · rw [if_neg c] at h
    have cb : decide (t < 0) = false := decide_eq_false c
    clear c
    obtain ⟨⟨d1, f1⟩, e2_, h⟩ := Option.bind_eq_some_iff.mp h
    obtain ⟨⟨w1, w2, v⟩, e3_, h⟩ := Option.bind_eq_some_iff.mp h
    obtain ⟨⟨d2, f2⟩, e4_, h⟩ := Option.bind_eq_some_iff.mp h
    obtain ⟨⟨g1, g2, b1⟩, e5_, h⟩ := Option.bind_eq_some_iff.mp h
    obtain ⟨q1, e6_, h⟩ := Option.bind_eq_some_iff.mp h
    obtain ⟨⟨d3, f3⟩, e7_, h⟩ := Option.bind_eq_some_iff.mp h
    obtain ⟨q2, e8_, h⟩ := Option.bind_eq_some_iff.mp h
    obtain ⟨⟨m1, y0, y1⟩, e9_, h⟩ := Option.bind_eq_some_iff.mp h
    obtain ⟨⟨m2, y2, y3⟩, e11_, h⟩ := Option.bind_eq_some_iff.mp h
    obtain ⟨q3, e12_, h⟩ := Option.bind_eq_some_iff.mp h
    obtain ⟨⟨d4, f4⟩, e13_, h⟩ := Option.bind_eq_some_iff.mp h
    obtain ⟨⟨h1, h2, b2⟩, e14_, h⟩ := Option.bind_eq_some_iff.mp h
    obtain ⟨q4, e15_, h⟩ := Option.bind_eq_some_iff.mp h
    by_cases z : b1 = v ∧ b2 = v ∧ q1 = true ∧ q2 = true ∧ q4 = true ∧ 0 ≤ m1 ∧ 0 ≤ q3 ∧ q3 = m2
    · rw [if_pos z] at h
      obtain rfl := Option.some.inj h
      obtain ⟨rfl, rfl, rfl, rfl, rfl, z1, z2, rfl⟩ := z
      have E2 := Aside0.mk e2_
      have E3 := Aside0.mk e3_
      have E4 := Aside0.mk e4_
      have E5 := Aside0.mk e5_
      have E6 := Aside0.mk e6_
      have E10 := Aside0.mk e6_
      have E7 := Aside0.mk e7_
      have E8 := Aside0.mk e8_
      have E9 := Aside0.mk e9_
      have E11 := Aside0.mk e11_
      have E12 := Aside0.mk e12_
      have E16 := Aside0.mk e12_
      have E13 := Aside0.mk e13_
      have E14 := Aside0.mk e14_
      have E15 := Aside0.mk e15_
      have zb1 : decide (m1 < 0) = false := decide_eq_false (by omega)
      have zb2 : decide (q3 < 0) = false := decide_eq_false (by omega)
      clear z1 z2
      clear h e2_ e3_ e4_ e5_ e6_ e7_ e8_ e9_ e11_ e12_ e13_ e14_ e15_
      go_enter Try.func3, Try.ntmps3
      go_upto_region 5 with (first
        | ((with_reducible refine gate_dst (N := 2) rfl ?_); refine box_event ?hg (N := 2) ?hd (cs := #[.slice A0 l0.length c0, .slice A1 l1.length c1]) (t := 25) ?hr ?_; (case hd => rfl); (case hg => rfl); (case hr => first | (go_simp; done) | (go_simp; rfl)); intro gb1 hg U1 hbox hb; have HQ1 := Aside0.mk (show _ ≤ gb1 from by rw [hg]; exact HZ.out); clear HZ; have HZ := Aside0.mk (show gb1 + 1 ≤ U1.heap.size from blk_lt hbox); have n_ := Aside0.mk (below_step HB.out hb); clear HB; have HB := n_; clear n_; have HXp := Aside0.mk hbox; have HXpa := cell2_0 HXp.out; have HXpb := cell2_1 HXp.out; clear hbox hb hg)
        | ((with_reducible refine gate_dst (N := 3) rfl ?_); refine box_event ?hg (N := 3) ?hd (cs := #[.int .i64 a, .int .i64 b, .int .i64 c]) (t := 27) ?hr ?_; (case hd => rfl); (case hg => rfl); (case hr => first | (go_simp; done) | (go_simp; rfl)); intro gb2 hg U2 hbox hb; have n_ := Aside0.mk (blk_below HXp.out hb); clear HXp HXpa HXpb; have HXp := n_; clear n_; have HXpa := cell2_0 HXp.out; have HXpb := cell2_1 HXp.out; have HQ2 := Aside0.mk (show _ ≤ gb2 from by rw [hg]; exact HZ.out); clear HZ; have HZ := Aside0.mk (show gb2 + 1 ≤ U2.heap.size from blk_lt hbox); have n_ := Aside0.mk (below_step HB.out hb); clear HB; have HB := n_; clear n_; have HXq := Aside0.mk hbox; have HXqa := cell3_0 HXq.out; have HXqb := cell3_1 HXq.out; have HXqc := cell3_2 HXq.out; clear hbox hb hg)
        | (go_at_call 11; (with_reducible refine (laws_szDesk.calls k _ _ l0 _ _ l1 1048576 t _ (Kd.C_below HR0.out HB.out) HC0.out (Kd.C_below HR1.out HB.out) HC1.out E1.out).mono ?_); clear E1; rintro e W1 ⟨rfl, hb⟩; have n_ := Aside0.mk (blk_below HXp.out hb); clear HXp HXpa HXpb; have HXp := n_; clear n_; have HXpa := cell2_0 HXp.out; have HXpb := cell2_1 HXp.out; have n_ := Aside0.mk (blk_below HXq.out hb); clear HXq HXqa HXqb HXqc; have HXq := n_; clear n_; have HXqa := cell3_0 HXq.out; have HXqb := cell3_1 HXq.out; have HXqc := cell3_2 HXq.out; have n_ := Aside0.mk (below_step HB.out hb); clear HB; have HB := n_; clear n_; have n_ := Aside0.mk (Nat.le_trans HZ.out hb.size); clear HZ; have HZ := n_; clear n_ hb))
      try go_wp2
      have n_ := Aside0.mk (blk_drew HXp.out); clear HXp HXpa HXpb; have HXp := n_; clear n_
      have n_ := Aside0.mk (blk_drew HXq.out); clear HXq HXqa HXqb HXqc; have HXq := n_; clear n_
      have n_ := Aside0.mk (below_drew1 HB.out); clear HB; have HB := n_; clear n_
      have n_ := Aside0.mk (show _ ≤ (World.drew W1).heap.size from HZ.out); clear HZ; have HZ := n_; clear n_
      refine start_ (n := 11) (S := fun w' => w'.cell? ⟨gb1, 0, none⟩ = some (.slice A0 l0.length c0) ∧ w'.cell? ⟨gb1, 1, none⟩ = some (.slice A1 l1.length c1) ∧ w'.cell? ⟨gb2, 0, none⟩ = some (.int .i64 a) ∧ w'.cell? ⟨gb2, 1, none⟩ = some (.int .i64 b) ∧ w'.cell? ⟨gb2, 2, none⟩ = some (.int .i64 c)) (ds := []) #[false, false, false, false, false, false, false, false, false, false, false] (by kernel_rfl) rfl rfl ⟨(blk_cell HXp.out 0).trans rfl, (blk_cell HXp.out 1).trans rfl, (blk_cell HXq.out 0).trans rfl, (blk_cell HXq.out 1).trans rfl, (blk_cell HXq.out 2).trans rfl⟩ (fun hHeld => ?_)
      generalize World.drew W1 = wr_3 at HXp HXq HB HZ hHeld ⊢
      refine take_ (i := 0) (N := some 22) (v := ?_) (a' := ?_) #[true, false, false, false, false, false, false, false, false, false, false] rfl rfl (by kernel_rfl) (fun _ _ _ h => h) (Or.inl ⟨by rfl, ?_⟩) hHeld ?_ ?_
      rotate_left
      · rintro w' ⟨s0, s1, s2, s3, s4⟩
        go_simp
        with_reducible rfl
      rotate_left
      · simp only [Act.put, List.setIfInBounds_toArray, List.set_cons_zero, List.set_cons_succ, i64_w, i32_w]
        rfl
      refine take_ (i := 2) (N := some 24) (v := ?_) (a' := ?_) #[true, false, true, false, false, false, false, false, false, false, false] rfl rfl (by kernel_rfl) (fun _ _ _ h => h) (Or.inl ⟨by rfl, ?_⟩) hHeld ?_ ?_
      rotate_left
      · rintro w' ⟨s0, s1, s2, s3, s4⟩
        go_simp
        with_reducible rfl
      rotate_left
      · simp only [Act.put, List.setIfInBounds_toArray, List.set_cons_zero, List.set_cons_succ, i64_w, i32_w]
        rfl
      have HSok : ∀ w' : World, Below wr_3.heap.size wr_3 w' → (w'.cell? ⟨gb1, 0, none⟩ = some (.slice A0 l0.length c0) ∧ w'.cell? ⟨gb1, 1, none⟩ = some (.slice A1 l1.length c1) ∧ w'.cell? ⟨gb2, 0, none⟩ = some (.int .i64 a) ∧ w'.cell? ⟨gb2, 1, none⟩ = some (.int .i64 b) ∧ w'.cell? ⟨gb2, 2, none⟩ = some (.int .i64 c)) := fun w' hb_ => ⟨(blk_cell (blk_below HXp.out hb_) 0).trans rfl, (blk_cell (blk_below HXp.out hb_) 1).trans rfl, (blk_cell (blk_below HXq.out hb_) 0).trans rfl, (blk_cell (blk_below HXq.out hb_) 1).trans rfl, (blk_cell (blk_below HXq.out hb_) 2).trans rfl⟩
      have HBw := Aside0.mk HB.out
      have HBr := Aside0.mk (Below.refl wr_3.heap.size wr_3)
      refine join_ (σ := Option Addr × Nat × Option Addr × Nat × Nat × Option Addr × Nat × Option Addr × Nat) 2 #[true, true, true, true, true, true, true, true, true, false, false] (fun s_ => [(23, .agg #[.slice s_.1 d1.length s_.2.1, .slice s_.2.2.1 f1.length s_.2.2.2.1]), (25, .agg #[.int .i64 a, .int .i64 b, .int .i64 c]), (6, .pointer (some ⟨s_.2.2.2.2.1, 0, none⟩)), (26, .tuple #[.agg #[.slice s_.2.2.2.2.2.1 w1.length s_.2.2.2.2.2.2.1, .slice s_.2.2.2.2.2.2.2.1 w2.length s_.2.2.2.2.2.2.2.2], .bool b2]), (21, .tuple #[.agg #[.slice s_.2.2.2.2.2.1 w1.length s_.2.2.2.2.2.2.1, .slice s_.2.2.2.2.2.2.2.1 w2.length s_.2.2.2.2.2.2.2.2], .bool b2]), (27, .agg #[.slice s_.2.2.2.2.2.1 w1.length s_.2.2.2.2.2.2.1, .slice s_.2.2.2.2.2.2.2.1 w2.length s_.2.2.2.2.2.2.2.2]), (28, .bool b2)]) (fun s_ w' => (Below wr_3.heap.size wr_3 w') ∧ (Kd.C (Kd.int .i64) w' s_.1 d1.length d1) ∧ (d1.length ≤ s_.2.1) ∧ (Kd.C (Kd.slice 3 (Kd.int .i64)) w' s_.2.2.1 f1.length f1) ∧ (f1.length ≤ s_.2.2.2.1) ∧ (w'.heap[s_.2.2.2.2.1]? = some (.cells #[.slice none 0 0, .slice none 0 0] 29 (0, 0))) ∧ (wr_3.heap.size ≤ s_.2.2.2.2.1) ∧ (Kd.R (Kd.int .i64) 3 w' wr_3.heap.size (fun _ => True) (.slice s_.2.2.2.2.2.1 w1.length s_.2.2.2.2.2.2.1) w1) ∧ (Kd.V (Kd.slice 3 (Kd.int .i64)) 22 w' wr_3.heap.size (fun k_ => wr_3.heap.size ≤ k_ ∧ some k_ ≠ (.slice s_.2.2.2.2.2.1 w1.length s_.2.2.2.2.2.2.1 : Value).ownBlock ∧ k_ ≠ s_.2.2.2.2.1) (.slice s_.2.2.2.2.2.2.2.1 w2.length s_.2.2.2.2.2.2.2.2) w2)) ?_ ?_
      rotate_left
      · intro hJABMX
        refine join_ (σ := Option Addr × Nat × Option Addr × Nat × Nat) 6 #[true, true, true, true, false, false, false, false, true, false, false] (fun s_ => [(23, .agg #[.slice s_.1 d1.length s_.2.1, .slice s_.2.2.1 f1.length s_.2.2.2.1]), (25, .agg #[.int .i64 a, .int .i64 b, .int .i64 c]), (6, .pointer (some ⟨s_.2.2.2.2, 0, none⟩))]) (fun s_ w' => (Below wr_3.heap.size wr_3 w') ∧ (Kd.C (Kd.int .i64) w' s_.1 d1.length d1) ∧ (d1.length ≤ s_.2.1) ∧ (Kd.C (Kd.slice 3 (Kd.int .i64)) w' s_.2.2.1 f1.length f1) ∧ (f1.length ≤ s_.2.2.2.1) ∧ (w'.heap[s_.2.2.2.2]? = some (.cells #[.slice none 0 0, .slice none 0 0] 29 (0, 0))) ∧ (wr_3.heap.size ≤ s_.2.2.2.2)) ?_ ?_
        rotate_left
        · intro hJABX
          refine join_ (σ := Option Addr × Nat × Option Addr × Nat × Nat) 7 #[true, true, true, false, false, false, false, false, true, false, false] (fun s_ => [(23, .agg #[.slice s_.1 d1.length s_.2.1, .slice s_.2.2.1 f1.length s_.2.2.2.1]), (6, .pointer (some ⟨s_.2.2.2.2, 0, none⟩))]) (fun s_ w' => (Below wr_3.heap.size wr_3 w') ∧ (Kd.C (Kd.int .i64) w' s_.1 d1.length d1) ∧ (d1.length ≤ s_.2.1) ∧ (Kd.C (Kd.slice 3 (Kd.int .i64)) w' s_.2.2.1 f1.length f1) ∧ (f1.length ≤ s_.2.2.2.1) ∧ (w'.heap[s_.2.2.2.2]? = some (.cells #[.slice none 0 0, .slice none 0 0] 29 (0, 0))) ∧ (wr_3.heap.size ≤ s_.2.2.2.2)) ?_ ?_
          rotate_left
          · intro hJAX
            refine two_ (i := 1) (j := 8) (Ni := some 23) (Nj := some 6) #[true, true, true, false, false, false, false, false, false, false, false] #[true, false, true, false, false, false, false, false, true, false, false] rfl rfl rfl rfl (by kernel_rfl) (by decide) (by decide) (fun K hK => ?_) (fun K hK => ?_)
            · skip
              refine goes_ Try.func13 (by kernel_rfl) rfl #[.agg #[.slice A0 l0.length c0, .slice A1 l1.length c1]] (by rfl) rfl rfl (by (try simp only [List.map_toArray, List.map_cons, List.map_nil]); first | done | rfl) ?_
              with_reducible refine (laws_toDesk.calls k _ _ l0 _ _ l1 d1 f1 _ ?s1 HC0.out ?s2 HC1.out E2.out).mono ?_
              (case s1 => exact Kd.C_below HR0.out (below_step HB.out HBr.out))
              (case s2 => exact Kd.C_below HR1.out (below_step HB.out HBr.out))
              rintro e V3_1 ⟨v_, u_, rfl, ho, ho2, hb⟩
              obtain ⟨Aa_3, ca_3, rfl⟩ := Kd.R_slice ho
              obtain ⟨Ba_3, cb_3, rfl⟩ := Kd.S_slice ho2
              have FA1 := Aside0.mk (Kd.R_reads' ho).2.2
              have FA2 := Aside0.mk (Kd.R_reads' ho).2.1
              have FA3 := Aside0.mk (Kd.S_reads' ho2).2.2
              have FA4 := Aside0.mk (Kd.S_reads' ho2).2.1
              replace HBr := Aside0.mk (below_step HBr.out hb)
              clear ho ho2 hb
              refine ⟨_, rfl, ?_⟩
              refine hK.out _ _ (HSok _ HBr.out) (fun hHeld => ?_)
              clear hK K
              refine norm_ (a' := ?_) ?_ ?_
              rotate_left
              · show Act.put _ (some 23) _ = _
                simp only [Act.put, List.setIfInBounds_toArray, List.set_cons_zero, List.set_cons_succ, i64_w, i32_w]
                rfl
              refine two_ (i := 3) (j := 8) (Ni := some 25) (Nj := some 6) #[true, true, true, true, false, false, false, false, false, false, false] #[true, true, true, false, false, false, false, false, true, false, false] rfl rfl rfl rfl (by kernel_rfl) (by decide) (by decide) (fun K hK => ?_) (fun K hK => ?_)
              · skip
                refine goes_ Try.func14 (by kernel_rfl) rfl #[.agg #[.int .i64 a, .int .i64 b, .int .i64 c]] (by rfl) rfl rfl (by (try simp only [List.map_toArray, List.map_cons, List.map_nil]); first | done | rfl) ?_
                with_reducible refine (laws_toDeed.calls a b c a b c _ rfl).mono ?_
                rintro e V3_2 ⟨rfl, hb⟩
                replace FA1 := Aside0.mk (Kd.C_below FA1.out hb)
                replace FA3 := Aside0.mk (Kd.C_below FA3.out hb)
                replace HBr := Aside0.mk (below_step HBr.out hb)
                clear hb
                refine ⟨_, rfl, ?_⟩
                refine hK.out _ _ (HSok _ HBr.out) (fun hHeld => ?_)
                clear hK K
                refine norm_ (a' := ?_) ?_ ?_
                rotate_left
                · show Act.put _ (some 25) _ = _
                  simp only [Act.put, List.setIfInBounds_toArray, List.set_cons_zero, List.set_cons_succ, i64_w, i32_w]
                  rfl
                refine two_ (i := 4) (j := 8) (Ni := some 26) (Nj := some 6) #[true, true, true, true, true, false, false, false, false, false, false] #[true, true, true, true, false, false, false, false, true, false, false] rfl rfl rfl rfl (by kernel_rfl) (by decide) (by decide) (fun K hK => ?_) (fun K hK => ?_)
                · skip
                  refine goes_ Try.func12 (by kernel_rfl) rfl #[.agg #[.slice Aa_3 d1.length ca_3, .slice Ba_3 f1.length cb_3], .agg #[.int .i64 a, .int .i64 b, .int .i64 c]] (by rfl) rfl rfl (by (try simp only [List.map_toArray, List.map_cons, List.map_nil]); first | done | rfl) ?_
                  with_reducible refine (spec_DeskDo.calls k _ _ d1 _ _ f1 a b c w1 w2 b2 _ ?s1 ?s2 ?s3 ?s4 E3.out).mono ?_
                  (case s1 => exact FA1.out)
                  (case s2 => exact FA2.out)
                  (case s3 => exact FA3.out)
                  (case s4 => exact FA4.out)
                  rintro e V3_3 ⟨v_, u_, rfl, ho, ho2, hb⟩
                  obtain ⟨Am_3, cm_3, rfl⟩ := Kd.R_slice ho
                  obtain ⟨Bm_3, cn_3, rfl⟩ := Kd.V_slice ho2
                  have FM1 := Aside0.mk (Kd.R_mono (Kd.R_lower ho HBr.out.size) (fun _ _ => trivial))
                  have FM2 := Aside0.mk (Kd.V_mono (Kd.V_lower ho2 HBr.out.size) (fun k_ hk => (⟨Nat.le_trans HBr.out.size hk.1, hk.2⟩ : wr_3.heap.size ≤ k_ ∧ some k_ ≠ (.slice Am_3 w1.length cm_3 : Value).ownBlock)))
                  replace FA1 := Aside0.mk (Kd.C_below FA1.out hb)
                  replace FA3 := Aside0.mk (Kd.C_below FA3.out hb)
                  replace HBr := Aside0.mk (below_step HBr.out hb)
                  clear ho ho2 hb
                  refine ⟨_, rfl, ?_⟩
                  refine hK.out _ _ (HSok _ HBr.out) (fun hHeld => ?_)
                  clear hK K
                  refine norm_ (a' := ?_) ?_ ?_
                  rotate_left
                  · show Act.put _ (some 26) _ = _
                    simp only [Act.put, List.setIfInBounds_toArray, List.set_cons_zero, List.set_cons_succ, i64_w, i32_w]
                    rfl
                  refine pure_ (i := 5) (N := some 21) (v := ?_) (a' := ?_) #[true, true, true, true, true, true, false, false, false, false, false] rfl rfl (by kernel_rfl) (fun _ _ _ h => h) (Or.inl ⟨by rfl, ?_⟩) ?_ ?_
                  rotate_left
                  · intro w'
                    go_simp
                    with_reducible rfl
                  rotate_left
                  · simp only [Act.put, List.setIfInBounds_toArray, List.set_cons_zero, List.set_cons_succ, i64_w, i32_w]
                    rfl
                  refine pure_ (i := 6) (N := some 27) (v := ?_) (a' := ?_) #[true, true, true, true, true, true, true, false, false, false, false] rfl rfl (by kernel_rfl) (fun _ _ _ h => h) (Or.inl ⟨by rfl, ?_⟩) ?_ ?_
                  rotate_left
                  · intro w'
                    go_simp
                    with_reducible rfl
                  rotate_left
                  · simp only [Act.put, List.setIfInBounds_toArray, List.set_cons_zero, List.set_cons_succ, i64_w, i32_w]
                    rfl
                  refine pure_ (i := 7) (N := some 28) (v := ?_) (a' := ?_) #[true, true, true, true, true, true, true, true, false, false, false] rfl rfl (by kernel_rfl) (fun _ _ _ h => h) (Or.inl ⟨by rfl, ?_⟩) ?_ ?_
                  rotate_left
                  · intro w'
                    go_simp
                    with_reducible rfl
                  rotate_left
                  · simp only [Act.put, List.setIfInBounds_toArray, List.set_cons_zero, List.set_cons_succ, i64_w, i32_w]
                    rfl
                  refine one_ (i := 8) (N := some 6) #[true, true, true, true, true, true, true, true, true, false, false] rfl rfl (by kernel_rfl) (by decide) (fun K hK => ?_)
                  refine box_step ?hg (N := 6) ?hd (cs := #[.slice none 0 0, .slice none 0 0]) (t := 29) ?hr ?_; (case hd => rfl); (case hg => rfl); (case hr => first | (go_simp; done) | (go_simp; rfl))
                  intro gx_3 hg V3_4 hbox hb
                  have FG := Aside0.mk (show wr_3.heap.size ≤ gx_3 by rw [hg]; exact HBr.out.size)
                  have FX := Aside0.mk hbox
                  replace FA1 := Aside0.mk (Kd.C_below FA1.out hb)
                  replace FA3 := Aside0.mk (Kd.C_below FA3.out hb)
                  replace FM1 := Aside0.mk (Kd.R_below FM1.out hb)
                  replace FM2 := Aside0.mk (Kd.V_below (Kd.V_mono (Kd.V_bound FM2.out) (fun k_ hk => (⟨hk.1.1, hk.1.2, Nat.ne_of_lt (by rw [hg]; exact hk.2)⟩ : wr_3.heap.size ≤ k_ ∧ some k_ ≠ (.slice Am_3 w1.length cm_3 : Value).ownBlock ∧ k_ ≠ gx_3))) hb)
                  replace HBr := Aside0.mk (below_step HBr.out hb)
                  clear hbox hb hg
                  refine hK.out _ _ (HSok _ HBr.out) (fun hHeld => ?_)
                  clear hK K
                  refine norm_ (a' := ?_) ?_ ?_
                  rotate_left
                  · show Act.put _ (some 6) _ = _
                    simp only [Act.put, List.setIfInBounds_toArray, List.set_cons_zero, List.set_cons_succ, i64_w, i32_w]
                    rfl
                  exact norm_ (by first | (simp only [putAll, Act.put, List.setIfInBounds_toArray, List.set_cons_zero, List.set_cons_succ]; done) | (simp only [putAll, Act.put, List.setIfInBounds_toArray, List.set_cons_zero, List.set_cons_succ]; rfl)) (hJABMX (Aa_3, ca_3, Ba_3, cb_3, gx_3, Am_3, cm_3, Bm_3, cn_3) _ ⟨HBr.out, FA1.out, FA2.out, FA3.out, FA4.out, FX.out, FG.out, FM1.out, FM2.out⟩)
                · skip
                  refine box_step ?hg (N := 6) ?hd (cs := #[.slice none 0 0, .slice none 0 0]) (t := 29) ?hr ?_; (case hd => rfl); (case hg => rfl); (case hr => first | (go_simp; done) | (go_simp; rfl))
                  intro gx_3 hg V3_5 hbox hb
                  have FG := Aside0.mk (show wr_3.heap.size ≤ gx_3 by rw [hg]; exact HBr.out.size)
                  have FX := Aside0.mk hbox
                  replace FA1 := Aside0.mk (Kd.C_below FA1.out hb)
                  replace FA3 := Aside0.mk (Kd.C_below FA3.out hb)
                  replace HBr := Aside0.mk (below_step HBr.out hb)
                  clear hbox hb hg
                  refine hK.out _ _ (HSok _ HBr.out) (fun hHeld => ?_)
                  clear hK K
                  refine norm_ (a' := ?_) ?_ ?_
                  rotate_left
                  · show Act.put _ (some 6) _ = _
                    simp only [Act.put, List.setIfInBounds_toArray, List.set_cons_zero, List.set_cons_succ, i64_w, i32_w]
                    rfl
                  exact norm_ (by first | (simp only [putAll, Act.put, List.setIfInBounds_toArray, List.set_cons_zero, List.set_cons_succ]; done) | (simp only [putAll, Act.put, List.setIfInBounds_toArray, List.set_cons_zero, List.set_cons_succ]; rfl)) (hJABX (Aa_3, ca_3, Ba_3, cb_3, gx_3) _ ⟨HBr.out, FA1.out, FA2.out, FA3.out, FA4.out, FX.out, FG.out⟩)
              · skip
                refine box_step ?hg (N := 6) ?hd (cs := #[.slice none 0 0, .slice none 0 0]) (t := 29) ?hr ?_; (case hd => rfl); (case hg => rfl); (case hr => first | (go_simp; done) | (go_simp; rfl))
                intro gx_3 hg V3_6 hbox hb
                have FG := Aside0.mk (show wr_3.heap.size ≤ gx_3 by rw [hg]; exact HBr.out.size)
                have FX := Aside0.mk hbox
                replace FA1 := Aside0.mk (Kd.C_below FA1.out hb)
                replace FA3 := Aside0.mk (Kd.C_below FA3.out hb)
                replace HBr := Aside0.mk (below_step HBr.out hb)
                clear hbox hb hg
                refine hK.out _ _ (HSok _ HBr.out) (fun hHeld => ?_)
                clear hK K
                refine norm_ (a' := ?_) ?_ ?_
                rotate_left
                · show Act.put _ (some 6) _ = _
                  simp only [Act.put, List.setIfInBounds_toArray, List.set_cons_zero, List.set_cons_succ, i64_w, i32_w]
                  rfl
                exact norm_ (by first | (simp only [putAll, Act.put, List.setIfInBounds_toArray, List.set_cons_zero, List.set_cons_succ]; done) | (simp only [putAll, Act.put, List.setIfInBounds_toArray, List.set_cons_zero, List.set_cons_succ]; rfl)) (hJAX (Aa_3, ca_3, Ba_3, cb_3, gx_3) _ ⟨HBr.out, FA1.out, FA2.out, FA3.out, FA4.out, FX.out, FG.out⟩)
            · skip
              refine box_step ?hg (N := 6) ?hd (cs := #[.slice none 0 0, .slice none 0 0]) (t := 29) ?hr ?_; (case hd => rfl); (case hg => rfl); (case hr => first | (go_simp; done) | (go_simp; rfl))
              intro gx_3 hg V3_7 hbox hb
              have FG := Aside0.mk (show wr_3.heap.size ≤ gx_3 by rw [hg]; exact HBr.out.size)
              have FX := Aside0.mk hbox
              replace HBr := Aside0.mk (below_step HBr.out hb)
              clear hbox hb hg
              refine hK.out _ _ (HSok _ HBr.out) (fun hHeld => ?_)
              clear hK K
              refine norm_ (a' := ?_) ?_ ?_
              rotate_left
              · show Act.put _ (some 6) _ = _
                simp only [Act.put, List.setIfInBounds_toArray, List.set_cons_zero, List.set_cons_succ, i64_w, i32_w]
                rfl
              refine one_ (i := 1) (N := some 23) #[true, true, true, false, false, false, false, false, true, false, false] rfl rfl (by kernel_rfl) (by decide) (fun K hK => ?_)
              refine goes_ Try.func13 (by kernel_rfl) rfl #[.agg #[.slice A0 l0.length c0, .slice A1 l1.length c1]] (by rfl) rfl rfl (by (try simp only [List.map_toArray, List.map_cons, List.map_nil]); first | done | rfl) ?_
              with_reducible refine (laws_toDesk.calls k _ _ l0 _ _ l1 d1 f1 _ ?s1 HC0.out ?s2 HC1.out E2.out).mono ?_
              (case s1 => exact Kd.C_below HR0.out (below_step HB.out HBr.out))
              (case s2 => exact Kd.C_below HR1.out (below_step HB.out HBr.out))
              rintro e V3_8 ⟨v_, u_, rfl, ho, ho2, hb⟩
              obtain ⟨Aa_3, ca_3, rfl⟩ := Kd.R_slice ho
              obtain ⟨Ba_3, cb_3, rfl⟩ := Kd.S_slice ho2
              have FA1 := Aside0.mk (Kd.R_reads' ho).2.2
              have FA2 := Aside0.mk (Kd.R_reads' ho).2.1
              have FA3 := Aside0.mk (Kd.S_reads' ho2).2.2
              have FA4 := Aside0.mk (Kd.S_reads' ho2).2.1
              replace FX := Aside0.mk (blk_below FX.out hb)
              replace HBr := Aside0.mk (below_step HBr.out hb)
              clear ho ho2 hb
              refine ⟨_, rfl, ?_⟩
              refine hK.out _ _ (HSok _ HBr.out) (fun hHeld => ?_)
              clear hK K
              refine norm_ (a' := ?_) ?_ ?_
              rotate_left
              · show Act.put _ (some 23) _ = _
                simp only [Act.put, List.setIfInBounds_toArray, List.set_cons_zero, List.set_cons_succ, i64_w, i32_w]
                rfl
              exact norm_ (by first | (simp only [putAll, Act.put, List.setIfInBounds_toArray, List.set_cons_zero, List.set_cons_succ]; done) | (simp only [putAll, Act.put, List.setIfInBounds_toArray, List.set_cons_zero, List.set_cons_succ]; rfl)) (hJAX (Aa_3, ca_3, Ba_3, cb_3, gx_3) _ ⟨HBr.out, FA1.out, FA2.out, FA3.out, FA4.out, FX.out, FG.out⟩)
          rintro ⟨Aa_3, ca_3, Ba_3, cb_3, gx_3⟩ Wj_3 ⟨h0_, h1_, h2_, h3_, h4_, h5_, h6_⟩
          replace HBr := Aside0.mk h0_
          have FA1 := Aside0.mk h1_
          have FA2 := Aside0.mk h2_
          have FA3 := Aside0.mk h3_
          have FA4 := Aside0.mk h4_
          have FX := Aside0.mk h5_
          have FG := Aside0.mk h6_
          have hHeld := HSok _ HBr.out
          clear h0_ h1_ h2_ h3_ h4_ h5_ h6_
          refine norm_ (a' := ?_) ?_ ?_
          rotate_left
          · simp only [putAll, Act.put, List.setIfInBounds_toArray, List.set_cons_zero, List.set_cons_succ]
            rfl
          refine one_ (i := 3) (N := some 25) #[true, true, true, true, false, false, false, false, true, false, false] rfl rfl (by kernel_rfl) (by decide) (fun K hK => ?_)
          refine goes_ Try.func14 (by kernel_rfl) rfl #[.agg #[.int .i64 a, .int .i64 b, .int .i64 c]] (by rfl) rfl rfl (by (try simp only [List.map_toArray, List.map_cons, List.map_nil]); first | done | rfl) ?_
          with_reducible refine (laws_toDeed.calls a b c a b c _ rfl).mono ?_
          rintro e V3_9 ⟨rfl, hb⟩
          replace FA1 := Aside0.mk (Kd.C_below FA1.out hb)
          replace FA3 := Aside0.mk (Kd.C_below FA3.out hb)
          replace FX := Aside0.mk (blk_below FX.out hb)
          replace HBr := Aside0.mk (below_step HBr.out hb)
          clear hb
          refine ⟨_, rfl, ?_⟩
          refine hK.out _ _ (HSok _ HBr.out) (fun hHeld => ?_)
          clear hK K
          refine norm_ (a' := ?_) ?_ ?_
          rotate_left
          · show Act.put _ (some 25) _ = _
            simp only [Act.put, List.setIfInBounds_toArray, List.set_cons_zero, List.set_cons_succ, i64_w, i32_w]
            rfl
          exact norm_ (by first | (simp only [putAll, Act.put, List.setIfInBounds_toArray, List.set_cons_zero, List.set_cons_succ]; done) | (simp only [putAll, Act.put, List.setIfInBounds_toArray, List.set_cons_zero, List.set_cons_succ]; rfl)) (hJABX (Aa_3, ca_3, Ba_3, cb_3, gx_3) _ ⟨HBr.out, FA1.out, FA2.out, FA3.out, FA4.out, FX.out, FG.out⟩)
        rintro ⟨Aa_3, ca_3, Ba_3, cb_3, gx_3⟩ Wj_3 ⟨h0_, h1_, h2_, h3_, h4_, h5_, h6_⟩
        replace HBr := Aside0.mk h0_
        have FA1 := Aside0.mk h1_
        have FA2 := Aside0.mk h2_
        have FA3 := Aside0.mk h3_
        have FA4 := Aside0.mk h4_
        have FX := Aside0.mk h5_
        have FG := Aside0.mk h6_
        have hHeld := HSok _ HBr.out
        clear h0_ h1_ h2_ h3_ h4_ h5_ h6_
        refine norm_ (a' := ?_) ?_ ?_
        rotate_left
        · simp only [putAll, Act.put, List.setIfInBounds_toArray, List.set_cons_zero, List.set_cons_succ]
          rfl
        refine one_ (i := 4) (N := some 26) #[true, true, true, true, true, false, false, false, true, false, false] rfl rfl (by kernel_rfl) (by decide) (fun K hK => ?_)
        refine goes_ Try.func12 (by kernel_rfl) rfl #[.agg #[.slice Aa_3 d1.length ca_3, .slice Ba_3 f1.length cb_3], .agg #[.int .i64 a, .int .i64 b, .int .i64 c]] (by rfl) rfl rfl (by (try simp only [List.map_toArray, List.map_cons, List.map_nil]); first | done | rfl) ?_
        with_reducible refine (spec_DeskDo.calls k _ _ d1 _ _ f1 a b c w1 w2 b2 _ ?s1 ?s2 ?s3 ?s4 E3.out).mono ?_
        (case s1 => exact FA1.out)
        (case s2 => exact FA2.out)
        (case s3 => exact FA3.out)
        (case s4 => exact FA4.out)
        rintro e V3_10 ⟨v_, u_, rfl, ho, ho2, hb⟩
        obtain ⟨Am_3, cm_3, rfl⟩ := Kd.R_slice ho
        obtain ⟨Bm_3, cn_3, rfl⟩ := Kd.V_slice ho2
        have FM1 := Aside0.mk (Kd.R_mono (Kd.R_lower ho HBr.out.size) (fun _ _ => trivial))
        have FM2 := Aside0.mk (Kd.V_mono (Kd.V_lower ho2 HBr.out.size) (fun k_ hk => (⟨Nat.le_trans HBr.out.size hk.1, hk.2, Nat.ne_of_gt (Nat.lt_of_lt_of_le (blk_lt FX.out) hk.1)⟩ : wr_3.heap.size ≤ k_ ∧ some k_ ≠ (.slice Am_3 w1.length cm_3 : Value).ownBlock ∧ k_ ≠ gx_3)))
        replace FA1 := Aside0.mk (Kd.C_below FA1.out hb)
        replace FA3 := Aside0.mk (Kd.C_below FA3.out hb)
        replace FX := Aside0.mk (blk_below FX.out hb)
        replace HBr := Aside0.mk (below_step HBr.out hb)
        clear ho ho2 hb
        refine ⟨_, rfl, ?_⟩
        refine hK.out _ _ (HSok _ HBr.out) (fun hHeld => ?_)
        clear hK K
        refine norm_ (a' := ?_) ?_ ?_
        rotate_left
        · show Act.put _ (some 26) _ = _
          simp only [Act.put, List.setIfInBounds_toArray, List.set_cons_zero, List.set_cons_succ, i64_w, i32_w]
          rfl
        refine pure_ (i := 5) (N := some 21) (v := ?_) (a' := ?_) #[true, true, true, true, true, true, false, false, true, false, false] rfl rfl (by kernel_rfl) (fun _ _ _ h => h) (Or.inl ⟨by rfl, ?_⟩) ?_ ?_
        rotate_left
        · intro w'
          go_simp
          with_reducible rfl
        rotate_left
        · simp only [Act.put, List.setIfInBounds_toArray, List.set_cons_zero, List.set_cons_succ, i64_w, i32_w]
          rfl
        refine pure_ (i := 6) (N := some 27) (v := ?_) (a' := ?_) #[true, true, true, true, true, true, true, false, true, false, false] rfl rfl (by kernel_rfl) (fun _ _ _ h => h) (Or.inl ⟨by rfl, ?_⟩) ?_ ?_
        rotate_left
        · intro w'
          go_simp
          with_reducible rfl
        rotate_left
        · simp only [Act.put, List.setIfInBounds_toArray, List.set_cons_zero, List.set_cons_succ, i64_w, i32_w]
          rfl
        refine pure_ (i := 7) (N := some 28) (v := ?_) (a' := ?_) #[true, true, true, true, true, true, true, true, true, false, false] rfl rfl (by kernel_rfl) (fun _ _ _ h => h) (Or.inl ⟨by rfl, ?_⟩) ?_ ?_
        rotate_left
        · intro w'
          go_simp
          with_reducible rfl
        rotate_left
        · simp only [Act.put, List.setIfInBounds_toArray, List.set_cons_zero, List.set_cons_succ, i64_w, i32_w]
          rfl
        exact norm_ (by first | (simp only [putAll, Act.put, List.setIfInBounds_toArray, List.set_cons_zero, List.set_cons_succ]; done) | (simp only [putAll, Act.put, List.setIfInBounds_toArray, List.set_cons_zero, List.set_cons_succ]; rfl)) (hJABMX (Aa_3, ca_3, Ba_3, cb_3, gx_3, Am_3, cm_3, Bm_3, cn_3) _ ⟨HBr.out, FA1.out, FA2.out, FA3.out, FA4.out, FX.out, FG.out, FM1.out, FM2.out⟩)
      rintro ⟨Aa_3, ca_3, Ba_3, cb_3, gx_3, Am_3, cm_3, Bm_3, cn_3⟩ Wj_3 ⟨h0_, h1_, h2_, h3_, h4_, h5_, h6_, h7_, h8_⟩
      replace HBr := Aside0.mk h0_
      have FA1 := Aside0.mk h1_
      have FA2 := Aside0.mk h2_
      have FA3 := Aside0.mk h3_
      have FA4 := Aside0.mk h4_
      have FX := Aside0.mk h5_
      have FG := Aside0.mk h6_
      have FM1 := Aside0.mk h7_
      have FM2 := Aside0.mk h8_
      have hHeld := HSok _ HBr.out
      clear h0_ h1_ h2_ h3_ h4_ h5_ h6_ h7_ h8_
      refine norm_ (a' := ?_) ?_ ?_
      rotate_left
      · simp only [putAll, Act.put, List.setIfInBounds_toArray, List.set_cons_zero, List.set_cons_succ]
        rfl
      refine one_ (i := 9) (N := none) #[true, true, true, true, true, true, true, true, true, true, false] rfl rfl (by kernel_rfl) (by decide) (fun K hK => ?_)
      have hx0_ : Wj_3.cell? ⟨gx_3, 0, none⟩ = some (.slice none 0 0) := (blk_cell FX.out 0).trans rfl
      have hf0_ := blk_frozen FX.out 0
      have hx1_ : Wj_3.cell? ⟨gx_3, 1, none⟩ = some (.slice none 0 0) := (blk_cell FX.out 1).trans rfl
      have hf1_ := blk_frozen FX.out 1
      refine skip_ (w1 := ?_) (by rfl) rfl ?_ ?_
      rotate_left
      · go_simp
        rfl
      have HBf := Aside0.mk (below_set (j := 1) (v := .slice Bm_3 w2.length cn_3) (below_set (j := 0) (v := .slice Am_3 w1.length cm_3) HBr.out FG.out) FG.out)
      refine hK.out _ _ (HSok _ HBf.out) (fun hHeld => ?_)
      clear hK K hx0_ hx1_ hf0_ hf1_
      refine pure_ (i := 10) (N := some 7) (v := ?_) (a' := ?_) #[true, true, true, true, true, true, true, true, true, true, true] rfl rfl (by kernel_rfl) (fun _ _ _ h => h) (Or.inl ⟨by rfl, ?_⟩) ?_ ?_
      rotate_left
      · intro w'
        go_simp
        with_reducible rfl
      rotate_left
      · simp only [Act.put, List.setIfInBounds_toArray, List.set_cons_zero, List.set_cons_succ, i64_w, i32_w]
        rfl
      refine done_ (by kernel_rfl) ?_
      replace HXp := Aside0.mk (blk_below HXp.out HBf.out)
      replace HXq := Aside0.mk (blk_below HXq.out HBf.out)
      replace HB := Aside0.mk (below_step HB.out HBf.out)
      have HX3 := Aside0.mk (blk_put (cs := #[.slice Am_3 w1.length cm_3, .slice none 0 0]) (blk_put (cs := #[.slice none 0 0, .slice none 0 0]) FX.out 0 (.slice Am_3 w1.length cm_3) rfl) 1 (.slice Bm_3 w2.length cn_3) rfl)
      have HO3 := Aside0.mk (Kd.R_lower (Kd.R_mono (Kd.R_bound (Kd.R_far (p := ⟨gx_3, 1, none⟩) (Kd.R_far (p := ⟨gx_3, 0, none⟩) (Kd.R_types FM1.out FX.out (by decide)) (fun _ hk => hk.2) (.slice Am_3 w1.length cm_3)) (fun _ hk => hk.2) (.slice Bm_3 w2.length cn_3))) (fun k hk => (⟨⟨hk.2.1, hk.2.2.1⟩, hk.1.2⟩ : (wr_3.heap.size ≤ k ∧ k < ((Wj_3.setCell ⟨gx_3, 0, none⟩ (.slice Am_3 w1.length cm_3)).setCell ⟨gx_3, 1, none⟩ (.slice Bm_3 w2.length cn_3)).heap.size) ∧ k ≠ gx_3))) (show w.heap.size ≤ wr_3.heap.size from HBw.out.size))
      have HP3 := Aside0.mk (Kd.V_lower (Kd.V_mono (Kd.V_bound (Kd.V_far (p := ⟨gx_3, 1, none⟩) (Kd.V_far (p := ⟨gx_3, 0, none⟩) FM2.out (fun _ hk => hk.2.2) (.slice Am_3 w1.length cm_3)) (fun _ hk => hk.2.2) (.slice Bm_3 w2.length cn_3))) (fun k hk => (⟨⟨⟨hk.1.1, hk.2⟩, hk.1.2.2⟩, hk.1.2.1⟩ : ((wr_3.heap.size ≤ k ∧ k < ((Wj_3.setCell ⟨gx_3, 0, none⟩ (.slice Am_3 w1.length cm_3)).setCell ⟨gx_3, 1, none⟩ (.slice Bm_3 w2.length cn_3)).heap.size) ∧ k ≠ gx_3) ∧ some k ≠ (.slice Am_3 w1.length cm_3 : Value).ownBlock))) (show w.heap.size ≤ wr_3.heap.size from HBw.out.size))
      have HQ3 := Aside0.mk (show (_ ≤ wr_3.heap.size ∧ wr_3.heap.size ≤ ((Wj_3.setCell ⟨gx_3, 0, none⟩ (.slice Am_3 w1.length cm_3)).setCell ⟨gx_3, 1, none⟩ (.slice Bm_3 w2.length cn_3)).heap.size) ∧ (wr_3.heap.size ≤ gx_3 ∧ gx_3 < ((Wj_3.setCell ⟨gx_3, 0, none⟩ (.slice Am_3 w1.length cm_3)).setCell ⟨gx_3, 1, none⟩ (.slice Bm_3 w2.length cn_3)).heap.size) from ⟨⟨HZ.out, HBf.out.size⟩, ⟨FG.out, blk_lt HX3.out⟩⟩)
      replace HZ := Aside0.mk (Nat.le_refl ((Wj_3.setCell ⟨gx_3, 0, none⟩ (.slice Am_3 w1.length cm_3)).setCell ⟨gx_3, 1, none⟩ (.slice Bm_3 w2.length cn_3)).heap.size)
      clear HBf HBr HBw FX FM1 FM2 HSok hHeld FA1 FA2 FA3 FA4
      generalize ((Wj_3.setCell ⟨gx_3, 0, none⟩ (.slice Am_3 w1.length cm_3)).setCell ⟨gx_3, 1, none⟩ (.slice Bm_3 w2.length cn_3)) = W3f at HXp HXq HX3 HO3 HP3 HQ3 HB HZ ⊢
      have HXpa := cell2_0 HXp.out
      have HXpb := cell2_1 HXp.out
      have HXqa := cell3_0 HXq.out
      have HXqb := cell3_1 HXq.out
      have HXqc := cell3_2 HXq.out
      have HX3a := cell2_0 HX3.out
      have HX3b := cell2_1 HX3.out
      go_upto_region 7 with (first
        | (go_at_call 13; (with_reducible refine (laws_toDesk.calls k _ _ l0 _ _ l1 d2 f2 _ (Kd.C_below HR0.out HB.out) HC0.out (Kd.C_below HR1.out HB.out) HC1.out E4.out).mono ?_); clear E4; rintro e W4 ⟨v4, u4, rfl, ho, ho2, hb⟩; obtain ⟨lo4, hq4, hn4, hm4⟩ := obj_D2 HB.out HZ.out ho ho2 hb; obtain ⟨A4, c4, rfl⟩ := Kd.R_slice hn4; obtain ⟨B4, cc4, rfl⟩ := Kd.S_slice hm4; clear ho ho2; replace hb := below_alloc hb (.cells #[.slice A4 d2.length c4, .slice B4 f2.length cc4] 29); have n_ := Aside0.mk (Kd.R_below HO3.out hb); clear HO3; have HO3 := n_; clear n_; have n_ := Aside0.mk (Kd.V_below HP3.out hb); clear HP3; have HP3 := n_; clear n_; have n_ := Aside0.mk (blk_below HXp.out hb); clear HXp HXpa HXpb; have HXp := n_; clear n_; have HXpa := cell2_0 HXp.out; have HXpb := cell2_1 HXp.out; have n_ := Aside0.mk (blk_below HXq.out hb); clear HXq HXqa HXqb HXqc; have HXq := n_; clear n_; have HXqa := cell3_0 HXq.out; have HXqb := cell3_1 HXq.out; have HXqc := cell3_2 HXq.out; have n_ := Aside0.mk (blk_below HX3.out hb); clear HX3 HX3a HX3b; have HX3 := n_; clear n_; have HX3a := cell2_0 HX3.out; have HX3b := cell2_1 HX3.out; have n_ := Aside0.mk (below_step HB.out hb); clear HB; have HB := n_; clear n_; have HQ4 := Aside0.mk hq4; clear HZ; have HZ := Aside0.mk (alloc_size1 W4 (.cells #[.slice A4 d2.length c4, .slice B4 f2.length cc4] 29)); have HO4 := Aside0.mk (Kd.R_alloc hn4 (.cells #[.slice A4 d2.length c4, .slice B4 f2.length cc4] 29)); have HP4 := Aside0.mk (Kd.S_alloc hm4 (.cells #[.slice A4 d2.length c4, .slice B4 f2.length cc4] 29)); have HX4 := Aside0.mk (blk_new W4 (.cells #[.slice A4 d2.length c4, .slice B4 f2.length cc4] 29)); clear hb hq4 hn4 hm4))
      try go_wp2
      have n_ := Aside0.mk (Kd.R_drew HO3.out); clear HO3; have HO3 := n_; clear n_
      have n_ := Aside0.mk (Kd.V_drew HP3.out); clear HP3; have HP3 := n_; clear n_
      have n_ := Aside0.mk (Kd.R_drew HO4.out); clear HO4; have HO4 := n_; clear n_
      have n_ := Aside0.mk (Kd.S_drew HP4.out); clear HP4; have HP4 := n_; clear n_
      have n_ := Aside0.mk (blk_drew HXp.out); clear HXp HXpa HXpb; have HXp := n_; clear n_
      have n_ := Aside0.mk (blk_drew HXq.out); clear HXq HXqa HXqb HXqc; have HXq := n_; clear n_
      have n_ := Aside0.mk (blk_drew HX3.out); clear HX3 HX3a HX3b; have HX3 := n_; clear n_
      have n_ := Aside0.mk (blk_drew HX4.out); clear HX4; have HX4 := n_; clear n_
      have n_ := Aside0.mk (below_drew1 HB.out); clear HB; have HB := n_; clear n_
      have n_ := Aside0.mk (show _ ≤ (World.drew (W4.alloc (.cells #[.slice A4 d2.length c4, .slice B4 f2.length cc4] 29))).heap.size from HZ.out); clear HZ; have HZ := n_; clear n_
      refine start_ (n := 10) (S := fun w' => w'.cell? ⟨W4.heap.size, 0, none⟩ = some (.slice A4 d2.length c4) ∧ w'.cell? ⟨W4.heap.size, 1, none⟩ = some (.slice B4 f2.length cc4) ∧ w'.cell? ⟨gb2, 0, none⟩ = some (.int .i64 a) ∧ w'.cell? ⟨gb2, 1, none⟩ = some (.int .i64 b) ∧ w'.cell? ⟨gb2, 2, none⟩ = some (.int .i64 c)) (ds := []) #[false, false, false, false, false, false, false, false, false, false] (by kernel_rfl) rfl rfl ⟨(blk_cell HX4.out 0).trans rfl, (blk_cell HX4.out 1).trans rfl, (blk_cell HXq.out 0).trans rfl, (blk_cell HXq.out 1).trans rfl, (blk_cell HXq.out 2).trans rfl⟩ (fun hHeld => ?_)
      generalize World.drew (W4.alloc (.cells #[.slice A4 d2.length c4, .slice B4 f2.length cc4] 29)) = wr_5 at HO3 HP3 HO4 HP4 HXp HXq HX3 HX4 HB HZ hHeld ⊢
      refine take_ (i := 0) (N := some 32) (v := ?_) (a' := ?_) #[true, false, false, false, false, false, false, false, false, false] rfl rfl (by kernel_rfl) (fun _ _ _ h => h) (Or.inl ⟨by rfl, ?_⟩) hHeld ?_ ?_
      rotate_left
      · rintro w' ⟨s0, s1, s2, s3, s4⟩
        go_simp
        with_reducible rfl
      rotate_left
      · simp only [Act.put, List.setIfInBounds_toArray, List.set_cons_zero, List.set_cons_succ, i64_w, i32_w]
        rfl
      refine take_ (i := 1) (N := some 33) (v := ?_) (a' := ?_) #[true, true, false, false, false, false, false, false, false, false] rfl rfl (by kernel_rfl) (fun _ _ _ h => h) (Or.inl ⟨by rfl, ?_⟩) hHeld ?_ ?_
      rotate_left
      · rintro w' ⟨s0, s1, s2, s3, s4⟩
        go_simp
        with_reducible rfl
      rotate_left
      · simp only [Act.put, List.setIfInBounds_toArray, List.set_cons_zero, List.set_cons_succ, i64_w, i32_w]
        rfl
      have HSok : ∀ w' : World, Below wr_5.heap.size wr_5 w' → (w'.cell? ⟨W4.heap.size, 0, none⟩ = some (.slice A4 d2.length c4) ∧ w'.cell? ⟨W4.heap.size, 1, none⟩ = some (.slice B4 f2.length cc4) ∧ w'.cell? ⟨gb2, 0, none⟩ = some (.int .i64 a) ∧ w'.cell? ⟨gb2, 1, none⟩ = some (.int .i64 b) ∧ w'.cell? ⟨gb2, 2, none⟩ = some (.int .i64 c)) := fun w' hb_ => ⟨(blk_cell (blk_below HX4.out hb_) 0).trans rfl, (blk_cell (blk_below HX4.out hb_) 1).trans rfl, (blk_cell (blk_below HXq.out hb_) 0).trans rfl, (blk_cell (blk_below HXq.out hb_) 1).trans rfl, (blk_cell (blk_below HXq.out hb_) 2).trans rfl⟩
      have HBw := Aside0.mk HB.out
      have HBr := Aside0.mk (Below.refl wr_5.heap.size wr_5)
      refine join_ (σ := Nat × Option Addr × Nat × Option Addr × Nat) 2 #[true, true, true, true, true, true, true, true, false, false] (fun s_ => [(34, .agg #[.int .i64 a, .int .i64 b, .int .i64 c]), (9, .pointer (some ⟨s_.1, 0, none⟩)), (35, .tuple #[.agg #[.slice s_.2.1 g1.length s_.2.2.1, .slice s_.2.2.2.1 g2.length s_.2.2.2.2], .bool b2]), (31, .tuple #[.agg #[.slice s_.2.1 g1.length s_.2.2.1, .slice s_.2.2.2.1 g2.length s_.2.2.2.2], .bool b2]), (36, .agg #[.slice s_.2.1 g1.length s_.2.2.1, .slice s_.2.2.2.1 g2.length s_.2.2.2.2]), (37, .bool b2)]) (fun s_ w' => (Below wr_5.heap.size wr_5 w') ∧ (w'.heap[s_.1]? = some (.cells #[.slice none 0 0, .slice none 0 0] 29 (0, 0))) ∧ (wr_5.heap.size ≤ s_.1) ∧ (Kd.R (Kd.int .i64) 3 w' wr_5.heap.size (fun _ => True) (.slice s_.2.1 g1.length s_.2.2.1) g1) ∧ (Kd.S (Kd.slice 3 (Kd.int .i64)) 22 w' wr_5.heap.size (fun k_ => some k_ ≠ (.slice s_.2.1 g1.length s_.2.2.1 : Value).ownBlock) (.slice s_.2.2.2.1 g2.length s_.2.2.2.2) g2)) ?_ ?_
      rotate_left
      · intro hJBMX
        refine join_ (σ := Nat) 6 #[true, true, true, false, false, false, false, true, false, false] (fun s_ => [(34, .agg #[.int .i64 a, .int .i64 b, .int .i64 c]), (9, .pointer (some ⟨s_, 0, none⟩))]) (fun s_ w' => (Below wr_5.heap.size wr_5 w') ∧ (w'.heap[s_]? = some (.cells #[.slice none 0 0, .slice none 0 0] 29 (0, 0))) ∧ (wr_5.heap.size ≤ s_)) ?_ ?_
        rotate_left
        · intro hJBX
          refine two_ (i := 2) (j := 7) (Ni := some 34) (Nj := some 9) #[true, true, true, false, false, false, false, false, false, false] #[true, true, false, false, false, false, false, true, false, false] rfl rfl rfl rfl (by kernel_rfl) (by decide) (by decide) (fun K hK => ?_) (fun K hK => ?_)
          · skip
            refine goes_ Try.func14 (by kernel_rfl) rfl #[.agg #[.int .i64 a, .int .i64 b, .int .i64 c]] (by rfl) rfl rfl (by (try simp only [List.map_toArray, List.map_cons, List.map_nil]); first | done | rfl) ?_
            with_reducible refine (laws_toDeed.calls a b c a b c _ rfl).mono ?_
            rintro e V5_1 ⟨rfl, hb⟩
            replace HBr := Aside0.mk (below_step HBr.out hb)
            clear hb
            refine ⟨_, rfl, ?_⟩
            refine hK.out _ _ (HSok _ HBr.out) (fun hHeld => ?_)
            clear hK K
            refine norm_ (a' := ?_) ?_ ?_
            rotate_left
            · show Act.put _ (some 34) _ = _
              simp only [Act.put, List.setIfInBounds_toArray, List.set_cons_zero, List.set_cons_succ, i64_w, i32_w]
              rfl
            refine two_ (i := 3) (j := 7) (Ni := some 35) (Nj := some 9) #[true, true, true, true, false, false, false, false, false, false] #[true, true, true, false, false, false, false, true, false, false] rfl rfl rfl rfl (by kernel_rfl) (by decide) (by decide) (fun K hK => ?_) (fun K hK => ?_)
            · skip
              refine goes_ Try.func15 (by kernel_rfl) rfl #[.agg #[.slice A4 d2.length c4, .slice B4 f2.length cc4], .agg #[.int .i64 a, .int .i64 b, .int .i64 c]] (by rfl) rfl rfl (by (try simp only [List.map_toArray, List.map_cons, List.map_nil]); first | done | rfl) ?_
              with_reducible refine (impl_DeskDo.calls k _ _ d2 _ _ f2 a b c g1 g2 b2 _ ?s1 ?s2 ?s3 ?s4 E5.out).mono ?_
              (case s1 => exact Kd.C_below (Kd.R_reads' HO4.out).2.2 HBr.out)
              (case s2 => exact (Kd.R_reads' HO4.out).2.1)
              (case s3 => exact Kd.C_below (Kd.S_reads' HP4.out).2.2 HBr.out)
              (case s4 => exact (Kd.S_reads' HP4.out).2.1)
              rintro e V5_2 ⟨v_, u_, rfl, ho, ho2, hb⟩
              obtain ⟨Am_5, cm_5, rfl⟩ := Kd.R_slice ho
              obtain ⟨Bm_5, cn_5, rfl⟩ := Kd.S_slice ho2
              have FM1 := Aside0.mk (Kd.R_mono (Kd.R_lower ho HBr.out.size) (fun _ _ => trivial))
              have FM2 := Aside0.mk (Kd.S_lower ho2 HBr.out.size)
              replace HBr := Aside0.mk (below_step HBr.out hb)
              clear ho ho2 hb
              refine ⟨_, rfl, ?_⟩
              refine hK.out _ _ (HSok _ HBr.out) (fun hHeld => ?_)
              clear hK K
              refine norm_ (a' := ?_) ?_ ?_
              rotate_left
              · show Act.put _ (some 35) _ = _
                simp only [Act.put, List.setIfInBounds_toArray, List.set_cons_zero, List.set_cons_succ, i64_w, i32_w]
                rfl
              refine pure_ (i := 4) (N := some 31) (v := ?_) (a' := ?_) #[true, true, true, true, true, false, false, false, false, false] rfl rfl (by kernel_rfl) (fun _ _ _ h => h) (Or.inl ⟨by rfl, ?_⟩) ?_ ?_
              rotate_left
              · intro w'
                go_simp
                with_reducible rfl
              rotate_left
              · simp only [Act.put, List.setIfInBounds_toArray, List.set_cons_zero, List.set_cons_succ, i64_w, i32_w]
                rfl
              refine pure_ (i := 5) (N := some 36) (v := ?_) (a' := ?_) #[true, true, true, true, true, true, false, false, false, false] rfl rfl (by kernel_rfl) (fun _ _ _ h => h) (Or.inl ⟨by rfl, ?_⟩) ?_ ?_
              rotate_left
              · intro w'
                go_simp
                with_reducible rfl
              rotate_left
              · simp only [Act.put, List.setIfInBounds_toArray, List.set_cons_zero, List.set_cons_succ, i64_w, i32_w]
                rfl
              refine pure_ (i := 6) (N := some 37) (v := ?_) (a' := ?_) #[true, true, true, true, true, true, true, false, false, false] rfl rfl (by kernel_rfl) (fun _ _ _ h => h) (Or.inl ⟨by rfl, ?_⟩) ?_ ?_
              rotate_left
              · intro w'
                go_simp
                with_reducible rfl
              rotate_left
              · simp only [Act.put, List.setIfInBounds_toArray, List.set_cons_zero, List.set_cons_succ, i64_w, i32_w]
                rfl
              refine one_ (i := 7) (N := some 9) #[true, true, true, true, true, true, true, true, false, false] rfl rfl (by kernel_rfl) (by decide) (fun K hK => ?_)
              refine box_step ?hg (N := 9) ?hd (cs := #[.slice none 0 0, .slice none 0 0]) (t := 29) ?hr ?_; (case hd => rfl); (case hg => rfl); (case hr => first | (go_simp; done) | (go_simp; rfl))
              intro gx_5 hg V5_3 hbox hb
              have FG := Aside0.mk (show wr_5.heap.size ≤ gx_5 by rw [hg]; exact HBr.out.size)
              have FX := Aside0.mk hbox
              replace FM1 := Aside0.mk (Kd.R_below FM1.out hb)
              replace FM2 := Aside0.mk (Kd.S_below FM2.out hb)
              replace HBr := Aside0.mk (below_step HBr.out hb)
              clear hbox hb hg
              refine hK.out _ _ (HSok _ HBr.out) (fun hHeld => ?_)
              clear hK K
              refine norm_ (a' := ?_) ?_ ?_
              rotate_left
              · show Act.put _ (some 9) _ = _
                simp only [Act.put, List.setIfInBounds_toArray, List.set_cons_zero, List.set_cons_succ, i64_w, i32_w]
                rfl
              exact norm_ (by first | (simp only [putAll, Act.put, List.setIfInBounds_toArray, List.set_cons_zero, List.set_cons_succ]; done) | (simp only [putAll, Act.put, List.setIfInBounds_toArray, List.set_cons_zero, List.set_cons_succ]; rfl)) (hJBMX (gx_5, Am_5, cm_5, Bm_5, cn_5) _ ⟨HBr.out, FX.out, FG.out, FM1.out, FM2.out⟩)
            · skip
              refine box_step ?hg (N := 9) ?hd (cs := #[.slice none 0 0, .slice none 0 0]) (t := 29) ?hr ?_; (case hd => rfl); (case hg => rfl); (case hr => first | (go_simp; done) | (go_simp; rfl))
              intro gx_5 hg V5_4 hbox hb
              have FG := Aside0.mk (show wr_5.heap.size ≤ gx_5 by rw [hg]; exact HBr.out.size)
              have FX := Aside0.mk hbox
              replace HBr := Aside0.mk (below_step HBr.out hb)
              clear hbox hb hg
              refine hK.out _ _ (HSok _ HBr.out) (fun hHeld => ?_)
              clear hK K
              refine norm_ (a' := ?_) ?_ ?_
              rotate_left
              · show Act.put _ (some 9) _ = _
                simp only [Act.put, List.setIfInBounds_toArray, List.set_cons_zero, List.set_cons_succ, i64_w, i32_w]
                rfl
              exact norm_ (by first | (simp only [putAll, Act.put, List.setIfInBounds_toArray, List.set_cons_zero, List.set_cons_succ]; done) | (simp only [putAll, Act.put, List.setIfInBounds_toArray, List.set_cons_zero, List.set_cons_succ]; rfl)) (hJBX gx_5 _ ⟨HBr.out, FX.out, FG.out⟩)
          · skip
            refine box_step ?hg (N := 9) ?hd (cs := #[.slice none 0 0, .slice none 0 0]) (t := 29) ?hr ?_; (case hd => rfl); (case hg => rfl); (case hr => first | (go_simp; done) | (go_simp; rfl))
            intro gx_5 hg V5_5 hbox hb
            have FG := Aside0.mk (show wr_5.heap.size ≤ gx_5 by rw [hg]; exact HBr.out.size)
            have FX := Aside0.mk hbox
            replace HBr := Aside0.mk (below_step HBr.out hb)
            clear hbox hb hg
            refine hK.out _ _ (HSok _ HBr.out) (fun hHeld => ?_)
            clear hK K
            refine norm_ (a' := ?_) ?_ ?_
            rotate_left
            · show Act.put _ (some 9) _ = _
              simp only [Act.put, List.setIfInBounds_toArray, List.set_cons_zero, List.set_cons_succ, i64_w, i32_w]
              rfl
            refine one_ (i := 2) (N := some 34) #[true, true, true, false, false, false, false, true, false, false] rfl rfl (by kernel_rfl) (by decide) (fun K hK => ?_)
            refine goes_ Try.func14 (by kernel_rfl) rfl #[.agg #[.int .i64 a, .int .i64 b, .int .i64 c]] (by rfl) rfl rfl (by (try simp only [List.map_toArray, List.map_cons, List.map_nil]); first | done | rfl) ?_
            with_reducible refine (laws_toDeed.calls a b c a b c _ rfl).mono ?_
            rintro e V5_6 ⟨rfl, hb⟩
            replace FX := Aside0.mk (blk_below FX.out hb)
            replace HBr := Aside0.mk (below_step HBr.out hb)
            clear hb
            refine ⟨_, rfl, ?_⟩
            refine hK.out _ _ (HSok _ HBr.out) (fun hHeld => ?_)
            clear hK K
            refine norm_ (a' := ?_) ?_ ?_
            rotate_left
            · show Act.put _ (some 34) _ = _
              simp only [Act.put, List.setIfInBounds_toArray, List.set_cons_zero, List.set_cons_succ, i64_w, i32_w]
              rfl
            exact norm_ (by first | (simp only [putAll, Act.put, List.setIfInBounds_toArray, List.set_cons_zero, List.set_cons_succ]; done) | (simp only [putAll, Act.put, List.setIfInBounds_toArray, List.set_cons_zero, List.set_cons_succ]; rfl)) (hJBX gx_5 _ ⟨HBr.out, FX.out, FG.out⟩)
        rintro gx_5 Wj_5 ⟨h0_, h1_, h2_⟩
        replace HBr := Aside0.mk h0_
        have FX := Aside0.mk h1_
        have FG := Aside0.mk h2_
        have hHeld := HSok _ HBr.out
        clear h0_ h1_ h2_
        refine norm_ (a' := ?_) ?_ ?_
        rotate_left
        · simp only [putAll, Act.put, List.setIfInBounds_toArray, List.set_cons_zero, List.set_cons_succ]
          rfl
        refine one_ (i := 3) (N := some 35) #[true, true, true, true, false, false, false, true, false, false] rfl rfl (by kernel_rfl) (by decide) (fun K hK => ?_)
        refine goes_ Try.func15 (by kernel_rfl) rfl #[.agg #[.slice A4 d2.length c4, .slice B4 f2.length cc4], .agg #[.int .i64 a, .int .i64 b, .int .i64 c]] (by rfl) rfl rfl (by (try simp only [List.map_toArray, List.map_cons, List.map_nil]); first | done | rfl) ?_
        with_reducible refine (impl_DeskDo.calls k _ _ d2 _ _ f2 a b c g1 g2 b2 _ ?s1 ?s2 ?s3 ?s4 E5.out).mono ?_
        (case s1 => exact Kd.C_below (Kd.R_reads' HO4.out).2.2 HBr.out)
        (case s2 => exact (Kd.R_reads' HO4.out).2.1)
        (case s3 => exact Kd.C_below (Kd.S_reads' HP4.out).2.2 HBr.out)
        (case s4 => exact (Kd.S_reads' HP4.out).2.1)
        rintro e V5_7 ⟨v_, u_, rfl, ho, ho2, hb⟩
        obtain ⟨Am_5, cm_5, rfl⟩ := Kd.R_slice ho
        obtain ⟨Bm_5, cn_5, rfl⟩ := Kd.S_slice ho2
        have FM1 := Aside0.mk (Kd.R_mono (Kd.R_lower ho HBr.out.size) (fun _ _ => trivial))
        have FM2 := Aside0.mk (Kd.S_lower ho2 HBr.out.size)
        replace FX := Aside0.mk (blk_below FX.out hb)
        replace HBr := Aside0.mk (below_step HBr.out hb)
        clear ho ho2 hb
        refine ⟨_, rfl, ?_⟩
        refine hK.out _ _ (HSok _ HBr.out) (fun hHeld => ?_)
        clear hK K
        refine norm_ (a' := ?_) ?_ ?_
        rotate_left
        · show Act.put _ (some 35) _ = _
          simp only [Act.put, List.setIfInBounds_toArray, List.set_cons_zero, List.set_cons_succ, i64_w, i32_w]
          rfl
        refine pure_ (i := 4) (N := some 31) (v := ?_) (a' := ?_) #[true, true, true, true, true, false, false, true, false, false] rfl rfl (by kernel_rfl) (fun _ _ _ h => h) (Or.inl ⟨by rfl, ?_⟩) ?_ ?_
        rotate_left
        · intro w'
          go_simp
          with_reducible rfl
        rotate_left
        · simp only [Act.put, List.setIfInBounds_toArray, List.set_cons_zero, List.set_cons_succ, i64_w, i32_w]
          rfl
        refine pure_ (i := 5) (N := some 36) (v := ?_) (a' := ?_) #[true, true, true, true, true, true, false, true, false, false] rfl rfl (by kernel_rfl) (fun _ _ _ h => h) (Or.inl ⟨by rfl, ?_⟩) ?_ ?_
        rotate_left
        · intro w'
          go_simp
          with_reducible rfl
        rotate_left
        · simp only [Act.put, List.setIfInBounds_toArray, List.set_cons_zero, List.set_cons_succ, i64_w, i32_w]
          rfl
        refine pure_ (i := 6) (N := some 37) (v := ?_) (a' := ?_) #[true, true, true, true, true, true, true, true, false, false] rfl rfl (by kernel_rfl) (fun _ _ _ h => h) (Or.inl ⟨by rfl, ?_⟩) ?_ ?_
        rotate_left
        · intro w'
          go_simp
          with_reducible rfl
        rotate_left
        · simp only [Act.put, List.setIfInBounds_toArray, List.set_cons_zero, List.set_cons_succ, i64_w, i32_w]
          rfl
        exact norm_ (by first | (simp only [putAll, Act.put, List.setIfInBounds_toArray, List.set_cons_zero, List.set_cons_succ]; done) | (simp only [putAll, Act.put, List.setIfInBounds_toArray, List.set_cons_zero, List.set_cons_succ]; rfl)) (hJBMX (gx_5, Am_5, cm_5, Bm_5, cn_5) _ ⟨HBr.out, FX.out, FG.out, FM1.out, FM2.out⟩)
      rintro ⟨gx_5, Am_5, cm_5, Bm_5, cn_5⟩ Wj_5 ⟨h0_, h1_, h2_, h3_, h4_⟩
      replace HBr := Aside0.mk h0_
      have FX := Aside0.mk h1_
      have FG := Aside0.mk h2_
      have FM1 := Aside0.mk h3_
      have FM2 := Aside0.mk h4_
      have hHeld := HSok _ HBr.out
      clear h0_ h1_ h2_ h3_ h4_
      refine norm_ (a' := ?_) ?_ ?_
      rotate_left
      · simp only [putAll, Act.put, List.setIfInBounds_toArray, List.set_cons_zero, List.set_cons_succ]
        rfl
      refine one_ (i := 8) (N := none) #[true, true, true, true, true, true, true, true, true, false] rfl rfl (by kernel_rfl) (by decide) (fun K hK => ?_)
      have hx0_ : Wj_5.cell? ⟨gx_5, 0, none⟩ = some (.slice none 0 0) := (blk_cell FX.out 0).trans rfl
      have hf0_ := blk_frozen FX.out 0
      have hx1_ : Wj_5.cell? ⟨gx_5, 1, none⟩ = some (.slice none 0 0) := (blk_cell FX.out 1).trans rfl
      have hf1_ := blk_frozen FX.out 1
      refine skip_ (w1 := ?_) (by rfl) rfl ?_ ?_
      rotate_left
      · go_simp
        rfl
      have HBf := Aside0.mk (below_set (j := 1) (v := .slice Bm_5 g2.length cn_5) (below_set (j := 0) (v := .slice Am_5 g1.length cm_5) HBr.out FG.out) FG.out)
      refine hK.out _ _ (HSok _ HBf.out) (fun hHeld => ?_)
      clear hK K hx0_ hx1_ hf0_ hf1_
      refine pure_ (i := 9) (N := some 10) (v := ?_) (a' := ?_) #[true, true, true, true, true, true, true, true, true, true] rfl rfl (by kernel_rfl) (fun _ _ _ h => h) (Or.inl ⟨by rfl, ?_⟩) ?_ ?_
      rotate_left
      · intro w'
        go_simp
        with_reducible rfl
      rotate_left
      · simp only [Act.put, List.setIfInBounds_toArray, List.set_cons_zero, List.set_cons_succ, i64_w, i32_w]
        rfl
      refine done_ (by kernel_rfl) ?_
      replace HO3 := Aside0.mk (Kd.R_below HO3.out HBf.out)
      replace HP3 := Aside0.mk (Kd.V_below HP3.out HBf.out)
      replace HO4 := Aside0.mk (Kd.R_below HO4.out HBf.out)
      replace HP4 := Aside0.mk (Kd.S_below HP4.out HBf.out)
      replace HXp := Aside0.mk (blk_below HXp.out HBf.out)
      replace HXq := Aside0.mk (blk_below HXq.out HBf.out)
      replace HX3 := Aside0.mk (blk_below HX3.out HBf.out)
      replace HX4 := Aside0.mk (blk_below HX4.out HBf.out)
      replace HB := Aside0.mk (below_step HB.out HBf.out)
      have HX5 := Aside0.mk (blk_put (cs := #[.slice Am_5 g1.length cm_5, .slice none 0 0]) (blk_put (cs := #[.slice none 0 0, .slice none 0 0]) FX.out 0 (.slice Am_5 g1.length cm_5) rfl) 1 (.slice Bm_5 g2.length cn_5) rfl)
      have HO5 := Aside0.mk (Kd.R_lower (Kd.R_mono (Kd.R_bound (Kd.R_far (p := ⟨gx_5, 1, none⟩) (Kd.R_far (p := ⟨gx_5, 0, none⟩) (Kd.R_types FM1.out FX.out (by decide)) (fun _ hk => hk.2) (.slice Am_5 g1.length cm_5)) (fun _ hk => hk.2) (.slice Bm_5 g2.length cn_5))) (fun k hk => (⟨⟨hk.2.1, hk.2.2.1⟩, hk.1.2⟩ : (wr_5.heap.size ≤ k ∧ k < ((Wj_5.setCell ⟨gx_5, 0, none⟩ (.slice Am_5 g1.length cm_5)).setCell ⟨gx_5, 1, none⟩ (.slice Bm_5 g2.length cn_5)).heap.size) ∧ k ≠ gx_5))) (show w.heap.size ≤ wr_5.heap.size from HBw.out.size))
      have HP5 := Aside0.mk (Kd.S_lower (Kd.S_mono (Kd.S_bound (Kd.S_far (p := ⟨gx_5, 1, none⟩) (Kd.S_far (p := ⟨gx_5, 0, none⟩) (Kd.S_types FM2.out FX.out (by decide)) (fun _ hk => hk.2) (.slice Am_5 g1.length cm_5)) (fun _ hk => hk.2) (.slice Bm_5 g2.length cn_5))) (fun k hk => (⟨⟨⟨hk.2.1, hk.2.2.1⟩, hk.1.2⟩, hk.1.1⟩ : ((wr_5.heap.size ≤ k ∧ k < ((Wj_5.setCell ⟨gx_5, 0, none⟩ (.slice Am_5 g1.length cm_5)).setCell ⟨gx_5, 1, none⟩ (.slice Bm_5 g2.length cn_5)).heap.size) ∧ k ≠ gx_5) ∧ some k ≠ (.slice Am_5 g1.length cm_5 : Value).ownBlock))) (show w.heap.size ≤ wr_5.heap.size from HBw.out.size))
      have HQ5 := Aside0.mk (show (_ ≤ wr_5.heap.size ∧ wr_5.heap.size ≤ ((Wj_5.setCell ⟨gx_5, 0, none⟩ (.slice Am_5 g1.length cm_5)).setCell ⟨gx_5, 1, none⟩ (.slice Bm_5 g2.length cn_5)).heap.size) ∧ (wr_5.heap.size ≤ gx_5 ∧ gx_5 < ((Wj_5.setCell ⟨gx_5, 0, none⟩ (.slice Am_5 g1.length cm_5)).setCell ⟨gx_5, 1, none⟩ (.slice Bm_5 g2.length cn_5)).heap.size) from ⟨⟨HZ.out, HBf.out.size⟩, ⟨FG.out, blk_lt HX5.out⟩⟩)
      replace HZ := Aside0.mk (Nat.le_refl ((Wj_5.setCell ⟨gx_5, 0, none⟩ (.slice Am_5 g1.length cm_5)).setCell ⟨gx_5, 1, none⟩ (.slice Bm_5 g2.length cn_5)).heap.size)
      clear HBf HBr HBw FX FM1 FM2 HSok hHeld
      generalize ((Wj_5.setCell ⟨gx_5, 0, none⟩ (.slice Am_5 g1.length cm_5)).setCell ⟨gx_5, 1, none⟩ (.slice Bm_5 g2.length cn_5)) = W5f at HO3 HP3 HO4 HP4 HXp HXq HX3 HX4 HX5 HO5 HP5 HQ5 HB HZ ⊢
      have HXpa := cell2_0 HXp.out
      have HXpb := cell2_1 HXp.out
      have HXqa := cell3_0 HXq.out
      have HXqb := cell3_1 HXq.out
      have HXqc := cell3_2 HXq.out
      have HX3a := cell2_0 HX3.out
      have HX3b := cell2_1 HX3.out
      have HX4a := cell2_0 HX4.out
      have HX4b := cell2_1 HX4.out
      have HX5a := cell2_0 HX5.out
      have HX5b := cell2_1 HX5.out
      go_upto_region 10 with (first
        | (go_at_call 16; (with_reducible refine (laws_eqDesk.calls k _ _ g1 _ _ g2 _ _ w1 _ _ w2 true _ (Kd.R_reads' HO5.out).2.2 (Kd.R_reads' HO5.out).2.1 (Kd.S_reads' HP5.out).2.2 (Kd.S_reads' HP5.out).2.1 (Kd.R_reads' HO3.out).2.2 (Kd.R_reads' HO3.out).2.1 (Kd.V_reads' HP3.out).2.2 (Kd.V_reads' HP3.out).2.1 E6.out).mono ?_); clear E6; rintro e W6 ⟨rfl, hb⟩; have n_ := Aside0.mk (Kd.R_below HO3.out hb); clear HO3; have HO3 := n_; clear n_; have n_ := Aside0.mk (Kd.V_below HP3.out hb); clear HP3; have HP3 := n_; clear n_; have n_ := Aside0.mk (Kd.R_below HO4.out hb); clear HO4; have HO4 := n_; clear n_; have n_ := Aside0.mk (Kd.S_below HP4.out hb); clear HP4; have HP4 := n_; clear n_; have n_ := Aside0.mk (Kd.R_below HO5.out hb); clear HO5; have HO5 := n_; clear n_; have n_ := Aside0.mk (Kd.S_below HP5.out hb); clear HP5; have HP5 := n_; clear n_; have n_ := Aside0.mk (blk_below HXp.out hb); clear HXp HXpa HXpb; have HXp := n_; clear n_; have HXpa := cell2_0 HXp.out; have HXpb := cell2_1 HXp.out; have n_ := Aside0.mk (blk_below HXq.out hb); clear HXq HXqa HXqb HXqc; have HXq := n_; clear n_; have HXqa := cell3_0 HXq.out; have HXqb := cell3_1 HXq.out; have HXqc := cell3_2 HXq.out; have n_ := Aside0.mk (blk_below HX3.out hb); clear HX3 HX3a HX3b; have HX3 := n_; clear n_; have HX3a := cell2_0 HX3.out; have HX3b := cell2_1 HX3.out; have n_ := Aside0.mk (blk_below HX4.out hb); clear HX4 HX4a HX4b; have HX4 := n_; clear n_; have HX4a := cell2_0 HX4.out; have HX4b := cell2_1 HX4.out; have n_ := Aside0.mk (blk_below HX5.out hb); clear HX5 HX5a HX5b; have HX5 := n_; clear n_; have HX5a := cell2_0 HX5.out; have HX5b := cell2_1 HX5.out; have n_ := Aside0.mk (below_step HB.out hb); clear HB; have HB := n_; clear n_; have n_ := Aside0.mk (Nat.le_trans HZ.out hb.size); clear HZ; have HZ := n_; clear n_ hb))
      try go_wp2
      have n_ := Aside0.mk (Kd.R_drew HO3.out); clear HO3; have HO3 := n_; clear n_
      have n_ := Aside0.mk (Kd.V_drew HP3.out); clear HP3; have HP3 := n_; clear n_
      have n_ := Aside0.mk (Kd.R_drew HO4.out); clear HO4; have HO4 := n_; clear n_
      have n_ := Aside0.mk (Kd.S_drew HP4.out); clear HP4; have HP4 := n_; clear n_
      have n_ := Aside0.mk (Kd.R_drew HO5.out); clear HO5; have HO5 := n_; clear n_
      have n_ := Aside0.mk (Kd.S_drew HP5.out); clear HP5; have HP5 := n_; clear n_
      have n_ := Aside0.mk (blk_drew HXp.out); clear HXp HXpa HXpb; have HXp := n_; clear n_
      have n_ := Aside0.mk (blk_drew HXq.out); clear HXq HXqa HXqb HXqc; have HXq := n_; clear n_
      have n_ := Aside0.mk (blk_drew HX3.out); clear HX3 HX3a HX3b; have HX3 := n_; clear n_
      have n_ := Aside0.mk (blk_drew HX4.out); clear HX4 HX4a HX4b; have HX4 := n_; clear n_
      have n_ := Aside0.mk (blk_drew HX5.out); clear HX5 HX5a HX5b; have HX5 := n_; clear n_
      have n_ := Aside0.mk (below_drew1 HB.out); clear HB; have HB := n_; clear n_
      have n_ := Aside0.mk (show _ ≤ (World.drew W6).heap.size from HZ.out); clear HZ; have HZ := n_; clear n_
      refine start_ (n := 5) (S := fun w' => w'.cell? ⟨W4.heap.size, 0, none⟩ = some (.slice A4 d2.length c4) ∧ w'.cell? ⟨W4.heap.size, 1, none⟩ = some (.slice B4 f2.length cc4) ∧ w'.cell? ⟨gb1, 0, none⟩ = some (.slice A0 l0.length c0) ∧ w'.cell? ⟨gb1, 1, none⟩ = some (.slice A1 l1.length c1)) (ds := []) #[false, false, false, false, false] (by kernel_rfl) rfl rfl ⟨(blk_cell HX4.out 0).trans rfl, (blk_cell HX4.out 1).trans rfl, (blk_cell HXp.out 0).trans rfl, (blk_cell HXp.out 1).trans rfl⟩ (fun hHeld => ?_)
      generalize World.drew W6 = wr at HO3 HP3 HO4 HP4 HO5 HP5 HXp HXq HX3 HX4 HX5 HB HZ hHeld ⊢
      refine take_ (i := 0) (N := some 47) (v := ?_) (a' := ?_) #[true, false, false, false, false] rfl rfl (by kernel_rfl) (fun _ _ _ h => h) (Or.inl ⟨by rfl, ?_⟩) hHeld ?_ ?_
      rotate_left
      · rintro w' ⟨s0, s1, s2, s3⟩
        go_simp
        with_reducible rfl
      rotate_left
      · simp only [Act.put, List.setIfInBounds_toArray, List.set_cons_zero, List.set_cons_succ, i64_w, i32_w]
        rfl
      refine take_ (i := 1) (N := some 48) (v := ?_) (a' := ?_) #[true, true, false, false, false] rfl rfl (by kernel_rfl) (fun _ _ _ h => h) (Or.inl ⟨by rfl, ?_⟩) hHeld ?_ ?_
      rotate_left
      · rintro w' ⟨s0, s1, s2, s3⟩
        go_simp
        with_reducible rfl
      rotate_left
      · simp only [Act.put, List.setIfInBounds_toArray, List.set_cons_zero, List.set_cons_succ, i64_w, i32_w]
        rfl
      refine one_ (i := 2) (N := some 49) #[true, true, true, false, false] rfl rfl (by kernel_rfl) (by decide) (fun K hK => ?_)
      refine goes_ Try.func13 (by kernel_rfl) rfl #[.agg #[.slice A0 l0.length c0, .slice A1 l1.length c1]] (by rfl) rfl rfl (by (try simp only [List.map_toArray, List.map_cons, List.map_nil]); first | done | rfl) ?_
      (with_reducible refine (laws_toDesk.calls k _ _ l0 _ _ l1 d3 f3 _ (Kd.C_below HR0.out HB.out) HC0.out (Kd.C_below HR1.out HB.out) HC1.out E7.out).mono ?_)
      clear E7
      rintro e W7 ⟨v6, u6, rfl, ho, ho2, hb⟩
      obtain ⟨lo6, hq6, hn6, hm6⟩ := obj_D2 HB.out HZ.out ho ho2 hb
      obtain ⟨A6, c6, rfl⟩ := Kd.R_slice hn6
      obtain ⟨B6, cc6, rfl⟩ := Kd.S_slice hm6
      clear ho ho2
      have n_ := Aside0.mk (Kd.R_below HO3.out hb)
      clear HO3
      have HO3 := n_
      clear n_
      have n_ := Aside0.mk (Kd.V_below HP3.out hb)
      clear HP3
      have HP3 := n_
      clear n_
      have n_ := Aside0.mk (Kd.R_below HO4.out hb)
      clear HO4
      have HO4 := n_
      clear n_
      have n_ := Aside0.mk (Kd.S_below HP4.out hb)
      clear HP4
      have HP4 := n_
      clear n_
      have n_ := Aside0.mk (Kd.R_below HO5.out hb)
      clear HO5
      have HO5 := n_
      clear n_
      have n_ := Aside0.mk (Kd.S_below HP5.out hb)
      clear HP5
      have HP5 := n_
      clear n_
      have n_ := Aside0.mk (blk_below HXp.out hb)
      clear HXp
      have HXp := n_
      clear n_
      have HXpa := cell2_0 HXp.out
      have HXpb := cell2_1 HXp.out
      have n_ := Aside0.mk (blk_below HXq.out hb)
      clear HXq
      have HXq := n_
      clear n_
      have HXqa := cell3_0 HXq.out
      have HXqb := cell3_1 HXq.out
      have HXqc := cell3_2 HXq.out
      have n_ := Aside0.mk (blk_below HX3.out hb)
      clear HX3
      have HX3 := n_
      clear n_
      have HX3a := cell2_0 HX3.out
      have HX3b := cell2_1 HX3.out
      have n_ := Aside0.mk (blk_below HX4.out hb)
      clear HX4
      have HX4 := n_
      clear n_
      have HX4a := cell2_0 HX4.out
      have HX4b := cell2_1 HX4.out
      have n_ := Aside0.mk (blk_below HX5.out hb)
      clear HX5
      have HX5 := n_
      clear n_
      have HX5a := cell2_0 HX5.out
      have HX5b := cell2_1 HX5.out
      have n_ := Aside0.mk (below_step HB.out hb)
      clear HB
      have HB := n_
      clear n_
      have HQ6 := Aside0.mk hq6
      clear HZ
      have HZ := Aside0.mk (Nat.le_refl W7.heap.size)
      have HO6 := Aside0.mk hn6
      have HP6 := Aside0.mk hm6
      clear hb hq6 hn6 hm6
      refine ⟨_, rfl, ?_⟩
      refine hK.out _ _ ⟨(blk_cell HX4.out 0).trans rfl, (blk_cell HX4.out 1).trans rfl, (blk_cell HXp.out 0).trans rfl, (blk_cell HXp.out 1).trans rfl⟩ (fun hHeld => ?_)
      clear hK K
      refine norm_ (a' := ?_) ?_ ?_
      rotate_left
      · show Act.put _ (some 49) _ = _
        simp only [Act.put, List.setIfInBounds_toArray, List.set_cons_zero, List.set_cons_succ, i64_w, i32_w]
        rfl
      refine one_ (i := 3) (N := some 50) #[true, true, true, true, false] rfl rfl (by kernel_rfl) (by decide) (fun K hK => ?_)
      refine goes_ Try.func16 (by kernel_rfl) rfl #[.agg #[.slice A4 d2.length c4, .slice B4 f2.length cc4], .agg #[.slice A6 d3.length c6, .slice B6 f3.length cc6]] (by rfl) rfl rfl (by (try simp only [List.map_toArray, List.map_cons, List.map_nil]); first | done | rfl) ?_
      (with_reducible refine (laws_eqDesk.calls k _ _ d2 _ _ f2 _ _ d3 _ _ f3 true _ (Kd.R_reads' HO4.out).2.2 (Kd.R_reads' HO4.out).2.1 (Kd.S_reads' HP4.out).2.2 (Kd.S_reads' HP4.out).2.1 (Kd.R_reads' HO6.out).2.2 (Kd.R_reads' HO6.out).2.1 (Kd.S_reads' HP6.out).2.2 (Kd.S_reads' HP6.out).2.1 E8.out).mono ?_)
      clear E8
      rintro e W8 ⟨rfl, hb⟩
      have n_ := Aside0.mk (Kd.R_below HO3.out hb)
      clear HO3
      have HO3 := n_
      clear n_
      have n_ := Aside0.mk (Kd.V_below HP3.out hb)
      clear HP3
      have HP3 := n_
      clear n_
      have n_ := Aside0.mk (Kd.R_below HO4.out hb)
      clear HO4
      have HO4 := n_
      clear n_
      have n_ := Aside0.mk (Kd.S_below HP4.out hb)
      clear HP4
      have HP4 := n_
      clear n_
      have n_ := Aside0.mk (Kd.R_below HO5.out hb)
      clear HO5
      have HO5 := n_
      clear n_
      have n_ := Aside0.mk (Kd.S_below HP5.out hb)
      clear HP5
      have HP5 := n_
      clear n_
      have n_ := Aside0.mk (Kd.R_below HO6.out hb)
      clear HO6
      have HO6 := n_
      clear n_
      have n_ := Aside0.mk (Kd.S_below HP6.out hb)
      clear HP6
      have HP6 := n_
      clear n_
      have n_ := Aside0.mk (blk_below HXp.out hb)
      clear HXp HXpa HXpb
      have HXp := n_
      clear n_
      have HXpa := cell2_0 HXp.out
      have HXpb := cell2_1 HXp.out
      have n_ := Aside0.mk (blk_below HXq.out hb)
      clear HXq HXqa HXqb HXqc
      have HXq := n_
      clear n_
      have HXqa := cell3_0 HXq.out
      have HXqb := cell3_1 HXq.out
      have HXqc := cell3_2 HXq.out
      have n_ := Aside0.mk (blk_below HX3.out hb)
      clear HX3 HX3a HX3b
      have HX3 := n_
      clear n_
      have HX3a := cell2_0 HX3.out
      have HX3b := cell2_1 HX3.out
      have n_ := Aside0.mk (blk_below HX4.out hb)
      clear HX4 HX4a HX4b
      have HX4 := n_
      clear n_
      have HX4a := cell2_0 HX4.out
      have HX4b := cell2_1 HX4.out
      have n_ := Aside0.mk (blk_below HX5.out hb)
      clear HX5 HX5a HX5b
      have HX5 := n_
      clear n_
      have HX5a := cell2_0 HX5.out
      have HX5b := cell2_1 HX5.out
      have n_ := Aside0.mk (below_step HB.out hb)
      clear HB
      have HB := n_
      clear n_
      have n_ := Aside0.mk (Nat.le_trans HZ.out hb.size)
      clear HZ
      have HZ := n_
      clear n_ hb
      refine ⟨_, rfl, ?_⟩
      refine hK.out _ _ ⟨(blk_cell HX4.out 0).trans rfl, (blk_cell HX4.out 1).trans rfl, (blk_cell HXp.out 0).trans rfl, (blk_cell HXp.out 1).trans rfl⟩ (fun hHeld => ?_)
      clear hK K
      refine norm_ (a' := ?_) ?_ ?_
      rotate_left
      · show Act.put _ (some 50) _ = _
        simp only [Act.put, List.setIfInBounds_toArray, List.set_cons_zero, List.set_cons_succ, i64_w, i32_w]
        rfl
      refine pure_ (i := 4) (N := some 51) (v := ?_) (a' := ?_) #[true, true, true, true, true] rfl rfl (by kernel_rfl) (fun _ _ _ h => h) (Or.inl ⟨by rfl, ?_⟩) ?_ ?_
      rotate_left
      · intro w'
        go_simp
        with_reducible rfl
      rotate_left
      · simp only [Act.put, List.setIfInBounds_toArray, List.set_cons_zero, List.set_cons_succ, i64_w, i32_w]
        rfl
      refine done_ (by kernel_rfl) ?_
      have HXpa := cell2_0 HXp.out
      have HXpb := cell2_1 HXp.out
      have HXqa := cell3_0 HXq.out
      have HXqb := cell3_1 HXq.out
      have HXqc := cell3_2 HXq.out
      have HX3a := cell2_0 HX3.out
      have HX3b := cell2_1 HX3.out
      have HX4a := cell2_0 HX4.out
      have HX4b := cell2_1 HX4.out
      have HX5a := cell2_0 HX5.out
      have HX5b := cell2_1 HX5.out
      go_upto_region 24 with (first
        | (go_at_call 17; (with_reducible refine (laws_markDesk.calls k (fun k => (lo4 ≤ k ∧ k < W4.heap.size)) (fun k => (lo4 ≤ k ∧ k < W4.heap.size) ∧ some k ≠ ((.slice A4 d2.length c4) : Value).ownBlock) _ _ d2 f2 1 m1 y0 y1 w _ HB.out HO4.out HP4.out (fun k hk => hk.2) E9.out).mono ?_); clear E9; rintro e W9 ⟨rfl, hs, hs2, hb, hk⟩; have hl := (Kd.R_reads' hs).1; rw [hl] at hs hs2 hk; (try rw [hl]); (try rw [hl] at HX4); clear hl; have hl := (Kd.S_reads' hs2).1; rw [hl] at hs2; (try rw [hl]); (try rw [hl] at HX4); clear hl; replace hk := Kept.mono (S' := fun k => (lo4 ≤ k ∧ k < W4.heap.size) ∨ (lo4 ≤ k ∧ k < W4.heap.size)) hk (fun k hk => hk.elim (fun h => .inl h) (fun h => .inr h.1)); have n_ := Aside0.mk (Kd.R_kept HO3.out hk (fun k hk2 hj => by have q1 := HQ1.out; have q2 := HQ2.out; have q3 := HQ3.out; have q4 := HQ4.out; have q5 := HQ5.out; have q6 := HQ6.out; have h1 := hk2; have h2 := hj.elim id id; omega)); clear HO3; have HO3 := n_; clear n_; have n_ := Aside0.mk (Kd.V_kept HP3.out hk (fun k hk2 hj => by have q1 := HQ1.out; have q2 := HQ2.out; have q3 := HQ3.out; have q4 := HQ4.out; have q5 := HQ5.out; have q6 := HQ6.out; have h1 := hk2.1; have h2 := hj.elim id id; omega)); clear HP3; have HP3 := n_; clear n_; have n_ := Aside0.mk (Kd.R_kept HO5.out hk (fun k hk2 hj => by have q1 := HQ1.out; have q2 := HQ2.out; have q3 := HQ3.out; have q4 := HQ4.out; have q5 := HQ5.out; have q6 := HQ6.out; have h1 := hk2; have h2 := hj.elim id id; omega)); clear HO5; have HO5 := n_; clear n_; have n_ := Aside0.mk (Kd.S_kept HP5.out hk (fun k hk2 hj => by have q1 := HQ1.out; have q2 := HQ2.out; have q3 := HQ3.out; have q4 := HQ4.out; have q5 := HQ5.out; have q6 := HQ6.out; have h1 := hk2.1; have h2 := hj.elim id id; omega)); clear HP5; have HP5 := n_; clear n_; have n_ := Aside0.mk (blk_kept HXp.out hk (fun hj => by have q1 := HQ1.out; have q2 := HQ2.out; have q3 := HQ3.out; have q4 := HQ4.out; have q5 := HQ5.out; have q6 := HQ6.out; have h2 := hj.elim id id; omega)); clear HXp HXpa HXpb; have HXp := n_; clear n_; have HXpa := cell2_0 HXp.out; have HXpb := cell2_1 HXp.out; have n_ := Aside0.mk (blk_kept HXq.out hk (fun hj => by have q1 := HQ1.out; have q2 := HQ2.out; have q3 := HQ3.out; have q4 := HQ4.out; have q5 := HQ5.out; have q6 := HQ6.out; have h2 := hj.elim id id; omega)); clear HXq HXqa HXqb HXqc; have HXq := n_; clear n_; have HXqa := cell3_0 HXq.out; have HXqb := cell3_1 HXq.out; have HXqc := cell3_2 HXq.out; have n_ := Aside0.mk (blk_kept HX3.out hk (fun hj => by have q1 := HQ1.out; have q2 := HQ2.out; have q3 := HQ3.out; have q4 := HQ4.out; have q5 := HQ5.out; have q6 := HQ6.out; have h2 := hj.elim id id; omega)); clear HX3 HX3a HX3b; have HX3 := n_; clear n_; have HX3a := cell2_0 HX3.out; have HX3b := cell2_1 HX3.out; have n_ := Aside0.mk (blk_kept HX4.out hk (fun hj => by have q1 := HQ1.out; have q2 := HQ2.out; have q3 := HQ3.out; have q4 := HQ4.out; have q5 := HQ5.out; have q6 := HQ6.out; have h2 := hj.elim id id; omega)); clear HX4 HX4a HX4b; have HX4 := n_; clear n_; have HX4a := cell2_0 HX4.out; have HX4b := cell2_1 HX4.out; have n_ := Aside0.mk (blk_kept HX5.out hk (fun hj => by have q1 := HQ1.out; have q2 := HQ2.out; have q3 := HQ3.out; have q4 := HQ4.out; have q5 := HQ5.out; have q6 := HQ6.out; have h2 := hj.elim id id; omega)); clear HX5 HX5a HX5b; have HX5 := n_; clear n_; have HX5a := cell2_0 HX5.out; have HX5b := cell2_1 HX5.out; have HO_ := Aside0.mk hs; have HP_ := Aside0.mk hs2; clear HO4 HP4; have HO4 := HO_; have HP4 := HP_; clear HO_ HP_ hs hs2; have n_ := Aside0.mk (Nat.le_trans HZ.out hk.1); clear HZ; have HZ := n_; clear n_; have n_ := Aside0.mk hb; clear HB; have HB := n_; clear n_ hb hk)
        | (go_at_call 16; (with_reducible refine (laws_eqDesk.calls k _ _ g1 _ _ g2 _ _ w1 _ _ w2 true _ (Kd.R_reads' HO5.out).2.2 (Kd.R_reads' HO5.out).2.1 (Kd.S_reads' HP5.out).2.2 (Kd.S_reads' HP5.out).2.1 (Kd.R_reads' HO3.out).2.2 (Kd.R_reads' HO3.out).2.1 (Kd.V_reads' HP3.out).2.2 (Kd.V_reads' HP3.out).2.1 E10.out).mono ?_); clear E10; rintro e W10 ⟨rfl, hb⟩; have n_ := Aside0.mk (Kd.R_below HO3.out hb); clear HO3; have HO3 := n_; clear n_; have n_ := Aside0.mk (Kd.V_below HP3.out hb); clear HP3; have HP3 := n_; clear n_; have n_ := Aside0.mk (Kd.R_below HO5.out hb); clear HO5; have HO5 := n_; clear n_; have n_ := Aside0.mk (Kd.S_below HP5.out hb); clear HP5; have HP5 := n_; clear n_; have n_ := Aside0.mk (blk_below HXp.out hb); clear HXp HXpa HXpb; have HXp := n_; clear n_; have HXpa := cell2_0 HXp.out; have HXpb := cell2_1 HXp.out; have n_ := Aside0.mk (blk_below HXq.out hb); clear HXq HXqa HXqb HXqc; have HXq := n_; clear n_; have HXqa := cell3_0 HXq.out; have HXqb := cell3_1 HXq.out; have HXqc := cell3_2 HXq.out; have n_ := Aside0.mk (blk_below HX3.out hb); clear HX3 HX3a HX3b; have HX3 := n_; clear n_; have HX3a := cell2_0 HX3.out; have HX3b := cell2_1 HX3.out; have n_ := Aside0.mk (blk_below HX4.out hb); clear HX4 HX4a HX4b; have HX4 := n_; clear n_; have HX4a := cell2_0 HX4.out; have HX4b := cell2_1 HX4.out; have n_ := Aside0.mk (blk_below HX5.out hb); clear HX5 HX5a HX5b; have HX5 := n_; clear n_; have HX5a := cell2_0 HX5.out; have HX5b := cell2_1 HX5.out; have n_ := Aside0.mk (below_step HB.out hb); clear HB; have HB := n_; clear n_; have n_ := Aside0.mk (Nat.le_trans HZ.out hb.size); clear HZ; have HZ := n_; clear n_ hb)
        | (go_at_call 17; (with_reducible refine (laws_markDesk.calls k (fun k => ((wr_5.heap.size ≤ k ∧ k < W5f.heap.size) ∧ k ≠ gx_5)) (fun k => ((wr_5.heap.size ≤ k ∧ k < W5f.heap.size) ∧ k ≠ gx_5) ∧ some k ≠ ((.slice Am_5 g1.length cm_5) : Value).ownBlock) _ _ g1 g2 1 q3 y2 y3 w _ HB.out HO5.out HP5.out (fun k hk => hk.2) E11.out).mono ?_); clear E11; rintro e W11 ⟨rfl, hs, hs2, hb, hk⟩; have hl := (Kd.R_reads' hs).1; rw [hl] at hs hs2 hk; (try rw [hl]); (try rw [hl] at HX5); clear hl; have hl := (Kd.S_reads' hs2).1; rw [hl] at hs2; (try rw [hl]); (try rw [hl] at HX5); clear hl; replace hk := Kept.mono (S' := fun k => ((wr_5.heap.size ≤ k ∧ k < W5f.heap.size) ∧ k ≠ gx_5) ∨ ((wr_5.heap.size ≤ k ∧ k < W5f.heap.size) ∧ k ≠ gx_5)) hk (fun k hk => hk.elim (fun h => .inl h) (fun h => .inr h.1)); have n_ := Aside0.mk (Kd.R_kept HO3.out hk (fun k hk2 hj => by have q1 := HQ1.out; have q2 := HQ2.out; have q3 := HQ3.out; have q4 := HQ4.out; have q5 := HQ5.out; have q6 := HQ6.out; have h1 := hk2; have h2 := hj.elim id id; omega)); clear HO3; have HO3 := n_; clear n_; have n_ := Aside0.mk (Kd.V_kept HP3.out hk (fun k hk2 hj => by have q1 := HQ1.out; have q2 := HQ2.out; have q3 := HQ3.out; have q4 := HQ4.out; have q5 := HQ5.out; have q6 := HQ6.out; have h1 := hk2.1; have h2 := hj.elim id id; omega)); clear HP3; have HP3 := n_; clear n_; have n_ := Aside0.mk (blk_kept HXp.out hk (fun hj => by have q1 := HQ1.out; have q2 := HQ2.out; have q3 := HQ3.out; have q4 := HQ4.out; have q5 := HQ5.out; have q6 := HQ6.out; have h2 := hj.elim id id; omega)); clear HXp HXpa HXpb; have HXp := n_; clear n_; have HXpa := cell2_0 HXp.out; have HXpb := cell2_1 HXp.out; have n_ := Aside0.mk (blk_kept HXq.out hk (fun hj => by have q1 := HQ1.out; have q2 := HQ2.out; have q3 := HQ3.out; have q4 := HQ4.out; have q5 := HQ5.out; have q6 := HQ6.out; have h2 := hj.elim id id; omega)); clear HXq HXqa HXqb HXqc; have HXq := n_; clear n_; have HXqa := cell3_0 HXq.out; have HXqb := cell3_1 HXq.out; have HXqc := cell3_2 HXq.out; have n_ := Aside0.mk (blk_kept HX3.out hk (fun hj => by have q1 := HQ1.out; have q2 := HQ2.out; have q3 := HQ3.out; have q4 := HQ4.out; have q5 := HQ5.out; have q6 := HQ6.out; have h2 := hj.elim id id; omega)); clear HX3 HX3a HX3b; have HX3 := n_; clear n_; have HX3a := cell2_0 HX3.out; have HX3b := cell2_1 HX3.out; have n_ := Aside0.mk (blk_kept HX4.out hk (fun hj => by have q1 := HQ1.out; have q2 := HQ2.out; have q3 := HQ3.out; have q4 := HQ4.out; have q5 := HQ5.out; have q6 := HQ6.out; have h2 := hj.elim id id; omega)); clear HX4 HX4a HX4b; have HX4 := n_; clear n_; have HX4a := cell2_0 HX4.out; have HX4b := cell2_1 HX4.out; have n_ := Aside0.mk (blk_kept HX5.out hk (fun hj => by have q1 := HQ1.out; have q2 := HQ2.out; have q3 := HQ3.out; have q4 := HQ4.out; have q5 := HQ5.out; have q6 := HQ6.out; have h2 := hj.elim id id; omega)); clear HX5 HX5a HX5b; have HX5 := n_; clear n_; have HX5a := cell2_0 HX5.out; have HX5b := cell2_1 HX5.out; have HO_ := Aside0.mk hs; have HP_ := Aside0.mk hs2; clear HO5 HP5; have HO5 := HO_; have HP5 := HP_; clear HO_ HP_ hs hs2; have n_ := Aside0.mk (Nat.le_trans HZ.out hk.1); clear HZ; have HZ := n_; clear n_; have n_ := Aside0.mk hb; clear HB; have HB := n_; clear n_ hb hk)
        | (go_at_call 18; (with_reducible refine (laws_heldDesk.calls k _ _ y2 _ _ y3 1 q3 _ (Kd.R_reads' HO5.out).2.2 (Kd.R_reads' HO5.out).2.1 (Kd.S_reads' HP5.out).2.2 (Kd.S_reads' HP5.out).2.1 E12.out).mono ?_); clear E12; rintro e W12 ⟨rfl, hb⟩; have n_ := Aside0.mk (Kd.R_below HO3.out hb); clear HO3; have HO3 := n_; clear n_; have n_ := Aside0.mk (Kd.V_below HP3.out hb); clear HP3; have HP3 := n_; clear n_; have n_ := Aside0.mk (Kd.R_below HO5.out hb); clear HO5; have HO5 := n_; clear n_; have n_ := Aside0.mk (Kd.S_below HP5.out hb); clear HP5; have HP5 := n_; clear n_; have n_ := Aside0.mk (blk_below HXp.out hb); clear HXp HXpa HXpb; have HXp := n_; clear n_; have HXpa := cell2_0 HXp.out; have HXpb := cell2_1 HXp.out; have n_ := Aside0.mk (blk_below HXq.out hb); clear HXq HXqa HXqb HXqc; have HXq := n_; clear n_; have HXqa := cell3_0 HXq.out; have HXqb := cell3_1 HXq.out; have HXqc := cell3_2 HXq.out; have n_ := Aside0.mk (blk_below HX3.out hb); clear HX3 HX3a HX3b; have HX3 := n_; clear n_; have HX3a := cell2_0 HX3.out; have HX3b := cell2_1 HX3.out; have n_ := Aside0.mk (blk_below HX4.out hb); clear HX4 HX4a HX4b; have HX4 := n_; clear n_; have HX4a := cell2_0 HX4.out; have HX4b := cell2_1 HX4.out; have n_ := Aside0.mk (blk_below HX5.out hb); clear HX5 HX5a HX5b; have HX5 := n_; clear n_; have HX5a := cell2_0 HX5.out; have HX5b := cell2_1 HX5.out; have n_ := Aside0.mk (below_step HB.out hb); clear HB; have HB := n_; clear n_; have n_ := Aside0.mk (Nat.le_trans HZ.out hb.size); clear HZ; have HZ := n_; clear n_ hb))
      try go_wp2
      have n_ := Aside0.mk (Kd.R_drew HO3.out); clear HO3; have HO3 := n_; clear n_
      have n_ := Aside0.mk (Kd.V_drew HP3.out); clear HP3; have HP3 := n_; clear n_
      have n_ := Aside0.mk (Kd.R_drew HO5.out); clear HO5; have HO5 := n_; clear n_
      have n_ := Aside0.mk (Kd.S_drew HP5.out); clear HP5; have HP5 := n_; clear n_
      have n_ := Aside0.mk (blk_drew HXp.out); clear HXp HXpa HXpb; have HXp := n_; clear n_
      have n_ := Aside0.mk (blk_drew HXq.out); clear HXq HXqa HXqb HXqc; have HXq := n_; clear n_
      have n_ := Aside0.mk (blk_drew HX3.out); clear HX3 HX3a HX3b; have HX3 := n_; clear n_
      have n_ := Aside0.mk (blk_drew HX4.out); clear HX4 HX4a HX4b; have HX4 := n_; clear n_
      have n_ := Aside0.mk (blk_drew HX5.out); clear HX5 HX5a HX5b; have HX5 := n_; clear n_
      have n_ := Aside0.mk (below_drew1 HB.out); clear HB; have HB := n_; clear n_
      have n_ := Aside0.mk (show _ ≤ (World.drew W12).heap.size from HZ.out); clear HZ; have HZ := n_; clear n_
      refine start_ (n := 11) (S := fun w' => w'.cell? ⟨gb1, 0, none⟩ = some (.slice A0 l0.length c0) ∧ w'.cell? ⟨gb1, 1, none⟩ = some (.slice A1 l1.length c1) ∧ w'.cell? ⟨gb2, 0, none⟩ = some (.int .i64 a) ∧ w'.cell? ⟨gb2, 1, none⟩ = some (.int .i64 b) ∧ w'.cell? ⟨gb2, 2, none⟩ = some (.int .i64 c)) (ds := []) #[false, false, false, false, false, false, false, false, false, false, false] (by kernel_rfl) rfl rfl ⟨(blk_cell HXp.out 0).trans rfl, (blk_cell HXp.out 1).trans rfl, (blk_cell HXq.out 0).trans rfl, (blk_cell HXq.out 1).trans rfl, (blk_cell HXq.out 2).trans rfl⟩ (fun hHeld => ?_)
      generalize World.drew W12 = wr_7 at HO3 HP3 HO5 HP5 HXp HXq HX3 HX4 HX5 HB HZ hHeld ⊢
      refine take_ (i := 0) (N := some 80) (v := ?_) (a' := ?_) #[true, false, false, false, false, false, false, false, false, false, false] rfl rfl (by kernel_rfl) (fun _ _ _ h => h) (Or.inl ⟨by rfl, ?_⟩) hHeld ?_ ?_
      rotate_left
      · rintro w' ⟨s0, s1, s2, s3, s4⟩
        go_simp
        with_reducible rfl
      rotate_left
      · simp only [Act.put, List.setIfInBounds_toArray, List.set_cons_zero, List.set_cons_succ, i64_w, i32_w]
        rfl
      refine take_ (i := 2) (N := some 82) (v := ?_) (a' := ?_) #[true, false, true, false, false, false, false, false, false, false, false] rfl rfl (by kernel_rfl) (fun _ _ _ h => h) (Or.inl ⟨by rfl, ?_⟩) hHeld ?_ ?_
      rotate_left
      · rintro w' ⟨s0, s1, s2, s3, s4⟩
        go_simp
        with_reducible rfl
      rotate_left
      · simp only [Act.put, List.setIfInBounds_toArray, List.set_cons_zero, List.set_cons_succ, i64_w, i32_w]
        rfl
      have HSok : ∀ w' : World, Below wr_7.heap.size wr_7 w' → (w'.cell? ⟨gb1, 0, none⟩ = some (.slice A0 l0.length c0) ∧ w'.cell? ⟨gb1, 1, none⟩ = some (.slice A1 l1.length c1) ∧ w'.cell? ⟨gb2, 0, none⟩ = some (.int .i64 a) ∧ w'.cell? ⟨gb2, 1, none⟩ = some (.int .i64 b) ∧ w'.cell? ⟨gb2, 2, none⟩ = some (.int .i64 c)) := fun w' hb_ => ⟨(blk_cell (blk_below HXp.out hb_) 0).trans rfl, (blk_cell (blk_below HXp.out hb_) 1).trans rfl, (blk_cell (blk_below HXq.out hb_) 0).trans rfl, (blk_cell (blk_below HXq.out hb_) 1).trans rfl, (blk_cell (blk_below HXq.out hb_) 2).trans rfl⟩
      have HBw := Aside0.mk HB.out
      have HBr := Aside0.mk (Below.refl wr_7.heap.size wr_7)
      refine join_ (σ := Option Addr × Nat × Option Addr × Nat × Nat × Option Addr × Nat × Option Addr × Nat) 2 #[true, true, true, true, true, true, true, true, true, false, false] (fun s_ => [(81, .agg #[.slice s_.1 d4.length s_.2.1, .slice s_.2.2.1 f4.length s_.2.2.2.1]), (83, .agg #[.int .i64 a, .int .i64 b, .int .i64 c]), (14, .pointer (some ⟨s_.2.2.2.2.1, 0, none⟩)), (84, .tuple #[.agg #[.slice s_.2.2.2.2.2.1 h1.length s_.2.2.2.2.2.2.1, .slice s_.2.2.2.2.2.2.2.1 h2.length s_.2.2.2.2.2.2.2.2], .bool b2]), (79, .tuple #[.agg #[.slice s_.2.2.2.2.2.1 h1.length s_.2.2.2.2.2.2.1, .slice s_.2.2.2.2.2.2.2.1 h2.length s_.2.2.2.2.2.2.2.2], .bool b2]), (85, .agg #[.slice s_.2.2.2.2.2.1 h1.length s_.2.2.2.2.2.2.1, .slice s_.2.2.2.2.2.2.2.1 h2.length s_.2.2.2.2.2.2.2.2]), (86, .bool b2)]) (fun s_ w' => (Below wr_7.heap.size wr_7 w') ∧ (Kd.C (Kd.int .i64) w' s_.1 d4.length d4) ∧ (d4.length ≤ s_.2.1) ∧ (Kd.C (Kd.slice 3 (Kd.int .i64)) w' s_.2.2.1 f4.length f4) ∧ (f4.length ≤ s_.2.2.2.1) ∧ (w'.heap[s_.2.2.2.2.1]? = some (.cells #[.slice none 0 0, .slice none 0 0] 29 (0, 0))) ∧ (wr_7.heap.size ≤ s_.2.2.2.2.1) ∧ (Kd.R (Kd.int .i64) 3 w' wr_7.heap.size (fun _ => True) (.slice s_.2.2.2.2.2.1 h1.length s_.2.2.2.2.2.2.1) h1) ∧ (Kd.S (Kd.slice 3 (Kd.int .i64)) 22 w' wr_7.heap.size (fun k_ => some k_ ≠ (.slice s_.2.2.2.2.2.1 h1.length s_.2.2.2.2.2.2.1 : Value).ownBlock) (.slice s_.2.2.2.2.2.2.2.1 h2.length s_.2.2.2.2.2.2.2.2) h2)) ?_ ?_
      rotate_left
      · intro hJABMX
        refine join_ (σ := Option Addr × Nat × Option Addr × Nat × Nat) 6 #[true, true, true, true, false, false, false, false, true, false, false] (fun s_ => [(81, .agg #[.slice s_.1 d4.length s_.2.1, .slice s_.2.2.1 f4.length s_.2.2.2.1]), (83, .agg #[.int .i64 a, .int .i64 b, .int .i64 c]), (14, .pointer (some ⟨s_.2.2.2.2, 0, none⟩))]) (fun s_ w' => (Below wr_7.heap.size wr_7 w') ∧ (Kd.C (Kd.int .i64) w' s_.1 d4.length d4) ∧ (d4.length ≤ s_.2.1) ∧ (Kd.C (Kd.slice 3 (Kd.int .i64)) w' s_.2.2.1 f4.length f4) ∧ (f4.length ≤ s_.2.2.2.1) ∧ (w'.heap[s_.2.2.2.2]? = some (.cells #[.slice none 0 0, .slice none 0 0] 29 (0, 0))) ∧ (wr_7.heap.size ≤ s_.2.2.2.2)) ?_ ?_
        rotate_left
        · intro hJABX
          refine join_ (σ := Option Addr × Nat × Option Addr × Nat × Nat) 7 #[true, true, true, false, false, false, false, false, true, false, false] (fun s_ => [(81, .agg #[.slice s_.1 d4.length s_.2.1, .slice s_.2.2.1 f4.length s_.2.2.2.1]), (14, .pointer (some ⟨s_.2.2.2.2, 0, none⟩))]) (fun s_ w' => (Below wr_7.heap.size wr_7 w') ∧ (Kd.C (Kd.int .i64) w' s_.1 d4.length d4) ∧ (d4.length ≤ s_.2.1) ∧ (Kd.C (Kd.slice 3 (Kd.int .i64)) w' s_.2.2.1 f4.length f4) ∧ (f4.length ≤ s_.2.2.2.1) ∧ (w'.heap[s_.2.2.2.2]? = some (.cells #[.slice none 0 0, .slice none 0 0] 29 (0, 0))) ∧ (wr_7.heap.size ≤ s_.2.2.2.2)) ?_ ?_
          rotate_left
          · intro hJAX
            refine two_ (i := 1) (j := 8) (Ni := some 81) (Nj := some 14) #[true, true, true, false, false, false, false, false, false, false, false] #[true, false, true, false, false, false, false, false, true, false, false] rfl rfl rfl rfl (by kernel_rfl) (by decide) (by decide) (fun K hK => ?_) (fun K hK => ?_)
            · skip
              refine goes_ Try.func13 (by kernel_rfl) rfl #[.agg #[.slice A0 l0.length c0, .slice A1 l1.length c1]] (by rfl) rfl rfl (by (try simp only [List.map_toArray, List.map_cons, List.map_nil]); first | done | rfl) ?_
              with_reducible refine (laws_toDesk.calls k _ _ l0 _ _ l1 d4 f4 _ ?s1 HC0.out ?s2 HC1.out E13.out).mono ?_
              (case s1 => exact Kd.C_below HR0.out (below_step HB.out HBr.out))
              (case s2 => exact Kd.C_below HR1.out (below_step HB.out HBr.out))
              rintro e V7_1 ⟨v_, u_, rfl, ho, ho2, hb⟩
              obtain ⟨Aa_7, ca_7, rfl⟩ := Kd.R_slice ho
              obtain ⟨Ba_7, cb_7, rfl⟩ := Kd.S_slice ho2
              have FA1 := Aside0.mk (Kd.R_reads' ho).2.2
              have FA2 := Aside0.mk (Kd.R_reads' ho).2.1
              have FA3 := Aside0.mk (Kd.S_reads' ho2).2.2
              have FA4 := Aside0.mk (Kd.S_reads' ho2).2.1
              replace HBr := Aside0.mk (below_step HBr.out hb)
              clear ho ho2 hb
              refine ⟨_, rfl, ?_⟩
              refine hK.out _ _ (HSok _ HBr.out) (fun hHeld => ?_)
              clear hK K
              refine norm_ (a' := ?_) ?_ ?_
              rotate_left
              · show Act.put _ (some 81) _ = _
                simp only [Act.put, List.setIfInBounds_toArray, List.set_cons_zero, List.set_cons_succ, i64_w, i32_w]
                rfl
              refine two_ (i := 3) (j := 8) (Ni := some 83) (Nj := some 14) #[true, true, true, true, false, false, false, false, false, false, false] #[true, true, true, false, false, false, false, false, true, false, false] rfl rfl rfl rfl (by kernel_rfl) (by decide) (by decide) (fun K hK => ?_) (fun K hK => ?_)
              · skip
                refine goes_ Try.func14 (by kernel_rfl) rfl #[.agg #[.int .i64 a, .int .i64 b, .int .i64 c]] (by rfl) rfl rfl (by (try simp only [List.map_toArray, List.map_cons, List.map_nil]); first | done | rfl) ?_
                with_reducible refine (laws_toDeed.calls a b c a b c _ rfl).mono ?_
                rintro e V7_2 ⟨rfl, hb⟩
                replace FA1 := Aside0.mk (Kd.C_below FA1.out hb)
                replace FA3 := Aside0.mk (Kd.C_below FA3.out hb)
                replace HBr := Aside0.mk (below_step HBr.out hb)
                clear hb
                refine ⟨_, rfl, ?_⟩
                refine hK.out _ _ (HSok _ HBr.out) (fun hHeld => ?_)
                clear hK K
                refine norm_ (a' := ?_) ?_ ?_
                rotate_left
                · show Act.put _ (some 83) _ = _
                  simp only [Act.put, List.setIfInBounds_toArray, List.set_cons_zero, List.set_cons_succ, i64_w, i32_w]
                  rfl
                refine two_ (i := 4) (j := 8) (Ni := some 84) (Nj := some 14) #[true, true, true, true, true, false, false, false, false, false, false] #[true, true, true, true, false, false, false, false, true, false, false] rfl rfl rfl rfl (by kernel_rfl) (by decide) (by decide) (fun K hK => ?_) (fun K hK => ?_)
                · skip
                  refine goes_ Try.func15 (by kernel_rfl) rfl #[.agg #[.slice Aa_7 d4.length ca_7, .slice Ba_7 f4.length cb_7], .agg #[.int .i64 a, .int .i64 b, .int .i64 c]] (by rfl) rfl rfl (by (try simp only [List.map_toArray, List.map_cons, List.map_nil]); first | done | rfl) ?_
                  with_reducible refine (impl_DeskDo.calls k _ _ d4 _ _ f4 a b c h1 h2 b2 _ ?s1 ?s2 ?s3 ?s4 E14.out).mono ?_
                  (case s1 => exact FA1.out)
                  (case s2 => exact FA2.out)
                  (case s3 => exact FA3.out)
                  (case s4 => exact FA4.out)
                  rintro e V7_3 ⟨v_, u_, rfl, ho, ho2, hb⟩
                  obtain ⟨Am_7, cm_7, rfl⟩ := Kd.R_slice ho
                  obtain ⟨Bm_7, cn_7, rfl⟩ := Kd.S_slice ho2
                  have FM1 := Aside0.mk (Kd.R_mono (Kd.R_lower ho HBr.out.size) (fun _ _ => trivial))
                  have FM2 := Aside0.mk (Kd.S_lower ho2 HBr.out.size)
                  replace FA1 := Aside0.mk (Kd.C_below FA1.out hb)
                  replace FA3 := Aside0.mk (Kd.C_below FA3.out hb)
                  replace HBr := Aside0.mk (below_step HBr.out hb)
                  clear ho ho2 hb
                  refine ⟨_, rfl, ?_⟩
                  refine hK.out _ _ (HSok _ HBr.out) (fun hHeld => ?_)
                  clear hK K
                  refine norm_ (a' := ?_) ?_ ?_
                  rotate_left
                  · show Act.put _ (some 84) _ = _
                    simp only [Act.put, List.setIfInBounds_toArray, List.set_cons_zero, List.set_cons_succ, i64_w, i32_w]
                    rfl
                  refine pure_ (i := 5) (N := some 79) (v := ?_) (a' := ?_) #[true, true, true, true, true, true, false, false, false, false, false] rfl rfl (by kernel_rfl) (fun _ _ _ h => h) (Or.inl ⟨by rfl, ?_⟩) ?_ ?_
                  rotate_left
                  · intro w'
                    go_simp
                    with_reducible rfl
                  rotate_left
                  · simp only [Act.put, List.setIfInBounds_toArray, List.set_cons_zero, List.set_cons_succ, i64_w, i32_w]
                    rfl
                  refine pure_ (i := 6) (N := some 85) (v := ?_) (a' := ?_) #[true, true, true, true, true, true, true, false, false, false, false] rfl rfl (by kernel_rfl) (fun _ _ _ h => h) (Or.inl ⟨by rfl, ?_⟩) ?_ ?_
                  rotate_left
                  · intro w'
                    go_simp
                    with_reducible rfl
                  rotate_left
                  · simp only [Act.put, List.setIfInBounds_toArray, List.set_cons_zero, List.set_cons_succ, i64_w, i32_w]
                    rfl
                  refine pure_ (i := 7) (N := some 86) (v := ?_) (a' := ?_) #[true, true, true, true, true, true, true, true, false, false, false] rfl rfl (by kernel_rfl) (fun _ _ _ h => h) (Or.inl ⟨by rfl, ?_⟩) ?_ ?_
                  rotate_left
                  · intro w'
                    go_simp
                    with_reducible rfl
                  rotate_left
                  · simp only [Act.put, List.setIfInBounds_toArray, List.set_cons_zero, List.set_cons_succ, i64_w, i32_w]
                    rfl
                  refine one_ (i := 8) (N := some 14) #[true, true, true, true, true, true, true, true, true, false, false] rfl rfl (by kernel_rfl) (by decide) (fun K hK => ?_)
                  refine box_step ?hg (N := 14) ?hd (cs := #[.slice none 0 0, .slice none 0 0]) (t := 29) ?hr ?_; (case hd => rfl); (case hg => rfl); (case hr => first | (go_simp; done) | (go_simp; rfl))
                  intro gx_7 hg V7_4 hbox hb
                  have FG := Aside0.mk (show wr_7.heap.size ≤ gx_7 by rw [hg]; exact HBr.out.size)
                  have FX := Aside0.mk hbox
                  replace FA1 := Aside0.mk (Kd.C_below FA1.out hb)
                  replace FA3 := Aside0.mk (Kd.C_below FA3.out hb)
                  replace FM1 := Aside0.mk (Kd.R_below FM1.out hb)
                  replace FM2 := Aside0.mk (Kd.S_below FM2.out hb)
                  replace HBr := Aside0.mk (below_step HBr.out hb)
                  clear hbox hb hg
                  refine hK.out _ _ (HSok _ HBr.out) (fun hHeld => ?_)
                  clear hK K
                  refine norm_ (a' := ?_) ?_ ?_
                  rotate_left
                  · show Act.put _ (some 14) _ = _
                    simp only [Act.put, List.setIfInBounds_toArray, List.set_cons_zero, List.set_cons_succ, i64_w, i32_w]
                    rfl
                  exact norm_ (by first | (simp only [putAll, Act.put, List.setIfInBounds_toArray, List.set_cons_zero, List.set_cons_succ]; done) | (simp only [putAll, Act.put, List.setIfInBounds_toArray, List.set_cons_zero, List.set_cons_succ]; rfl)) (hJABMX (Aa_7, ca_7, Ba_7, cb_7, gx_7, Am_7, cm_7, Bm_7, cn_7) _ ⟨HBr.out, FA1.out, FA2.out, FA3.out, FA4.out, FX.out, FG.out, FM1.out, FM2.out⟩)
                · skip
                  refine box_step ?hg (N := 14) ?hd (cs := #[.slice none 0 0, .slice none 0 0]) (t := 29) ?hr ?_; (case hd => rfl); (case hg => rfl); (case hr => first | (go_simp; done) | (go_simp; rfl))
                  intro gx_7 hg V7_5 hbox hb
                  have FG := Aside0.mk (show wr_7.heap.size ≤ gx_7 by rw [hg]; exact HBr.out.size)
                  have FX := Aside0.mk hbox
                  replace FA1 := Aside0.mk (Kd.C_below FA1.out hb)
                  replace FA3 := Aside0.mk (Kd.C_below FA3.out hb)
                  replace HBr := Aside0.mk (below_step HBr.out hb)
                  clear hbox hb hg
                  refine hK.out _ _ (HSok _ HBr.out) (fun hHeld => ?_)
                  clear hK K
                  refine norm_ (a' := ?_) ?_ ?_
                  rotate_left
                  · show Act.put _ (some 14) _ = _
                    simp only [Act.put, List.setIfInBounds_toArray, List.set_cons_zero, List.set_cons_succ, i64_w, i32_w]
                    rfl
                  exact norm_ (by first | (simp only [putAll, Act.put, List.setIfInBounds_toArray, List.set_cons_zero, List.set_cons_succ]; done) | (simp only [putAll, Act.put, List.setIfInBounds_toArray, List.set_cons_zero, List.set_cons_succ]; rfl)) (hJABX (Aa_7, ca_7, Ba_7, cb_7, gx_7) _ ⟨HBr.out, FA1.out, FA2.out, FA3.out, FA4.out, FX.out, FG.out⟩)
              · skip
                refine box_step ?hg (N := 14) ?hd (cs := #[.slice none 0 0, .slice none 0 0]) (t := 29) ?hr ?_; (case hd => rfl); (case hg => rfl); (case hr => first | (go_simp; done) | (go_simp; rfl))
                intro gx_7 hg V7_6 hbox hb
                have FG := Aside0.mk (show wr_7.heap.size ≤ gx_7 by rw [hg]; exact HBr.out.size)
                have FX := Aside0.mk hbox
                replace FA1 := Aside0.mk (Kd.C_below FA1.out hb)
                replace FA3 := Aside0.mk (Kd.C_below FA3.out hb)
                replace HBr := Aside0.mk (below_step HBr.out hb)
                clear hbox hb hg
                refine hK.out _ _ (HSok _ HBr.out) (fun hHeld => ?_)
                clear hK K
                refine norm_ (a' := ?_) ?_ ?_
                rotate_left
                · show Act.put _ (some 14) _ = _
                  simp only [Act.put, List.setIfInBounds_toArray, List.set_cons_zero, List.set_cons_succ, i64_w, i32_w]
                  rfl
                exact norm_ (by first | (simp only [putAll, Act.put, List.setIfInBounds_toArray, List.set_cons_zero, List.set_cons_succ]; done) | (simp only [putAll, Act.put, List.setIfInBounds_toArray, List.set_cons_zero, List.set_cons_succ]; rfl)) (hJAX (Aa_7, ca_7, Ba_7, cb_7, gx_7) _ ⟨HBr.out, FA1.out, FA2.out, FA3.out, FA4.out, FX.out, FG.out⟩)
            · skip
              refine box_step ?hg (N := 14) ?hd (cs := #[.slice none 0 0, .slice none 0 0]) (t := 29) ?hr ?_; (case hd => rfl); (case hg => rfl); (case hr => first | (go_simp; done) | (go_simp; rfl))
              intro gx_7 hg V7_7 hbox hb
              have FG := Aside0.mk (show wr_7.heap.size ≤ gx_7 by rw [hg]; exact HBr.out.size)
              have FX := Aside0.mk hbox
              replace HBr := Aside0.mk (below_step HBr.out hb)
              clear hbox hb hg
              refine hK.out _ _ (HSok _ HBr.out) (fun hHeld => ?_)
              clear hK K
              refine norm_ (a' := ?_) ?_ ?_
              rotate_left
              · show Act.put _ (some 14) _ = _
                simp only [Act.put, List.setIfInBounds_toArray, List.set_cons_zero, List.set_cons_succ, i64_w, i32_w]
                rfl
              refine one_ (i := 1) (N := some 81) #[true, true, true, false, false, false, false, false, true, false, false] rfl rfl (by kernel_rfl) (by decide) (fun K hK => ?_)
              refine goes_ Try.func13 (by kernel_rfl) rfl #[.agg #[.slice A0 l0.length c0, .slice A1 l1.length c1]] (by rfl) rfl rfl (by (try simp only [List.map_toArray, List.map_cons, List.map_nil]); first | done | rfl) ?_
              with_reducible refine (laws_toDesk.calls k _ _ l0 _ _ l1 d4 f4 _ ?s1 HC0.out ?s2 HC1.out E13.out).mono ?_
              (case s1 => exact Kd.C_below HR0.out (below_step HB.out HBr.out))
              (case s2 => exact Kd.C_below HR1.out (below_step HB.out HBr.out))
              rintro e V7_8 ⟨v_, u_, rfl, ho, ho2, hb⟩
              obtain ⟨Aa_7, ca_7, rfl⟩ := Kd.R_slice ho
              obtain ⟨Ba_7, cb_7, rfl⟩ := Kd.S_slice ho2
              have FA1 := Aside0.mk (Kd.R_reads' ho).2.2
              have FA2 := Aside0.mk (Kd.R_reads' ho).2.1
              have FA3 := Aside0.mk (Kd.S_reads' ho2).2.2
              have FA4 := Aside0.mk (Kd.S_reads' ho2).2.1
              replace FX := Aside0.mk (blk_below FX.out hb)
              replace HBr := Aside0.mk (below_step HBr.out hb)
              clear ho ho2 hb
              refine ⟨_, rfl, ?_⟩
              refine hK.out _ _ (HSok _ HBr.out) (fun hHeld => ?_)
              clear hK K
              refine norm_ (a' := ?_) ?_ ?_
              rotate_left
              · show Act.put _ (some 81) _ = _
                simp only [Act.put, List.setIfInBounds_toArray, List.set_cons_zero, List.set_cons_succ, i64_w, i32_w]
                rfl
              exact norm_ (by first | (simp only [putAll, Act.put, List.setIfInBounds_toArray, List.set_cons_zero, List.set_cons_succ]; done) | (simp only [putAll, Act.put, List.setIfInBounds_toArray, List.set_cons_zero, List.set_cons_succ]; rfl)) (hJAX (Aa_7, ca_7, Ba_7, cb_7, gx_7) _ ⟨HBr.out, FA1.out, FA2.out, FA3.out, FA4.out, FX.out, FG.out⟩)
          rintro ⟨Aa_7, ca_7, Ba_7, cb_7, gx_7⟩ Wj_7 ⟨h0_, h1_, h2_, h3_, h4_, h5_, h6_⟩
          replace HBr := Aside0.mk h0_
          have FA1 := Aside0.mk h1_
          have FA2 := Aside0.mk h2_
          have FA3 := Aside0.mk h3_
          have FA4 := Aside0.mk h4_
          have FX := Aside0.mk h5_
          have FG := Aside0.mk h6_
          have hHeld := HSok _ HBr.out
          clear h0_ h1_ h2_ h3_ h4_ h5_ h6_
          refine norm_ (a' := ?_) ?_ ?_
          rotate_left
          · simp only [putAll, Act.put, List.setIfInBounds_toArray, List.set_cons_zero, List.set_cons_succ]
            rfl
          refine one_ (i := 3) (N := some 83) #[true, true, true, true, false, false, false, false, true, false, false] rfl rfl (by kernel_rfl) (by decide) (fun K hK => ?_)
          refine goes_ Try.func14 (by kernel_rfl) rfl #[.agg #[.int .i64 a, .int .i64 b, .int .i64 c]] (by rfl) rfl rfl (by (try simp only [List.map_toArray, List.map_cons, List.map_nil]); first | done | rfl) ?_
          with_reducible refine (laws_toDeed.calls a b c a b c _ rfl).mono ?_
          rintro e V7_9 ⟨rfl, hb⟩
          replace FA1 := Aside0.mk (Kd.C_below FA1.out hb)
          replace FA3 := Aside0.mk (Kd.C_below FA3.out hb)
          replace FX := Aside0.mk (blk_below FX.out hb)
          replace HBr := Aside0.mk (below_step HBr.out hb)
          clear hb
          refine ⟨_, rfl, ?_⟩
          refine hK.out _ _ (HSok _ HBr.out) (fun hHeld => ?_)
          clear hK K
          refine norm_ (a' := ?_) ?_ ?_
          rotate_left
          · show Act.put _ (some 83) _ = _
            simp only [Act.put, List.setIfInBounds_toArray, List.set_cons_zero, List.set_cons_succ, i64_w, i32_w]
            rfl
          exact norm_ (by first | (simp only [putAll, Act.put, List.setIfInBounds_toArray, List.set_cons_zero, List.set_cons_succ]; done) | (simp only [putAll, Act.put, List.setIfInBounds_toArray, List.set_cons_zero, List.set_cons_succ]; rfl)) (hJABX (Aa_7, ca_7, Ba_7, cb_7, gx_7) _ ⟨HBr.out, FA1.out, FA2.out, FA3.out, FA4.out, FX.out, FG.out⟩)
        rintro ⟨Aa_7, ca_7, Ba_7, cb_7, gx_7⟩ Wj_7 ⟨h0_, h1_, h2_, h3_, h4_, h5_, h6_⟩
        replace HBr := Aside0.mk h0_
        have FA1 := Aside0.mk h1_
        have FA2 := Aside0.mk h2_
        have FA3 := Aside0.mk h3_
        have FA4 := Aside0.mk h4_
        have FX := Aside0.mk h5_
        have FG := Aside0.mk h6_
        have hHeld := HSok _ HBr.out
        clear h0_ h1_ h2_ h3_ h4_ h5_ h6_
        refine norm_ (a' := ?_) ?_ ?_
        rotate_left
        · simp only [putAll, Act.put, List.setIfInBounds_toArray, List.set_cons_zero, List.set_cons_succ]
          rfl
        refine one_ (i := 4) (N := some 84) #[true, true, true, true, true, false, false, false, true, false, false] rfl rfl (by kernel_rfl) (by decide) (fun K hK => ?_)
        refine goes_ Try.func15 (by kernel_rfl) rfl #[.agg #[.slice Aa_7 d4.length ca_7, .slice Ba_7 f4.length cb_7], .agg #[.int .i64 a, .int .i64 b, .int .i64 c]] (by rfl) rfl rfl (by (try simp only [List.map_toArray, List.map_cons, List.map_nil]); first | done | rfl) ?_
        with_reducible refine (impl_DeskDo.calls k _ _ d4 _ _ f4 a b c h1 h2 b2 _ ?s1 ?s2 ?s3 ?s4 E14.out).mono ?_
        (case s1 => exact FA1.out)
        (case s2 => exact FA2.out)
        (case s3 => exact FA3.out)
        (case s4 => exact FA4.out)
        rintro e V7_10 ⟨v_, u_, rfl, ho, ho2, hb⟩
        obtain ⟨Am_7, cm_7, rfl⟩ := Kd.R_slice ho
        obtain ⟨Bm_7, cn_7, rfl⟩ := Kd.S_slice ho2
        have FM1 := Aside0.mk (Kd.R_mono (Kd.R_lower ho HBr.out.size) (fun _ _ => trivial))
        have FM2 := Aside0.mk (Kd.S_lower ho2 HBr.out.size)
        replace FA1 := Aside0.mk (Kd.C_below FA1.out hb)
        replace FA3 := Aside0.mk (Kd.C_below FA3.out hb)
        replace FX := Aside0.mk (blk_below FX.out hb)
        replace HBr := Aside0.mk (below_step HBr.out hb)
        clear ho ho2 hb
        refine ⟨_, rfl, ?_⟩
        refine hK.out _ _ (HSok _ HBr.out) (fun hHeld => ?_)
        clear hK K
        refine norm_ (a' := ?_) ?_ ?_
        rotate_left
        · show Act.put _ (some 84) _ = _
          simp only [Act.put, List.setIfInBounds_toArray, List.set_cons_zero, List.set_cons_succ, i64_w, i32_w]
          rfl
        refine pure_ (i := 5) (N := some 79) (v := ?_) (a' := ?_) #[true, true, true, true, true, true, false, false, true, false, false] rfl rfl (by kernel_rfl) (fun _ _ _ h => h) (Or.inl ⟨by rfl, ?_⟩) ?_ ?_
        rotate_left
        · intro w'
          go_simp
          with_reducible rfl
        rotate_left
        · simp only [Act.put, List.setIfInBounds_toArray, List.set_cons_zero, List.set_cons_succ, i64_w, i32_w]
          rfl
        refine pure_ (i := 6) (N := some 85) (v := ?_) (a' := ?_) #[true, true, true, true, true, true, true, false, true, false, false] rfl rfl (by kernel_rfl) (fun _ _ _ h => h) (Or.inl ⟨by rfl, ?_⟩) ?_ ?_
        rotate_left
        · intro w'
          go_simp
          with_reducible rfl
        rotate_left
        · simp only [Act.put, List.setIfInBounds_toArray, List.set_cons_zero, List.set_cons_succ, i64_w, i32_w]
          rfl
        refine pure_ (i := 7) (N := some 86) (v := ?_) (a' := ?_) #[true, true, true, true, true, true, true, true, true, false, false] rfl rfl (by kernel_rfl) (fun _ _ _ h => h) (Or.inl ⟨by rfl, ?_⟩) ?_ ?_
        rotate_left
        · intro w'
          go_simp
          with_reducible rfl
        rotate_left
        · simp only [Act.put, List.setIfInBounds_toArray, List.set_cons_zero, List.set_cons_succ, i64_w, i32_w]
          rfl
        exact norm_ (by first | (simp only [putAll, Act.put, List.setIfInBounds_toArray, List.set_cons_zero, List.set_cons_succ]; done) | (simp only [putAll, Act.put, List.setIfInBounds_toArray, List.set_cons_zero, List.set_cons_succ]; rfl)) (hJABMX (Aa_7, ca_7, Ba_7, cb_7, gx_7, Am_7, cm_7, Bm_7, cn_7) _ ⟨HBr.out, FA1.out, FA2.out, FA3.out, FA4.out, FX.out, FG.out, FM1.out, FM2.out⟩)
      rintro ⟨Aa_7, ca_7, Ba_7, cb_7, gx_7, Am_7, cm_7, Bm_7, cn_7⟩ Wj_7 ⟨h0_, h1_, h2_, h3_, h4_, h5_, h6_, h7_, h8_⟩
      replace HBr := Aside0.mk h0_
      have FA1 := Aside0.mk h1_
      have FA2 := Aside0.mk h2_
      have FA3 := Aside0.mk h3_
      have FA4 := Aside0.mk h4_
      have FX := Aside0.mk h5_
      have FG := Aside0.mk h6_
      have FM1 := Aside0.mk h7_
      have FM2 := Aside0.mk h8_
      have hHeld := HSok _ HBr.out
      clear h0_ h1_ h2_ h3_ h4_ h5_ h6_ h7_ h8_
      refine norm_ (a' := ?_) ?_ ?_
      rotate_left
      · simp only [putAll, Act.put, List.setIfInBounds_toArray, List.set_cons_zero, List.set_cons_succ]
        rfl
      refine one_ (i := 9) (N := none) #[true, true, true, true, true, true, true, true, true, true, false] rfl rfl (by kernel_rfl) (by decide) (fun K hK => ?_)
      have hx0_ : Wj_7.cell? ⟨gx_7, 0, none⟩ = some (.slice none 0 0) := (blk_cell FX.out 0).trans rfl
      have hf0_ := blk_frozen FX.out 0
      have hx1_ : Wj_7.cell? ⟨gx_7, 1, none⟩ = some (.slice none 0 0) := (blk_cell FX.out 1).trans rfl
      have hf1_ := blk_frozen FX.out 1
      refine skip_ (w1 := ?_) (by rfl) rfl ?_ ?_
      rotate_left
      · go_simp
        rfl
      have HBf := Aside0.mk (below_set (j := 1) (v := .slice Bm_7 h2.length cn_7) (below_set (j := 0) (v := .slice Am_7 h1.length cm_7) HBr.out FG.out) FG.out)
      refine hK.out _ _ (HSok _ HBf.out) (fun hHeld => ?_)
      clear hK K hx0_ hx1_ hf0_ hf1_
      refine pure_ (i := 10) (N := some 15) (v := ?_) (a' := ?_) #[true, true, true, true, true, true, true, true, true, true, true] rfl rfl (by kernel_rfl) (fun _ _ _ h => h) (Or.inl ⟨by rfl, ?_⟩) ?_ ?_
      rotate_left
      · intro w'
        go_simp
        with_reducible rfl
      rotate_left
      · simp only [Act.put, List.setIfInBounds_toArray, List.set_cons_zero, List.set_cons_succ, i64_w, i32_w]
        rfl
      refine done_ (by kernel_rfl) ?_
      replace HO3 := Aside0.mk (Kd.R_below HO3.out HBf.out)
      replace HP3 := Aside0.mk (Kd.V_below HP3.out HBf.out)
      replace HO5 := Aside0.mk (Kd.R_below HO5.out HBf.out)
      replace HP5 := Aside0.mk (Kd.S_below HP5.out HBf.out)
      replace HXp := Aside0.mk (blk_below HXp.out HBf.out)
      replace HXq := Aside0.mk (blk_below HXq.out HBf.out)
      replace HX3 := Aside0.mk (blk_below HX3.out HBf.out)
      replace HX4 := Aside0.mk (blk_below HX4.out HBf.out)
      replace HX5 := Aside0.mk (blk_below HX5.out HBf.out)
      replace HB := Aside0.mk (below_step HB.out HBf.out)
      have HX7 := Aside0.mk (blk_put (cs := #[.slice Am_7 h1.length cm_7, .slice none 0 0]) (blk_put (cs := #[.slice none 0 0, .slice none 0 0]) FX.out 0 (.slice Am_7 h1.length cm_7) rfl) 1 (.slice Bm_7 h2.length cn_7) rfl)
      have HO7 := Aside0.mk (Kd.R_lower (Kd.R_mono (Kd.R_bound (Kd.R_far (p := ⟨gx_7, 1, none⟩) (Kd.R_far (p := ⟨gx_7, 0, none⟩) (Kd.R_types FM1.out FX.out (by decide)) (fun _ hk => hk.2) (.slice Am_7 h1.length cm_7)) (fun _ hk => hk.2) (.slice Bm_7 h2.length cn_7))) (fun k hk => (⟨⟨hk.2.1, hk.2.2.1⟩, hk.1.2⟩ : (wr_7.heap.size ≤ k ∧ k < ((Wj_7.setCell ⟨gx_7, 0, none⟩ (.slice Am_7 h1.length cm_7)).setCell ⟨gx_7, 1, none⟩ (.slice Bm_7 h2.length cn_7)).heap.size) ∧ k ≠ gx_7))) (show w.heap.size ≤ wr_7.heap.size from HBw.out.size))
      have HP7 := Aside0.mk (Kd.S_lower (Kd.S_mono (Kd.S_bound (Kd.S_far (p := ⟨gx_7, 1, none⟩) (Kd.S_far (p := ⟨gx_7, 0, none⟩) (Kd.S_types FM2.out FX.out (by decide)) (fun _ hk => hk.2) (.slice Am_7 h1.length cm_7)) (fun _ hk => hk.2) (.slice Bm_7 h2.length cn_7))) (fun k hk => (⟨⟨⟨hk.2.1, hk.2.2.1⟩, hk.1.2⟩, hk.1.1⟩ : ((wr_7.heap.size ≤ k ∧ k < ((Wj_7.setCell ⟨gx_7, 0, none⟩ (.slice Am_7 h1.length cm_7)).setCell ⟨gx_7, 1, none⟩ (.slice Bm_7 h2.length cn_7)).heap.size) ∧ k ≠ gx_7) ∧ some k ≠ (.slice Am_7 h1.length cm_7 : Value).ownBlock))) (show w.heap.size ≤ wr_7.heap.size from HBw.out.size))
      have HQ7 := Aside0.mk (show (_ ≤ wr_7.heap.size ∧ wr_7.heap.size ≤ ((Wj_7.setCell ⟨gx_7, 0, none⟩ (.slice Am_7 h1.length cm_7)).setCell ⟨gx_7, 1, none⟩ (.slice Bm_7 h2.length cn_7)).heap.size) ∧ (wr_7.heap.size ≤ gx_7 ∧ gx_7 < ((Wj_7.setCell ⟨gx_7, 0, none⟩ (.slice Am_7 h1.length cm_7)).setCell ⟨gx_7, 1, none⟩ (.slice Bm_7 h2.length cn_7)).heap.size) from ⟨⟨HZ.out, HBf.out.size⟩, ⟨FG.out, blk_lt HX7.out⟩⟩)
      replace HZ := Aside0.mk (Nat.le_refl ((Wj_7.setCell ⟨gx_7, 0, none⟩ (.slice Am_7 h1.length cm_7)).setCell ⟨gx_7, 1, none⟩ (.slice Bm_7 h2.length cn_7)).heap.size)
      clear HBf HBr HBw FX FM1 FM2 HSok hHeld FA1 FA2 FA3 FA4
      generalize ((Wj_7.setCell ⟨gx_7, 0, none⟩ (.slice Am_7 h1.length cm_7)).setCell ⟨gx_7, 1, none⟩ (.slice Bm_7 h2.length cn_7)) = W7f at HO3 HP3 HO5 HP5 HXp HXq HX3 HX4 HX5 HX7 HO7 HP7 HQ7 HB HZ ⊢
      have HXpa := cell2_0 HXp.out
      have HXpb := cell2_1 HXp.out
      have HXqa := cell3_0 HXq.out
      have HXqb := cell3_1 HXq.out
      have HXqc := cell3_2 HXq.out
      have HX3a := cell2_0 HX3.out
      have HX3b := cell2_1 HX3.out
      have HX4a := cell2_0 HX4.out
      have HX4b := cell2_1 HX4.out
      have HX5a := cell2_0 HX5.out
      have HX5b := cell2_1 HX5.out
      have HX7a := cell2_0 HX7.out
      have HX7b := cell2_1 HX7.out
      go_wp2_with (first
        | (go_at_call 16; (with_reducible refine (laws_eqDesk.calls k _ _ h1 _ _ h2 _ _ w1 _ _ w2 true _ (Kd.R_reads' HO7.out).2.2 (Kd.R_reads' HO7.out).2.1 (Kd.S_reads' HP7.out).2.2 (Kd.S_reads' HP7.out).2.1 (Kd.R_reads' HO3.out).2.2 (Kd.R_reads' HO3.out).2.1 (Kd.V_reads' HP3.out).2.2 (Kd.V_reads' HP3.out).2.1 E15.out).mono ?_); clear E15; rintro e W15 ⟨rfl, hb⟩; have n_ := Aside0.mk (Kd.R_below HO3.out hb); clear HO3; have HO3 := n_; clear n_; have n_ := Aside0.mk (Kd.V_below HP3.out hb); clear HP3; have HP3 := n_; clear n_; have n_ := Aside0.mk (Kd.R_below HO5.out hb); clear HO5; have HO5 := n_; clear n_; have n_ := Aside0.mk (Kd.S_below HP5.out hb); clear HP5; have HP5 := n_; clear n_; have n_ := Aside0.mk (Kd.R_below HO7.out hb); clear HO7; have HO7 := n_; clear n_; have n_ := Aside0.mk (Kd.S_below HP7.out hb); clear HP7; have HP7 := n_; clear n_; have n_ := Aside0.mk (blk_below HXp.out hb); clear HXp HXpa HXpb; have HXp := n_; clear n_; have HXpa := cell2_0 HXp.out; have HXpb := cell2_1 HXp.out; have n_ := Aside0.mk (blk_below HXq.out hb); clear HXq HXqa HXqb HXqc; have HXq := n_; clear n_; have HXqa := cell3_0 HXq.out; have HXqb := cell3_1 HXq.out; have HXqc := cell3_2 HXq.out; have n_ := Aside0.mk (blk_below HX3.out hb); clear HX3 HX3a HX3b; have HX3 := n_; clear n_; have HX3a := cell2_0 HX3.out; have HX3b := cell2_1 HX3.out; have n_ := Aside0.mk (blk_below HX4.out hb); clear HX4 HX4a HX4b; have HX4 := n_; clear n_; have HX4a := cell2_0 HX4.out; have HX4b := cell2_1 HX4.out; have n_ := Aside0.mk (blk_below HX5.out hb); clear HX5 HX5a HX5b; have HX5 := n_; clear n_; have HX5a := cell2_0 HX5.out; have HX5b := cell2_1 HX5.out; have n_ := Aside0.mk (blk_below HX7.out hb); clear HX7 HX7a HX7b; have HX7 := n_; clear n_; have HX7a := cell2_0 HX7.out; have HX7b := cell2_1 HX7.out; have n_ := Aside0.mk (below_step HB.out hb); clear HB; have HB := n_; clear n_; have n_ := Aside0.mk (Nat.le_trans HZ.out hb.size); clear HZ; have HZ := n_; clear n_ hb)
        | (go_at_call 18; (with_reducible refine (laws_heldDesk.calls k _ _ y2 _ _ y3 1 q3 _ (Kd.R_reads' HO5.out).2.2 (Kd.R_reads' HO5.out).2.1 (Kd.S_reads' HP5.out).2.2 (Kd.S_reads' HP5.out).2.1 E16.out).mono ?_); clear E16; rintro e W16 ⟨rfl, hb⟩; have n_ := Aside0.mk (Kd.R_below HO3.out hb); clear HO3; have HO3 := n_; clear n_; have n_ := Aside0.mk (Kd.V_below HP3.out hb); clear HP3; have HP3 := n_; clear n_; have n_ := Aside0.mk (Kd.R_below HO5.out hb); clear HO5; have HO5 := n_; clear n_; have n_ := Aside0.mk (Kd.S_below HP5.out hb); clear HP5; have HP5 := n_; clear n_; have n_ := Aside0.mk (Kd.R_below HO7.out hb); clear HO7; have HO7 := n_; clear n_; have n_ := Aside0.mk (Kd.S_below HP7.out hb); clear HP7; have HP7 := n_; clear n_; have n_ := Aside0.mk (blk_below HXp.out hb); clear HXp HXpa HXpb; have HXp := n_; clear n_; have HXpa := cell2_0 HXp.out; have HXpb := cell2_1 HXp.out; have n_ := Aside0.mk (blk_below HXq.out hb); clear HXq HXqa HXqb HXqc; have HXq := n_; clear n_; have HXqa := cell3_0 HXq.out; have HXqb := cell3_1 HXq.out; have HXqc := cell3_2 HXq.out; have n_ := Aside0.mk (blk_below HX3.out hb); clear HX3 HX3a HX3b; have HX3 := n_; clear n_; have HX3a := cell2_0 HX3.out; have HX3b := cell2_1 HX3.out; have n_ := Aside0.mk (blk_below HX4.out hb); clear HX4 HX4a HX4b; have HX4 := n_; clear n_; have HX4a := cell2_0 HX4.out; have HX4b := cell2_1 HX4.out; have n_ := Aside0.mk (blk_below HX5.out hb); clear HX5 HX5a HX5b; have HX5 := n_; clear n_; have HX5a := cell2_0 HX5.out; have HX5b := cell2_1 HX5.out; have n_ := Aside0.mk (blk_below HX7.out hb); clear HX7 HX7a HX7b; have HX7 := n_; clear n_; have HX7a := cell2_0 HX7.out; have HX7b := cell2_1 HX7.out; have n_ := Aside0.mk (below_step HB.out hb); clear HB; have HB := n_; clear n_; have n_ := Aside0.mk (Nat.le_trans HZ.out hb.size); clear HZ; have HZ := n_; clear n_ hb))
      go_ret
      exact ⟨rfl, HB.out⟩
    · rw [if_neg z] at h
      cases h

end Go.Proofs.Ytbbhdgpiocojaaa.LA
