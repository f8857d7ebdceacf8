/- Printed by a program of this session (wip/lp/lp.py) out of the translation: the row of a law out of its plain statement; no conditions beyond those that each theorem names. -/
import Derived.Test.YtbbhdgpiocojaaaRows
import Derived.Test.YtbbhdgpiocojaaaLAx15
import Derived.Test.YtbbhdgpiocojaaaPureFnExactDeskDo
import Derived.Test.YtbbhdgpiocojaaaUOpen
import Derived.WalkKit
import Derived.ProofKit
import Derived.OpenShut
import Derived.ShutString
import Derived.ChangeOld
import Derived.Below
import Derived.SizedLaws
import Derived.Lib.SmallJoins
namespace Go.Proofs.Ytbbhdgpiocojaaa.fnExactDeskDo
open Go.ChangeShapes Go.WideShapes Go.ChangeAt Go.RowKit Go.Proofs.YtbbhdgpiocojaaaV.PrintWords
open Go.ChangeMaps (open_string shut_string)
set_option linter.unusedVariables false
theorem own : ownKnob Try.prog.godebug = none := by kernel_rfl
theorem laidOut : laidOutB Try.prog = true := by kernel_rfl
set_option maxRecDepth 100000 in
theorem lifted (os : Os) (started : os.Started) (H : Type) (enc : TypeId × Value → H) :
    ReturnsInHanded {} Try.checked os 3 .any (Rows.fnExactDeskDoSpec.pre6 enc Try.prog Try.f3 Rows.fnExactDeskDoRow.domain false) (Rows.fnExactDeskDoSpec.post enc Try.prog Try.f3 false true false false) := by
  refine returnsInHanded_of_change_sized (C := Try.checked) own started (by kernel_rfl) Try.func3
    (ChangeSpec.witness6 (enc := enc) (C := Try.checked) false ⟨#[], #[.agg #[.slice none 0 0, .slice none 0 0], .agg #[.int .i64 0, .int .i64 0, .int .i64 0]], []⟩ 8 (by kernel_rfl) (by kernel_rfl) (by kernel_rfl) (by kernel_rfl)) ?_
  intro W base args ds gs before hval0 hW hcnd hsz0 _
  have hval : ∀ (j : Nat) t v, Try.f3.params[j]? = some t → args[j]? = some v → Value.okWide Try.prog W .any base t v := hval0
  have hW' := hW
  obtain ⟨p, q, hA0, hV, rfl, hfz, hnd⟩ := hW
  have hA : DataW.TrodAll enc Try.prog W 0 (fun _ => true) true Try.f3.params.toList args.toList ds p := hA0
  rw [Try.params3] at hA hval
  obtain ⟨v0, vs0, d0, ds0, p0, q0, hargs, rfl, rfl, h0, r0⟩ := trodAll_cons hA
  obtain ⟨v1, vs1, d1, ds1, p1, q1, rfl, rfl, rfl, h1, r1⟩ := trodAll_cons r0
  obtain ⟨rfl, rfl, rfl⟩ := trodAll_nil r1
  obtain rfl : args = #[v0, v1] := by cases args; simp_all
  obtain ⟨rfl, rfl⟩ := trodVars_none hV
  have k0 := h0
  have lt0 : ∀ x ∈ p0, x.block < W.heap.size := by obtain ⟨m, hm⟩ := k0; exact DataW.trod_lt m _ _ _ hm
  obtain ⟨v0_0, v0_1, y0_0, y0_1, n0, rfl, rfl, rfl, g0_0, g0_1⟩ := Go.Joins.open_agg2 Try.underlying25 (by kernel_rfl) (by kernel_rfl) (hval 0 25 v0 rfl rfl) h0
  obtain ⟨l0_0, ⟨a0_0, cap0_0, e0_0, c0_0, z0_0⟩, m0_0, gg0_0⟩ := (opens_slice Try.underlying22 (by kernel_rfl) (opens_int Try.underlying3)) _ _ _ g0_0
  obtain rfl := (List.cons.inj e0_0).1
  obtain ⟨l0_1, ⟨a0_1, cap0_1, e0_1, c0_1, z0_1⟩, m0_1, gg0_1⟩ := (opens_slice Try.underlying23 (by kernel_rfl) (opens_slice Try.underlying22 (by kernel_rfl) (opens_int Try.underlying3))) _ _ _ g0_1
  obtain rfl := (List.cons.inj e0_1).1
  have k1 := h1
  have lt1 : ∀ x ∈ p1, x.block < W.heap.size := by obtain ⟨m, hm⟩ := k1; exact DataW.trod_lt m _ _ _ hm
  obtain ⟨v1_0, v1_1, v1_2, y1_0, y1_1, y1_2, n1, rfl, rfl, rfl, g1_0, g1_1, g1_2⟩ := Go.Joins.open_agg3 Try.underlying27 (by kernel_rfl) (by kernel_rfl) (hval 1 27 v1 rfl rfl) h1
  obtain ⟨a1_0, e1_0, w1_0⟩ := (opens_int Try.underlying3) _ _ _ g1_0
  obtain rfl := (List.cons.inj e1_0).1
  obtain ⟨a1_1, e1_1, w1_1⟩ := (opens_int Try.underlying3) _ _ _ g1_1
  obtain rfl := (List.cons.inj e1_1).1
  obtain ⟨a1_2, e1_2, w1_2⟩ := (opens_int Try.underlying3) _ _ _ g1_2
  obtain rfl := (List.cons.inj e1_2).1
  clear hA0 hval0 hsz0
  obtain ⟨k_, hk_⟩ := Pure.FnExactDeskDo l0_0 l0_1 a1_0 a1_1 a1_2 m0_0 gg0_0 m0_1 gg0_1 w1_0 w1_1 w1_2
  refine (LA.laws_FnExactDeskDo.calls k_ a0_0 cap0_0 l0_0 a0_1 cap0_1 l0_1 a1_0 a1_1 a1_2 true W z0_0 c0_0 z0_1 c0_1 hk_).mono fun e W' ⟨he, bel⟩ => ?_
  subst he
  exact ⟨_, rfl, _, _, _, [], _, [], hW', trodAll_mk1 (shut_bool Try.underlying4 _), (trodAll_cons_mk (Below.trod laidOut (by kernel_rfl) (of_decide_eq_true (by kernel_rfl)) k0 bel lt0) (trodAll_cons_mk (Below.trod laidOut (by kernel_rfl) (of_decide_eq_true (by kernel_rfl)) k1 bel lt1) trodAll_mk0)), rfl, bel.frame _, fun h => by cases h⟩
theorem over : Rows.fnExactDeskDoRow.holds Try.pinned (OpenSpec.ofChange Rows.fnExactDeskDoSpec) :=
  OpenClaim.holds_of_wide 3 Try.f3 rfl rfl rfl rfl rfl rfl rfl ⟨rfl, rfl, rfl, rfl, rfl⟩ rfl rfl rfl rfl rfl (by kernel_rfl) Try.func3 (by kernel_rfl)
    (of_decide_eq_true (by kernel_rfl)) (by unfold Func.isWrapper; first | (rw [if_pos (by decide +kernel)]; kernel_rfl) | (rw [if_neg (by decide +kernel)]; exact ⟨rfl, rfl⟩))
    (fun os started H enc _ => lifted os started H enc)
theorem proved : Rows.FnExactDeskDoSaid := over
#print axioms proved
end Go.Proofs.Ytbbhdgpiocojaaa.fnExactDeskDo
namespace Go.Proofs.Ytbbhdgpiocojaaa
/-- The row, under a short name, for the claim. -/
theorem fnExactDeskDo_holds : Rows.FnExactDeskDoSaid := fnExactDeskDo.proved
end Go.Proofs.Ytbbhdgpiocojaaa
