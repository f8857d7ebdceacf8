/- Printed out of the translation: functions with the answers of the Go code, and their contracts; no further conditions. -/
import Derived.Test.YtnpoeeliaolbaaaGreatDoorRows
import Derived.Test.YtnpoeeliaolbaaaGreatDoorCards
import Derived.Test.YtnpoeeliaolbaaaGreatDoorTie
import Derived.Test.YtnpoeeliaolbaaaGreatDoorLAx30
import Derived.Test.YtnpoeeliaolbaaaGreatDoorPureFnReadJournal
import Derived.Test.YtnpoeeliaolbaaaGreatDoorUOpen
import Derived.WalkKit
import Derived.ProofKit
import Derived.OpenShut
import Derived.ShutString
import Derived.ChangeOld
import Derived.Below
import Derived.SizedLaws
import Derived.LaidMore
import Derived.Stop.Joined
import Derived.SevenTiedAt
import Derived.JoinedOf
import Derived.Lay
import Derived.Shelf.Vars
import Derived.Carry
namespace Go.Proofs.YtnpoeeliaolbaaaGreatDoor.fnReadJournal
open Go.ChangeShapes Go.WideShapes Go.ChangeAt Go.RowKit Go.Proofs.YtnpoeeliaolbaaaGreatDoorV.PrintWords
open Go.ChangeMaps (open_string shut_string)
set_option linter.unusedVariables false
theorem own : ownKnob Tryz.prog.godebug = none := by kernel_rfl
theorem gWords : Tryz.prog.globalNamed "loop.example/headtrees/impl.words" = some 0 := by kernel_rfl
theorem tWords : (Tryz.prog.globals[0]?).map (·.type) = some 65 := by kernel_rfl
theorem door_met (os : Os) (args : Array Value) : laidMetH Tryz.prog Rows.fnReadJournalRow.laid ((World.laidAll Tryz.prog os Rows.fnReadJournalRow.laid).forCall (fun _ _ => 0) ⟨#[], args, []⟩).memory :=
  by rw [MakeChecks.laidMetH_plain _ _ _ (by kernel_rfl)]; exact laidMet_laidAll _ (by kernel_rfl) (by kernel_rfl)
theorem tab {W : World} (h : laidMetH Tryz.prog Rows.fnReadJournalRow.laid W) (hs : W.ShapedOpen Tryz.prog) : TabR W := by
  rw [MakeChecks.laidMetH_plain _ _ _ (by kernel_rfl)] at h
  exact ⟨tab_of_laid Tryz.underlying65 Tryz.underlying9 (by kernel_rfl) gWords tWords h.tail.tail.tail.tail.tail.tail, cell_of_shapedOpen_int (g := 1) (t := 3) (zero := #[.int .i64 0]) hs (of_decide_eq_true (by kernel_rfl)) (by kernel_rfl) rfl (by kernel_rfl) (by kernel_rfl) Tryz.underlying3,
    err_of_laid (g := 2) (t := 74) (by kernel_rfl) (by kernel_rfl) Tryz.underlying74 h.tail.tail.tail.tail.tail, err_of_laid (g := 3) (t := 74) (by kernel_rfl) (by kernel_rfl) Tryz.underlying74 h.tail.tail.tail.tail⟩
theorem laidOut : laidOutB Tryz.prog = true := by kernel_rfl
set_option maxRecDepth 100000 in
theorem lifted (os : Os) (started : os.Started) (H : Type) (enc : TypeId × Value → H) :
    ReturnsInHanded {} Tryz.checked os 3 .any (fun w args => (Rows.fnReadJournalSpec.pre enc Tryz.prog Tryz.f3 [] false w args ∧ laidMetH Tryz.prog Rows.fnReadJournalRow.laid w) ∧ sizedMet enc Tryz.prog Tryz.f3 (OpenSpec.ofChange Rows.fnReadJournalSpec) false w args) (Rows.fnReadJournalSpec.post enc Tryz.prog Tryz.f3 false true false false) := by
  refine returns_told (C := Tryz.checked) (X := fun w _ => laidMetH Tryz.prog Rows.fnReadJournalRow.laid w) (fun _ _ _ hh h => h.of_heap hh) own started (by kernel_rfl) Tryz.func3
    (ChangeSpec.witness_shaped (enc := enc) (C := Tryz.checked) (os := os) (X := fun w _ => laidMetH Tryz.prog Rows.fnReadJournalRow.laid w) false (World.laidAll Tryz.prog os Rows.fnReadJournalRow.laid) #[.slice none 0 0, .slice none 0 0] 8 (World.laidAll_os _ _ _) (World.shaped_of_ZipB (by kernel_rfl) (by kernel_rfl)) (by kernel_rfl) (by kernel_rfl) (by kernel_rfl) (door_met os _)) ?_
  intro W base args ds gs before hval0 hW hcnd hsz0 hL hSh _
  have hval : ∀ (j : Nat) t v, Tryz.f3.params[j]? = some t → args[j]? = some v → Value.okWide Tryz.prog W .any base t v := hval0
  have hW' := hW
  obtain ⟨p, q, hA0, hV, rfl, hfz, hnd⟩ := hW
  have hA : DataW.TrodAll enc Tryz.prog W 0 (fun _ => true) true Tryz.f3.params.toList args.toList ds p := hA0
  rw [Tryz.params3] at hA hval
  obtain ⟨v0, vs0, d0, ds0, p0, q0, hargs, rfl, rfl, h0, r0⟩ := trodAll_cons hA
  obtain ⟨v1, vs1, d1, ds1, p1, q1, rfl, rfl, rfl, h1, r1⟩ := trodAll_cons r0
  obtain ⟨rfl, rfl, rfl⟩ := trodAll_nil r1
  obtain rfl : args = #[v0, v1] := by cases args; simp_all
  have hV1 : DataW.TrodVars enc Tryz.prog W (fun _ => true) ["loop.example/headtrees/impl.words"] gs q := hV
  obtain ⟨a0, len0, cap0, rfl⟩ := okWide_slice Tryz.underlying22 (hval 0 22 v0 rfl rfl)
  have k0 := h0
  have lt0 : ∀ x ∈ p0, x.block < W.heap.size := by obtain ⟨m, hm⟩ := k0; exact DataW.trod_lt m _ _ _ hm
  obtain ⟨l0, e0, c0, z0, m0, g0⟩ := opened_slice (d := (Kd.int .u8)) h0 (opens_slice Tryz.underlying22 (by kernel_rfl) (opens_int Tryz.underlying5))
  subst e0
  obtain ⟨a1, len1, cap1, rfl⟩ := okWide_slice Tryz.underlying22 (hval 1 22 v1 rfl rfl)
  have k1 := h1
  have lt1 : ∀ x ∈ p1, x.block < W.heap.size := by obtain ⟨m, hm⟩ := k1; exact DataW.trod_lt m _ _ _ hm
  obtain ⟨l1, e1, c1, z1, m1, g1⟩ := opened_slice (d := (Kd.int .u8)) h1 (opens_slice Tryz.underlying22 (by kernel_rfl) (opens_int Tryz.underlying5))
  subst e1
  clear hA0 hval0 hsz0
  obtain ⟨k_, hk_⟩ := Pure.FnReadJournal l0 l1 m0 g0 m1 g1
  refine (LA.F3.calls k_ a0 cap0 l0 a1 cap1 l1 true W z0 c0 z1 c1 (tab hL hSh) hk_).mono fun e W' ⟨he, bel⟩ => ?_
  subst he
  obtain ⟨dv, pv, rfl, hv'⟩ := told_vars laidOut (by kernel_rfl) (of_decide_eq_true (by kernel_rfl)) Tryz.underlying65 Tryz.underlying9 (by kernel_rfl) gWords tWords hV1 bel
  exact ⟨_, rfl, _, _, _, [], _, pv, hW', trodAll_mk1 (shut_bool Tryz.underlying4 _), (trodAll_cons_mk (Below.trod laidOut (by kernel_rfl) (of_decide_eq_true (by kernel_rfl)) k0 bel lt0) (trodAll_cons_mk (Below.trod laidOut (by kernel_rfl) (of_decide_eq_true (by kernel_rfl)) k1 bel lt1) trodAll_mk0)), hv', bel.frame _, fun h => by cases h⟩
theorem over : Rows.fnReadJournalRow.holds Tryz.pinned (OpenSpec.ofChange Rows.fnReadJournalSpec) :=
  OpenClaim.holds_of_wide 3 Tryz.f3 rfl rfl rfl rfl rfl rfl rfl ⟨rfl, rfl, rfl, rfl, rfl⟩ rfl rfl rfl rfl rfl (by kernel_rfl) Tryz.func3 (by kernel_rfl)
    (of_decide_eq_true (by kernel_rfl)) (by unfold Func.isWrapper; first | (rw [if_pos (by decide +kernel)]; kernel_rfl) | (rw [if_neg (by decide +kernel)]; exact ⟨rfl, rfl⟩))
    (fun os started H enc _ => lifted os started H enc)
theorem card_holds : Rows.FnReadJournalCardSaid :=
  Claim7.holds_tied_plain_at .later [] [.data, .data, .data, .data, .sentinel, .sentinel, .widerDeep, .pinned] true (true, "4a5bbdb09a449345ea85b06bea2a37ac195f8426d6ad667f824a75dc05088531") true
    over (fun _ h => by cases h) (by kernel_rfl) (fun _ h => by cases h) fnReadJournal_row_tie rfl ⟨rfl, rfl⟩ (by kernel_rfl) rfl
    (fun f fn hf hfn => by
      obtain rfl : f = 3 := Option.some.inj ((show Tryz.prog.funcNamed "loop.example/headtrees/laws.FnReadJournal" = some 3 by kernel_rfl).symm.trans hf) |>.symm
      obtain rfl : fn = Tryz.f3 := (Option.some.inj (Tryz.func3.symm.trans hfn)).symm
      exact ⟨by kernel_rfl, fun j t ht => by
        rw [Tryz.params3] at ht
        have hm : t ∈ [22, 22] := by simpa using Array.mem_of_getElem? ht
        have hall : ([22, 22].all fun u => !Tryz.prog.wantsStandIn u) = true := by kernel_rfl
        exact (show Tryz.prog.wantsStandIn t = false by simpa using List.all_eq_true.1 hall t hm)⟩)
    (by kernel_rfl)
#print axioms card_holds
end Go.Proofs.YtnpoeeliaolbaaaGreatDoor.fnReadJournal
namespace Go.Proofs.YtnpoeeliaolbaaaGreatDoor
theorem fnReadJournal_holds : Rows.FnReadJournalCardSaid := fnReadJournal.card_holds
end Go.Proofs.YtnpoeeliaolbaaaGreatDoor
