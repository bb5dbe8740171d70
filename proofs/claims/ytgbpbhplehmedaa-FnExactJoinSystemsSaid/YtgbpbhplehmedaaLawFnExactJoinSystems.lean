-- made by wip/tools/myprint.py over the kit's print, for this claim
import Derived.Test.YtgbpbhplehmedaaRows
import Derived.Test.YtgbpbhplehmedaaPFnExactJoinSystemsx11
import Derived.Test.YtgbpbhplehmedaaPureFnExactJoinSystems
import Derived.Test.YtgbpbhplehmedaaTOpens
import Derived.WalkKit
import Derived.ProofKit
import Derived.OpenShut
import Derived.ShutString
import Derived.ChangeOld
import Derived.Below
import Derived.SizedLaws
namespace Go.Proofs.Ytgbpbhplehmedaa.fnExactJoinSystems
open Go.ChangeShapes Go.WideShapes Go.ChangeAt Go.RowKit Go.Proofs.Ytgbpbhplehmedaa.Opens Go.Proofs.Ytgbpbhplehmedaa.PFnExactJoinSystems Go.Proofs.YtgbpbhplehmedaaW.PrintWords
open Go.ChangeMaps (open_string shut_string)
set_option linter.unusedVariables false
theorem own : ownKnob Try.prog.godebug = none := by kernel_rfl
theorem laidOut : laidOutB Try.prog = true := by kernel_rfl
set_option maxRecDepth 100000 in
set_option maxHeartbeats 4000000 in
theorem lifted (os : Os) (started : os.Started) (H : Type) (enc : TypeId × Value → H) :
    ReturnsInHanded {} Try.checked os 3 .any (Rows.fnExactJoinSystemsSpec.pre6 enc Try.prog Try.f3 Rows.fnExactJoinSystemsRow.domain false) (Rows.fnExactJoinSystemsSpec.post enc Try.prog Try.f3 false true false false) := by
  refine returnsInHanded_of_change_sized (C := Try.checked) own started (by kernel_rfl) Try.func3
    (ChangeSpec.witness6 (enc := enc) (C := Try.checked) false ⟨#[], #[.agg #[.int .i64 0, .slice none 0 0, .slice none 0 0], .agg #[.int .i64 0, .slice none 0 0, .slice none 0 0]], []⟩ 8 (by kernel_rfl) (by kernel_rfl) (by kernel_rfl) (by kernel_rfl)) ?_
  intro W base args ds gs before hval0 hW hcnd hsz0 _
  have hval : ∀ (j : Nat) t v, Try.f3.params[j]? = some t → args[j]? = some v → Value.okWide Try.prog W .any base t v := hval0
  have hW' := hW
  obtain ⟨p, q, hA0, hV, rfl, hfz, hnd⟩ := hW
  have hA : DataW.TrodAll enc Try.prog W 0 (fun _ => true) true Try.f3.params.toList args.toList ds p := hA0
  rw [Try.params3] at hA hval
  obtain ⟨v0, vs0, d0, ds0, p0, q0, hargs, rfl, rfl, h0, r0⟩ := trodAll_cons hA
  obtain ⟨v1, vs1, d1, ds1, p1, q1, rfl, rfl, rfl, h1, r1⟩ := trodAll_cons r0
  obtain ⟨rfl, rfl, rfl⟩ := trodAll_nil r1
  obtain rfl : args = #[v0, v1] := by cases args; simp_all
  obtain ⟨rfl, rfl⟩ := trodVars_none hV
  obtain ⟨cs0, rfl, hs0⟩ := okWide_struct Try.underlying25 (hval 0 25 v0 rfl rfl)
  have k0 := h0
  have lt0 : ∀ x ∈ p0, x.block < W.heap.size := by obtain ⟨m, hm⟩ := k0; exact DataW.trod_lt m _ _ _ hm
  obtain ⟨fuel0, hf0⟩ := h0
  obtain ⟨L0, hL0⟩ : ∃ L, (Value.agg cs0).cells.toList = L := ⟨_, rfl⟩
  rw [hL0] at hf0
  obtain ⟨⟨a0_0, l0_1, l0_2⟩, hK0, ⟨q0_0, q0_1, q0_2⟩⟩ := (opens_struct Try.underlying25 (by kernel_rfl) (opensL_cons rfl (opens_int Try.underlying3 (by kernel_rfl)) (opensL_cons rfl (opens_slice (d := k66) Try.underlying22 (by kernel_rfl) (opens_iso (opens_struct Try.underlying66 (by kernel_rfl) (opensL_cons rfl (opens_int Try.underlying3 (by kernel_rfl)) (opensL_one rfl (opens_slice (d := (Kd.int .i64)) Try.underlying51 (by kernel_rfl) (opens_int Try.underlying3 (by kernel_rfl)))))) (fun y => (⟨y.1, y.2⟩ : S66)) (fun y => rfl))) (opensL_one rfl (opens_slice (d := Kd.bool) Try.underlying23 (by kernel_rfl) (opens_bool Try.underlying4 (by kernel_rfl))))))).rd _ _ _ _ _ _ _ _ hf0
  obtain ⟨_, _, rfl, rfl, ⟨_, _, rfl, ⟨A0_1, c0_1, rfl, hc0_1, hr0_1⟩, ⟨A0_2, c0_2, rfl, hc0_2, hr0_2⟩⟩⟩ := hK0
  have e0 : cs0 = #[.int .i64 a0_0, .slice A0_1 l0_1.length c0_1, .slice A0_2 l0_2.length c0_2] := Array.ext' (by simpa [Value.cells] using hL0)
  subst e0
  obtain ⟨cs1, rfl, hs1⟩ := okWide_struct Try.underlying25 (hval 1 25 v1 rfl rfl)
  have k1 := h1
  have lt1 : ∀ x ∈ p1, x.block < W.heap.size := by obtain ⟨m, hm⟩ := k1; exact DataW.trod_lt m _ _ _ hm
  obtain ⟨fuel1, hf1⟩ := h1
  obtain ⟨L1, hL1⟩ : ∃ L, (Value.agg cs1).cells.toList = L := ⟨_, rfl⟩
  rw [hL1] at hf1
  obtain ⟨⟨a1_0, l1_1, l1_2⟩, hK1, ⟨q1_0, q1_1, q1_2⟩⟩ := (opens_struct Try.underlying25 (by kernel_rfl) (opensL_cons rfl (opens_int Try.underlying3 (by kernel_rfl)) (opensL_cons rfl (opens_slice (d := k66) Try.underlying22 (by kernel_rfl) (opens_iso (opens_struct Try.underlying66 (by kernel_rfl) (opensL_cons rfl (opens_int Try.underlying3 (by kernel_rfl)) (opensL_one rfl (opens_slice (d := (Kd.int .i64)) Try.underlying51 (by kernel_rfl) (opens_int Try.underlying3 (by kernel_rfl)))))) (fun y => (⟨y.1, y.2⟩ : S66)) (fun y => rfl))) (opensL_one rfl (opens_slice (d := Kd.bool) Try.underlying23 (by kernel_rfl) (opens_bool Try.underlying4 (by kernel_rfl))))))).rd _ _ _ _ _ _ _ _ hf1
  obtain ⟨_, _, rfl, rfl, ⟨_, _, rfl, ⟨A1_1, c1_1, rfl, hc1_1, hr1_1⟩, ⟨A1_2, c1_2, rfl, hc1_2, hr1_2⟩⟩⟩ := hK1
  have e1 : cs1 = #[.int .i64 a1_0, .slice A1_1 l1_1.length c1_1, .slice A1_2 l1_2.length c1_2] := Array.ext' (by simpa [Value.cells] using hL1)
  subst e1
  obtain ⟨k, h⟩ := Pure.FnExactJoinSystems a0_0 l0_1 l0_2 a1_0 l1_1 l1_2 q0_0 q0_1 q0_2 q1_0 q1_1 q1_2
  clear hA0 hval0 hsz0
  refine (Fc.calls k a0_0 _ _ l0_1 _ _ l0_2 a1_0 _ _ l1_1 _ _ l1_2 true W hr0_1 hc0_1 hr0_2 hc0_2 hr1_1 hc1_1 hr1_2 hc1_2 h).mono fun e W' ⟨he, bel⟩ => ?_
  subst he
  exact ⟨_, rfl, _, _, _, [], _, [], hW', trodAll_mk1 (shut_bool Try.underlying4 _), (trodAll_cons_mk (Below.trod laidOut (by kernel_rfl) (of_decide_eq_true (by kernel_rfl)) k0 bel lt0) (trodAll_cons_mk (Below.trod laidOut (by kernel_rfl) (of_decide_eq_true (by kernel_rfl)) k1 bel lt1) trodAll_mk0)), rfl, bel.frame _, fun h => by cases h⟩
theorem over : Rows.fnExactJoinSystemsRow.holds Try.pinned (OpenSpec.ofChange Rows.fnExactJoinSystemsSpec) :=
  OpenClaim.holds_of_wide 3 Try.f3 rfl rfl rfl rfl rfl rfl rfl ⟨rfl, rfl, rfl, rfl, rfl⟩ rfl rfl rfl rfl rfl (by kernel_rfl) Try.func3 (by kernel_rfl)
    (of_decide_eq_true (by kernel_rfl)) (by unfold Func.isWrapper; first | (rw [if_pos (by decide +kernel)]; kernel_rfl) | (rw [if_neg (by decide +kernel)]; exact ⟨rfl, rfl⟩))
    (fun os started H enc _ => lifted os started H enc)
theorem proved : Rows.FnExactJoinSystemsSaid := over
#print axioms proved
end Go.Proofs.Ytgbpbhplehmedaa.fnExactJoinSystems
namespace Go.Proofs.Ytgbpbhplehmedaa
/-- The row, under a short name, for the claim. -/
theorem fnExactJoinSystems_holds : Rows.FnExactJoinSystemsSaid := fnExactJoinSystems.proved
end Go.Proofs.Ytgbpbhplehmedaa
