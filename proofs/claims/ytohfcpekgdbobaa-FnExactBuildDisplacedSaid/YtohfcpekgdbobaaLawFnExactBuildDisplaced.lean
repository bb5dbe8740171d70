-- made by wip/tools/myprint.py over the kit's print, for this claim
import Derived.Test.YtohfcpekgdbobaaRows
import Derived.Test.YtohfcpekgdbobaaPFnExactBuildDisplacedx13
import Derived.Test.YtohfcpekgdbobaaPureFnExactBuildDisplaced
import Derived.Test.YtohfcpekgdbobaaTOpens
import Derived.WalkKit
import Derived.ProofKit
import Derived.OpenShut
import Derived.ShutString
import Derived.ChangeOld
import Derived.Below
import Derived.SizedLaws
namespace Go.Proofs.Ytohfcpekgdbobaa.fnExactBuildDisplaced
open Go.ChangeShapes Go.WideShapes Go.ChangeAt Go.RowKit Go.Proofs.Ytohfcpekgdbobaa.Opens Go.Proofs.Ytohfcpekgdbobaa.PFnExactBuildDisplaced Go.Proofs.YtohfcpekgdbobaaW.PrintWords
open Go.ChangeMaps (open_string shut_string)
set_option linter.unusedVariables false
theorem own : ownKnob Try.prog.godebug = none := by kernel_rfl
theorem laidOut : laidOutB Try.prog = true := by kernel_rfl
set_option maxRecDepth 100000 in
set_option maxHeartbeats 4000000 in
theorem lifted (os : Os) (started : os.Started) (H : Type) (enc : TypeId × Value → H) :
    ReturnsInHanded {} Try.checked os 3 .any (Rows.fnExactBuildDisplacedSpec.pre6 enc Try.prog Try.f3 Rows.fnExactBuildDisplacedRow.domain false) (Rows.fnExactBuildDisplacedSpec.post enc Try.prog Try.f3 false true false false) := by
  refine returnsInHanded_of_change_sized (C := Try.checked) own started (by kernel_rfl) Try.func3
    (ChangeSpec.witness6 (enc := enc) (C := Try.checked) false ⟨#[], #[.int .i64 0, .slice none 0 0, .int .i64 0, .int .i64 0], []⟩ 8 (by kernel_rfl) (by kernel_rfl) (by kernel_rfl) (by kernel_rfl)) ?_
  intro W base args ds gs before hval0 hW hcnd hsz0 _
  have hval : ∀ (j : Nat) t v, Try.f3.params[j]? = some t → args[j]? = some v → Value.okWide Try.prog W .any base t v := hval0
  have hW' := hW
  obtain ⟨p, q, hA0, hV, rfl, hfz, hnd⟩ := hW
  have hA : DataW.TrodAll enc Try.prog W 0 (fun _ => true) true Try.f3.params.toList args.toList ds p := hA0
  rw [Try.params3] at hA hval
  obtain ⟨v0, vs0, d0, ds0, p0, q0, hargs, rfl, rfl, h0, r0⟩ := trodAll_cons hA
  obtain ⟨v1, vs1, d1, ds1, p1, q1, rfl, rfl, rfl, h1, r1⟩ := trodAll_cons r0
  obtain ⟨v2, vs2, d2, ds2, p2, q2, rfl, rfl, rfl, h2, r2⟩ := trodAll_cons r1
  obtain ⟨v3, vs3, d3, ds3, p3, q3, rfl, rfl, rfl, h3, r3⟩ := trodAll_cons r2
  obtain ⟨rfl, rfl, rfl⟩ := trodAll_nil r3
  obtain rfl : args = #[v0, v1, v2, v3] := by cases args; simp_all
  obtain ⟨rfl, rfl⟩ := trodVars_none hV
  obtain ⟨a0, rfl, rfl, rfl, q0⟩ := open_int Try.underlying3 (hval 0 3 v0 rfl rfl) h0
  obtain ⟨b1, len1, cap1, rfl⟩ := okWide_slice Try.underlying22 (hval 1 22 v1 rfl rfl)
  have k1 := h1
  have lt1 : ∀ x ∈ p1, x.block < W.heap.size := by obtain ⟨m, hm⟩ := k1; exact DataW.trod_lt m _ _ _ hm
  obtain ⟨fuel1, hf1⟩ := h1
  obtain ⟨L1, hL1⟩ : ∃ L, (Value.slice b1 len1 cap1).cells.toList = L := ⟨_, rfl⟩
  rw [hL1] at hf1
  obtain ⟨l1, hK1, q1⟩ := (opens_slice (d := Kd.string) Try.underlying22 (by kernel_rfl) (opens_string Try.underlying9 (by kernel_rfl))).rd _ _ _ _ _ _ _ _ hf1
  obtain ⟨A1, c1, rfl, hc1, hr1⟩ := hK1
  change [Value.slice b1 len1 cap1] = [Value.slice A1 l1.length c1] at hL1
  injection hL1 with e1 _
  injection e1 with e1a e1b e1c
  subst e1a e1b e1c
  obtain ⟨a2, rfl, rfl, rfl, q2⟩ := open_int Try.underlying3 (hval 2 3 v2 rfl rfl) h2
  obtain ⟨a3, rfl, rfl, rfl, q3⟩ := open_int Try.underlying3 (hval 3 3 v3 rfl rfl) h3
  obtain ⟨k, h⟩ := Pure.FnExactBuildDisplaced a0 l1 a2 a3 q0 q1 q2 q3
  clear hA0 hval0 hsz0
  refine (laws_FnExactBuildDisplaced.calls k a0 _ _ l1 a2 a3 true W hr1 hc1 h).mono fun e W' ⟨he, bel⟩ => ?_
  subst he
  exact ⟨_, rfl, _, _, _, [], _, [], hW', trodAll_mk1 (shut_bool Try.underlying4 _), (trodAll_cons_mk (shut_int Try.underlying3 q0) (trodAll_cons_mk (Below.trod laidOut (by kernel_rfl) (of_decide_eq_true (by kernel_rfl)) k1 bel lt1) (trodAll_cons_mk (shut_int Try.underlying3 q2) (trodAll_cons_mk (shut_int Try.underlying3 q3) trodAll_mk0)))), rfl, bel.frame _, fun h => by cases h⟩
theorem over : Rows.fnExactBuildDisplacedRow.holds Try.pinned (OpenSpec.ofChange Rows.fnExactBuildDisplacedSpec) :=
  OpenClaim.holds_of_wide 3 Try.f3 rfl rfl rfl rfl rfl rfl rfl ⟨rfl, rfl, rfl, rfl, rfl⟩ rfl rfl rfl rfl rfl (by kernel_rfl) Try.func3 (by kernel_rfl)
    (of_decide_eq_true (by kernel_rfl)) (by unfold Func.isWrapper; first | (rw [if_pos (by decide +kernel)]; kernel_rfl) | (rw [if_neg (by decide +kernel)]; exact ⟨rfl, rfl⟩))
    (fun os started H enc _ => lifted os started H enc)
theorem proved : Rows.FnExactBuildDisplacedSaid := over
#print axioms proved
end Go.Proofs.Ytohfcpekgdbobaa.fnExactBuildDisplaced
namespace Go.Proofs.Ytohfcpekgdbobaa
/-- The row, under a short name, for the claim. -/
theorem fnExactBuildDisplaced_holds : Rows.FnExactBuildDisplacedSaid := fnExactBuildDisplaced.proved
end Go.Proofs.Ytohfcpekgdbobaa
