-- made by wip/tools/myprint.py over the kit's print, for this claim
import Derived.Test.YtippedfjmlkpiaaPFnExactBuildPeeledx0
import Derived.Test.YtippedfjmlkpiaaPFnExactBuildPeeledx1
import Derived.Test.YtippedfjmlkpiaaPFnExactBuildPeeledx7
import Derived.Test.YtippedfjmlkpiaaPFnExactBuildPeeledx11
import Derived.Test.YtippedfjmlkpiaaPFnExactBuildPeeledx12
namespace Go.Proofs.Ytippedfjmlkpiaa.PFnExactBuildPeeled
open Go.RowKit Go.Proofs.YtippedfjmlkpiaaW.PrintWords Go.Proofs.YtippedfjmlkpiaaW.PrintLast Go.Proofs.YtippedfjmlkpiaaW.PrintMore
attribute [local go_sem] max2_int min2_int max_two min_two max_three min_three max_four min_four   -- for this text's walks alone
set_option linter.unusedVariables false
set_option linter.unusedSimpArgs false

/-! ### laws_FnExactBuildPeeled: function 6 -/
mutual
def laws_FnExactBuildPeeled.j0 : Nat → Int → List ByteArray → Int → Bool → List ByteArray → Bool → Bool → Int → Int → List Int → Int → Int → List Int → Option (Bool)
 | 0, _, _, _, _, _, _, _, _, _, _, _, _, _ => none
 | k + 1, x0, x1, x2, x9, x10, x12, x48, x379000, x379001, x379002, x389000, x389001, x389002 => if x48 = true then (some false) else ((laws_toStringS.f k x1).bind fun t390 => ((laws_eqStringS.f k x10 t390).bind fun t393 => (if t393 = true then ((laws_markStringS.f k x10 1).bind fun bt394 => (if bt394.1 < 0 then (laws_FnExactBuildPeeled.j1 k x0 x1 x2 x9 true x379000 x379001 x379002 x389000 x389001 x389002) else ((laws_eqPeeled.f k x389000 x389001 x389002 x379000 x379001 x379002).bind fun t396 => (if t396 = true then (laws_FnExactBuildPeeled.j1 k x0 x1 x2 x9 (x12 != x9) x379000 x379001 x379002 x389000 x389001 x389002) else (laws_FnExactBuildPeeled.j1 k x0 x1 x2 x9 true x379000 x379001 x379002 x389000 x389001 x389002))))) else (some false))))
def laws_FnExactBuildPeeled.j1 : Nat → Int → List ByteArray → Int → Bool → Bool → Int → Int → List Int → Int → Int → List Int → Option (Bool)
 | 0, _, _, _, _, _, _, _, _, _, _, _ => none
 | k + 1, x0, x1, x2, x9, x69, x379000, x379001, x379002, x389000, x389001, x389002 => if x69 = true then (some false) else ((laws_markPeeled.f k x389000 x389001 x389002 1).bind fun bt397 => ((laws_heldPeeled.f k x389000 x389001 bt397.2 1).bind fun t399 => (if t399 < 0 then (some false) else (if t399 = bt397.1 then ((laws_toStringS.f k x1).bind fun t400 => ((impl_BuildPeeled.f k x0 t400 x2).bind fun bt403 => ((laws_eqPeeled.f k bt403.1 bt403.2.1 bt403.2.2.1 x379000 x379001 x379002).bind fun t410 => (if t410 = true then (laws_FnExactBuildPeeled.j2 k bt397.1 (bt403.2.2.2 != x9) x389000 x389001 bt397.2) else (laws_FnExactBuildPeeled.j2 k bt397.1 true x389000 x389001 bt397.2))))) else (some false)))))
def laws_FnExactBuildPeeled.j2 : Nat → Int → Bool → Int → Int → List Int → Option (Bool)
 | 0, _, _, _, _, _ => none
 | k + 1, x14, x97, x389000, x389001, x389002 => if x97 = true then (some false) else ((laws_heldPeeled.f k x389000 x389001 x389002 1).bind fun t411 => (if t411 < 0 then (some false) else (if t411 = x14 then (some true) else (some false))))
end
def laws_FnExactBuildPeeled.f (k : Nat) (a0 : Int) (l1 : List ByteArray) (a2 : Int) : Option (Bool) := (laws_szStringS.f k l1 1048576).bind fun t368 => (if t368 < 0 then (some true) else ((laws_toStringS.f k l1).bind fun t369 => ((spec_BuildPeeled.f k a0 t369 a2).bind fun bt372 => ((laws_toStringS.f k l1).bind fun t379 => ((impl_BuildPeeled.f k a0 t379 a2).bind fun bt382 => ((laws_eqPeeled.f k bt382.1 bt382.2.1 bt382.2.2.1 bt372.1 bt372.2.1 bt372.2.2.1).bind fun t389 => (if t389 = true then (laws_FnExactBuildPeeled.j0 k a0 l1 a2 bt372.2.2.2 t379 bt382.2.2.2 (bt382.2.2.2 != bt372.2.2.2) bt372.1 bt372.2.1 bt372.2.2.1 bt382.1 bt382.2.1 bt382.2.2.1) else (laws_FnExactBuildPeeled.j0 k a0 l1 a2 bt372.2.2.2 t379 bt382.2.2.2 true bt372.1 bt372.2.1 bt372.2.2.1 bt382.1 bt382.2.1 bt382.2.2.1))))))))
theorem laws_FnExactBuildPeeled.mono_l : ∀ k, (∀ y0 y1 y2 y3 y4 y5 y6 y7 y8 y9 y10 y11 y12, LeO (laws_FnExactBuildPeeled.j0 k y0 y1 y2 y3 y4 y5 y6 y7 y8 y9 y10 y11 y12) (laws_FnExactBuildPeeled.j0 (k + 1) y0 y1 y2 y3 y4 y5 y6 y7 y8 y9 y10 y11 y12)) ∧ (∀ y0 y1 y2 y3 y4 y5 y6 y7 y8 y9 y10, LeO (laws_FnExactBuildPeeled.j1 k y0 y1 y2 y3 y4 y5 y6 y7 y8 y9 y10) (laws_FnExactBuildPeeled.j1 (k + 1) y0 y1 y2 y3 y4 y5 y6 y7 y8 y9 y10)) ∧ (∀ y0 y1 y2 y3 y4, LeO (laws_FnExactBuildPeeled.j2 k y0 y1 y2 y3 y4) (laws_FnExactBuildPeeled.j2 (k + 1) y0 y1 y2 y3 y4))
 | 0 => ⟨fun _ _ _ _ _ _ _ _ _ _ _ _ _ r h => by simp [laws_FnExactBuildPeeled.j0] at h, fun _ _ _ _ _ _ _ _ _ _ _ r h => by simp [laws_FnExactBuildPeeled.j1] at h, fun _ _ _ _ _ r h => by simp [laws_FnExactBuildPeeled.j2] at h⟩
 | k + 1 => by
  obtain ⟨ih0, ih1, ih2⟩ := laws_FnExactBuildPeeled.mono_l k
  refine ⟨?_, ?_, ?_⟩
  ·
   intro y0 y1 y2 y3 y4 y5 y6 y7 y8 y9 y10 y11 y12
   unfold laws_FnExactBuildPeeled.j0
   repeat' first
   | (with_reducible exact ih0 _ _ _ _ _ _ _ _ _ _ _ _ _)
   | (with_reducible exact ih1 _ _ _ _ _ _ _ _ _ _ _)
   | (with_reducible exact ih2 _ _ _ _ _)
   | (with_reducible exact impl_BuildPeeled.mono _ _ _ _)
   | (with_reducible exact laws_eqPeeled.mono _ _ _ _ _ _ _)
   | (with_reducible exact laws_eqStringS.mono _ _ _)
   | (with_reducible exact laws_heldPeeled.mono _ _ _ _ _)
   | (with_reducible exact laws_markPeeled.mono _ _ _ _ _)
   | (with_reducible exact laws_markStringS.mono _ _ _)
   | (with_reducible exact laws_szStringS.mono _ _ _)
   | (with_reducible exact laws_toStringS.mono _ _)
   | (with_reducible exact spec_BuildPeeled.mono _ _ _ _)
   | (with_reducible exact LeO.refl _)
   | (with_reducible exact LeO.none _)
   | (with_reducible refine LeO.ite ?_ ?_)
   | (with_reducible refine LeO.bind ?_ (fun _ => ?_))
   | exact ih0 _ _ _ _ _ _ _ _ _ _ _ _ _
   | exact ih1 _ _ _ _ _ _ _ _ _ _ _
   | exact ih2 _ _ _ _ _
   | exact impl_BuildPeeled.mono _ _ _ _
   | exact laws_eqPeeled.mono _ _ _ _ _ _ _
   | exact laws_eqStringS.mono _ _ _
   | exact laws_heldPeeled.mono _ _ _ _ _
   | exact laws_markPeeled.mono _ _ _ _ _
   | exact laws_markStringS.mono _ _ _
   | exact laws_szStringS.mono _ _ _
   | exact laws_toStringS.mono _ _
   | exact spec_BuildPeeled.mono _ _ _ _
   | exact LeO.none _
   | refine LeO.ite ?_ ?_
   | refine LeO.bind ?_ (fun _ => ?_)
  ·
   intro y0 y1 y2 y3 y4 y5 y6 y7 y8 y9 y10
   unfold laws_FnExactBuildPeeled.j1
   repeat' first
   | (with_reducible exact ih0 _ _ _ _ _ _ _ _ _ _ _ _ _)
   | (with_reducible exact ih1 _ _ _ _ _ _ _ _ _ _ _)
   | (with_reducible exact ih2 _ _ _ _ _)
   | (with_reducible exact impl_BuildPeeled.mono _ _ _ _)
   | (with_reducible exact laws_eqPeeled.mono _ _ _ _ _ _ _)
   | (with_reducible exact laws_eqStringS.mono _ _ _)
   | (with_reducible exact laws_heldPeeled.mono _ _ _ _ _)
   | (with_reducible exact laws_markPeeled.mono _ _ _ _ _)
   | (with_reducible exact laws_markStringS.mono _ _ _)
   | (with_reducible exact laws_szStringS.mono _ _ _)
   | (with_reducible exact laws_toStringS.mono _ _)
   | (with_reducible exact spec_BuildPeeled.mono _ _ _ _)
   | (with_reducible exact LeO.refl _)
   | (with_reducible exact LeO.none _)
   | (with_reducible refine LeO.ite ?_ ?_)
   | (with_reducible refine LeO.bind ?_ (fun _ => ?_))
   | exact ih0 _ _ _ _ _ _ _ _ _ _ _ _ _
   | exact ih1 _ _ _ _ _ _ _ _ _ _ _
   | exact ih2 _ _ _ _ _
   | exact impl_BuildPeeled.mono _ _ _ _
   | exact laws_eqPeeled.mono _ _ _ _ _ _ _
   | exact laws_eqStringS.mono _ _ _
   | exact laws_heldPeeled.mono _ _ _ _ _
   | exact laws_markPeeled.mono _ _ _ _ _
   | exact laws_markStringS.mono _ _ _
   | exact laws_szStringS.mono _ _ _
   | exact laws_toStringS.mono _ _
   | exact spec_BuildPeeled.mono _ _ _ _
   | exact LeO.none _
   | refine LeO.ite ?_ ?_
   | refine LeO.bind ?_ (fun _ => ?_)
  ·
   intro y0 y1 y2 y3 y4
   unfold laws_FnExactBuildPeeled.j2
   repeat' first
   | (with_reducible exact ih0 _ _ _ _ _ _ _ _ _ _ _ _ _)
   | (with_reducible exact ih1 _ _ _ _ _ _ _ _ _ _ _)
   | (with_reducible exact ih2 _ _ _ _ _)
   | (with_reducible exact impl_BuildPeeled.mono _ _ _ _)
   | (with_reducible exact laws_eqPeeled.mono _ _ _ _ _ _ _)
   | (with_reducible exact laws_eqStringS.mono _ _ _)
   | (with_reducible exact laws_heldPeeled.mono _ _ _ _ _)
   | (with_reducible exact laws_markPeeled.mono _ _ _ _ _)
   | (with_reducible exact laws_markStringS.mono _ _ _)
   | (with_reducible exact laws_szStringS.mono _ _ _)
   | (with_reducible exact laws_toStringS.mono _ _)
   | (with_reducible exact spec_BuildPeeled.mono _ _ _ _)
   | (with_reducible exact LeO.refl _)
   | (with_reducible exact LeO.none _)
   | (with_reducible refine LeO.ite ?_ ?_)
   | (with_reducible refine LeO.bind ?_ (fun _ => ?_))
   | exact ih0 _ _ _ _ _ _ _ _ _ _ _ _ _
   | exact ih1 _ _ _ _ _ _ _ _ _ _ _
   | exact ih2 _ _ _ _ _
   | exact impl_BuildPeeled.mono _ _ _ _
   | exact laws_eqPeeled.mono _ _ _ _ _ _ _
   | exact laws_eqStringS.mono _ _ _
   | exact laws_heldPeeled.mono _ _ _ _ _
   | exact laws_markPeeled.mono _ _ _ _ _
   | exact laws_markStringS.mono _ _ _
   | exact laws_szStringS.mono _ _ _
   | exact laws_toStringS.mono _ _
   | exact spec_BuildPeeled.mono _ _ _ _
   | exact LeO.none _
   | refine LeO.ite ?_ ?_
   | refine LeO.bind ?_ (fun _ => ?_)
theorem laws_FnExactBuildPeeled.mono : ∀ a0 a1 a2 k, LeO (laws_FnExactBuildPeeled.f k a0 a1 a2) (laws_FnExactBuildPeeled.f (k + 1) a0 a1 a2) := by
 intro a0 a1 a2 k
 obtain ⟨ih0, ih1, ih2⟩ := laws_FnExactBuildPeeled.mono_l k
 unfold laws_FnExactBuildPeeled.f
 repeat' first
   | (with_reducible exact ih0 _ _ _ _ _ _ _ _ _ _ _ _ _)
   | (with_reducible exact ih1 _ _ _ _ _ _ _ _ _ _ _)
   | (with_reducible exact ih2 _ _ _ _ _)
   | (with_reducible exact impl_BuildPeeled.mono _ _ _ _)
   | (with_reducible exact laws_eqPeeled.mono _ _ _ _ _ _ _)
   | (with_reducible exact laws_eqStringS.mono _ _ _)
   | (with_reducible exact laws_heldPeeled.mono _ _ _ _ _)
   | (with_reducible exact laws_markPeeled.mono _ _ _ _ _)
   | (with_reducible exact laws_markStringS.mono _ _ _)
   | (with_reducible exact laws_szStringS.mono _ _ _)
   | (with_reducible exact laws_toStringS.mono _ _)
   | (with_reducible exact spec_BuildPeeled.mono _ _ _ _)
   | (with_reducible exact LeO.refl _)
   | (with_reducible exact LeO.none _)
   | (with_reducible refine LeO.ite ?_ ?_)
   | (with_reducible refine LeO.bind ?_ (fun _ => ?_))
   | exact ih0 _ _ _ _ _ _ _ _ _ _ _ _ _
   | exact ih1 _ _ _ _ _ _ _ _ _ _ _
   | exact ih2 _ _ _ _ _
   | exact impl_BuildPeeled.mono _ _ _ _
   | exact laws_eqPeeled.mono _ _ _ _ _ _ _
   | exact laws_eqStringS.mono _ _ _
   | exact laws_heldPeeled.mono _ _ _ _ _
   | exact laws_markPeeled.mono _ _ _ _ _
   | exact laws_markStringS.mono _ _ _
   | exact laws_szStringS.mono _ _ _
   | exact laws_toStringS.mono _ _
   | exact spec_BuildPeeled.mono _ _ _ _
   | exact LeO.none _
   | refine LeO.ite ?_ ?_
   | refine LeO.bind ?_ (fun _ => ?_)
set_option maxHeartbeats 8000000 in
set_option maxRecDepth 100000 in
theorem laws_FnExactBuildPeeled.calls (k : Nat) (a0 : Int) (A1 : Option Addr) (c1 : Nat) (l1 : List ByteArray) (a2 : Int) (r : Bool) (w : World) (hr1 : Kd.C Kd.string w A1 l1.length l1) (hc1 : l1.length ≤ c1) (h : laws_FnExactBuildPeeled.f k a0 l1 a2 = some r) :
  Calls Try.prog 6 #[.int .i64 a0, .slice A1 l1.length c1, .int .i64 a2] w fun e w' => e = .returned (.bool r) ∧ Below w.heap.size w w' := by
 have hu52 := Try.underlying52
 have HR1 := Aside0.mk hr1
 have HC1 := Aside0.mk hc1
 clear hr1 hc1
 have HB := Aside0.mk (Below.refl w.heap.size w)
 have H : ((laws_szStringS.f k l1 1048576).bind fun t368 => (if t368 < 0 then (some true) else ((laws_toStringS.f k l1).bind fun t369 => ((spec_BuildPeeled.f k a0 t369 a2).bind fun bt372 => ((laws_toStringS.f k l1).bind fun t379 => ((impl_BuildPeeled.f k a0 t379 a2).bind fun bt382 => ((laws_eqPeeled.f k bt382.1 bt382.2.1 bt382.2.2.1 bt372.1 bt372.2.1 bt372.2.2.1).bind fun t389 => (if t389 = true then (laws_FnExactBuildPeeled.j0 k a0 l1 a2 bt372.2.2.2 t379 bt382.2.2.2 (bt382.2.2.2 != bt372.2.2.2) bt372.1 bt372.2.1 bt372.2.2.1 bt382.1 bt382.2.1 bt382.2.2.1) else (laws_FnExactBuildPeeled.j0 k a0 l1 a2 bt372.2.2.2 t379 bt382.2.2.2 true bt372.1 bt372.2.1 bt372.2.2.1 bt382.1 bt382.2.1 bt382.2.2.1))))))))) = some r := h
 clear h
 replace H := Option.bind_eq_some_iff.mp H
 obtain ⟨t368, A40, H⟩ := H
 replace H : (if t368 < 0 then (some true) else ((laws_toStringS.f k l1).bind fun t369 => ((spec_BuildPeeled.f k a0 t369 a2).bind fun bt372 => ((laws_toStringS.f k l1).bind fun t379 => ((impl_BuildPeeled.f k a0 t379 a2).bind fun bt382 => ((laws_eqPeeled.f k bt382.1 bt382.2.1 bt382.2.2.1 bt372.1 bt372.2.1 bt372.2.2.1).bind fun t389 => (if t389 = true then (laws_FnExactBuildPeeled.j0 k a0 l1 a2 bt372.2.2.2 t379 bt382.2.2.2 (bt382.2.2.2 != bt372.2.2.2) bt372.1 bt372.2.1 bt372.2.2.1 bt382.1 bt382.2.1 bt382.2.2.1) else (laws_FnExactBuildPeeled.j0 k a0 l1 a2 bt372.2.2.2 t379 bt382.2.2.2 true bt372.1 bt372.2.1 bt372.2.2.1 bt382.1 bt382.2.1 bt382.2.2.1)))))))) = some r := H
 have A4 := Aside0.mk A40
 clear A40
 by_cases c5 : t368 < 0
 ·
  rw [if_pos c5] at H
  have c5b0 : decide (t368 < 0) = true := decide_eq_true c5
  clear c5
  obtain rfl := Option.some.inj H
  go_enter Try.func6, Try.ntmps6
  go_wp2_with (first | ((with_reducible refine gate_callee (f := 7) rfl ?_); refine goesL_ (some 20) rfl rfl Try.func7 (by kernel_rfl) rfl #[.slice A1 l1.length c1, .int .i64 1048576] rfl (by (try simp only [List.map_toArray, List.map_cons, List.map_nil]); first | done | rfl | (simp only [List.length_drop, List.length_take]; rfl)) ?_; (with_reducible refine (laws_szStringS.calls k _ _ l1 1048576 t368 _ ?side1 ?side2 A4.out).mono ?_); (case side1 => repeat (first | exact HR1.out | (with_reducible refine Kd.C_alloc ?_ _) | (with_reducible refine Kd.C_drewN ?_ _) | (with_reducible refine Kd.C_drew ?_))); (case side2 => exact HC1.out); rintro e w' ⟨rfl, ⟨nd, rfl⟩⟩; refine ⟨_, rfl, ?_⟩))
  go_ret
  exact ⟨by first | rfl | (simp [errW_none, errW_some] <;> rfl) | (simp [*, errW_none, errW_some] <;> rfl), uB HB⟩
 ·
  rw [if_neg c5] at H
  have c5b0 : decide (t368 < 0) = false := decide_eq_false c5
  clear c5
  replace H := Option.bind_eq_some_iff.mp H
  obtain ⟨t369, A60, H⟩ := H
  replace H : ((spec_BuildPeeled.f k a0 t369 a2).bind fun bt372 => ((laws_toStringS.f k l1).bind fun t379 => ((impl_BuildPeeled.f k a0 t379 a2).bind fun bt382 => ((laws_eqPeeled.f k bt382.1 bt382.2.1 bt382.2.2.1 bt372.1 bt372.2.1 bt372.2.2.1).bind fun t389 => (if t389 = true then (laws_FnExactBuildPeeled.j0 k a0 l1 a2 bt372.2.2.2 t379 bt382.2.2.2 (bt382.2.2.2 != bt372.2.2.2) bt372.1 bt372.2.1 bt372.2.2.1 bt382.1 bt382.2.1 bt382.2.2.1) else (laws_FnExactBuildPeeled.j0 k a0 l1 a2 bt372.2.2.2 t379 bt382.2.2.2 true bt372.1 bt372.2.1 bt372.2.2.1 bt382.1 bt382.2.1 bt382.2.2.1)))))) = some r := H
  have A6 := Aside0.mk A60
  clear A60
  replace H := Option.bind_eq_some_iff.mp H
  obtain ⟨⟨t372, t373, t374, t377⟩, A70, H⟩ := H
  replace H : ((laws_toStringS.f k l1).bind fun t379 => ((impl_BuildPeeled.f k a0 t379 a2).bind fun bt382 => ((laws_eqPeeled.f k bt382.1 bt382.2.1 bt382.2.2.1 t372 t373 t374).bind fun t389 => (if t389 = true then (laws_FnExactBuildPeeled.j0 k a0 l1 a2 t377 t379 bt382.2.2.2 (bt382.2.2.2 != t377) t372 t373 t374 bt382.1 bt382.2.1 bt382.2.2.1) else (laws_FnExactBuildPeeled.j0 k a0 l1 a2 t377 t379 bt382.2.2.2 true t372 t373 t374 bt382.1 bt382.2.1 bt382.2.2.1))))) = some r := H
  have A7 := Aside0.mk A70
  clear A70
  replace H := Option.bind_eq_some_iff.mp H
  obtain ⟨t379, A80, H⟩ := H
  replace H : ((impl_BuildPeeled.f k a0 t379 a2).bind fun bt382 => ((laws_eqPeeled.f k bt382.1 bt382.2.1 bt382.2.2.1 t372 t373 t374).bind fun t389 => (if t389 = true then (laws_FnExactBuildPeeled.j0 k a0 l1 a2 t377 t379 bt382.2.2.2 (bt382.2.2.2 != t377) t372 t373 t374 bt382.1 bt382.2.1 bt382.2.2.1) else (laws_FnExactBuildPeeled.j0 k a0 l1 a2 t377 t379 bt382.2.2.2 true t372 t373 t374 bt382.1 bt382.2.1 bt382.2.2.1)))) = some r := H
  have A8 := Aside0.mk A80
  clear A80
  replace H := Option.bind_eq_some_iff.mp H
  obtain ⟨⟨t382, t383, t384, t387⟩, A90, H⟩ := H
  replace H : ((laws_eqPeeled.f k t382 t383 t384 t372 t373 t374).bind fun t389 => (if t389 = true then (laws_FnExactBuildPeeled.j0 k a0 l1 a2 t377 t379 t387 (t387 != t377) t372 t373 t374 t382 t383 t384) else (laws_FnExactBuildPeeled.j0 k a0 l1 a2 t377 t379 t387 true t372 t373 t374 t382 t383 t384))) = some r := H
  have A9 := Aside0.mk A90
  clear A90
  have HC10 := Aside0.mk H
  clear H
  go_enter Try.func6, Try.ntmps6
  go_upto_region 8 with (first | ((with_reducible refine gate_callee (f := 7) rfl ?_); refine goesL_ (some 20) rfl rfl Try.func7 (by kernel_rfl) rfl #[.slice A1 l1.length c1, .int .i64 1048576] rfl (by (try simp only [List.map_toArray, List.map_cons, List.map_nil]); first | done | rfl | (simp only [List.length_drop, List.length_take]; rfl)) ?_; (with_reducible refine (laws_szStringS.calls k _ _ l1 1048576 t368 _ ?side1 ?side2 A4.out).mono ?_); (case side1 => repeat (first | exact HR1.out | (with_reducible refine Kd.C_alloc ?_ _) | (with_reducible refine Kd.C_drewN ?_ _) | (with_reducible refine Kd.C_drew ?_))); (case side2 => exact HC1.out); rintro e w' ⟨rfl, ⟨nd, rfl⟩⟩; refine ⟨_, rfl, ?_⟩) | ((with_reducible refine gate_callee (f := 9) rfl ?_); refine goesL_ (some 26) rfl rfl Try.func9 (by kernel_rfl) rfl #[.slice A1 l1.length c1] rfl (by (try simp only [List.map_toArray, List.map_cons, List.map_nil]); first | done | rfl | (simp only [List.length_drop, List.length_take]; rfl)) ?_; (with_reducible refine (laws_toStringS.calls k _ _ l1 t369 _ ?side1 ?side2 A6.out).mono ?_); (case side1 => repeat (first | exact HR1.out | (with_reducible refine Kd.C_alloc ?_ _) | (with_reducible refine Kd.C_drewN ?_ _) | (with_reducible refine Kd.C_drew ?_))); (case side2 => exact HC1.out); rintro e w11 ⟨v370, rfl, ho0, hb⟩; refine ⟨_, rfl, ?_⟩; have n0_ := Aside0.mk (Kd.R_lower ho0 (below_size (uB HB))); have n1_ := Aside0.mk (below_step (uB HB) hb); clear HB; have HO371 := n0_; have HB := n1_; clear n0_ n1_; (try clear hb); (try clear hb2); (try clear hk); (try clear hi); (try clear ho0); obtain ⟨Ao12, co12, eo12⟩ := Kd.R_slice HO371.out; subst eo12) | ((with_reducible refine gate_callee (f := 29) rfl ?_); refine goesL_ (some 28) rfl rfl Try.func29 (by kernel_rfl) rfl #[.int .i64 a0, .slice Ao12 t369.length co12, .int .i64 a2] rfl (by (try simp only [List.map_toArray, List.map_cons, List.map_nil]); first | done | rfl | (simp only [List.length_drop, List.length_take]; rfl)) ?_; (with_reducible refine (spec_BuildPeeled.calls k a0 _ _ t369 a2 t372 t373 t374 t377 _ ?side1 ?side2 A7.out).mono ?_); (case side1 => exact uD HO371); (case side2 => exact (Kd.R_reads' HO371.out).2.1); rintro e w13 ⟨v375, rfl, ho0, hb⟩; refine ⟨_, rfl, ?_⟩; have n0_ := Aside0.mk (Kd.R_below (uR HO371) hb); have n1_ := Aside0.mk (Kd.R_lower ho0 (below_size (uB HB))); have n2_ := Aside0.mk (below_step (uB HB) hb); clear HO371 HB; have HO371 := n0_; have HO376 := n1_; have HB := n2_; clear n0_ n1_ n2_; (try clear hb); (try clear hb2); (try clear hk); (try clear hi); (try clear ho0)) | ((with_reducible refine gate_dst (N := 8) rfl ?_); refine box_event ?hg (N := 8) ?hd (cs := #[.int .i64 0, .int .i64 0, .slice none 0 0]) (t := 52) ?hr ?_; (case hd => rfl); (case hg => rfl); (case hr => first | (go_simp; done) | (go_simp; rfl)); intro gb378 hg w14 hbox hb; have n0_ := Aside0.mk (Kd.R_below (uR HO371) hb); have n1_ := Aside0.mk (Kd.R_below (uR HO376) hb); have n2_ := Aside0.mk (below_step (uB HB) hb); have n3_ := Aside0.mk (hbox); have n4_ := Aside0.mk ((by rw [hg]; exact (below_size (uB HB)) : w.heap.size ≤ gb378)); have n5_ := Aside0.mk ((by rw [hg]; exact (below_size (uB HB)) : w.heap.size ≤ gb378)); clear HO371 HO376 HB; have HO371 := n0_; have HO376 := n1_; have HB := n2_; have BK378 := n3_; have GW378 := n4_; have GE378 := n5_; clear n0_ n1_ n2_ n3_ n4_ n5_ hb hbox hg; have hcz15_0 : w14.cell? ⟨gb378, 0, none⟩ = some (.int .i64 0) := (blk_cell BK378.out 0).trans rfl; have hcz15_1 : w14.cell? ⟨gb378, 1, none⟩ = some (.int .i64 0) := (blk_cell BK378.out 1).trans rfl; have hcz15_2 : w14.cell? ⟨gb378, 2, none⟩ = some (.slice none 0 0) := (blk_cell BK378.out 2).trans rfl; have hfz15_0 := blk_frozen BK378.out 0; have hfz15_1 := blk_frozen BK378.out 1; have hfz15_2 := blk_frozen BK378.out 2; obtain ⟨Ao16, co16, eo16⟩ := Kd.R_slice HO376.out; subst eo16) | ((with_reducible refine gate_callee (f := 9) rfl ?_); refine goesL_ (some 32) rfl rfl Try.func9 (by kernel_rfl) rfl #[.slice A1 l1.length c1] rfl (by (try simp only [List.map_toArray, List.map_cons, List.map_nil]); first | done | rfl | (simp only [List.length_drop, List.length_take]; rfl)) ?_; (with_reducible refine (laws_toStringS.calls k _ _ l1 t379 _ ?side1 ?side2 A8.out).mono ?_); (case side1 => exact Kd.C_below HR1.out (by first | exact uB HB | exact uS HB (gC GE378 gN))); (case side2 => exact HC1.out); rintro e w17 ⟨v380, rfl, ho0, hb⟩; refine ⟨_, rfl, ?_⟩; have n0_ := Aside0.mk (Kd.R_elder' (by (with_reducible repeat (first | apply Kd.R_alloc | apply Kd.R_drewN | apply Kd.R_drew)); exact (Kd.R_mono (Kd.R_far (p := ⟨gb378, 2, none⟩) (Kd.R_far (p := ⟨gb378, 1, none⟩) (Kd.R_far (p := ⟨gb378, 0, none⟩) (Kd.R_types HO371.out BK378.out (by decide)) (fun _ hk => hk.2) (.int .i64 t372)) (fun _ hk => hk.2) (.int .i64 t373)) (fun _ hk => hk.2) (.slice Ao16 t374.length co16)) (fun _ h_ => h_.1))) (Kd.R_base ho0) hb); have n1_ := Aside0.mk (Kd.R_below (by (with_reducible repeat (first | apply Kd.R_alloc | apply Kd.R_drewN | apply Kd.R_drew)); exact (Kd.R_mono (Kd.R_far (p := ⟨gb378, 2, none⟩) (Kd.R_far (p := ⟨gb378, 1, none⟩) (Kd.R_far (p := ⟨gb378, 0, none⟩) (Kd.R_types HO376.out BK378.out (by decide)) (fun _ hk => hk.2) (.int .i64 t372)) (fun _ hk => hk.2) (.int .i64 t373)) (fun _ hk => hk.2) (.slice Ao16 t374.length co16)) (fun _ h_ => h_.1))) hb); have n2_ := Aside0.mk (Kd.R_lower (Kd.R_new' ho0 (Kd.R_lt (by (with_reducible repeat (first | apply Kd.R_alloc | apply Kd.R_drewN | apply Kd.R_drew)); exact (Kd.R_mono (Kd.R_far (p := ⟨gb378, 2, none⟩) (Kd.R_far (p := ⟨gb378, 1, none⟩) (Kd.R_far (p := ⟨gb378, 0, none⟩) (Kd.R_types HO371.out BK378.out (by decide)) (fun _ hk => hk.2) (.int .i64 t372)) (fun _ hk => hk.2) (.int .i64 t373)) (fun _ hk => hk.2) (.slice Ao16 t374.length co16)) (fun _ h_ => h_.1))))) (below_size (by first | exact uB HB | exact uS HB (gC GE378 gN)))); have n3_ := Aside0.mk (blk_below (g := gb378) (o := .cells #[.int .i64 t372, .int .i64 t373, .slice Ao16 t374.length co16] 52 (0, 0)) (by refine uW ?_; refine blk_put (cs := #[.int .i64 t372, .int .i64 t373, .slice none 0 0]) ?_ 2 _ rfl; refine uW ?_; refine blk_put (cs := #[.int .i64 t372, .int .i64 0, .slice none 0 0]) ?_ 1 _ rfl; refine uW ?_; refine blk_put (cs := #[.int .i64 0, .int .i64 0, .slice none 0 0]) ?_ 0 _ rfl; refine uW ?_; exact BK378.out) hb); have n4_ := Aside0.mk (below_step (by first | exact uB HB | exact uS HB (gC GE378 gN)) hb); clear HO371 HO376 BK378 HB; have HO371 := n0_; have HO376 := n1_; have HO381 := n2_; have BK378 := n3_; have HB := n4_; clear n0_ n1_ n2_ n3_ n4_; (try clear hb); (try clear hb2); (try clear hk); (try clear hi); (try clear ho0); obtain ⟨Ao18, co18, eo18⟩ := Kd.R_slice HO381.out; subst eo18) | ((with_reducible refine gate_callee (f := 30) rfl ?_); refine goesL_ (some 37) rfl rfl Try.func30 (by kernel_rfl) rfl #[.int .i64 a0, .slice Ao18 t379.length co18, .int .i64 a2] rfl (by (try simp only [List.map_toArray, List.map_cons, List.map_nil]); first | done | rfl | (simp only [List.length_drop, List.length_take]; rfl)) ?_; (with_reducible refine (impl_BuildPeeled.calls k a0 _ _ t379 a2 t382 t383 t384 t387 _ ?side1 ?side2 A9.out).mono ?_); (case side1 => exact uD HO381); (case side2 => exact (Kd.R_reads' HO381.out).2.1); rintro e w19 ⟨v385, rfl, ho0, hb⟩; refine ⟨_, rfl, ?_⟩; have n0_ := Aside0.mk (Kd.R_below (uR HO371) hb); have n1_ := Aside0.mk (Kd.R_elder' (uR HO376) (Kd.R_base ho0) hb); have n2_ := Aside0.mk (Kd.R_below (uR HO381) hb); have n3_ := Aside0.mk (Kd.R_lower (Kd.R_new' ho0 (Kd.R_lt (uR HO376))) (below_size (by first | exact uB HB | exact uS HB (gC GE378 gN)))); have n4_ := Aside0.mk (blk_below (g := gb378) (o := .cells #[.int .i64 t372, .int .i64 t373, .slice Ao16 t374.length co16] 52 (0, 0)) (uK BK378) hb); have n5_ := Aside0.mk (below_step (by first | exact uB HB | exact uS HB (gC GE378 gN)) hb); clear HO371 HO376 HO381 BK378 HB; have HO371 := n0_; have HO376 := n1_; have HO381 := n2_; have HO386 := n3_; have BK378 := n4_; have HB := n5_; clear n0_ n1_ n2_ n3_ n4_ n5_; (try clear hb); (try clear hb2); (try clear hk); (try clear hi); (try clear ho0)) | ((with_reducible refine gate_dst (N := 11) rfl ?_); refine box_event ?hg (N := 11) ?hd (cs := #[.int .i64 0, .int .i64 0, .slice none 0 0]) (t := 52) ?hr ?_; (case hd => rfl); (case hg => rfl); (case hr => first | (go_simp; done) | (go_simp; rfl)); intro gb388 hg w20 hbox hb; have n0_ := Aside0.mk (Kd.R_below (uR HO371) hb); have n1_ := Aside0.mk (Kd.R_below (uR HO376) hb); have n2_ := Aside0.mk (Kd.R_below (uR HO381) hb); have n3_ := Aside0.mk (Kd.R_below (uR HO386) hb); have n4_ := Aside0.mk (blk_below (g := gb378) (o := .cells #[.int .i64 t372, .int .i64 t373, .slice Ao16 t374.length co16] 52 (0, 0)) (uK BK378) hb); have n5_ := Aside0.mk (below_step (by first | exact uB HB | exact uS HB (gC GE378 gN)) hb); have n6_ := Aside0.mk (hbox); have n7_ := Aside0.mk ((by rw [hg]; exact (below_size (by first | exact uB HB | exact uS HB (gC GE378 gN))) : w.heap.size ≤ gb388)); have n8_ := Aside0.mk ((by rw [hg]; exact (below_size (by first | exact uB HB | exact uS HB (gC GE378 gN))) : w.heap.size ≤ gb388)); have n9_ := Aside0.mk ((by rw [hg]; exact Nat.ne_of_lt (blk_lt (g := gb378) (o := .cells #[.int .i64 t372, .int .i64 t373, .slice Ao16 t374.length co16] 52 (0, 0)) (uK BK378)) : gb378 ≠ gb388)); have n10_ := Aside0.mk ((by rw [hg]; exact Nat.ne_of_gt (blk_lt (g := gb378) (o := .cells #[.int .i64 t372, .int .i64 t373, .slice Ao16 t374.length co16] 52 (0, 0)) (uK BK378)) : gb388 ≠ gb378)); clear HO371 HO376 HO381 HO386 BK378 HB; have HO371 := n0_; have HO376 := n1_; have HO381 := n2_; have HO386 := n3_; have BK378 := n4_; have HB := n5_; have BK388 := n6_; have GW388 := n7_; have GE388 := n8_; have NB378_388 := n9_; have NB388_378 := n10_; clear n0_ n1_ n2_ n3_ n4_ n5_ n6_ n7_ n8_ n9_ n10_ hb hbox hg; have hnb21 := NB388_378.out; have hnc21 := NB378_388.out; have hcz22_0 : w20.cell? ⟨gb388, 0, none⟩ = some (.int .i64 0) := (blk_cell BK388.out 0).trans rfl; have hcz22_1 : w20.cell? ⟨gb388, 1, none⟩ = some (.int .i64 0) := (blk_cell BK388.out 1).trans rfl; have hcz22_2 : w20.cell? ⟨gb388, 2, none⟩ = some (.slice none 0 0) := (blk_cell BK388.out 2).trans rfl; have hfz22_0 := blk_frozen BK388.out 0; have hfz22_1 := blk_frozen BK388.out 1; have hfz22_2 := blk_frozen BK388.out 2; obtain ⟨Ao23, co23, eo23⟩ := Kd.R_slice HO386.out; subst eo23))
  (try simp only [Act.put, List.setIfInBounds_toArray, List.set_cons_zero, List.set_cons_succ])
  go_cut [48] (fun v48 wc => ∃ (kq : Nat) (x48_9 : Bool), v48 = .bool x48_9 ∧ Aside0 (laws_FnExactBuildPeeled.j0 kq a0 l1 a2 t377 t379 t387 x48_9 t372 t373 t374 t382 t383 t384 = some r) ∧ Aside0 (kq ≤ k) ∧ Aside0 (Kd.R Kd.string 9 wc w.heap.size (fun _ => True) (.slice Ao18 t379.length co18) t379) ∧ Aside0 (Kd.R (Kd.int .i64) 3 wc w.heap.size (fun k_ => some k_ ≠ ((.slice Ao23 t384.length co23) : Value).ownBlock) (.slice Ao16 t374.length co16) t374) ∧ Aside0 (Kd.R (Kd.int .i64) 3 wc w.heap.size (fun k_ => some k_ ≠ ((.slice Ao16 t374.length co16) : Value).ownBlock) (.slice Ao23 t384.length co23) t384) ∧ Aside0 (wc.heap[gb378]? = some (.cells #[.int .i64 t372, .int .i64 t373, (.slice Ao16 t374.length co16)] 52 (0, 0))) ∧ Aside0 (wc.heap[gb388]? = some (.cells #[.int .i64 t382, .int .i64 t383, (.slice Ao23 t384.length co23)] 52 (0, 0))) ∧ Aside0 (Below w.heap.size w wc))
  case first =>
   have H := HC10.out
   clear HC10
   replace H := Option.bind_eq_some_iff.mp H
   obtain ⟨t389, A240, H⟩ := H
   replace H : (if t389 = true then (laws_FnExactBuildPeeled.j0 k a0 l1 a2 t377 t379 t387 (t387 != t377) t372 t373 t374 t382 t383 t384) else (laws_FnExactBuildPeeled.j0 k a0 l1 a2 t377 t379 t387 true t372 t373 t374 t382 t383 t384)) = some r := H
   have A24 := Aside0.mk A240
   clear A240
   by_cases c25 : t389 = true
   ·
    subst c25
    have H1 : (laws_FnExactBuildPeeled.j0 k a0 l1 a2 t377 t379 t387 (t387 != t377) t372 t373 t374 t382 t383 t384) = some r := by rw [if_pos rfl] at H; exact H
    clear H
    have H := H1
    clear H1
    have H' := Aside0.mk H
    clear H
    have hnb26 := NB388_378.out
    have hnc26 := NB378_388.out
    have hcz27_0 : w20.cell? ⟨gb388, 0, none⟩ = some (.int .i64 0) := (blk_cell BK388.out 0).trans rfl
    have hcz27_1 : w20.cell? ⟨gb388, 1, none⟩ = some (.int .i64 0) := (blk_cell BK388.out 1).trans rfl
    have hcz27_2 : w20.cell? ⟨gb388, 2, none⟩ = some (.slice none 0 0) := (blk_cell BK388.out 2).trans rfl
    have hfz27_0 := blk_frozen BK388.out 0
    have hfz27_1 := blk_frozen BK388.out 1
    have hfz27_2 := blk_frozen BK388.out 2
    have hcz28_0 : w20.cell? ⟨gb378, 0, none⟩ = some (.int .i64 t372) := (blk_cell BK378.out 0).trans rfl
    have hcz28_1 : w20.cell? ⟨gb378, 1, none⟩ = some (.int .i64 t373) := (blk_cell BK378.out 1).trans rfl
    have hcz28_2 : w20.cell? ⟨gb378, 2, none⟩ = some (.slice Ao16 t374.length co16) := (blk_cell BK378.out 2).trans rfl
    have hfz28_0 := blk_frozen BK378.out 0
    have hfz28_1 := blk_frozen BK378.out 1
    have hfz28_2 := blk_frozen BK378.out 2
    go_wp2_with (first | ((with_reducible refine gate_callee (f := 31) rfl ?_); refine goesL_ (some 42) rfl rfl Try.func31 (by kernel_rfl) rfl #[.agg #[.int .i64 t382, .int .i64 t383, .slice Ao23 t384.length co23], .agg #[.int .i64 t372, .int .i64 t373, .slice Ao16 t374.length co16]] rfl (by (try simp only [List.map_toArray, List.map_cons, List.map_nil]); first | done | rfl | (simp only [List.length_drop, List.length_take]; rfl)) ?_; (with_reducible refine (laws_eqPeeled.calls k t382 t383 _ _ t384 t372 t373 _ _ t374 true _ ?side1 ?side2 ?side3 ?side4 A24.out).mono ?_); (case side1 => refine (Kd.R_reads' (e := 3) (base := w.heap.size) (ok := fun k_ => (True ∧ some k_ ≠ (.slice Ao16 t374.length co16 : Value).ownBlock)) (n := t384.length) (c := co23) ?_).2.2; exact (by (with_reducible repeat (first | apply Kd.R_alloc | apply Kd.R_drewN | apply Kd.R_drew)); exact (Kd.R_mono (Kd.R_far (p := ⟨gb388, 2, none⟩) (Kd.R_far (p := ⟨gb388, 1, none⟩) (Kd.R_far (p := ⟨gb388, 0, none⟩) (Kd.R_types HO386.out BK388.out (by decide)) (fun _ hk => hk.2) (.int .i64 t382)) (fun _ hk => hk.2) (.int .i64 t383)) (fun _ hk => hk.2) (.slice Ao23 t384.length co23)) (fun _ h_ => h_.1)))); (case side2 => exact (Kd.R_reads' HO386.out).2.1); (case side3 => refine (Kd.R_reads' (e := 3) (base := w.heap.size) (ok := fun k_ => (True ∧ some k_ ≠ (.slice Ao23 t384.length co23 : Value).ownBlock)) (n := t374.length) (c := co16) ?_).2.2; exact (by (with_reducible repeat (first | apply Kd.R_alloc | apply Kd.R_drewN | apply Kd.R_drew)); exact (Kd.R_mono (Kd.R_far (p := ⟨gb388, 2, none⟩) (Kd.R_far (p := ⟨gb388, 1, none⟩) (Kd.R_far (p := ⟨gb388, 0, none⟩) (Kd.R_types HO376.out BK388.out (by decide)) (fun _ hk => hk.2) (.int .i64 t382)) (fun _ hk => hk.2) (.int .i64 t383)) (fun _ hk => hk.2) (.slice Ao23 t384.length co23)) (fun _ h_ => h_.1)))); (case side4 => exact (Kd.R_reads' HO376.out).2.1); rintro e w29 ⟨rfl, hb⟩; refine ⟨_, rfl, ?_⟩; have n0_ := Aside0.mk (Kd.R_below (by (with_reducible repeat (first | apply Kd.R_alloc | apply Kd.R_drewN | apply Kd.R_drew)); exact (Kd.R_mono (Kd.R_far (p := ⟨gb388, 2, none⟩) (Kd.R_far (p := ⟨gb388, 1, none⟩) (Kd.R_far (p := ⟨gb388, 0, none⟩) (Kd.R_types HO371.out BK388.out (by decide)) (fun _ hk => hk.2) (.int .i64 t382)) (fun _ hk => hk.2) (.int .i64 t383)) (fun _ hk => hk.2) (.slice Ao23 t384.length co23)) (fun _ h_ => h_.1))) hb); have n1_ := Aside0.mk (Kd.R_below (by (with_reducible repeat (first | apply Kd.R_alloc | apply Kd.R_drewN | apply Kd.R_drew)); exact (Kd.R_mono (Kd.R_far (p := ⟨gb388, 2, none⟩) (Kd.R_far (p := ⟨gb388, 1, none⟩) (Kd.R_far (p := ⟨gb388, 0, none⟩) (Kd.R_types HO376.out BK388.out (by decide)) (fun _ hk => hk.2) (.int .i64 t382)) (fun _ hk => hk.2) (.int .i64 t383)) (fun _ hk => hk.2) (.slice Ao23 t384.length co23)) (fun _ h_ => h_.1))) hb); have n2_ := Aside0.mk (Kd.R_below (by (with_reducible repeat (first | apply Kd.R_alloc | apply Kd.R_drewN | apply Kd.R_drew)); exact (Kd.R_mono (Kd.R_far (p := ⟨gb388, 2, none⟩) (Kd.R_far (p := ⟨gb388, 1, none⟩) (Kd.R_far (p := ⟨gb388, 0, none⟩) (Kd.R_types HO381.out BK388.out (by decide)) (fun _ hk => hk.2) (.int .i64 t382)) (fun _ hk => hk.2) (.int .i64 t383)) (fun _ hk => hk.2) (.slice Ao23 t384.length co23)) (fun _ h_ => h_.1))) hb); have n3_ := Aside0.mk (Kd.R_below (by (with_reducible repeat (first | apply Kd.R_alloc | apply Kd.R_drewN | apply Kd.R_drew)); exact (Kd.R_mono (Kd.R_far (p := ⟨gb388, 2, none⟩) (Kd.R_far (p := ⟨gb388, 1, none⟩) (Kd.R_far (p := ⟨gb388, 0, none⟩) (Kd.R_types HO386.out BK388.out (by decide)) (fun _ hk => hk.2) (.int .i64 t382)) (fun _ hk => hk.2) (.int .i64 t383)) (fun _ hk => hk.2) (.slice Ao23 t384.length co23)) (fun _ h_ => h_.1))) hb); have n4_ := Aside0.mk (blk_below (g := gb378) (o := .cells #[.int .i64 t372, .int .i64 t373, .slice Ao16 t374.length co16] 52 (0, 0)) (by refine uW ?_; refine blk_far ?_ NB378_388.out _; refine uW ?_; refine blk_far ?_ NB378_388.out _; refine uW ?_; refine blk_far ?_ NB378_388.out _; refine uW ?_; exact BK378.out) hb); have n5_ := Aside0.mk (blk_below (g := gb388) (o := .cells #[.int .i64 t382, .int .i64 t383, .slice Ao23 t384.length co23] 52 (0, 0)) (by refine uW ?_; refine blk_put (cs := #[.int .i64 t382, .int .i64 t383, .slice none 0 0]) ?_ 2 _ rfl; refine uW ?_; refine blk_put (cs := #[.int .i64 t382, .int .i64 0, .slice none 0 0]) ?_ 1 _ rfl; refine uW ?_; refine blk_put (cs := #[.int .i64 0, .int .i64 0, .slice none 0 0]) ?_ 0 _ rfl; refine uW ?_; exact BK388.out) hb); have n6_ := Aside0.mk (below_step (by first | exact uB HB | exact uS HB (gC GE378 (gC GE388 gN))) hb); clear HO371 HO376 HO381 HO386 BK378 BK388 HB; have HO371 := n0_; have HO376 := n1_; have HO381 := n2_; have HO386 := n3_; have BK378 := n4_; have BK388 := n5_; have HB := n6_; clear n0_ n1_ n2_ n3_ n4_ n5_ n6_; (try clear hb); (try clear hb2); (try clear hk); (try clear hi)))
    go_meet
    case rel => exact ⟨_, ((t387 != t377)), (by first | rfl | (simp; done) | (simp [*]; done)), H', ⟨by first | omega | exact Nat.le_refl _⟩, ⟨by (with_reducible repeat (first | apply Kd.R_alloc | apply Kd.R_drewN | apply Kd.R_drew)); exact Kd.R_mono HO381.out (fun _ hk => trivial)⟩, ⟨by (with_reducible repeat (first | apply Kd.R_alloc | apply Kd.R_drewN | apply Kd.R_drew)); exact Kd.R_mono HO376.out (fun _ hk => hk.2)⟩, ⟨by (with_reducible repeat (first | apply Kd.R_alloc | apply Kd.R_drewN | apply Kd.R_drew)); exact Kd.R_mono HO386.out (fun _ hk => hk.2)⟩, ⟨by refine uW ?_; exact BK378.out⟩, ⟨by refine uW ?_; exact BK388.out⟩, ⟨by first | exact uB HB | exact uS HB (gC GE378 (gC GE388 gN))⟩⟩
   ·
    replace c25 := Bool.eq_false_iff.mpr c25
    subst c25
    have H1 : (laws_FnExactBuildPeeled.j0 k a0 l1 a2 t377 t379 t387 true t372 t373 t374 t382 t383 t384) = some r := by rw [if_neg (show ¬ (false = true) by decide)] at H; exact H
    clear H
    have H := H1
    clear H1
    have H' := Aside0.mk H
    clear H
    have hnb30 := NB388_378.out
    have hnc30 := NB378_388.out
    have hcz31_0 : w20.cell? ⟨gb388, 0, none⟩ = some (.int .i64 0) := (blk_cell BK388.out 0).trans rfl
    have hcz31_1 : w20.cell? ⟨gb388, 1, none⟩ = some (.int .i64 0) := (blk_cell BK388.out 1).trans rfl
    have hcz31_2 : w20.cell? ⟨gb388, 2, none⟩ = some (.slice none 0 0) := (blk_cell BK388.out 2).trans rfl
    have hfz31_0 := blk_frozen BK388.out 0
    have hfz31_1 := blk_frozen BK388.out 1
    have hfz31_2 := blk_frozen BK388.out 2
    have hcz32_0 : w20.cell? ⟨gb378, 0, none⟩ = some (.int .i64 t372) := (blk_cell BK378.out 0).trans rfl
    have hcz32_1 : w20.cell? ⟨gb378, 1, none⟩ = some (.int .i64 t373) := (blk_cell BK378.out 1).trans rfl
    have hcz32_2 : w20.cell? ⟨gb378, 2, none⟩ = some (.slice Ao16 t374.length co16) := (blk_cell BK378.out 2).trans rfl
    have hfz32_0 := blk_frozen BK378.out 0
    have hfz32_1 := blk_frozen BK378.out 1
    have hfz32_2 := blk_frozen BK378.out 2
    go_wp2_with (first | ((with_reducible refine gate_callee (f := 31) rfl ?_); refine goesL_ (some 42) rfl rfl Try.func31 (by kernel_rfl) rfl #[.agg #[.int .i64 t382, .int .i64 t383, .slice Ao23 t384.length co23], .agg #[.int .i64 t372, .int .i64 t373, .slice Ao16 t374.length co16]] rfl (by (try simp only [List.map_toArray, List.map_cons, List.map_nil]); first | done | rfl | (simp only [List.length_drop, List.length_take]; rfl)) ?_; (with_reducible refine (laws_eqPeeled.calls k t382 t383 _ _ t384 t372 t373 _ _ t374 false _ ?side1 ?side2 ?side3 ?side4 A24.out).mono ?_); (case side1 => refine (Kd.R_reads' (e := 3) (base := w.heap.size) (ok := fun k_ => (True ∧ some k_ ≠ (.slice Ao16 t374.length co16 : Value).ownBlock)) (n := t384.length) (c := co23) ?_).2.2; exact (by (with_reducible repeat (first | apply Kd.R_alloc | apply Kd.R_drewN | apply Kd.R_drew)); exact (Kd.R_mono (Kd.R_far (p := ⟨gb388, 2, none⟩) (Kd.R_far (p := ⟨gb388, 1, none⟩) (Kd.R_far (p := ⟨gb388, 0, none⟩) (Kd.R_types HO386.out BK388.out (by decide)) (fun _ hk => hk.2) (.int .i64 t382)) (fun _ hk => hk.2) (.int .i64 t383)) (fun _ hk => hk.2) (.slice Ao23 t384.length co23)) (fun _ h_ => h_.1)))); (case side2 => exact (Kd.R_reads' HO386.out).2.1); (case side3 => refine (Kd.R_reads' (e := 3) (base := w.heap.size) (ok := fun k_ => (True ∧ some k_ ≠ (.slice Ao23 t384.length co23 : Value).ownBlock)) (n := t374.length) (c := co16) ?_).2.2; exact (by (with_reducible repeat (first | apply Kd.R_alloc | apply Kd.R_drewN | apply Kd.R_drew)); exact (Kd.R_mono (Kd.R_far (p := ⟨gb388, 2, none⟩) (Kd.R_far (p := ⟨gb388, 1, none⟩) (Kd.R_far (p := ⟨gb388, 0, none⟩) (Kd.R_types HO376.out BK388.out (by decide)) (fun _ hk => hk.2) (.int .i64 t382)) (fun _ hk => hk.2) (.int .i64 t383)) (fun _ hk => hk.2) (.slice Ao23 t384.length co23)) (fun _ h_ => h_.1)))); (case side4 => exact (Kd.R_reads' HO376.out).2.1); rintro e w33 ⟨rfl, hb⟩; refine ⟨_, rfl, ?_⟩; have n0_ := Aside0.mk (Kd.R_below (by (with_reducible repeat (first | apply Kd.R_alloc | apply Kd.R_drewN | apply Kd.R_drew)); exact (Kd.R_mono (Kd.R_far (p := ⟨gb388, 2, none⟩) (Kd.R_far (p := ⟨gb388, 1, none⟩) (Kd.R_far (p := ⟨gb388, 0, none⟩) (Kd.R_types HO371.out BK388.out (by decide)) (fun _ hk => hk.2) (.int .i64 t382)) (fun _ hk => hk.2) (.int .i64 t383)) (fun _ hk => hk.2) (.slice Ao23 t384.length co23)) (fun _ h_ => h_.1))) hb); have n1_ := Aside0.mk (Kd.R_below (by (with_reducible repeat (first | apply Kd.R_alloc | apply Kd.R_drewN | apply Kd.R_drew)); exact (Kd.R_mono (Kd.R_far (p := ⟨gb388, 2, none⟩) (Kd.R_far (p := ⟨gb388, 1, none⟩) (Kd.R_far (p := ⟨gb388, 0, none⟩) (Kd.R_types HO376.out BK388.out (by decide)) (fun _ hk => hk.2) (.int .i64 t382)) (fun _ hk => hk.2) (.int .i64 t383)) (fun _ hk => hk.2) (.slice Ao23 t384.length co23)) (fun _ h_ => h_.1))) hb); have n2_ := Aside0.mk (Kd.R_below (by (with_reducible repeat (first | apply Kd.R_alloc | apply Kd.R_drewN | apply Kd.R_drew)); exact (Kd.R_mono (Kd.R_far (p := ⟨gb388, 2, none⟩) (Kd.R_far (p := ⟨gb388, 1, none⟩) (Kd.R_far (p := ⟨gb388, 0, none⟩) (Kd.R_types HO381.out BK388.out (by decide)) (fun _ hk => hk.2) (.int .i64 t382)) (fun _ hk => hk.2) (.int .i64 t383)) (fun _ hk => hk.2) (.slice Ao23 t384.length co23)) (fun _ h_ => h_.1))) hb); have n3_ := Aside0.mk (Kd.R_below (by (with_reducible repeat (first | apply Kd.R_alloc | apply Kd.R_drewN | apply Kd.R_drew)); exact (Kd.R_mono (Kd.R_far (p := ⟨gb388, 2, none⟩) (Kd.R_far (p := ⟨gb388, 1, none⟩) (Kd.R_far (p := ⟨gb388, 0, none⟩) (Kd.R_types HO386.out BK388.out (by decide)) (fun _ hk => hk.2) (.int .i64 t382)) (fun _ hk => hk.2) (.int .i64 t383)) (fun _ hk => hk.2) (.slice Ao23 t384.length co23)) (fun _ h_ => h_.1))) hb); have n4_ := Aside0.mk (blk_below (g := gb378) (o := .cells #[.int .i64 t372, .int .i64 t373, .slice Ao16 t374.length co16] 52 (0, 0)) (by refine uW ?_; refine blk_far ?_ NB378_388.out _; refine uW ?_; refine blk_far ?_ NB378_388.out _; refine uW ?_; refine blk_far ?_ NB378_388.out _; refine uW ?_; exact BK378.out) hb); have n5_ := Aside0.mk (blk_below (g := gb388) (o := .cells #[.int .i64 t382, .int .i64 t383, .slice Ao23 t384.length co23] 52 (0, 0)) (by refine uW ?_; refine blk_put (cs := #[.int .i64 t382, .int .i64 t383, .slice none 0 0]) ?_ 2 _ rfl; refine uW ?_; refine blk_put (cs := #[.int .i64 t382, .int .i64 0, .slice none 0 0]) ?_ 1 _ rfl; refine uW ?_; refine blk_put (cs := #[.int .i64 0, .int .i64 0, .slice none 0 0]) ?_ 0 _ rfl; refine uW ?_; exact BK388.out) hb); have n6_ := Aside0.mk (below_step (by first | exact uB HB | exact uS HB (gC GE378 (gC GE388 gN))) hb); clear HO371 HO376 HO381 HO386 BK378 BK388 HB; have HO371 := n0_; have HO376 := n1_; have HO381 := n2_; have HO386 := n3_; have BK378 := n4_; have BK388 := n5_; have HB := n6_; clear n0_ n1_ n2_ n3_ n4_ n5_ n6_; (try clear hb); (try clear hb2); (try clear hk); (try clear hi)))
    go_meet
    case rel => exact ⟨_, (true), (by first | rfl | (simp; done) | (simp [*]; done)), H', ⟨by first | omega | exact Nat.le_refl _⟩, ⟨by (with_reducible repeat (first | apply Kd.R_alloc | apply Kd.R_drewN | apply Kd.R_drew)); exact Kd.R_mono HO381.out (fun _ hk => trivial)⟩, ⟨by (with_reducible repeat (first | apply Kd.R_alloc | apply Kd.R_drewN | apply Kd.R_drew)); exact Kd.R_mono HO376.out (fun _ hk => hk.2)⟩, ⟨by (with_reducible repeat (first | apply Kd.R_alloc | apply Kd.R_drewN | apply Kd.R_drew)); exact Kd.R_mono HO386.out (fun _ hk => hk.2)⟩, ⟨by refine uW ?_; exact BK378.out⟩, ⟨by refine uW ?_; exact BK388.out⟩, ⟨by first | exact uB HB | exact uS HB (gC GE378 (gC GE388 gN))⟩⟩
  case rest =>
   clear HC10
   try clear c1
   try clear c2
   try clear p2
   try clear c3
   try clear c5
   try clear c5b0
   try clear c6
   try clear c7
   try clear c9
   try clear c21
   try clear c25
   try clear c26
   try clear c29
   try clear c30
   try clear c31
   try clear hcz15_0
   try clear hcz15_1
   try clear hcz15_2
   try clear hcz22_0
   try clear hcz22_1
   try clear hcz22_2
   try clear hcz27_0
   try clear hcz27_1
   try clear hcz27_2
   try clear hcz28_0
   try clear hcz28_1
   try clear hcz28_2
   try clear hcz31_0
   try clear hcz31_1
   try clear hcz31_2
   try clear hcz32_0
   try clear hcz32_1
   try clear hcz32_2
   try clear hfz15_0
   try clear hfz15_1
   try clear hfz15_2
   try clear hfz22_0
   try clear hfz22_1
   try clear hfz22_2
   try clear hfz27_0
   try clear hfz27_1
   try clear hfz27_2
   try clear hfz28_0
   try clear hfz28_1
   try clear hfz28_2
   try clear hfz31_0
   try clear hfz31_1
   try clear hfz31_2
   try clear hfz32_0
   try clear hfz32_1
   try clear hfz32_2
   obtain ⟨kq, x48_9, rfl, HA, HJ9, HO_10, HO_379002, HO_389002, BK378, BK388, HB⟩ := hcut
   cases kq with
   | zero => exact absurd HA.out (by simp [laws_FnExactBuildPeeled.j0])
   | succ kj9 =>
    have H := HA.out
    clear HA
    simp only [laws_FnExactBuildPeeled.j0] at H
    by_cases c34 : x48_9 = true
    ·
     subst c34
     have H1 : (some false) = some r := by rw [if_pos rfl] at H; exact H
     clear H
     have H := H1
     clear H1
     obtain rfl := Option.some.inj H
     go_wp2
     go_ret
     exact ⟨by first | rfl | (simp [errW_none, errW_some] <;> rfl) | (simp [*, errW_none, errW_some] <;> rfl), by first | exact uB HB | exact uS HB (gC GE378 (gC GE388 gN))⟩
    ·
     replace c34 := Bool.eq_false_iff.mpr c34
     subst c34
     have H1 : ((laws_toStringS.f kj9 l1).bind fun t390 => ((laws_eqStringS.f kj9 t379 t390).bind fun t393 => (if t393 = true then ((laws_markStringS.f kj9 t379 1).bind fun bt394 => (if bt394.1 < 0 then (laws_FnExactBuildPeeled.j1 kj9 a0 l1 a2 t377 true t372 t373 t374 t382 t383 t384) else ((laws_eqPeeled.f kj9 t382 t383 t384 t372 t373 t374).bind fun t396 => (if t396 = true then (laws_FnExactBuildPeeled.j1 kj9 a0 l1 a2 t377 (t387 != t377) t372 t373 t374 t382 t383 t384) else (laws_FnExactBuildPeeled.j1 kj9 a0 l1 a2 t377 true t372 t373 t374 t382 t383 t384))))) else (some false)))) = some r := by rw [if_neg (show ¬ (false = true) by decide)] at H; exact H
     clear H
     have H := H1
     clear H1
     replace H := Option.bind_eq_some_iff.mp H
     obtain ⟨t390, A350, H⟩ := H
     replace H : ((laws_eqStringS.f kj9 t379 t390).bind fun t393 => (if t393 = true then ((laws_markStringS.f kj9 t379 1).bind fun bt394 => (if bt394.1 < 0 then (laws_FnExactBuildPeeled.j1 kj9 a0 l1 a2 t377 true t372 t373 t374 t382 t383 t384) else ((laws_eqPeeled.f kj9 t382 t383 t384 t372 t373 t374).bind fun t396 => (if t396 = true then (laws_FnExactBuildPeeled.j1 kj9 a0 l1 a2 t377 (t387 != t377) t372 t373 t374 t382 t383 t384) else (laws_FnExactBuildPeeled.j1 kj9 a0 l1 a2 t377 true t372 t373 t374 t382 t383 t384))))) else (some false))) = some r := H
     have A35 := Aside0.mk A350
     clear A350
     replace H := Option.bind_eq_some_iff.mp H
     obtain ⟨t393, A360, H⟩ := H
     replace H : (if t393 = true then ((laws_markStringS.f kj9 t379 1).bind fun bt394 => (if bt394.1 < 0 then (laws_FnExactBuildPeeled.j1 kj9 a0 l1 a2 t377 true t372 t373 t374 t382 t383 t384) else ((laws_eqPeeled.f kj9 t382 t383 t384 t372 t373 t374).bind fun t396 => (if t396 = true then (laws_FnExactBuildPeeled.j1 kj9 a0 l1 a2 t377 (t387 != t377) t372 t373 t374 t382 t383 t384) else (laws_FnExactBuildPeeled.j1 kj9 a0 l1 a2 t377 true t372 t373 t374 t382 t383 t384))))) else (some false)) = some r := H
     have A36 := Aside0.mk A360
     clear A360
     by_cases c37 : t393 = true
     ·
      subst c37
      have H1 : ((laws_markStringS.f kj9 t379 1).bind fun bt394 => (if bt394.1 < 0 then (laws_FnExactBuildPeeled.j1 kj9 a0 l1 a2 t377 true t372 t373 t374 t382 t383 t384) else ((laws_eqPeeled.f kj9 t382 t383 t384 t372 t373 t374).bind fun t396 => (if t396 = true then (laws_FnExactBuildPeeled.j1 kj9 a0 l1 a2 t377 (t387 != t377) t372 t373 t374 t382 t383 t384) else (laws_FnExactBuildPeeled.j1 kj9 a0 l1 a2 t377 true t372 t373 t374 t382 t383 t384))))) = some r := by rw [if_pos rfl] at H; exact H
      clear H
      have H := H1
      clear H1
      replace H := Option.bind_eq_some_iff.mp H
      obtain ⟨⟨t394, t395⟩, A380, H⟩ := H
      replace H : (if t394 < 0 then (laws_FnExactBuildPeeled.j1 kj9 a0 l1 a2 t377 true t372 t373 t374 t382 t383 t384) else ((laws_eqPeeled.f kj9 t382 t383 t384 t372 t373 t374).bind fun t396 => (if t396 = true then (laws_FnExactBuildPeeled.j1 kj9 a0 l1 a2 t377 (t387 != t377) t372 t373 t374 t382 t383 t384) else (laws_FnExactBuildPeeled.j1 kj9 a0 l1 a2 t377 true t372 t373 t374 t382 t383 t384)))) = some r := H
      have A38 := Aside0.mk A380
      clear A380
      have HC39 := Aside0.mk H
      clear H
      go_upto_region 14 with (first | ((with_reducible refine gate_callee (f := 9) rfl ?_); refine goesL_ (some 51) rfl rfl Try.func9 (by kernel_rfl) rfl #[.slice A1 l1.length c1] rfl (by (try simp only [List.map_toArray, List.map_cons, List.map_nil]); first | done | rfl | (simp only [List.length_drop, List.length_take]; rfl)) ?_; (with_reducible refine (laws_toStringS.calls kj9 _ _ l1 t390 _ ?side1 ?side2 A35.out).mono ?_); (case side1 => exact uC HR1 HB); (case side2 => exact HC1.out); rintro e w40 ⟨v391, rfl, ho0, hb⟩; refine ⟨_, rfl, ?_⟩; have n0_ := Aside0.mk (Kd.R_elder' (uR HO_10) (Kd.R_base ho0) hb); have n1_ := Aside0.mk (Kd.R_below (uR HO_379002) hb); have n2_ := Aside0.mk (Kd.R_below (uR HO_389002) hb); have n3_ := Aside0.mk (Kd.R_lower (Kd.R_new' ho0 (Kd.R_lt (uR HO_10))) (below_size (by first | exact uB HB | exact uS HB (gC GE378 (gC GE388 gN))))); have n4_ := Aside0.mk (blk_below (g := gb378) (o := .cells #[.int .i64 t372, .int .i64 t373, .slice Ao16 t374.length co16] 52 (0, 0)) (uK BK378) hb); have n5_ := Aside0.mk (blk_below (g := gb388) (o := .cells #[.int .i64 t382, .int .i64 t383, .slice Ao23 t384.length co23] 52 (0, 0)) (uK BK388) hb); have n6_ := Aside0.mk (below_step (by first | exact uB HB | exact uS HB (gC GE378 (gC GE388 gN))) hb); clear HO_10 HO_379002 HO_389002 BK378 BK388 HB; have HO_10 := n0_; have HO_379002 := n1_; have HO_389002 := n2_; have HO392 := n3_; have BK378 := n4_; have BK388 := n5_; have HB := n6_; clear n0_ n1_ n2_ n3_ n4_ n5_ n6_; (try clear hb); (try clear hb2); (try clear hk); (try clear hi); (try clear ho0); obtain ⟨Ao41, co41, eo41⟩ := Kd.R_slice HO392.out; subst eo41) | ((with_reducible refine gate_callee (f := 12) rfl ?_); refine goesL_ (some 52) rfl rfl Try.func12 (by kernel_rfl) rfl #[.slice Ao18 t379.length co18, .slice Ao41 t390.length co41] rfl (by (try simp only [List.map_toArray, List.map_cons, List.map_nil]); first | done | rfl | (simp only [List.length_drop, List.length_take]; rfl)) ?_; (with_reducible refine (laws_eqStringS.calls kj9 _ _ t379 _ _ t390 true _ ?side1 ?side2 ?side3 ?side4 A36.out).mono ?_); (case side1 => exact uD HO_10); (case side2 => exact (Kd.R_reads' HO_10.out).2.1); (case side3 => exact uD HO392); (case side4 => exact (Kd.R_reads' HO392.out).2.1); rintro e w' ⟨rfl, ⟨nd, rfl⟩⟩; refine ⟨_, rfl, ?_⟩) | ((with_reducible refine gate_callee (f := 13) rfl ?_); refine goesL_ (some 56) rfl rfl Try.func13 (by kernel_rfl) rfl #[.slice Ao18 t379.length co18, .int .i64 1] rfl (by (try simp only [List.map_toArray, List.map_cons, List.map_nil]); first | done | rfl | (simp only [List.length_drop, List.length_take]; rfl)) ?_; (with_reducible refine (laws_markStringS.calls kj9 (fun k_ => some k_ = (.slice Ao18 t379.length co18 : Value).ownBlock) (.slice Ao18 t379.length co18) t379 1 t394 t395 w _ ?side1 ?side2 A38.out).mono ?_); (case side1 => first | exact uB HB | exact uS HB (gC GE378 (gC GE388 gN))); (case side2 => exact Kd.R_tight rfl HO_10.out); rintro e w42 ⟨rfl, hy0, hb, hkp⟩; refine ⟨_, rfl, ?_⟩; have n0_ := Aside0.mk (Kd.R_reok rfl hy0 (fun k_ e_ => HO_10.out.1 k_ e_)); have n1_ := Aside0.mk (Kd.R_mono (ok' := fun k_ => some k_ ≠ (.slice Ao23 t384.length co23 : Value).ownBlock) (Kd.R_keptB ((Kd.R_apart' HO_379002.out (Kd.R_typed HO_10.out) (by decide))) hkp (fun k_ hk_ hs_ => (hk_.2) hs_)) (fun k_ hk_ => hk_.1.1)); have n2_ := Aside0.mk (Kd.R_mono (ok' := fun k_ => some k_ ≠ (.slice Ao16 t374.length co16 : Value).ownBlock) (Kd.R_keptB ((Kd.R_apart' HO_389002.out (Kd.R_typed HO_10.out) (by decide))) hkp (fun k_ hk_ hs_ => (hk_.2) hs_)) (fun k_ hk_ => hk_.1.1)); have n3_ := Aside0.mk (blk_kept (uK BK378) hkp (fun hs_ => (fun e_ => (Kd.R_ne HO_10.out BK378.out (by decide)) e_) hs_)); have n4_ := Aside0.mk (blk_kept (uK BK388) hkp (fun hs_ => (fun e_ => (Kd.R_ne HO_10.out BK388.out (by decide)) e_) hs_)); have n5_ := Aside0.mk (Kd.R_mono (ok' := fun k_ => some k_ ≠ (.slice Ao18 t379.length co18 : Value).ownBlock) (Kd.R_keptB (HO392.out) hkp (fun k_ hk_ hs_ => (hk_.2) hs_)) (fun k_ hk_ => hk_.1.2)); have n6_ := Aside0.mk (hb); clear HO_10 HO_379002 HO_389002 BK378 BK388 HO392 HB; have HO_10 := n0_; have HO_379002 := n1_; have HO_389002 := n2_; have BK378 := n3_; have BK388 := n4_; have HO392 := n5_; have HB := n6_; clear n0_ n1_ n2_ n3_ n4_ n5_ n6_; (try clear hb); (try clear hkp); (try clear hy0)))
      (try simp only [Act.put, List.setIfInBounds_toArray, List.set_cons_zero, List.set_cons_succ])
      go_cut [69] (fun v69 wc => ∃ (kq : Nat) (x69_38 : Bool), v69 = .bool x69_38 ∧ Aside0 (laws_FnExactBuildPeeled.j1 kq a0 l1 a2 t377 x69_38 t372 t373 t374 t382 t383 t384 = some r) ∧ Aside0 (kq ≤ kj9) ∧ Aside0 (Kd.R (Kd.int .i64) 3 wc w.heap.size (fun k_ => some k_ ≠ ((.slice Ao23 t384.length co23) : Value).ownBlock) (.slice Ao16 t374.length co16) t374) ∧ Aside0 (Kd.R (Kd.int .i64) 3 wc w.heap.size (fun k_ => some k_ ≠ ((.slice Ao16 t374.length co16) : Value).ownBlock) (.slice Ao23 t384.length co23) t384) ∧ Aside0 (wc.heap[gb378]? = some (.cells #[.int .i64 t372, .int .i64 t373, (.slice Ao16 t374.length co16)] 52 (0, 0))) ∧ Aside0 (wc.heap[gb388]? = some (.cells #[.int .i64 t382, .int .i64 t383, (.slice Ao23 t384.length co23)] 52 (0, 0))) ∧ Aside0 (Below w.heap.size w wc))
      case first =>
       have H := HC39.out
       clear HC39
       by_cases c43 : t394 < 0
       ·
        rw [if_pos c43] at H
        have c43b0 : decide (t394 < 0) = true := decide_eq_true c43
        clear c43
        (first | rw [c43b0] | (simp only [i64_w, i32_w]; rw [c43b0]) | skip)
        have H' := Aside0.mk H
        clear H
        go_wp2
        go_meet
        case rel => exact ⟨_, (true), (by first | rfl | (simp; done) | (simp [*]; done)), H', ⟨by have := HJ9.out; first | omega | exact Nat.le_refl _⟩, ⟨by (with_reducible repeat (first | apply Kd.R_alloc | apply Kd.R_drewN | apply Kd.R_drew)); exact HO_379002.out⟩, ⟨by (with_reducible repeat (first | apply Kd.R_alloc | apply Kd.R_drewN | apply Kd.R_drew)); exact HO_389002.out⟩, ⟨by refine uW ?_; exact BK378.out⟩, ⟨by refine uW ?_; exact BK388.out⟩, ⟨by first | exact uB HB | exact uS HB (gC GE378 (gC GE388 gN))⟩⟩
       ·
        rw [if_neg c43] at H
        have c43b0 : decide (t394 < 0) = false := decide_eq_false c43
        clear c43
        (first | rw [c43b0] | (simp only [i64_w, i32_w]; rw [c43b0]) | skip)
        replace H := Option.bind_eq_some_iff.mp H
        obtain ⟨t396, A440, H⟩ := H
        replace H : (if t396 = true then (laws_FnExactBuildPeeled.j1 kj9 a0 l1 a2 t377 (t387 != t377) t372 t373 t374 t382 t383 t384) else (laws_FnExactBuildPeeled.j1 kj9 a0 l1 a2 t377 true t372 t373 t374 t382 t383 t384)) = some r := H
        have A44 := Aside0.mk A440
        clear A440
        by_cases c45 : t396 = true
        ·
         subst c45
         have H1 : (laws_FnExactBuildPeeled.j1 kj9 a0 l1 a2 t377 (t387 != t377) t372 t373 t374 t382 t383 t384) = some r := by rw [if_pos rfl] at H; exact H
         clear H
         have H := H1
         clear H1
         have H' := Aside0.mk H
         clear H
         have hnb46 := NB388_378.out
         have hnc46 := NB378_388.out
         have hcz47_0 : w42.cell? ⟨gb388, 0, none⟩ = some (.int .i64 t382) := (blk_cell BK388.out 0).trans rfl
         have hcz47_1 : w42.cell? ⟨gb388, 1, none⟩ = some (.int .i64 t383) := (blk_cell BK388.out 1).trans rfl
         have hcz47_2 : w42.cell? ⟨gb388, 2, none⟩ = some (.slice Ao23 t384.length co23) := (blk_cell BK388.out 2).trans rfl
         have hfz47_0 := blk_frozen BK388.out 0
         have hfz47_1 := blk_frozen BK388.out 1
         have hfz47_2 := blk_frozen BK388.out 2
         have hcz48_0 : w42.cell? ⟨gb378, 0, none⟩ = some (.int .i64 t372) := (blk_cell BK378.out 0).trans rfl
         have hcz48_1 : w42.cell? ⟨gb378, 1, none⟩ = some (.int .i64 t373) := (blk_cell BK378.out 1).trans rfl
         have hcz48_2 : w42.cell? ⟨gb378, 2, none⟩ = some (.slice Ao16 t374.length co16) := (blk_cell BK378.out 2).trans rfl
         have hfz48_0 := blk_frozen BK378.out 0
         have hfz48_1 := blk_frozen BK378.out 1
         have hfz48_2 := blk_frozen BK378.out 2
         go_wp2_with (first | (go_at_call 31; (with_reducible refine (laws_eqPeeled.calls kj9 t382 t383 _ _ t384 t372 t373 _ _ t374 true _ ?side1 ?side2 ?side3 ?side4 A44.out).mono ?_); (case side1 => exact uD HO_389002); (case side2 => exact (Kd.R_reads' HO_389002.out).2.1); (case side3 => exact uD HO_379002); (case side4 => exact (Kd.R_reads' HO_379002.out).2.1); rintro e w49 ⟨rfl, hb⟩; have n0_ := Aside0.mk (Kd.R_below (uR HO_10) hb); have n1_ := Aside0.mk (Kd.R_below (uR HO_379002) hb); have n2_ := Aside0.mk (Kd.R_below (uR HO_389002) hb); have n3_ := Aside0.mk (Kd.R_below (uR HO392) hb); have n4_ := Aside0.mk (blk_below (g := gb378) (o := .cells #[.int .i64 t372, .int .i64 t373, .slice Ao16 t374.length co16] 52 (0, 0)) (uK BK378) hb); have n5_ := Aside0.mk (blk_below (g := gb388) (o := .cells #[.int .i64 t382, .int .i64 t383, .slice Ao23 t384.length co23] 52 (0, 0)) (uK BK388) hb); have n6_ := Aside0.mk (below_step (by first | exact uB HB | exact uS HB (gC GE378 (gC GE388 gN))) hb); clear HO_10 HO_379002 HO_389002 HO392 BK378 BK388 HB; have HO_10 := n0_; have HO_379002 := n1_; have HO_389002 := n2_; have HO392 := n3_; have BK378 := n4_; have BK388 := n5_; have HB := n6_; clear n0_ n1_ n2_ n3_ n4_ n5_ n6_; (try clear hb); (try clear hb2); (try clear hk); (try clear hi)))
         go_meet
         case rel => exact ⟨_, ((t387 != t377)), (by first | rfl | (simp; done) | (simp [*]; done)), H', ⟨by have := HJ9.out; first | omega | exact Nat.le_refl _⟩, ⟨by (with_reducible repeat (first | apply Kd.R_alloc | apply Kd.R_drewN | apply Kd.R_drew)); exact HO_379002.out⟩, ⟨by (with_reducible repeat (first | apply Kd.R_alloc | apply Kd.R_drewN | apply Kd.R_drew)); exact HO_389002.out⟩, ⟨by refine uW ?_; exact BK378.out⟩, ⟨by refine uW ?_; exact BK388.out⟩, ⟨by first | exact uB HB | exact uS HB (gC GE378 (gC GE388 gN))⟩⟩
        ·
         replace c45 := Bool.eq_false_iff.mpr c45
         subst c45
         have H1 : (laws_FnExactBuildPeeled.j1 kj9 a0 l1 a2 t377 true t372 t373 t374 t382 t383 t384) = some r := by rw [if_neg (show ¬ (false = true) by decide)] at H; exact H
         clear H
         have H := H1
         clear H1
         have H' := Aside0.mk H
         clear H
         have hnb50 := NB388_378.out
         have hnc50 := NB378_388.out
         have hcz51_0 : w42.cell? ⟨gb388, 0, none⟩ = some (.int .i64 t382) := (blk_cell BK388.out 0).trans rfl
         have hcz51_1 : w42.cell? ⟨gb388, 1, none⟩ = some (.int .i64 t383) := (blk_cell BK388.out 1).trans rfl
         have hcz51_2 : w42.cell? ⟨gb388, 2, none⟩ = some (.slice Ao23 t384.length co23) := (blk_cell BK388.out 2).trans rfl
         have hfz51_0 := blk_frozen BK388.out 0
         have hfz51_1 := blk_frozen BK388.out 1
         have hfz51_2 := blk_frozen BK388.out 2
         have hcz52_0 : w42.cell? ⟨gb378, 0, none⟩ = some (.int .i64 t372) := (blk_cell BK378.out 0).trans rfl
         have hcz52_1 : w42.cell? ⟨gb378, 1, none⟩ = some (.int .i64 t373) := (blk_cell BK378.out 1).trans rfl
         have hcz52_2 : w42.cell? ⟨gb378, 2, none⟩ = some (.slice Ao16 t374.length co16) := (blk_cell BK378.out 2).trans rfl
         have hfz52_0 := blk_frozen BK378.out 0
         have hfz52_1 := blk_frozen BK378.out 1
         have hfz52_2 := blk_frozen BK378.out 2
         go_wp2_with (first | (go_at_call 31; (with_reducible refine (laws_eqPeeled.calls kj9 t382 t383 _ _ t384 t372 t373 _ _ t374 false _ ?side1 ?side2 ?side3 ?side4 A44.out).mono ?_); (case side1 => exact uD HO_389002); (case side2 => exact (Kd.R_reads' HO_389002.out).2.1); (case side3 => exact uD HO_379002); (case side4 => exact (Kd.R_reads' HO_379002.out).2.1); rintro e w53 ⟨rfl, hb⟩; have n0_ := Aside0.mk (Kd.R_below (uR HO_10) hb); have n1_ := Aside0.mk (Kd.R_below (uR HO_379002) hb); have n2_ := Aside0.mk (Kd.R_below (uR HO_389002) hb); have n3_ := Aside0.mk (Kd.R_below (uR HO392) hb); have n4_ := Aside0.mk (blk_below (g := gb378) (o := .cells #[.int .i64 t372, .int .i64 t373, .slice Ao16 t374.length co16] 52 (0, 0)) (uK BK378) hb); have n5_ := Aside0.mk (blk_below (g := gb388) (o := .cells #[.int .i64 t382, .int .i64 t383, .slice Ao23 t384.length co23] 52 (0, 0)) (uK BK388) hb); have n6_ := Aside0.mk (below_step (by first | exact uB HB | exact uS HB (gC GE378 (gC GE388 gN))) hb); clear HO_10 HO_379002 HO_389002 HO392 BK378 BK388 HB; have HO_10 := n0_; have HO_379002 := n1_; have HO_389002 := n2_; have HO392 := n3_; have BK378 := n4_; have BK388 := n5_; have HB := n6_; clear n0_ n1_ n2_ n3_ n4_ n5_ n6_; (try clear hb); (try clear hb2); (try clear hk); (try clear hi)))
         go_meet
         case rel => exact ⟨_, (true), (by first | rfl | (simp; done) | (simp [*]; done)), H', ⟨by have := HJ9.out; first | omega | exact Nat.le_refl _⟩, ⟨by (with_reducible repeat (first | apply Kd.R_alloc | apply Kd.R_drewN | apply Kd.R_drew)); exact HO_379002.out⟩, ⟨by (with_reducible repeat (first | apply Kd.R_alloc | apply Kd.R_drewN | apply Kd.R_drew)); exact HO_389002.out⟩, ⟨by refine uW ?_; exact BK378.out⟩, ⟨by refine uW ?_; exact BK388.out⟩, ⟨by first | exact uB HB | exact uS HB (gC GE378 (gC GE388 gN))⟩⟩
      case rest =>
       clear HC39
       try clear c1
       try clear c2
       try clear p2
       try clear c3
       try clear c4
       try clear c5
       try clear c5b0
       try clear c6
       try clear c7
       try clear c9
       try clear c12
       try clear c13
       try clear c21
       try clear c25
       try clear c26
       try clear c29
       try clear c30
       try clear c31
       try clear c34
       try clear c37
       try clear c43
       try clear c43b0
       try clear c45
       try clear c46
       try clear c50
       try clear hcz15_0
       try clear hcz15_1
       try clear hcz15_2
       try clear hcz22_0
       try clear hcz22_1
       try clear hcz22_2
       try clear hcz27_0
       try clear hcz27_1
       try clear hcz27_2
       try clear hcz28_0
       try clear hcz28_1
       try clear hcz28_2
       try clear hcz31_0
       try clear hcz31_1
       try clear hcz31_2
       try clear hcz32_0
       try clear hcz32_1
       try clear hcz32_2
       try clear hcz47_0
       try clear hcz47_1
       try clear hcz47_2
       try clear hcz48_0
       try clear hcz48_1
       try clear hcz48_2
       try clear hcz51_0
       try clear hcz51_1
       try clear hcz51_2
       try clear hcz52_0
       try clear hcz52_1
       try clear hcz52_2
       try clear hfz15_0
       try clear hfz15_1
       try clear hfz15_2
       try clear hfz22_0
       try clear hfz22_1
       try clear hfz22_2
       try clear hfz27_0
       try clear hfz27_1
       try clear hfz27_2
       try clear hfz28_0
       try clear hfz28_1
       try clear hfz28_2
       try clear hfz31_0
       try clear hfz31_1
       try clear hfz31_2
       try clear hfz32_0
       try clear hfz32_1
       try clear hfz32_2
       try clear hfz47_0
       try clear hfz47_1
       try clear hfz47_2
       try clear hfz48_0
       try clear hfz48_1
       try clear hfz48_2
       try clear hfz51_0
       try clear hfz51_1
       try clear hfz51_2
       try clear hfz52_0
       try clear hfz52_1
       try clear hfz52_2
       try clear p2
       obtain ⟨kq, x69_38, rfl, HA, HJ38, HO_379002, HO_389002, BK378, BK388, HB⟩ := hcut
       cases kq with
       | zero => exact absurd HA.out (by simp [laws_FnExactBuildPeeled.j1])
       | succ kj38 =>
        have H := HA.out
        clear HA
        simp only [laws_FnExactBuildPeeled.j1] at H
        by_cases c54 : x69_38 = true
        ·
         subst c54
         have H1 : (some false) = some r := by rw [if_pos rfl] at H; exact H
         clear H
         have H := H1
         clear H1
         obtain rfl := Option.some.inj H
         go_wp2
         go_ret
         exact ⟨by first | rfl | (simp [errW_none, errW_some] <;> rfl) | (simp [*, errW_none, errW_some] <;> rfl), by first | exact uB HB | exact uS HB (gC GE378 (gC GE388 gN))⟩
        ·
         replace c54 := Bool.eq_false_iff.mpr c54
         subst c54
         have H1 : ((laws_markPeeled.f kj38 t382 t383 t384 1).bind fun bt397 => ((laws_heldPeeled.f kj38 t382 t383 bt397.2 1).bind fun t399 => (if t399 < 0 then (some false) else (if t399 = bt397.1 then ((laws_toStringS.f kj38 l1).bind fun t400 => ((impl_BuildPeeled.f kj38 a0 t400 a2).bind fun bt403 => ((laws_eqPeeled.f kj38 bt403.1 bt403.2.1 bt403.2.2.1 t372 t373 t374).bind fun t410 => (if t410 = true then (laws_FnExactBuildPeeled.j2 kj38 bt397.1 (bt403.2.2.2 != t377) t382 t383 bt397.2) else (laws_FnExactBuildPeeled.j2 kj38 bt397.1 true t382 t383 bt397.2))))) else (some false))))) = some r := by rw [if_neg (show ¬ (false = true) by decide)] at H; exact H
         clear H
         have H := H1
         clear H1
         replace H := Option.bind_eq_some_iff.mp H
         obtain ⟨⟨t397, t398⟩, A550, H⟩ := H
         replace H : ((laws_heldPeeled.f kj38 t382 t383 t398 1).bind fun t399 => (if t399 < 0 then (some false) else (if t399 = t397 then ((laws_toStringS.f kj38 l1).bind fun t400 => ((impl_BuildPeeled.f kj38 a0 t400 a2).bind fun bt403 => ((laws_eqPeeled.f kj38 bt403.1 bt403.2.1 bt403.2.2.1 t372 t373 t374).bind fun t410 => (if t410 = true then (laws_FnExactBuildPeeled.j2 kj38 t397 (bt403.2.2.2 != t377) t382 t383 t398) else (laws_FnExactBuildPeeled.j2 kj38 t397 true t382 t383 t398))))) else (some false)))) = some r := H
         have A55 := Aside0.mk A550
         clear A550
         replace H := Option.bind_eq_some_iff.mp H
         obtain ⟨t399, A560, H⟩ := H
         replace H : (if t399 < 0 then (some false) else (if t399 = t397 then ((laws_toStringS.f kj38 l1).bind fun t400 => ((impl_BuildPeeled.f kj38 a0 t400 a2).bind fun bt403 => ((laws_eqPeeled.f kj38 bt403.1 bt403.2.1 bt403.2.2.1 t372 t373 t374).bind fun t410 => (if t410 = true then (laws_FnExactBuildPeeled.j2 kj38 t397 (bt403.2.2.2 != t377) t382 t383 t398) else (laws_FnExactBuildPeeled.j2 kj38 t397 true t382 t383 t398))))) else (some false))) = some r := H
         have A56 := Aside0.mk A560
         clear A560
         by_cases c57 : t399 < 0
         ·
          rw [if_pos c57] at H
          have c57b0 : decide (t399 < 0) = true := decide_eq_true c57
          clear c57
          obtain rfl := Option.some.inj H
          have hnb58 := NB388_378.out
          have hnc58 := NB378_388.out
          have hcz59_0 : wc.cell? ⟨gb388, 0, none⟩ = some (.int .i64 t382) := (blk_cell BK388.out 0).trans rfl
          have hcz59_1 : wc.cell? ⟨gb388, 1, none⟩ = some (.int .i64 t383) := (blk_cell BK388.out 1).trans rfl
          have hcz59_2 : wc.cell? ⟨gb388, 2, none⟩ = some (.slice Ao23 t384.length co23) := (blk_cell BK388.out 2).trans rfl
          have hfz59_0 := blk_frozen BK388.out 0
          have hfz59_1 := blk_frozen BK388.out 1
          have hfz59_2 := blk_frozen BK388.out 2
          go_wp2_with (first | ((with_reducible refine gate_callee (f := 32) rfl ?_); refine goesL_ (some 72) rfl rfl Try.func32 (by kernel_rfl) rfl #[.agg #[.int .i64 t382, .int .i64 t383, .slice Ao23 t384.length co23], .int .i64 1] rfl (by (try simp only [List.map_toArray, List.map_cons, List.map_nil]); first | done | rfl | (simp only [List.length_drop, List.length_take]; rfl)) ?_; (with_reducible refine (laws_markPeeled.calls kj38 t382 t383 (fun k_ => some k_ = (.slice Ao23 t384.length co23 : Value).ownBlock) (.slice Ao23 t384.length co23) t384 1 t397 t398 w _ ?side1 ?side2 A55.out).mono ?_); (case side1 => first | exact uB HB | exact uS HB (gC GE378 (gC GE388 gN))); (case side2 => exact Kd.R_tight rfl HO_389002.out); rintro e w60 ⟨rfl, hy0, hb, hkp⟩; refine ⟨_, rfl, ?_⟩; have n0_ := Aside0.mk (Kd.R_mono (ok' := fun k_ => some k_ ≠ (.slice Ao23 t384.length co23 : Value).ownBlock) (Kd.R_keptB (HO_379002.out) hkp (fun k_ hk_ hs_ => (hk_) hs_)) (fun k_ hk_ => hk_.1)); have n1_ := Aside0.mk (Kd.R_reok rfl hy0 (fun k_ e_ => HO_389002.out.1 k_ e_)); have n2_ := Aside0.mk (blk_kept (uK BK378) hkp (fun hs_ => (fun e_ => (Kd.R_ne HO_389002.out BK378.out (by decide)) e_) hs_)); have n3_ := Aside0.mk (blk_kept (uK BK388) hkp (fun hs_ => (fun e_ => (Kd.R_ne HO_389002.out BK388.out (by decide)) e_) hs_)); have n4_ := Aside0.mk (hb); clear HO_379002 HO_389002 BK378 BK388 HB; have HO_379002 := n0_; have HO_389002 := n1_; have BK378 := n2_; have BK388 := n3_; have HB := n4_; clear n0_ n1_ n2_ n3_ n4_; (try clear hb); (try clear hkp); (try clear hy0); have hcz61_0 : w60.cell? ⟨gb388, 0, none⟩ = some (.int .i64 t382) := (blk_cell BK388.out 0).trans rfl; have hcz61_1 : w60.cell? ⟨gb388, 1, none⟩ = some (.int .i64 t383) := (blk_cell BK388.out 1).trans rfl; have hcz61_2 : w60.cell? ⟨gb388, 2, none⟩ = some (.slice Ao23 t384.length co23) := (blk_cell BK388.out 2).trans rfl; have hfz61_0 := blk_frozen BK388.out 0; have hfz61_1 := blk_frozen BK388.out 1; have hfz61_2 := blk_frozen BK388.out 2) | ((with_reducible refine gate_callee (f := 33) rfl ?_); refine goesL_ (some 75) rfl rfl Try.func33 (by kernel_rfl) rfl #[.agg #[.int .i64 t382, .int .i64 t383, .slice Ao23 t398.length co23], .int .i64 1] rfl (by (try simp only [List.map_toArray, List.map_cons, List.map_nil]); first | done | (rw [show t398.length = t384.length from (Kd.R_reads' HO_389002.out).1.symm] <;> rfl) | rfl | (simp only [List.length_drop, List.length_take]; rfl)) ?_; (with_reducible refine (laws_heldPeeled.calls kj38 t382 t383 _ _ t398 1 t399 _ ?side1 ?side2 A56.out).mono ?_); (case side1 => exact uD HO_389002); (case side2 => rw [show t398.length = t384.length from (Kd.R_reads' HO_389002.out).1.symm]; exact (Kd.R_reads' HO_389002.out).2.1); rintro e w62 ⟨rfl, hb⟩; refine ⟨_, rfl, ?_⟩; have n0_ := Aside0.mk (Kd.R_below (uR HO_379002) hb); have n1_ := Aside0.mk (Kd.R_below (uR HO_389002) hb); have n2_ := Aside0.mk (blk_below (g := gb378) (o := .cells #[.int .i64 t372, .int .i64 t373, .slice Ao16 t374.length co16] 52 (0, 0)) (uK BK378) hb); have n3_ := Aside0.mk (blk_below (g := gb388) (o := .cells #[.int .i64 t382, .int .i64 t383, .slice Ao23 t384.length co23] 52 (0, 0)) (uK BK388) hb); have n4_ := Aside0.mk (below_step (by first | exact uB HB | exact uS HB (gC GE378 (gC GE388 gN))) hb); clear HO_379002 HO_389002 BK378 BK388 HB; have HO_379002 := n0_; have HO_389002 := n1_; have BK378 := n2_; have BK388 := n3_; have HB := n4_; clear n0_ n1_ n2_ n3_ n4_; (try clear hb); (try clear hb2); (try clear hk); (try clear hi)))
          go_ret
          exact ⟨by first | rfl | (simp [errW_none, errW_some] <;> rfl) | (simp [*, errW_none, errW_some] <;> rfl), by first | exact uB HB | exact uS HB (gC GE378 (gC GE388 gN))⟩
         ·
          rw [if_neg c57] at H
          have c57b0 : decide (t399 < 0) = false := decide_eq_false c57
          clear c57
          by_cases c63 : t399 = t397
          ·
           rw [if_pos c63] at H
           have c63b0 : (t399 == t397) = true := beq_iff_eq.mpr c63
           have c63b1 : (t399 != t397) = false := bne_eq_false_iff_eq.mpr c63
           clear c63
           replace H := Option.bind_eq_some_iff.mp H
           obtain ⟨t400, A640, H⟩ := H
           replace H : ((impl_BuildPeeled.f kj38 a0 t400 a2).bind fun bt403 => ((laws_eqPeeled.f kj38 bt403.1 bt403.2.1 bt403.2.2.1 t372 t373 t374).bind fun t410 => (if t410 = true then (laws_FnExactBuildPeeled.j2 kj38 t397 (bt403.2.2.2 != t377) t382 t383 t398) else (laws_FnExactBuildPeeled.j2 kj38 t397 true t382 t383 t398)))) = some r := H
           have A64 := Aside0.mk A640
           clear A640
           replace H := Option.bind_eq_some_iff.mp H
           obtain ⟨⟨t403, t404, t405, t408⟩, A650, H⟩ := H
           replace H : ((laws_eqPeeled.f kj38 t403 t404 t405 t372 t373 t374).bind fun t410 => (if t410 = true then (laws_FnExactBuildPeeled.j2 kj38 t397 (t408 != t377) t382 t383 t398) else (laws_FnExactBuildPeeled.j2 kj38 t397 true t382 t383 t398))) = some r := H
           have A65 := Aside0.mk A650
           clear A650
           have HC66 := Aside0.mk H
           clear H
           have hnb67 := NB388_378.out
           have hnc67 := NB378_388.out
           have hcz68_0 : wc.cell? ⟨gb388, 0, none⟩ = some (.int .i64 t382) := (blk_cell BK388.out 0).trans rfl
           have hcz68_1 : wc.cell? ⟨gb388, 1, none⟩ = some (.int .i64 t383) := (blk_cell BK388.out 1).trans rfl
           have hcz68_2 : wc.cell? ⟨gb388, 2, none⟩ = some (.slice Ao23 t384.length co23) := (blk_cell BK388.out 2).trans rfl
           have hfz68_0 := blk_frozen BK388.out 0
           have hfz68_1 := blk_frozen BK388.out 1
           have hfz68_2 := blk_frozen BK388.out 2
           go_upto_region 25 with (first | ((with_reducible refine gate_callee (f := 32) rfl ?_); refine goesL_ (some 72) rfl rfl Try.func32 (by kernel_rfl) rfl #[.agg #[.int .i64 t382, .int .i64 t383, .slice Ao23 t384.length co23], .int .i64 1] rfl (by (try simp only [List.map_toArray, List.map_cons, List.map_nil]); first | done | rfl | (simp only [List.length_drop, List.length_take]; rfl)) ?_; (with_reducible refine (laws_markPeeled.calls kj38 t382 t383 (fun k_ => some k_ = (.slice Ao23 t384.length co23 : Value).ownBlock) (.slice Ao23 t384.length co23) t384 1 t397 t398 w _ ?side1 ?side2 A55.out).mono ?_); (case side1 => first | exact uB HB | exact uS HB (gC GE378 (gC GE388 gN))); (case side2 => exact Kd.R_tight rfl HO_389002.out); rintro e w69 ⟨rfl, hy0, hb, hkp⟩; refine ⟨_, rfl, ?_⟩; have n0_ := Aside0.mk (Kd.R_mono (ok' := fun k_ => some k_ ≠ (.slice Ao23 t384.length co23 : Value).ownBlock) (Kd.R_keptB (HO_379002.out) hkp (fun k_ hk_ hs_ => (hk_) hs_)) (fun k_ hk_ => hk_.1)); have n1_ := Aside0.mk (Kd.R_reok rfl hy0 (fun k_ e_ => HO_389002.out.1 k_ e_)); have n2_ := Aside0.mk (blk_kept (uK BK378) hkp (fun hs_ => (fun e_ => (Kd.R_ne HO_389002.out BK378.out (by decide)) e_) hs_)); have n3_ := Aside0.mk (blk_kept (uK BK388) hkp (fun hs_ => (fun e_ => (Kd.R_ne HO_389002.out BK388.out (by decide)) e_) hs_)); have n4_ := Aside0.mk (hb); clear HO_379002 HO_389002 BK378 BK388 HB; have HO_379002 := n0_; have HO_389002 := n1_; have BK378 := n2_; have BK388 := n3_; have HB := n4_; clear n0_ n1_ n2_ n3_ n4_; (try clear hb); (try clear hkp); (try clear hy0); have hcz70_0 : w69.cell? ⟨gb388, 0, none⟩ = some (.int .i64 t382) := (blk_cell BK388.out 0).trans rfl; have hcz70_1 : w69.cell? ⟨gb388, 1, none⟩ = some (.int .i64 t383) := (blk_cell BK388.out 1).trans rfl; have hcz70_2 : w69.cell? ⟨gb388, 2, none⟩ = some (.slice Ao23 t384.length co23) := (blk_cell BK388.out 2).trans rfl; have hfz70_0 := blk_frozen BK388.out 0; have hfz70_1 := blk_frozen BK388.out 1; have hfz70_2 := blk_frozen BK388.out 2) | ((with_reducible refine gate_callee (f := 33) rfl ?_); refine goesL_ (some 75) rfl rfl Try.func33 (by kernel_rfl) rfl #[.agg #[.int .i64 t382, .int .i64 t383, .slice Ao23 t398.length co23], .int .i64 1] rfl (by (try simp only [List.map_toArray, List.map_cons, List.map_nil]); first | done | (rw [show t398.length = t384.length from (Kd.R_reads' HO_389002.out).1.symm] <;> rfl) | rfl | (simp only [List.length_drop, List.length_take]; rfl)) ?_; (with_reducible refine (laws_heldPeeled.calls kj38 t382 t383 _ _ t398 1 t399 _ ?side1 ?side2 A56.out).mono ?_); (case side1 => exact uD HO_389002); (case side2 => rw [show t398.length = t384.length from (Kd.R_reads' HO_389002.out).1.symm]; exact (Kd.R_reads' HO_389002.out).2.1); rintro e w71 ⟨rfl, hb⟩; refine ⟨_, rfl, ?_⟩; have n0_ := Aside0.mk (Kd.R_below (uR HO_379002) hb); have n1_ := Aside0.mk (Kd.R_below (uR HO_389002) hb); have n2_ := Aside0.mk (blk_below (g := gb378) (o := .cells #[.int .i64 t372, .int .i64 t373, .slice Ao16 t374.length co16] 52 (0, 0)) (uK BK378) hb); have n3_ := Aside0.mk (blk_below (g := gb388) (o := .cells #[.int .i64 t382, .int .i64 t383, .slice Ao23 t384.length co23] 52 (0, 0)) (uK BK388) hb); have n4_ := Aside0.mk (below_step (by first | exact uB HB | exact uS HB (gC GE378 (gC GE388 gN))) hb); clear HO_379002 HO_389002 BK378 BK388 HB; have HO_379002 := n0_; have HO_389002 := n1_; have BK378 := n2_; have BK388 := n3_; have HB := n4_; clear n0_ n1_ n2_ n3_ n4_; (try clear hb); (try clear hb2); (try clear hk); (try clear hi)) | ((with_reducible refine gate_callee (f := 9) rfl ?_); refine goesL_ (some 84) rfl rfl Try.func9 (by kernel_rfl) rfl #[.slice A1 l1.length c1] rfl (by (try simp only [List.map_toArray, List.map_cons, List.map_nil]); first | done | rfl | (simp only [List.length_drop, List.length_take]; rfl)) ?_; (with_reducible refine (laws_toStringS.calls kj38 _ _ l1 t400 _ ?side1 ?side2 A64.out).mono ?_); (case side1 => exact uC HR1 HB); (case side2 => exact HC1.out); rintro e w72 ⟨v401, rfl, ho0, hb⟩; refine ⟨_, rfl, ?_⟩; have n0_ := Aside0.mk (Kd.R_below (uR HO_379002) hb); have n1_ := Aside0.mk (Kd.R_below (uR HO_389002) hb); have n2_ := Aside0.mk (Kd.R_lower ho0 (below_size (by first | exact uB HB | exact uS HB (gC GE378 (gC GE388 gN))))); have n3_ := Aside0.mk (blk_below (g := gb378) (o := .cells #[.int .i64 t372, .int .i64 t373, .slice Ao16 t374.length co16] 52 (0, 0)) (uK BK378) hb); have n4_ := Aside0.mk (blk_below (g := gb388) (o := .cells #[.int .i64 t382, .int .i64 t383, .slice Ao23 t384.length co23] 52 (0, 0)) (uK BK388) hb); have n5_ := Aside0.mk (below_step (by first | exact uB HB | exact uS HB (gC GE378 (gC GE388 gN))) hb); clear HO_379002 HO_389002 BK378 BK388 HB; have HO_379002 := n0_; have HO_389002 := n1_; have HO402 := n2_; have BK378 := n3_; have BK388 := n4_; have HB := n5_; clear n0_ n1_ n2_ n3_ n4_ n5_; (try clear hb); (try clear hb2); (try clear hk); (try clear hi); (try clear ho0); obtain ⟨Ao73, co73, eo73⟩ := Kd.R_slice HO402.out; subst eo73) | ((with_reducible refine gate_callee (f := 30) rfl ?_); refine goesL_ (some 86) rfl rfl Try.func30 (by kernel_rfl) rfl #[.int .i64 a0, .slice Ao73 t400.length co73, .int .i64 a2] rfl (by (try simp only [List.map_toArray, List.map_cons, List.map_nil]); first | done | rfl | (simp only [List.length_drop, List.length_take]; rfl)) ?_; (with_reducible refine (impl_BuildPeeled.calls kj38 a0 _ _ t400 a2 t403 t404 t405 t408 _ ?side1 ?side2 A65.out).mono ?_); (case side1 => exact uD HO402); (case side2 => exact (Kd.R_reads' HO402.out).2.1); rintro e w74 ⟨v406, rfl, ho0, hb⟩; refine ⟨_, rfl, ?_⟩; have n0_ := Aside0.mk (Kd.R_elder' (uR HO_379002) (Kd.R_base ho0) hb); have n1_ := Aside0.mk (Kd.R_elder' (uR HO_389002) (Kd.R_base ho0) hb); have n2_ := Aside0.mk (Kd.R_below (uR HO402) hb); have n3_ := Aside0.mk (Kd.R_lower (Kd.R_new' (Kd.R_new' ho0 (Kd.R_lt (uR HO_379002))) (Kd.R_lt (uR HO_389002))) (below_size (by first | exact uB HB | exact uS HB (gC GE378 (gC GE388 gN))))); have n4_ := Aside0.mk (blk_below (g := gb378) (o := .cells #[.int .i64 t372, .int .i64 t373, .slice Ao16 t374.length co16] 52 (0, 0)) (uK BK378) hb); have n5_ := Aside0.mk (blk_below (g := gb388) (o := .cells #[.int .i64 t382, .int .i64 t383, .slice Ao23 t384.length co23] 52 (0, 0)) (uK BK388) hb); have n6_ := Aside0.mk (below_step (by first | exact uB HB | exact uS HB (gC GE378 (gC GE388 gN))) hb); clear HO_379002 HO_389002 HO402 BK378 BK388 HB; have HO_379002 := n0_; have HO_389002 := n1_; have HO402 := n2_; have HO407 := n3_; have BK378 := n4_; have BK388 := n5_; have HB := n6_; clear n0_ n1_ n2_ n3_ n4_ n5_ n6_; (try clear hb); (try clear hb2); (try clear hk); (try clear hi); (try clear ho0)) | ((with_reducible refine gate_dst (N := 16) rfl ?_); refine box_event ?hg (N := 16) ?hd (cs := #[.int .i64 0, .int .i64 0, .slice none 0 0]) (t := 52) ?hr ?_; (case hd => rfl); (case hg => rfl); (case hr => first | (go_simp; done) | (go_simp; rfl)); intro gb409 hg w75 hbox hb; have n0_ := Aside0.mk (Kd.R_below (uR HO_379002) hb); have n1_ := Aside0.mk (Kd.R_below (uR HO_389002) hb); have n2_ := Aside0.mk (Kd.R_below (uR HO402) hb); have n3_ := Aside0.mk (Kd.R_below (uR HO407) hb); have n4_ := Aside0.mk (blk_below (g := gb378) (o := .cells #[.int .i64 t372, .int .i64 t373, .slice Ao16 t374.length co16] 52 (0, 0)) (uK BK378) hb); have n5_ := Aside0.mk (blk_below (g := gb388) (o := .cells #[.int .i64 t382, .int .i64 t383, .slice Ao23 t384.length co23] 52 (0, 0)) (uK BK388) hb); have n6_ := Aside0.mk (below_step (by first | exact uB HB | exact uS HB (gC GE378 (gC GE388 gN))) hb); have n7_ := Aside0.mk (hbox); have n8_ := Aside0.mk ((by rw [hg]; exact (below_size (by first | exact uB HB | exact uS HB (gC GE378 (gC GE388 gN)))) : w.heap.size ≤ gb409)); have n9_ := Aside0.mk ((by rw [hg]; exact (below_size (by first | exact uB HB | exact uS HB (gC GE378 (gC GE388 gN)))) : w.heap.size ≤ gb409)); have n10_ := Aside0.mk ((by rw [hg]; exact Nat.ne_of_lt (blk_lt (g := gb378) (o := .cells #[.int .i64 t372, .int .i64 t373, .slice Ao16 t374.length co16] 52 (0, 0)) (uK BK378)) : gb378 ≠ gb409)); have n11_ := Aside0.mk ((by rw [hg]; exact Nat.ne_of_gt (blk_lt (g := gb378) (o := .cells #[.int .i64 t372, .int .i64 t373, .slice Ao16 t374.length co16] 52 (0, 0)) (uK BK378)) : gb409 ≠ gb378)); have n12_ := Aside0.mk ((by rw [hg]; exact Nat.ne_of_lt (blk_lt (g := gb388) (o := .cells #[.int .i64 t382, .int .i64 t383, .slice Ao23 t384.length co23] 52 (0, 0)) (uK BK388)) : gb388 ≠ gb409)); have n13_ := Aside0.mk ((by rw [hg]; exact Nat.ne_of_gt (blk_lt (g := gb388) (o := .cells #[.int .i64 t382, .int .i64 t383, .slice Ao23 t384.length co23] 52 (0, 0)) (uK BK388)) : gb409 ≠ gb388)); clear HO_379002 HO_389002 HO402 HO407 BK378 BK388 HB; have HO_379002 := n0_; have HO_389002 := n1_; have HO402 := n2_; have HO407 := n3_; have BK378 := n4_; have BK388 := n5_; have HB := n6_; have BK409 := n7_; have GW409 := n8_; have GE409 := n9_; have NB378_409 := n10_; have NB409_378 := n11_; have NB388_409 := n12_; have NB409_388 := n13_; clear n0_ n1_ n2_ n3_ n4_ n5_ n6_ n7_ n8_ n9_ n10_ n11_ n12_ n13_ hb hbox hg; have hnb76 := NB409_378.out; have hnc76 := NB378_409.out; have hnb77 := NB409_388.out; have hnc77 := NB388_409.out; have hcz78_0 : w75.cell? ⟨gb409, 0, none⟩ = some (.int .i64 0) := (blk_cell BK409.out 0).trans rfl; have hcz78_1 : w75.cell? ⟨gb409, 1, none⟩ = some (.int .i64 0) := (blk_cell BK409.out 1).trans rfl; have hcz78_2 : w75.cell? ⟨gb409, 2, none⟩ = some (.slice none 0 0) := (blk_cell BK409.out 2).trans rfl; have hfz78_0 := blk_frozen BK409.out 0; have hfz78_1 := blk_frozen BK409.out 1; have hfz78_2 := blk_frozen BK409.out 2; obtain ⟨Ao79, co79, eo79⟩ := Kd.R_slice HO407.out; subst eo79))
           (try simp only [Act.put, List.setIfInBounds_toArray, List.set_cons_zero, List.set_cons_succ])
           go_cut [97] (fun v97 wc => ∃ (kq : Nat) (x97_65 : Bool), v97 = .bool x97_65 ∧ Aside0 (laws_FnExactBuildPeeled.j2 kq t397 x97_65 t382 t383 t398 = some r) ∧ Aside0 (kq ≤ kj38) ∧ Aside0 (Kd.R (Kd.int .i64) 3 wc w.heap.size (fun k_ => some k_ ≠ ((.slice Ao23 t384.length co23) : Value).ownBlock ∧ some k_ ≠ ((.slice Ao79 t405.length co79) : Value).ownBlock) (.slice Ao16 t374.length co16) t374) ∧ Aside0 (Kd.R (Kd.int .i64) 3 wc w.heap.size (fun k_ => some k_ ≠ ((.slice Ao16 t374.length co16) : Value).ownBlock ∧ some k_ ≠ ((.slice Ao79 t405.length co79) : Value).ownBlock) (.slice Ao23 t384.length co23) t398) ∧ Aside0 (Kd.R (Kd.int .i64) 3 wc w.heap.size (fun k_ => some k_ ≠ ((.slice Ao16 t374.length co16) : Value).ownBlock ∧ some k_ ≠ ((.slice Ao23 t384.length co23) : Value).ownBlock) (.slice Ao79 t405.length co79) t405) ∧ Aside0 (wc.heap[gb378]? = some (.cells #[.int .i64 t372, .int .i64 t373, (.slice Ao16 t374.length co16)] 52 (0, 0))) ∧ Aside0 (wc.heap[gb388]? = some (.cells #[.int .i64 t382, .int .i64 t383, (.slice Ao23 t384.length co23)] 52 (0, 0))) ∧ Aside0 (wc.heap[gb409]? = some (.cells #[.int .i64 t403, .int .i64 t404, (.slice Ao79 t405.length co79)] 52 (0, 0))) ∧ Aside0 (Below w.heap.size w wc))
           case first =>
            have H := HC66.out
            clear HC66
            replace H := Option.bind_eq_some_iff.mp H
            obtain ⟨t410, A800, H⟩ := H
            replace H : (if t410 = true then (laws_FnExactBuildPeeled.j2 kj38 t397 (t408 != t377) t382 t383 t398) else (laws_FnExactBuildPeeled.j2 kj38 t397 true t382 t383 t398)) = some r := H
            have A80 := Aside0.mk A800
            clear A800
            by_cases c81 : t410 = true
            ·
             subst c81
             have H1 : (laws_FnExactBuildPeeled.j2 kj38 t397 (t408 != t377) t382 t383 t398) = some r := by rw [if_pos rfl] at H; exact H
             clear H
             have H := H1
             clear H1
             have H' := Aside0.mk H
             clear H
             have hnb82 := NB409_378.out
             have hnc82 := NB378_409.out
             have hnb83 := NB409_388.out
             have hnc83 := NB388_409.out
             have hcz84_0 : w75.cell? ⟨gb409, 0, none⟩ = some (.int .i64 0) := (blk_cell BK409.out 0).trans rfl
             have hcz84_1 : w75.cell? ⟨gb409, 1, none⟩ = some (.int .i64 0) := (blk_cell BK409.out 1).trans rfl
             have hcz84_2 : w75.cell? ⟨gb409, 2, none⟩ = some (.slice none 0 0) := (blk_cell BK409.out 2).trans rfl
             have hfz84_0 := blk_frozen BK409.out 0
             have hfz84_1 := blk_frozen BK409.out 1
             have hfz84_2 := blk_frozen BK409.out 2
             have hnb85 := NB378_388.out
             have hnc85 := NB388_378.out
             have hcz86_0 : w75.cell? ⟨gb378, 0, none⟩ = some (.int .i64 t372) := (blk_cell BK378.out 0).trans rfl
             have hcz86_1 : w75.cell? ⟨gb378, 1, none⟩ = some (.int .i64 t373) := (blk_cell BK378.out 1).trans rfl
             have hcz86_2 : w75.cell? ⟨gb378, 2, none⟩ = some (.slice Ao16 t374.length co16) := (blk_cell BK378.out 2).trans rfl
             have hfz86_0 := blk_frozen BK378.out 0
             have hfz86_1 := blk_frozen BK378.out 1
             have hfz86_2 := blk_frozen BK378.out 2
             go_wp2_with (first | ((with_reducible refine gate_callee (f := 31) rfl ?_); refine goesL_ (some 91) rfl rfl Try.func31 (by kernel_rfl) rfl #[.agg #[.int .i64 t403, .int .i64 t404, .slice Ao79 t405.length co79], .agg #[.int .i64 t372, .int .i64 t373, .slice Ao16 t374.length co16]] rfl (by (try simp only [List.map_toArray, List.map_cons, List.map_nil]); first | done | rfl | (simp only [List.length_drop, List.length_take]; rfl)) ?_; (with_reducible refine (laws_eqPeeled.calls kj38 t403 t404 _ _ t405 t372 t373 _ _ t374 true _ ?side1 ?side2 ?side3 ?side4 A80.out).mono ?_); (case side1 => refine (Kd.R_reads' (e := 3) (base := w.heap.size) (ok := fun k_ => ((True ∧ some k_ ≠ (.slice Ao16 t374.length co16 : Value).ownBlock) ∧ some k_ ≠ (.slice Ao23 t384.length co23 : Value).ownBlock)) (n := t405.length) (c := co79) ?_).2.2; exact (by (with_reducible repeat (first | apply Kd.R_alloc | apply Kd.R_drewN | apply Kd.R_drew)); exact (Kd.R_mono (Kd.R_far (p := ⟨gb409, 2, none⟩) (Kd.R_far (p := ⟨gb409, 1, none⟩) (Kd.R_far (p := ⟨gb409, 0, none⟩) (Kd.R_types HO407.out BK409.out (by decide)) (fun _ hk => hk.2) (.int .i64 t403)) (fun _ hk => hk.2) (.int .i64 t404)) (fun _ hk => hk.2) (.slice Ao79 t405.length co79)) (fun _ h_ => h_.1)))); (case side2 => exact (Kd.R_reads' HO407.out).2.1); (case side3 => refine (Kd.R_reads' (e := 3) (base := w.heap.size) (ok := fun k_ => (some k_ ≠ (.slice Ao23 t384.length co23 : Value).ownBlock ∧ some k_ ≠ (.slice Ao79 t405.length co79 : Value).ownBlock)) (n := t374.length) (c := co16) ?_).2.2; exact (by (with_reducible repeat (first | apply Kd.R_alloc | apply Kd.R_drewN | apply Kd.R_drew)); exact (Kd.R_mono (Kd.R_far (p := ⟨gb409, 2, none⟩) (Kd.R_far (p := ⟨gb409, 1, none⟩) (Kd.R_far (p := ⟨gb409, 0, none⟩) (Kd.R_types HO_379002.out BK409.out (by decide)) (fun _ hk => hk.2) (.int .i64 t403)) (fun _ hk => hk.2) (.int .i64 t404)) (fun _ hk => hk.2) (.slice Ao79 t405.length co79)) (fun _ h_ => h_.1)))); (case side4 => exact (Kd.R_reads' HO_379002.out).2.1); rintro e w87 ⟨rfl, hb⟩; refine ⟨_, rfl, ?_⟩; have n0_ := Aside0.mk (Kd.R_below (by (with_reducible repeat (first | apply Kd.R_alloc | apply Kd.R_drewN | apply Kd.R_drew)); exact (Kd.R_mono (Kd.R_far (p := ⟨gb409, 2, none⟩) (Kd.R_far (p := ⟨gb409, 1, none⟩) (Kd.R_far (p := ⟨gb409, 0, none⟩) (Kd.R_types HO_379002.out BK409.out (by decide)) (fun _ hk => hk.2) (.int .i64 t403)) (fun _ hk => hk.2) (.int .i64 t404)) (fun _ hk => hk.2) (.slice Ao79 t405.length co79)) (fun _ h_ => h_.1))) hb); have n1_ := Aside0.mk (Kd.R_below (by (with_reducible repeat (first | apply Kd.R_alloc | apply Kd.R_drewN | apply Kd.R_drew)); exact (Kd.R_mono (Kd.R_far (p := ⟨gb409, 2, none⟩) (Kd.R_far (p := ⟨gb409, 1, none⟩) (Kd.R_far (p := ⟨gb409, 0, none⟩) (Kd.R_types HO_389002.out BK409.out (by decide)) (fun _ hk => hk.2) (.int .i64 t403)) (fun _ hk => hk.2) (.int .i64 t404)) (fun _ hk => hk.2) (.slice Ao79 t405.length co79)) (fun _ h_ => h_.1))) hb); have n2_ := Aside0.mk (Kd.R_below (by (with_reducible repeat (first | apply Kd.R_alloc | apply Kd.R_drewN | apply Kd.R_drew)); exact (Kd.R_mono (Kd.R_far (p := ⟨gb409, 2, none⟩) (Kd.R_far (p := ⟨gb409, 1, none⟩) (Kd.R_far (p := ⟨gb409, 0, none⟩) (Kd.R_types HO402.out BK409.out (by decide)) (fun _ hk => hk.2) (.int .i64 t403)) (fun _ hk => hk.2) (.int .i64 t404)) (fun _ hk => hk.2) (.slice Ao79 t405.length co79)) (fun _ h_ => h_.1))) hb); have n3_ := Aside0.mk (Kd.R_below (by (with_reducible repeat (first | apply Kd.R_alloc | apply Kd.R_drewN | apply Kd.R_drew)); exact (Kd.R_mono (Kd.R_far (p := ⟨gb409, 2, none⟩) (Kd.R_far (p := ⟨gb409, 1, none⟩) (Kd.R_far (p := ⟨gb409, 0, none⟩) (Kd.R_types HO407.out BK409.out (by decide)) (fun _ hk => hk.2) (.int .i64 t403)) (fun _ hk => hk.2) (.int .i64 t404)) (fun _ hk => hk.2) (.slice Ao79 t405.length co79)) (fun _ h_ => h_.1))) hb); have n4_ := Aside0.mk (blk_below (g := gb378) (o := .cells #[.int .i64 t372, .int .i64 t373, .slice Ao16 t374.length co16] 52 (0, 0)) (by refine uW ?_; refine blk_far ?_ NB378_409.out _; refine uW ?_; refine blk_far ?_ NB378_409.out _; refine uW ?_; refine blk_far ?_ NB378_409.out _; refine uW ?_; exact BK378.out) hb); have n5_ := Aside0.mk (blk_below (g := gb388) (o := .cells #[.int .i64 t382, .int .i64 t383, .slice Ao23 t384.length co23] 52 (0, 0)) (by refine uW ?_; refine blk_far ?_ NB388_409.out _; refine uW ?_; refine blk_far ?_ NB388_409.out _; refine uW ?_; refine blk_far ?_ NB388_409.out _; refine uW ?_; exact BK388.out) hb); have n6_ := Aside0.mk (blk_below (g := gb409) (o := .cells #[.int .i64 t403, .int .i64 t404, .slice Ao79 t405.length co79] 52 (0, 0)) (by refine uW ?_; refine blk_put (cs := #[.int .i64 t403, .int .i64 t404, .slice none 0 0]) ?_ 2 _ rfl; refine uW ?_; refine blk_put (cs := #[.int .i64 t403, .int .i64 0, .slice none 0 0]) ?_ 1 _ rfl; refine uW ?_; refine blk_put (cs := #[.int .i64 0, .int .i64 0, .slice none 0 0]) ?_ 0 _ rfl; refine uW ?_; exact BK409.out) hb); have n7_ := Aside0.mk (below_step (by first | exact uB HB | exact uS HB (gC GE378 (gC GE388 (gC GE409 gN)))) hb); clear HO_379002 HO_389002 HO402 HO407 BK378 BK388 BK409 HB; have HO_379002 := n0_; have HO_389002 := n1_; have HO402 := n2_; have HO407 := n3_; have BK378 := n4_; have BK388 := n5_; have BK409 := n6_; have HB := n7_; clear n0_ n1_ n2_ n3_ n4_ n5_ n6_ n7_; (try clear hb); (try clear hb2); (try clear hk); (try clear hi)))
             go_meet
             case rel => exact ⟨_, ((t408 != t377)), (by first | rfl | (simp; done) | (simp [*]; done)), H', ⟨by have := HJ9.out; have := HJ38.out; first | omega | exact Nat.le_refl _⟩, ⟨by (with_reducible repeat (first | apply Kd.R_alloc | apply Kd.R_drewN | apply Kd.R_drew)); exact HO_379002.out⟩, ⟨by (with_reducible repeat (first | apply Kd.R_alloc | apply Kd.R_drewN | apply Kd.R_drew)); exact HO_389002.out⟩, ⟨by (with_reducible repeat (first | apply Kd.R_alloc | apply Kd.R_drewN | apply Kd.R_drew)); exact Kd.R_mono HO407.out (fun _ hk => ⟨hk.1.2, hk.2⟩)⟩, ⟨by refine uW ?_; exact BK378.out⟩, ⟨by refine uW ?_; exact BK388.out⟩, ⟨by refine uW ?_; exact BK409.out⟩, ⟨by first | exact uB HB | exact uS HB (gC GE378 (gC GE388 (gC GE409 gN)))⟩⟩
            ·
             replace c81 := Bool.eq_false_iff.mpr c81
             subst c81
             have H1 : (laws_FnExactBuildPeeled.j2 kj38 t397 true t382 t383 t398) = some r := by rw [if_neg (show ¬ (false = true) by decide)] at H; exact H
             clear H
             have H := H1
             clear H1
             have H' := Aside0.mk H
             clear H
             have hnb88 := NB409_378.out
             have hnc88 := NB378_409.out
             have hnb89 := NB409_388.out
             have hnc89 := NB388_409.out
             have hcz90_0 : w75.cell? ⟨gb409, 0, none⟩ = some (.int .i64 0) := (blk_cell BK409.out 0).trans rfl
             have hcz90_1 : w75.cell? ⟨gb409, 1, none⟩ = some (.int .i64 0) := (blk_cell BK409.out 1).trans rfl
             have hcz90_2 : w75.cell? ⟨gb409, 2, none⟩ = some (.slice none 0 0) := (blk_cell BK409.out 2).trans rfl
             have hfz90_0 := blk_frozen BK409.out 0
             have hfz90_1 := blk_frozen BK409.out 1
             have hfz90_2 := blk_frozen BK409.out 2
             have hnb91 := NB378_388.out
             have hnc91 := NB388_378.out
             have hcz92_0 : w75.cell? ⟨gb378, 0, none⟩ = some (.int .i64 t372) := (blk_cell BK378.out 0).trans rfl
             have hcz92_1 : w75.cell? ⟨gb378, 1, none⟩ = some (.int .i64 t373) := (blk_cell BK378.out 1).trans rfl
             have hcz92_2 : w75.cell? ⟨gb378, 2, none⟩ = some (.slice Ao16 t374.length co16) := (blk_cell BK378.out 2).trans rfl
             have hfz92_0 := blk_frozen BK378.out 0
             have hfz92_1 := blk_frozen BK378.out 1
             have hfz92_2 := blk_frozen BK378.out 2
             go_wp2_with (first | ((with_reducible refine gate_callee (f := 31) rfl ?_); refine goesL_ (some 91) rfl rfl Try.func31 (by kernel_rfl) rfl #[.agg #[.int .i64 t403, .int .i64 t404, .slice Ao79 t405.length co79], .agg #[.int .i64 t372, .int .i64 t373, .slice Ao16 t374.length co16]] rfl (by (try simp only [List.map_toArray, List.map_cons, List.map_nil]); first | done | rfl | (simp only [List.length_drop, List.length_take]; rfl)) ?_; (with_reducible refine (laws_eqPeeled.calls kj38 t403 t404 _ _ t405 t372 t373 _ _ t374 false _ ?side1 ?side2 ?side3 ?side4 A80.out).mono ?_); (case side1 => refine (Kd.R_reads' (e := 3) (base := w.heap.size) (ok := fun k_ => ((True ∧ some k_ ≠ (.slice Ao16 t374.length co16 : Value).ownBlock) ∧ some k_ ≠ (.slice Ao23 t384.length co23 : Value).ownBlock)) (n := t405.length) (c := co79) ?_).2.2; exact (by (with_reducible repeat (first | apply Kd.R_alloc | apply Kd.R_drewN | apply Kd.R_drew)); exact (Kd.R_mono (Kd.R_far (p := ⟨gb409, 2, none⟩) (Kd.R_far (p := ⟨gb409, 1, none⟩) (Kd.R_far (p := ⟨gb409, 0, none⟩) (Kd.R_types HO407.out BK409.out (by decide)) (fun _ hk => hk.2) (.int .i64 t403)) (fun _ hk => hk.2) (.int .i64 t404)) (fun _ hk => hk.2) (.slice Ao79 t405.length co79)) (fun _ h_ => h_.1)))); (case side2 => exact (Kd.R_reads' HO407.out).2.1); (case side3 => refine (Kd.R_reads' (e := 3) (base := w.heap.size) (ok := fun k_ => (some k_ ≠ (.slice Ao23 t384.length co23 : Value).ownBlock ∧ some k_ ≠ (.slice Ao79 t405.length co79 : Value).ownBlock)) (n := t374.length) (c := co16) ?_).2.2; exact (by (with_reducible repeat (first | apply Kd.R_alloc | apply Kd.R_drewN | apply Kd.R_drew)); exact (Kd.R_mono (Kd.R_far (p := ⟨gb409, 2, none⟩) (Kd.R_far (p := ⟨gb409, 1, none⟩) (Kd.R_far (p := ⟨gb409, 0, none⟩) (Kd.R_types HO_379002.out BK409.out (by decide)) (fun _ hk => hk.2) (.int .i64 t403)) (fun _ hk => hk.2) (.int .i64 t404)) (fun _ hk => hk.2) (.slice Ao79 t405.length co79)) (fun _ h_ => h_.1)))); (case side4 => exact (Kd.R_reads' HO_379002.out).2.1); rintro e w93 ⟨rfl, hb⟩; refine ⟨_, rfl, ?_⟩; have n0_ := Aside0.mk (Kd.R_below (by (with_reducible repeat (first | apply Kd.R_alloc | apply Kd.R_drewN | apply Kd.R_drew)); exact (Kd.R_mono (Kd.R_far (p := ⟨gb409, 2, none⟩) (Kd.R_far (p := ⟨gb409, 1, none⟩) (Kd.R_far (p := ⟨gb409, 0, none⟩) (Kd.R_types HO_379002.out BK409.out (by decide)) (fun _ hk => hk.2) (.int .i64 t403)) (fun _ hk => hk.2) (.int .i64 t404)) (fun _ hk => hk.2) (.slice Ao79 t405.length co79)) (fun _ h_ => h_.1))) hb); have n1_ := Aside0.mk (Kd.R_below (by (with_reducible repeat (first | apply Kd.R_alloc | apply Kd.R_drewN | apply Kd.R_drew)); exact (Kd.R_mono (Kd.R_far (p := ⟨gb409, 2, none⟩) (Kd.R_far (p := ⟨gb409, 1, none⟩) (Kd.R_far (p := ⟨gb409, 0, none⟩) (Kd.R_types HO_389002.out BK409.out (by decide)) (fun _ hk => hk.2) (.int .i64 t403)) (fun _ hk => hk.2) (.int .i64 t404)) (fun _ hk => hk.2) (.slice Ao79 t405.length co79)) (fun _ h_ => h_.1))) hb); have n2_ := Aside0.mk (Kd.R_below (by (with_reducible repeat (first | apply Kd.R_alloc | apply Kd.R_drewN | apply Kd.R_drew)); exact (Kd.R_mono (Kd.R_far (p := ⟨gb409, 2, none⟩) (Kd.R_far (p := ⟨gb409, 1, none⟩) (Kd.R_far (p := ⟨gb409, 0, none⟩) (Kd.R_types HO402.out BK409.out (by decide)) (fun _ hk => hk.2) (.int .i64 t403)) (fun _ hk => hk.2) (.int .i64 t404)) (fun _ hk => hk.2) (.slice Ao79 t405.length co79)) (fun _ h_ => h_.1))) hb); have n3_ := Aside0.mk (Kd.R_below (by (with_reducible repeat (first | apply Kd.R_alloc | apply Kd.R_drewN | apply Kd.R_drew)); exact (Kd.R_mono (Kd.R_far (p := ⟨gb409, 2, none⟩) (Kd.R_far (p := ⟨gb409, 1, none⟩) (Kd.R_far (p := ⟨gb409, 0, none⟩) (Kd.R_types HO407.out BK409.out (by decide)) (fun _ hk => hk.2) (.int .i64 t403)) (fun _ hk => hk.2) (.int .i64 t404)) (fun _ hk => hk.2) (.slice Ao79 t405.length co79)) (fun _ h_ => h_.1))) hb); have n4_ := Aside0.mk (blk_below (g := gb378) (o := .cells #[.int .i64 t372, .int .i64 t373, .slice Ao16 t374.length co16] 52 (0, 0)) (by refine uW ?_; refine blk_far ?_ NB378_409.out _; refine uW ?_; refine blk_far ?_ NB378_409.out _; refine uW ?_; refine blk_far ?_ NB378_409.out _; refine uW ?_; exact BK378.out) hb); have n5_ := Aside0.mk (blk_below (g := gb388) (o := .cells #[.int .i64 t382, .int .i64 t383, .slice Ao23 t384.length co23] 52 (0, 0)) (by refine uW ?_; refine blk_far ?_ NB388_409.out _; refine uW ?_; refine blk_far ?_ NB388_409.out _; refine uW ?_; refine blk_far ?_ NB388_409.out _; refine uW ?_; exact BK388.out) hb); have n6_ := Aside0.mk (blk_below (g := gb409) (o := .cells #[.int .i64 t403, .int .i64 t404, .slice Ao79 t405.length co79] 52 (0, 0)) (by refine uW ?_; refine blk_put (cs := #[.int .i64 t403, .int .i64 t404, .slice none 0 0]) ?_ 2 _ rfl; refine uW ?_; refine blk_put (cs := #[.int .i64 t403, .int .i64 0, .slice none 0 0]) ?_ 1 _ rfl; refine uW ?_; refine blk_put (cs := #[.int .i64 0, .int .i64 0, .slice none 0 0]) ?_ 0 _ rfl; refine uW ?_; exact BK409.out) hb); have n7_ := Aside0.mk (below_step (by first | exact uB HB | exact uS HB (gC GE378 (gC GE388 (gC GE409 gN)))) hb); clear HO_379002 HO_389002 HO402 HO407 BK378 BK388 BK409 HB; have HO_379002 := n0_; have HO_389002 := n1_; have HO402 := n2_; have HO407 := n3_; have BK378 := n4_; have BK388 := n5_; have BK409 := n6_; have HB := n7_; clear n0_ n1_ n2_ n3_ n4_ n5_ n6_ n7_; (try clear hb); (try clear hb2); (try clear hk); (try clear hi)))
             go_meet
             case rel => exact ⟨_, (true), (by first | rfl | (simp; done) | (simp [*]; done)), H', ⟨by have := HJ9.out; have := HJ38.out; first | omega | exact Nat.le_refl _⟩, ⟨by (with_reducible repeat (first | apply Kd.R_alloc | apply Kd.R_drewN | apply Kd.R_drew)); exact HO_379002.out⟩, ⟨by (with_reducible repeat (first | apply Kd.R_alloc | apply Kd.R_drewN | apply Kd.R_drew)); exact HO_389002.out⟩, ⟨by (with_reducible repeat (first | apply Kd.R_alloc | apply Kd.R_drewN | apply Kd.R_drew)); exact Kd.R_mono HO407.out (fun _ hk => ⟨hk.1.2, hk.2⟩)⟩, ⟨by refine uW ?_; exact BK378.out⟩, ⟨by refine uW ?_; exact BK388.out⟩, ⟨by refine uW ?_; exact BK409.out⟩, ⟨by first | exact uB HB | exact uS HB (gC GE378 (gC GE388 (gC GE409 gN)))⟩⟩
           case rest =>
            clear HC66
            try clear c1
            try clear c2
            try clear p2
            try clear c3
            try clear c4
            try clear c5
            try clear c5b0
            try clear c6
            try clear c7
            try clear c8
            try clear c9
            try clear c12
            try clear c13
            try clear c21
            try clear c25
            try clear c26
            try clear c29
            try clear c30
            try clear c31
            try clear c32
            try clear c33
            try clear c34
            try clear c37
            try clear c43
            try clear c43b0
            try clear c45
            try clear c46
            try clear c50
            try clear c54
            try clear c57
            try clear c57b0
            try clear c58
            try clear c63
            try clear c63b0
            try clear c63b1
            try clear c67
            try clear c76
            try clear c77
            try clear c81
            try clear c82
            try clear c83
            try clear c85
            try clear c88
            try clear c89
            try clear c91
            try clear hcz15_0
            try clear hcz15_1
            try clear hcz15_2
            try clear hcz22_0
            try clear hcz22_1
            try clear hcz22_2
            try clear hcz27_0
            try clear hcz27_1
            try clear hcz27_2
            try clear hcz28_0
            try clear hcz28_1
            try clear hcz28_2
            try clear hcz31_0
            try clear hcz31_1
            try clear hcz31_2
            try clear hcz32_0
            try clear hcz32_1
            try clear hcz32_2
            try clear hcz47_0
            try clear hcz47_1
            try clear hcz47_2
            try clear hcz48_0
            try clear hcz48_1
            try clear hcz48_2
            try clear hcz51_0
            try clear hcz51_1
            try clear hcz51_2
            try clear hcz52_0
            try clear hcz52_1
            try clear hcz52_2
            try clear hcz59_0
            try clear hcz59_1
            try clear hcz59_2
            try clear hcz61_0
            try clear hcz61_1
            try clear hcz61_2
            try clear hcz68_0
            try clear hcz68_1
            try clear hcz68_2
            try clear hcz70_0
            try clear hcz70_1
            try clear hcz70_2
            try clear hcz78_0
            try clear hcz78_1
            try clear hcz78_2
            try clear hcz84_0
            try clear hcz84_1
            try clear hcz84_2
            try clear hcz86_0
            try clear hcz86_1
            try clear hcz86_2
            try clear hcz90_0
            try clear hcz90_1
            try clear hcz90_2
            try clear hcz92_0
            try clear hcz92_1
            try clear hcz92_2
            try clear hfz15_0
            try clear hfz15_1
            try clear hfz15_2
            try clear hfz22_0
            try clear hfz22_1
            try clear hfz22_2
            try clear hfz27_0
            try clear hfz27_1
            try clear hfz27_2
            try clear hfz28_0
            try clear hfz28_1
            try clear hfz28_2
            try clear hfz31_0
            try clear hfz31_1
            try clear hfz31_2
            try clear hfz32_0
            try clear hfz32_1
            try clear hfz32_2
            try clear hfz47_0
            try clear hfz47_1
            try clear hfz47_2
            try clear hfz48_0
            try clear hfz48_1
            try clear hfz48_2
            try clear hfz51_0
            try clear hfz51_1
            try clear hfz51_2
            try clear hfz52_0
            try clear hfz52_1
            try clear hfz52_2
            try clear hfz59_0
            try clear hfz59_1
            try clear hfz59_2
            try clear hfz61_0
            try clear hfz61_1
            try clear hfz61_2
            try clear hfz68_0
            try clear hfz68_1
            try clear hfz68_2
            try clear hfz70_0
            try clear hfz70_1
            try clear hfz70_2
            try clear hfz78_0
            try clear hfz78_1
            try clear hfz78_2
            try clear hfz84_0
            try clear hfz84_1
            try clear hfz84_2
            try clear hfz86_0
            try clear hfz86_1
            try clear hfz86_2
            try clear hfz90_0
            try clear hfz90_1
            try clear hfz90_2
            try clear hfz92_0
            try clear hfz92_1
            try clear hfz92_2
            try clear p2
            obtain ⟨kq, x97_65, rfl, HA, HJ65, HO_379002, HO_389002, HO_410002, BK378, BK388, BK409, HB⟩ := hcut
            have hl389002_65 := (Kd.R_reads' HO_389002.out).1
            rw [hl389002_65] at HO_389002
            (try simp only [hl389002_65])
            (try simp only [hl389002_65] at BK378)
            (try simp only [hl389002_65] at BK388)
            (try simp only [hl389002_65] at BK409)
            (try simp only [hl389002_65] at HO_379002)
            (try simp only [hl389002_65] at HO_410002)
            cases kq with
            | zero => exact absurd HA.out (by simp [laws_FnExactBuildPeeled.j2])
            | succ kj65 =>
             have H := HA.out
             clear HA
             simp only [laws_FnExactBuildPeeled.j2] at H
             by_cases c94 : x97_65 = true
             ·
              subst c94
              have H1 : (some false) = some r := by rw [if_pos rfl] at H; exact H
              clear H
              have H := H1
              clear H1
              obtain rfl := Option.some.inj H
              go_wp2
              go_ret
              exact ⟨by first | rfl | (simp [errW_none, errW_some] <;> rfl) | (simp [*, errW_none, errW_some] <;> rfl), by first | exact uB HB | exact uS HB (gC GE378 (gC GE388 (gC GE409 gN)))⟩
             ·
              replace c94 := Bool.eq_false_iff.mpr c94
              subst c94
              have H1 : ((laws_heldPeeled.f kj65 t382 t383 t398 1).bind fun t411 => (if t411 < 0 then (some false) else (if t411 = t397 then (some true) else (some false)))) = some r := by rw [if_neg (show ¬ (false = true) by decide)] at H; exact H
              clear H
              have H := H1
              clear H1
              replace H := Option.bind_eq_some_iff.mp H
              obtain ⟨t411, A950, H⟩ := H
              replace H : (if t411 < 0 then (some false) else (if t411 = t397 then (some true) else (some false))) = some r := H
              have A95 := Aside0.mk A950
              clear A950
              by_cases c96 : t411 < 0
              ·
               rw [if_pos c96] at H
               have c96b0 : decide (t411 < 0) = true := decide_eq_true c96
               clear c96
               obtain rfl := Option.some.inj H
               have hnb97 := NB388_378.out
               have hnc97 := NB378_388.out
               have hnb98 := NB388_409.out
               have hnc98 := NB409_388.out
               have hcz99_0 : wc.cell? ⟨gb388, 0, none⟩ = some (.int .i64 t382) := (blk_cell BK388.out 0).trans rfl
               have hcz99_1 : wc.cell? ⟨gb388, 1, none⟩ = some (.int .i64 t383) := (blk_cell BK388.out 1).trans rfl
               have hcz99_2 : wc.cell? ⟨gb388, 2, none⟩ = some (.slice Ao23 t398.length co23) := (blk_cell BK388.out 2).trans rfl
               have hfz99_0 := blk_frozen BK388.out 0
               have hfz99_1 := blk_frozen BK388.out 1
               have hfz99_2 := blk_frozen BK388.out 2
               go_wp2_with (first | ((with_reducible refine gate_callee (f := 33) rfl ?_); refine goesL_ (some 100) rfl rfl Try.func33 (by kernel_rfl) rfl #[.agg #[.int .i64 t382, .int .i64 t383, .slice Ao23 t398.length co23], .int .i64 1] rfl (by (try simp only [List.map_toArray, List.map_cons, List.map_nil]); first | done | rfl | (simp only [List.length_drop, List.length_take]; rfl)) ?_; (with_reducible refine (laws_heldPeeled.calls kj65 t382 t383 _ _ t398 1 t411 _ ?side1 ?side2 A95.out).mono ?_); (case side1 => exact uD HO_389002); (case side2 => exact (Kd.R_reads' HO_389002.out).2.1); rintro e w100 ⟨rfl, hb⟩; refine ⟨_, rfl, ?_⟩; have n0_ := Aside0.mk (Kd.R_below (uR HO_379002) hb); have n1_ := Aside0.mk (Kd.R_below (uR HO_389002) hb); have n2_ := Aside0.mk (Kd.R_below (uR HO_410002) hb); have n3_ := Aside0.mk (blk_below (g := gb378) (o := .cells #[.int .i64 t372, .int .i64 t373, .slice Ao16 t374.length co16] 52 (0, 0)) (uK BK378) hb); have n4_ := Aside0.mk (blk_below (g := gb388) (o := .cells #[.int .i64 t382, .int .i64 t383, .slice Ao23 t398.length co23] 52 (0, 0)) (uK BK388) hb); have n5_ := Aside0.mk (blk_below (g := gb409) (o := .cells #[.int .i64 t403, .int .i64 t404, .slice Ao79 t405.length co79] 52 (0, 0)) (uK BK409) hb); have n6_ := Aside0.mk (below_step (by first | exact uB HB | exact uS HB (gC GE378 (gC GE388 (gC GE409 gN)))) hb); clear HO_379002 HO_389002 HO_410002 BK378 BK388 BK409 HB; have HO_379002 := n0_; have HO_389002 := n1_; have HO_410002 := n2_; have BK378 := n3_; have BK388 := n4_; have BK409 := n5_; have HB := n6_; clear n0_ n1_ n2_ n3_ n4_ n5_ n6_; (try clear hb); (try clear hb2); (try clear hk); (try clear hi)))
               go_ret
               exact ⟨by first | rfl | (simp [errW_none, errW_some] <;> rfl) | (simp [*, errW_none, errW_some] <;> rfl), by first | exact uB HB | exact uS HB (gC GE378 (gC GE388 (gC GE409 gN)))⟩
              ·
               rw [if_neg c96] at H
               have c96b0 : decide (t411 < 0) = false := decide_eq_false c96
               clear c96
               by_cases c101 : t411 = t397
               ·
                rw [if_pos c101] at H
                have c101b0 : (t411 == t397) = true := beq_iff_eq.mpr c101
                have c101b1 : (t411 != t397) = false := bne_eq_false_iff_eq.mpr c101
                clear c101
                obtain rfl := Option.some.inj H
                have hnb102 := NB388_378.out
                have hnc102 := NB378_388.out
                have hnb103 := NB388_409.out
                have hnc103 := NB409_388.out
                have hcz104_0 : wc.cell? ⟨gb388, 0, none⟩ = some (.int .i64 t382) := (blk_cell BK388.out 0).trans rfl
                have hcz104_1 : wc.cell? ⟨gb388, 1, none⟩ = some (.int .i64 t383) := (blk_cell BK388.out 1).trans rfl
                have hcz104_2 : wc.cell? ⟨gb388, 2, none⟩ = some (.slice Ao23 t398.length co23) := (blk_cell BK388.out 2).trans rfl
                have hfz104_0 := blk_frozen BK388.out 0
                have hfz104_1 := blk_frozen BK388.out 1
                have hfz104_2 := blk_frozen BK388.out 2
                go_wp2_with (first | ((with_reducible refine gate_callee (f := 33) rfl ?_); refine goesL_ (some 100) rfl rfl Try.func33 (by kernel_rfl) rfl #[.agg #[.int .i64 t382, .int .i64 t383, .slice Ao23 t398.length co23], .int .i64 1] rfl (by (try simp only [List.map_toArray, List.map_cons, List.map_nil]); first | done | rfl | (simp only [List.length_drop, List.length_take]; rfl)) ?_; (with_reducible refine (laws_heldPeeled.calls kj65 t382 t383 _ _ t398 1 t411 _ ?side1 ?side2 A95.out).mono ?_); (case side1 => exact uD HO_389002); (case side2 => exact (Kd.R_reads' HO_389002.out).2.1); rintro e w105 ⟨rfl, hb⟩; refine ⟨_, rfl, ?_⟩; have n0_ := Aside0.mk (Kd.R_below (uR HO_379002) hb); have n1_ := Aside0.mk (Kd.R_below (uR HO_389002) hb); have n2_ := Aside0.mk (Kd.R_below (uR HO_410002) hb); have n3_ := Aside0.mk (blk_below (g := gb378) (o := .cells #[.int .i64 t372, .int .i64 t373, .slice Ao16 t374.length co16] 52 (0, 0)) (uK BK378) hb); have n4_ := Aside0.mk (blk_below (g := gb388) (o := .cells #[.int .i64 t382, .int .i64 t383, .slice Ao23 t398.length co23] 52 (0, 0)) (uK BK388) hb); have n5_ := Aside0.mk (blk_below (g := gb409) (o := .cells #[.int .i64 t403, .int .i64 t404, .slice Ao79 t405.length co79] 52 (0, 0)) (uK BK409) hb); have n6_ := Aside0.mk (below_step (by first | exact uB HB | exact uS HB (gC GE378 (gC GE388 (gC GE409 gN)))) hb); clear HO_379002 HO_389002 HO_410002 BK378 BK388 BK409 HB; have HO_379002 := n0_; have HO_389002 := n1_; have HO_410002 := n2_; have BK378 := n3_; have BK388 := n4_; have BK409 := n5_; have HB := n6_; clear n0_ n1_ n2_ n3_ n4_ n5_ n6_; (try clear hb); (try clear hb2); (try clear hk); (try clear hi)))
                go_ret
                exact ⟨by first | rfl | (simp [errW_none, errW_some] <;> rfl) | (simp [*, errW_none, errW_some] <;> rfl), by first | exact uB HB | exact uS HB (gC GE378 (gC GE388 (gC GE409 gN)))⟩
               ·
                rw [if_neg c101] at H
                have c101b0 : (t411 == t397) = false := beq_eq_false_iff_ne.mpr c101
                have c101b1 : (t411 != t397) = true := bne_iff_ne.mpr c101
                obtain rfl := Option.some.inj H
                have hnb106 := NB388_378.out
                have hnc106 := NB378_388.out
                have hnb107 := NB388_409.out
                have hnc107 := NB409_388.out
                have hcz108_0 : wc.cell? ⟨gb388, 0, none⟩ = some (.int .i64 t382) := (blk_cell BK388.out 0).trans rfl
                have hcz108_1 : wc.cell? ⟨gb388, 1, none⟩ = some (.int .i64 t383) := (blk_cell BK388.out 1).trans rfl
                have hcz108_2 : wc.cell? ⟨gb388, 2, none⟩ = some (.slice Ao23 t398.length co23) := (blk_cell BK388.out 2).trans rfl
                have hfz108_0 := blk_frozen BK388.out 0
                have hfz108_1 := blk_frozen BK388.out 1
                have hfz108_2 := blk_frozen BK388.out 2
                go_wp2_with (first | ((with_reducible refine gate_callee (f := 33) rfl ?_); refine goesL_ (some 100) rfl rfl Try.func33 (by kernel_rfl) rfl #[.agg #[.int .i64 t382, .int .i64 t383, .slice Ao23 t398.length co23], .int .i64 1] rfl (by (try simp only [List.map_toArray, List.map_cons, List.map_nil]); first | done | rfl | (simp only [List.length_drop, List.length_take]; rfl)) ?_; (with_reducible refine (laws_heldPeeled.calls kj65 t382 t383 _ _ t398 1 t411 _ ?side1 ?side2 A95.out).mono ?_); (case side1 => exact uD HO_389002); (case side2 => exact (Kd.R_reads' HO_389002.out).2.1); rintro e w109 ⟨rfl, hb⟩; refine ⟨_, rfl, ?_⟩; have n0_ := Aside0.mk (Kd.R_below (uR HO_379002) hb); have n1_ := Aside0.mk (Kd.R_below (uR HO_389002) hb); have n2_ := Aside0.mk (Kd.R_below (uR HO_410002) hb); have n3_ := Aside0.mk (blk_below (g := gb378) (o := .cells #[.int .i64 t372, .int .i64 t373, .slice Ao16 t374.length co16] 52 (0, 0)) (uK BK378) hb); have n4_ := Aside0.mk (blk_below (g := gb388) (o := .cells #[.int .i64 t382, .int .i64 t383, .slice Ao23 t398.length co23] 52 (0, 0)) (uK BK388) hb); have n5_ := Aside0.mk (blk_below (g := gb409) (o := .cells #[.int .i64 t403, .int .i64 t404, .slice Ao79 t405.length co79] 52 (0, 0)) (uK BK409) hb); have n6_ := Aside0.mk (below_step (by first | exact uB HB | exact uS HB (gC GE378 (gC GE388 (gC GE409 gN)))) hb); clear HO_379002 HO_389002 HO_410002 BK378 BK388 BK409 HB; have HO_379002 := n0_; have HO_389002 := n1_; have HO_410002 := n2_; have BK378 := n3_; have BK388 := n4_; have BK409 := n5_; have HB := n6_; clear n0_ n1_ n2_ n3_ n4_ n5_ n6_; (try clear hb); (try clear hb2); (try clear hk); (try clear hi)))
                go_ret
                exact ⟨by first | rfl | (simp [errW_none, errW_some] <;> rfl) | (simp [*, errW_none, errW_some] <;> rfl), by first | exact uB HB | exact uS HB (gC GE378 (gC GE388 (gC GE409 gN)))⟩
          ·
           rw [if_neg c63] at H
           have c63b0 : (t399 == t397) = false := beq_eq_false_iff_ne.mpr c63
           have c63b1 : (t399 != t397) = true := bne_iff_ne.mpr c63
           obtain rfl := Option.some.inj H
           have hnb110 := NB388_378.out
           have hnc110 := NB378_388.out
           have hcz111_0 : wc.cell? ⟨gb388, 0, none⟩ = some (.int .i64 t382) := (blk_cell BK388.out 0).trans rfl
           have hcz111_1 : wc.cell? ⟨gb388, 1, none⟩ = some (.int .i64 t383) := (blk_cell BK388.out 1).trans rfl
           have hcz111_2 : wc.cell? ⟨gb388, 2, none⟩ = some (.slice Ao23 t384.length co23) := (blk_cell BK388.out 2).trans rfl
           have hfz111_0 := blk_frozen BK388.out 0
           have hfz111_1 := blk_frozen BK388.out 1
           have hfz111_2 := blk_frozen BK388.out 2
           go_wp2_with (first | ((with_reducible refine gate_callee (f := 32) rfl ?_); refine goesL_ (some 72) rfl rfl Try.func32 (by kernel_rfl) rfl #[.agg #[.int .i64 t382, .int .i64 t383, .slice Ao23 t384.length co23], .int .i64 1] rfl (by (try simp only [List.map_toArray, List.map_cons, List.map_nil]); first | done | rfl | (simp only [List.length_drop, List.length_take]; rfl)) ?_; (with_reducible refine (laws_markPeeled.calls kj38 t382 t383 (fun k_ => some k_ = (.slice Ao23 t384.length co23 : Value).ownBlock) (.slice Ao23 t384.length co23) t384 1 t397 t398 w _ ?side1 ?side2 A55.out).mono ?_); (case side1 => first | exact uB HB | exact uS HB (gC GE378 (gC GE388 gN))); (case side2 => exact Kd.R_tight rfl HO_389002.out); rintro e w112 ⟨rfl, hy0, hb, hkp⟩; refine ⟨_, rfl, ?_⟩; have n0_ := Aside0.mk (Kd.R_mono (ok' := fun k_ => some k_ ≠ (.slice Ao23 t384.length co23 : Value).ownBlock) (Kd.R_keptB (HO_379002.out) hkp (fun k_ hk_ hs_ => (hk_) hs_)) (fun k_ hk_ => hk_.1)); have n1_ := Aside0.mk (Kd.R_reok rfl hy0 (fun k_ e_ => HO_389002.out.1 k_ e_)); have n2_ := Aside0.mk (blk_kept (uK BK378) hkp (fun hs_ => (fun e_ => (Kd.R_ne HO_389002.out BK378.out (by decide)) e_) hs_)); have n3_ := Aside0.mk (blk_kept (uK BK388) hkp (fun hs_ => (fun e_ => (Kd.R_ne HO_389002.out BK388.out (by decide)) e_) hs_)); have n4_ := Aside0.mk (hb); clear HO_379002 HO_389002 BK378 BK388 HB; have HO_379002 := n0_; have HO_389002 := n1_; have BK378 := n2_; have BK388 := n3_; have HB := n4_; clear n0_ n1_ n2_ n3_ n4_; (try clear hb); (try clear hkp); (try clear hy0); have hcz113_0 : w112.cell? ⟨gb388, 0, none⟩ = some (.int .i64 t382) := (blk_cell BK388.out 0).trans rfl; have hcz113_1 : w112.cell? ⟨gb388, 1, none⟩ = some (.int .i64 t383) := (blk_cell BK388.out 1).trans rfl; have hcz113_2 : w112.cell? ⟨gb388, 2, none⟩ = some (.slice Ao23 t384.length co23) := (blk_cell BK388.out 2).trans rfl; have hfz113_0 := blk_frozen BK388.out 0; have hfz113_1 := blk_frozen BK388.out 1; have hfz113_2 := blk_frozen BK388.out 2) | ((with_reducible refine gate_callee (f := 33) rfl ?_); refine goesL_ (some 75) rfl rfl Try.func33 (by kernel_rfl) rfl #[.agg #[.int .i64 t382, .int .i64 t383, .slice Ao23 t398.length co23], .int .i64 1] rfl (by (try simp only [List.map_toArray, List.map_cons, List.map_nil]); first | done | (rw [show t398.length = t384.length from (Kd.R_reads' HO_389002.out).1.symm] <;> rfl) | rfl | (simp only [List.length_drop, List.length_take]; rfl)) ?_; (with_reducible refine (laws_heldPeeled.calls kj38 t382 t383 _ _ t398 1 t399 _ ?side1 ?side2 A56.out).mono ?_); (case side1 => exact uD HO_389002); (case side2 => rw [show t398.length = t384.length from (Kd.R_reads' HO_389002.out).1.symm]; exact (Kd.R_reads' HO_389002.out).2.1); rintro e w114 ⟨rfl, hb⟩; refine ⟨_, rfl, ?_⟩; have n0_ := Aside0.mk (Kd.R_below (uR HO_379002) hb); have n1_ := Aside0.mk (Kd.R_below (uR HO_389002) hb); have n2_ := Aside0.mk (blk_below (g := gb378) (o := .cells #[.int .i64 t372, .int .i64 t373, .slice Ao16 t374.length co16] 52 (0, 0)) (uK BK378) hb); have n3_ := Aside0.mk (blk_below (g := gb388) (o := .cells #[.int .i64 t382, .int .i64 t383, .slice Ao23 t384.length co23] 52 (0, 0)) (uK BK388) hb); have n4_ := Aside0.mk (below_step (by first | exact uB HB | exact uS HB (gC GE378 (gC GE388 gN))) hb); clear HO_379002 HO_389002 BK378 BK388 HB; have HO_379002 := n0_; have HO_389002 := n1_; have BK378 := n2_; have BK388 := n3_; have HB := n4_; clear n0_ n1_ n2_ n3_ n4_; (try clear hb); (try clear hb2); (try clear hk); (try clear hi)))
           go_ret
           exact ⟨by first | rfl | (simp [errW_none, errW_some] <;> rfl) | (simp [*, errW_none, errW_some] <;> rfl), by first | exact uB HB | exact uS HB (gC GE378 (gC GE388 gN))⟩
     ·
      replace c37 := Bool.eq_false_iff.mpr c37
      subst c37
      have H1 : (some false) = some r := by rw [if_neg (show ¬ (false = true) by decide)] at H; exact H
      clear H
      have H := H1
      clear H1
      obtain rfl := Option.some.inj H
      go_wp2_with (first | ((with_reducible refine gate_callee (f := 9) rfl ?_); refine goesL_ (some 51) rfl rfl Try.func9 (by kernel_rfl) rfl #[.slice A1 l1.length c1] rfl (by (try simp only [List.map_toArray, List.map_cons, List.map_nil]); first | done | rfl | (simp only [List.length_drop, List.length_take]; rfl)) ?_; (with_reducible refine (laws_toStringS.calls kj9 _ _ l1 t390 _ ?side1 ?side2 A35.out).mono ?_); (case side1 => exact uC HR1 HB); (case side2 => exact HC1.out); rintro e w115 ⟨v391, rfl, ho0, hb⟩; refine ⟨_, rfl, ?_⟩; have n0_ := Aside0.mk (Kd.R_elder' (uR HO_10) (Kd.R_base ho0) hb); have n1_ := Aside0.mk (Kd.R_below (uR HO_379002) hb); have n2_ := Aside0.mk (Kd.R_below (uR HO_389002) hb); have n3_ := Aside0.mk (Kd.R_lower (Kd.R_new' ho0 (Kd.R_lt (uR HO_10))) (below_size (by first | exact uB HB | exact uS HB (gC GE378 (gC GE388 gN))))); have n4_ := Aside0.mk (blk_below (g := gb378) (o := .cells #[.int .i64 t372, .int .i64 t373, .slice Ao16 t374.length co16] 52 (0, 0)) (uK BK378) hb); have n5_ := Aside0.mk (blk_below (g := gb388) (o := .cells #[.int .i64 t382, .int .i64 t383, .slice Ao23 t384.length co23] 52 (0, 0)) (uK BK388) hb); have n6_ := Aside0.mk (below_step (by first | exact uB HB | exact uS HB (gC GE378 (gC GE388 gN))) hb); clear HO_10 HO_379002 HO_389002 BK378 BK388 HB; have HO_10 := n0_; have HO_379002 := n1_; have HO_389002 := n2_; have HO392 := n3_; have BK378 := n4_; have BK388 := n5_; have HB := n6_; clear n0_ n1_ n2_ n3_ n4_ n5_ n6_; (try clear hb); (try clear hb2); (try clear hk); (try clear hi); (try clear ho0); obtain ⟨Ao116, co116, eo116⟩ := Kd.R_slice HO392.out; subst eo116) | ((with_reducible refine gate_callee (f := 12) rfl ?_); refine goesL_ (some 52) rfl rfl Try.func12 (by kernel_rfl) rfl #[.slice Ao18 t379.length co18, .slice Ao116 t390.length co116] rfl (by (try simp only [List.map_toArray, List.map_cons, List.map_nil]); first | done | rfl | (simp only [List.length_drop, List.length_take]; rfl)) ?_; (with_reducible refine (laws_eqStringS.calls kj9 _ _ t379 _ _ t390 false _ ?side1 ?side2 ?side3 ?side4 A36.out).mono ?_); (case side1 => exact uD HO_10); (case side2 => exact (Kd.R_reads' HO_10.out).2.1); (case side3 => exact uD HO392); (case side4 => exact (Kd.R_reads' HO392.out).2.1); rintro e w' ⟨rfl, ⟨nd, rfl⟩⟩; refine ⟨_, rfl, ?_⟩))
      go_ret
      exact ⟨by first | rfl | (simp [errW_none, errW_some] <;> rfl) | (simp [*, errW_none, errW_some] <;> rfl), by first | exact uB HB | exact uS HB (gC GE378 (gC GE388 gN))⟩

end Go.Proofs.Ytippedfjmlkpiaa.PFnExactBuildPeeled
