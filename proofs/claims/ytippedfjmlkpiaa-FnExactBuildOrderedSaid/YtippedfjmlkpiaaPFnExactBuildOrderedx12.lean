-- made by wip/tools/myprint.py over the kit's print, for this claim
import Derived.Test.YtippedfjmlkpiaaPFnExactBuildOrderedx0
import Derived.Test.YtippedfjmlkpiaaPFnExactBuildOrderedx1
import Derived.Test.YtippedfjmlkpiaaPFnExactBuildOrderedx6
import Derived.Test.YtippedfjmlkpiaaPFnExactBuildOrderedx10
import Derived.Test.YtippedfjmlkpiaaPFnExactBuildOrderedx11
namespace Go.Proofs.Ytippedfjmlkpiaa.PFnExactBuildOrdered
open Go.RowKit Go.Proofs.YtippedfjmlkpiaaW.PrintWords Go.Proofs.YtippedfjmlkpiaaW.PrintLast Go.Proofs.YtippedfjmlkpiaaW.PrintMore
attribute [local go_sem] max2_int min2_int max_two min_two max_three min_three max_four min_four   -- for this text's walks alone
set_option linter.unusedVariables false
set_option linter.unusedSimpArgs false

/-! ### laws_FnExactBuildOrdered: function 3 -/
mutual
def laws_FnExactBuildOrdered.j0 : Nat → Int → List ByteArray → Int → Bool → List ByteArray → Bool → Bool → Int → Int → Int → List Int → Int → Int → Int → List Int → Option (Bool)
 | 0, _, _, _, _, _, _, _, _, _, _, _, _, _, _, _ => none
 | k + 1, x0, x1, x2, x9, x10, x12, x48, x373000, x373001, x373002, x373003, x384000, x384001, x384002, x384003 => if x48 = true then (some false) else ((laws_toStringS.f k x1).bind fun t385 => ((laws_eqStringS.f k x10 t385).bind fun t388 => (if t388 = true then ((laws_markStringS.f k x10 1).bind fun bt389 => (if bt389.1 < 0 then (laws_FnExactBuildOrdered.j1 k x0 x1 x2 x9 true x373000 x373001 x373002 x373003 x384000 x384001 x384002 x384003) else ((laws_eqOrdered.f k x384000 x384001 x384002 x384003 x373000 x373001 x373002 x373003).bind fun t391 => (if t391 = true then (laws_FnExactBuildOrdered.j1 k x0 x1 x2 x9 (x12 != x9) x373000 x373001 x373002 x373003 x384000 x384001 x384002 x384003) else (laws_FnExactBuildOrdered.j1 k x0 x1 x2 x9 true x373000 x373001 x373002 x373003 x384000 x384001 x384002 x384003))))) else (some false))))
def laws_FnExactBuildOrdered.j1 : Nat → Int → List ByteArray → Int → Bool → Bool → Int → Int → Int → List Int → Int → Int → Int → List Int → Option (Bool)
 | 0, _, _, _, _, _, _, _, _, _, _, _, _, _ => none
 | k + 1, x0, x1, x2, x9, x69, x373000, x373001, x373002, x373003, x384000, x384001, x384002, x384003 => if x69 = true then (some false) else ((laws_markOrdered.f k x384000 x384001 x384002 x384003 1).bind fun bt392 => ((laws_heldOrdered.f k x384000 x384001 x384002 bt392.2 1).bind fun t394 => (if t394 < 0 then (some false) else (if t394 = bt392.1 then ((laws_toStringS.f k x1).bind fun t395 => ((impl_BuildOrdered.f k x0 t395 x2).bind fun bt398 => ((laws_eqOrdered.f k bt398.1 bt398.2.1 bt398.2.2.1 bt398.2.2.2.1 x373000 x373001 x373002 x373003).bind fun t406 => (if t406 = true then (laws_FnExactBuildOrdered.j2 k bt392.1 (bt398.2.2.2.2 != x9) x384000 x384001 x384002 bt392.2) else (laws_FnExactBuildOrdered.j2 k bt392.1 true x384000 x384001 x384002 bt392.2))))) else (some false)))))
def laws_FnExactBuildOrdered.j2 : Nat → Int → Bool → Int → Int → Int → List Int → Option (Bool)
 | 0, _, _, _, _, _, _ => none
 | k + 1, x14, x97, x384000, x384001, x384002, x384003 => if x97 = true then (some false) else ((laws_heldOrdered.f k x384000 x384001 x384002 x384003 1).bind fun t407 => (if t407 < 0 then (some false) else (if t407 = x14 then (some true) else (some false))))
end
def laws_FnExactBuildOrdered.f (k : Nat) (a0 : Int) (l1 : List ByteArray) (a2 : Int) : Option (Bool) := (laws_szStringS.f k l1 1048576).bind fun t361 => (if t361 < 0 then (some true) else ((laws_toStringS.f k l1).bind fun t362 => ((spec_BuildOrdered.f k a0 t362 a2).bind fun bt365 => ((laws_toStringS.f k l1).bind fun t373 => ((impl_BuildOrdered.f k a0 t373 a2).bind fun bt376 => ((laws_eqOrdered.f k bt376.1 bt376.2.1 bt376.2.2.1 bt376.2.2.2.1 bt365.1 bt365.2.1 bt365.2.2.1 bt365.2.2.2.1).bind fun t384 => (if t384 = true then (laws_FnExactBuildOrdered.j0 k a0 l1 a2 bt365.2.2.2.2 t373 bt376.2.2.2.2 (bt376.2.2.2.2 != bt365.2.2.2.2) bt365.1 bt365.2.1 bt365.2.2.1 bt365.2.2.2.1 bt376.1 bt376.2.1 bt376.2.2.1 bt376.2.2.2.1) else (laws_FnExactBuildOrdered.j0 k a0 l1 a2 bt365.2.2.2.2 t373 bt376.2.2.2.2 true bt365.1 bt365.2.1 bt365.2.2.1 bt365.2.2.2.1 bt376.1 bt376.2.1 bt376.2.2.1 bt376.2.2.2.1))))))))
theorem laws_FnExactBuildOrdered.mono_l : ∀ k, (∀ y0 y1 y2 y3 y4 y5 y6 y7 y8 y9 y10 y11 y12 y13 y14, LeO (laws_FnExactBuildOrdered.j0 k y0 y1 y2 y3 y4 y5 y6 y7 y8 y9 y10 y11 y12 y13 y14) (laws_FnExactBuildOrdered.j0 (k + 1) y0 y1 y2 y3 y4 y5 y6 y7 y8 y9 y10 y11 y12 y13 y14)) ∧ (∀ y0 y1 y2 y3 y4 y5 y6 y7 y8 y9 y10 y11 y12, LeO (laws_FnExactBuildOrdered.j1 k y0 y1 y2 y3 y4 y5 y6 y7 y8 y9 y10 y11 y12) (laws_FnExactBuildOrdered.j1 (k + 1) y0 y1 y2 y3 y4 y5 y6 y7 y8 y9 y10 y11 y12)) ∧ (∀ y0 y1 y2 y3 y4 y5, LeO (laws_FnExactBuildOrdered.j2 k y0 y1 y2 y3 y4 y5) (laws_FnExactBuildOrdered.j2 (k + 1) y0 y1 y2 y3 y4 y5))
 | 0 => ⟨fun _ _ _ _ _ _ _ _ _ _ _ _ _ _ _ r h => by simp [laws_FnExactBuildOrdered.j0] at h, fun _ _ _ _ _ _ _ _ _ _ _ _ _ r h => by simp [laws_FnExactBuildOrdered.j1] at h, fun _ _ _ _ _ _ r h => by simp [laws_FnExactBuildOrdered.j2] at h⟩
 | k + 1 => by
  obtain ⟨ih0, ih1, ih2⟩ := laws_FnExactBuildOrdered.mono_l k
  refine ⟨?_, ?_, ?_⟩
  ·
   intro y0 y1 y2 y3 y4 y5 y6 y7 y8 y9 y10 y11 y12 y13 y14
   unfold laws_FnExactBuildOrdered.j0
   repeat' first
   | (with_reducible exact ih0 _ _ _ _ _ _ _ _ _ _ _ _ _ _ _)
   | (with_reducible exact ih1 _ _ _ _ _ _ _ _ _ _ _ _ _)
   | (with_reducible exact ih2 _ _ _ _ _ _)
   | (with_reducible exact impl_BuildOrdered.mono _ _ _ _)
   | (with_reducible exact laws_eqOrdered.mono _ _ _ _ _ _ _ _ _)
   | (with_reducible exact laws_eqStringS.mono _ _ _)
   | (with_reducible exact laws_heldOrdered.mono _ _ _ _ _ _)
   | (with_reducible exact laws_markOrdered.mono _ _ _ _ _ _)
   | (with_reducible exact laws_markStringS.mono _ _ _)
   | (with_reducible exact laws_szStringS.mono _ _ _)
   | (with_reducible exact laws_toStringS.mono _ _)
   | (with_reducible exact spec_BuildOrdered.mono _ _ _ _)
   | (with_reducible exact LeO.refl _)
   | (with_reducible exact LeO.none _)
   | (with_reducible refine LeO.ite ?_ ?_)
   | (with_reducible refine LeO.bind ?_ (fun _ => ?_))
   | exact ih0 _ _ _ _ _ _ _ _ _ _ _ _ _ _ _
   | exact ih1 _ _ _ _ _ _ _ _ _ _ _ _ _
   | exact ih2 _ _ _ _ _ _
   | exact impl_BuildOrdered.mono _ _ _ _
   | exact laws_eqOrdered.mono _ _ _ _ _ _ _ _ _
   | exact laws_eqStringS.mono _ _ _
   | exact laws_heldOrdered.mono _ _ _ _ _ _
   | exact laws_markOrdered.mono _ _ _ _ _ _
   | exact laws_markStringS.mono _ _ _
   | exact laws_szStringS.mono _ _ _
   | exact laws_toStringS.mono _ _
   | exact spec_BuildOrdered.mono _ _ _ _
   | exact LeO.none _
   | refine LeO.ite ?_ ?_
   | refine LeO.bind ?_ (fun _ => ?_)
  ·
   intro y0 y1 y2 y3 y4 y5 y6 y7 y8 y9 y10 y11 y12
   unfold laws_FnExactBuildOrdered.j1
   repeat' first
   | (with_reducible exact ih0 _ _ _ _ _ _ _ _ _ _ _ _ _ _ _)
   | (with_reducible exact ih1 _ _ _ _ _ _ _ _ _ _ _ _ _)
   | (with_reducible exact ih2 _ _ _ _ _ _)
   | (with_reducible exact impl_BuildOrdered.mono _ _ _ _)
   | (with_reducible exact laws_eqOrdered.mono _ _ _ _ _ _ _ _ _)
   | (with_reducible exact laws_eqStringS.mono _ _ _)
   | (with_reducible exact laws_heldOrdered.mono _ _ _ _ _ _)
   | (with_reducible exact laws_markOrdered.mono _ _ _ _ _ _)
   | (with_reducible exact laws_markStringS.mono _ _ _)
   | (with_reducible exact laws_szStringS.mono _ _ _)
   | (with_reducible exact laws_toStringS.mono _ _)
   | (with_reducible exact spec_BuildOrdered.mono _ _ _ _)
   | (with_reducible exact LeO.refl _)
   | (with_reducible exact LeO.none _)
   | (with_reducible refine LeO.ite ?_ ?_)
   | (with_reducible refine LeO.bind ?_ (fun _ => ?_))
   | exact ih0 _ _ _ _ _ _ _ _ _ _ _ _ _ _ _
   | exact ih1 _ _ _ _ _ _ _ _ _ _ _ _ _
   | exact ih2 _ _ _ _ _ _
   | exact impl_BuildOrdered.mono _ _ _ _
   | exact laws_eqOrdered.mono _ _ _ _ _ _ _ _ _
   | exact laws_eqStringS.mono _ _ _
   | exact laws_heldOrdered.mono _ _ _ _ _ _
   | exact laws_markOrdered.mono _ _ _ _ _ _
   | exact laws_markStringS.mono _ _ _
   | exact laws_szStringS.mono _ _ _
   | exact laws_toStringS.mono _ _
   | exact spec_BuildOrdered.mono _ _ _ _
   | exact LeO.none _
   | refine LeO.ite ?_ ?_
   | refine LeO.bind ?_ (fun _ => ?_)
  ·
   intro y0 y1 y2 y3 y4 y5
   unfold laws_FnExactBuildOrdered.j2
   repeat' first
   | (with_reducible exact ih0 _ _ _ _ _ _ _ _ _ _ _ _ _ _ _)
   | (with_reducible exact ih1 _ _ _ _ _ _ _ _ _ _ _ _ _)
   | (with_reducible exact ih2 _ _ _ _ _ _)
   | (with_reducible exact impl_BuildOrdered.mono _ _ _ _)
   | (with_reducible exact laws_eqOrdered.mono _ _ _ _ _ _ _ _ _)
   | (with_reducible exact laws_eqStringS.mono _ _ _)
   | (with_reducible exact laws_heldOrdered.mono _ _ _ _ _ _)
   | (with_reducible exact laws_markOrdered.mono _ _ _ _ _ _)
   | (with_reducible exact laws_markStringS.mono _ _ _)
   | (with_reducible exact laws_szStringS.mono _ _ _)
   | (with_reducible exact laws_toStringS.mono _ _)
   | (with_reducible exact spec_BuildOrdered.mono _ _ _ _)
   | (with_reducible exact LeO.refl _)
   | (with_reducible exact LeO.none _)
   | (with_reducible refine LeO.ite ?_ ?_)
   | (with_reducible refine LeO.bind ?_ (fun _ => ?_))
   | exact ih0 _ _ _ _ _ _ _ _ _ _ _ _ _ _ _
   | exact ih1 _ _ _ _ _ _ _ _ _ _ _ _ _
   | exact ih2 _ _ _ _ _ _
   | exact impl_BuildOrdered.mono _ _ _ _
   | exact laws_eqOrdered.mono _ _ _ _ _ _ _ _ _
   | exact laws_eqStringS.mono _ _ _
   | exact laws_heldOrdered.mono _ _ _ _ _ _
   | exact laws_markOrdered.mono _ _ _ _ _ _
   | exact laws_markStringS.mono _ _ _
   | exact laws_szStringS.mono _ _ _
   | exact laws_toStringS.mono _ _
   | exact spec_BuildOrdered.mono _ _ _ _
   | exact LeO.none _
   | refine LeO.ite ?_ ?_
   | refine LeO.bind ?_ (fun _ => ?_)
theorem laws_FnExactBuildOrdered.mono : ∀ a0 a1 a2 k, LeO (laws_FnExactBuildOrdered.f k a0 a1 a2) (laws_FnExactBuildOrdered.f (k + 1) a0 a1 a2) := by
 intro a0 a1 a2 k
 obtain ⟨ih0, ih1, ih2⟩ := laws_FnExactBuildOrdered.mono_l k
 unfold laws_FnExactBuildOrdered.f
 repeat' first
   | (with_reducible exact ih0 _ _ _ _ _ _ _ _ _ _ _ _ _ _ _)
   | (with_reducible exact ih1 _ _ _ _ _ _ _ _ _ _ _ _ _)
   | (with_reducible exact ih2 _ _ _ _ _ _)
   | (with_reducible exact impl_BuildOrdered.mono _ _ _ _)
   | (with_reducible exact laws_eqOrdered.mono _ _ _ _ _ _ _ _ _)
   | (with_reducible exact laws_eqStringS.mono _ _ _)
   | (with_reducible exact laws_heldOrdered.mono _ _ _ _ _ _)
   | (with_reducible exact laws_markOrdered.mono _ _ _ _ _ _)
   | (with_reducible exact laws_markStringS.mono _ _ _)
   | (with_reducible exact laws_szStringS.mono _ _ _)
   | (with_reducible exact laws_toStringS.mono _ _)
   | (with_reducible exact spec_BuildOrdered.mono _ _ _ _)
   | (with_reducible exact LeO.refl _)
   | (with_reducible exact LeO.none _)
   | (with_reducible refine LeO.ite ?_ ?_)
   | (with_reducible refine LeO.bind ?_ (fun _ => ?_))
   | exact ih0 _ _ _ _ _ _ _ _ _ _ _ _ _ _ _
   | exact ih1 _ _ _ _ _ _ _ _ _ _ _ _ _
   | exact ih2 _ _ _ _ _ _
   | exact impl_BuildOrdered.mono _ _ _ _
   | exact laws_eqOrdered.mono _ _ _ _ _ _ _ _ _
   | exact laws_eqStringS.mono _ _ _
   | exact laws_heldOrdered.mono _ _ _ _ _ _
   | exact laws_markOrdered.mono _ _ _ _ _ _
   | exact laws_markStringS.mono _ _ _
   | exact laws_szStringS.mono _ _ _
   | exact laws_toStringS.mono _ _
   | exact spec_BuildOrdered.mono _ _ _ _
   | exact LeO.none _
   | refine LeO.ite ?_ ?_
   | refine LeO.bind ?_ (fun _ => ?_)
set_option maxHeartbeats 8000000 in
set_option maxRecDepth 100000 in
theorem laws_FnExactBuildOrdered.calls (k : Nat) (a0 : Int) (A1 : Option Addr) (c1 : Nat) (l1 : List ByteArray) (a2 : Int) (r : Bool) (w : World) (hr1 : Kd.C Kd.string w A1 l1.length l1) (hc1 : l1.length ≤ c1) (h : laws_FnExactBuildOrdered.f k a0 l1 a2 = some r) :
  Calls Try.prog 3 #[.int .i64 a0, .slice A1 l1.length c1, .int .i64 a2] w fun e w' => e = .returned (.bool r) ∧ Below w.heap.size w w' := by
 have hu26 := Try.underlying26
 have HR1 := Aside0.mk hr1
 have HC1 := Aside0.mk hc1
 clear hr1 hc1
 have HB := Aside0.mk (Below.refl w.heap.size w)
 have H : ((laws_szStringS.f k l1 1048576).bind fun t361 => (if t361 < 0 then (some true) else ((laws_toStringS.f k l1).bind fun t362 => ((spec_BuildOrdered.f k a0 t362 a2).bind fun bt365 => ((laws_toStringS.f k l1).bind fun t373 => ((impl_BuildOrdered.f k a0 t373 a2).bind fun bt376 => ((laws_eqOrdered.f k bt376.1 bt376.2.1 bt376.2.2.1 bt376.2.2.2.1 bt365.1 bt365.2.1 bt365.2.2.1 bt365.2.2.2.1).bind fun t384 => (if t384 = true then (laws_FnExactBuildOrdered.j0 k a0 l1 a2 bt365.2.2.2.2 t373 bt376.2.2.2.2 (bt376.2.2.2.2 != bt365.2.2.2.2) bt365.1 bt365.2.1 bt365.2.2.1 bt365.2.2.2.1 bt376.1 bt376.2.1 bt376.2.2.1 bt376.2.2.2.1) else (laws_FnExactBuildOrdered.j0 k a0 l1 a2 bt365.2.2.2.2 t373 bt376.2.2.2.2 true bt365.1 bt365.2.1 bt365.2.2.1 bt365.2.2.2.1 bt376.1 bt376.2.1 bt376.2.2.1 bt376.2.2.2.1))))))))) = some r := h
 clear h
 replace H := Option.bind_eq_some_iff.mp H
 obtain ⟨t361, A40, H⟩ := H
 replace H : (if t361 < 0 then (some true) else ((laws_toStringS.f k l1).bind fun t362 => ((spec_BuildOrdered.f k a0 t362 a2).bind fun bt365 => ((laws_toStringS.f k l1).bind fun t373 => ((impl_BuildOrdered.f k a0 t373 a2).bind fun bt376 => ((laws_eqOrdered.f k bt376.1 bt376.2.1 bt376.2.2.1 bt376.2.2.2.1 bt365.1 bt365.2.1 bt365.2.2.1 bt365.2.2.2.1).bind fun t384 => (if t384 = true then (laws_FnExactBuildOrdered.j0 k a0 l1 a2 bt365.2.2.2.2 t373 bt376.2.2.2.2 (bt376.2.2.2.2 != bt365.2.2.2.2) bt365.1 bt365.2.1 bt365.2.2.1 bt365.2.2.2.1 bt376.1 bt376.2.1 bt376.2.2.1 bt376.2.2.2.1) else (laws_FnExactBuildOrdered.j0 k a0 l1 a2 bt365.2.2.2.2 t373 bt376.2.2.2.2 true bt365.1 bt365.2.1 bt365.2.2.1 bt365.2.2.2.1 bt376.1 bt376.2.1 bt376.2.2.1 bt376.2.2.2.1)))))))) = some r := H
 have A4 := Aside0.mk A40
 clear A40
 by_cases c5 : t361 < 0
 ·
  rw [if_pos c5] at H
  have c5b0 : decide (t361 < 0) = true := decide_eq_true c5
  clear c5
  obtain rfl := Option.some.inj H
  go_enter Try.func3, Try.ntmps3
  go_wp2_with (first | ((with_reducible refine gate_callee (f := 7) rfl ?_); refine goesL_ (some 20) rfl rfl Try.func7 (by kernel_rfl) rfl #[.slice A1 l1.length c1, .int .i64 1048576] rfl (by (try simp only [List.map_toArray, List.map_cons, List.map_nil]); first | done | rfl | (simp only [List.length_drop, List.length_take]; rfl)) ?_; (with_reducible refine (laws_szStringS.calls k _ _ l1 1048576 t361 _ ?side1 ?side2 A4.out).mono ?_); (case side1 => repeat (first | exact HR1.out | (with_reducible refine Kd.C_alloc ?_ _) | (with_reducible refine Kd.C_drewN ?_ _) | (with_reducible refine Kd.C_drew ?_))); (case side2 => exact HC1.out); rintro e w' ⟨rfl, ⟨nd, rfl⟩⟩; refine ⟨_, rfl, ?_⟩))
  go_ret
  exact ⟨by first | rfl | (simp [errW_none, errW_some] <;> rfl) | (simp [*, errW_none, errW_some] <;> rfl), uB HB⟩
 ·
  rw [if_neg c5] at H
  have c5b0 : decide (t361 < 0) = false := decide_eq_false c5
  clear c5
  replace H := Option.bind_eq_some_iff.mp H
  obtain ⟨t362, A60, H⟩ := H
  replace H : ((spec_BuildOrdered.f k a0 t362 a2).bind fun bt365 => ((laws_toStringS.f k l1).bind fun t373 => ((impl_BuildOrdered.f k a0 t373 a2).bind fun bt376 => ((laws_eqOrdered.f k bt376.1 bt376.2.1 bt376.2.2.1 bt376.2.2.2.1 bt365.1 bt365.2.1 bt365.2.2.1 bt365.2.2.2.1).bind fun t384 => (if t384 = true then (laws_FnExactBuildOrdered.j0 k a0 l1 a2 bt365.2.2.2.2 t373 bt376.2.2.2.2 (bt376.2.2.2.2 != bt365.2.2.2.2) bt365.1 bt365.2.1 bt365.2.2.1 bt365.2.2.2.1 bt376.1 bt376.2.1 bt376.2.2.1 bt376.2.2.2.1) else (laws_FnExactBuildOrdered.j0 k a0 l1 a2 bt365.2.2.2.2 t373 bt376.2.2.2.2 true bt365.1 bt365.2.1 bt365.2.2.1 bt365.2.2.2.1 bt376.1 bt376.2.1 bt376.2.2.1 bt376.2.2.2.1)))))) = some r := H
  have A6 := Aside0.mk A60
  clear A60
  replace H := Option.bind_eq_some_iff.mp H
  obtain ⟨⟨t365, t366, t367, t368, t371⟩, A70, H⟩ := H
  replace H : ((laws_toStringS.f k l1).bind fun t373 => ((impl_BuildOrdered.f k a0 t373 a2).bind fun bt376 => ((laws_eqOrdered.f k bt376.1 bt376.2.1 bt376.2.2.1 bt376.2.2.2.1 t365 t366 t367 t368).bind fun t384 => (if t384 = true then (laws_FnExactBuildOrdered.j0 k a0 l1 a2 t371 t373 bt376.2.2.2.2 (bt376.2.2.2.2 != t371) t365 t366 t367 t368 bt376.1 bt376.2.1 bt376.2.2.1 bt376.2.2.2.1) else (laws_FnExactBuildOrdered.j0 k a0 l1 a2 t371 t373 bt376.2.2.2.2 true t365 t366 t367 t368 bt376.1 bt376.2.1 bt376.2.2.1 bt376.2.2.2.1))))) = some r := H
  have A7 := Aside0.mk A70
  clear A70
  replace H := Option.bind_eq_some_iff.mp H
  obtain ⟨t373, A80, H⟩ := H
  replace H : ((impl_BuildOrdered.f k a0 t373 a2).bind fun bt376 => ((laws_eqOrdered.f k bt376.1 bt376.2.1 bt376.2.2.1 bt376.2.2.2.1 t365 t366 t367 t368).bind fun t384 => (if t384 = true then (laws_FnExactBuildOrdered.j0 k a0 l1 a2 t371 t373 bt376.2.2.2.2 (bt376.2.2.2.2 != t371) t365 t366 t367 t368 bt376.1 bt376.2.1 bt376.2.2.1 bt376.2.2.2.1) else (laws_FnExactBuildOrdered.j0 k a0 l1 a2 t371 t373 bt376.2.2.2.2 true t365 t366 t367 t368 bt376.1 bt376.2.1 bt376.2.2.1 bt376.2.2.2.1)))) = some r := H
  have A8 := Aside0.mk A80
  clear A80
  replace H := Option.bind_eq_some_iff.mp H
  obtain ⟨⟨t376, t377, t378, t379, t382⟩, A90, H⟩ := H
  replace H : ((laws_eqOrdered.f k t376 t377 t378 t379 t365 t366 t367 t368).bind fun t384 => (if t384 = true then (laws_FnExactBuildOrdered.j0 k a0 l1 a2 t371 t373 t382 (t382 != t371) t365 t366 t367 t368 t376 t377 t378 t379) else (laws_FnExactBuildOrdered.j0 k a0 l1 a2 t371 t373 t382 true t365 t366 t367 t368 t376 t377 t378 t379))) = some r := H
  have A9 := Aside0.mk A90
  clear A90
  have HC10 := Aside0.mk H
  clear H
  go_enter Try.func3, Try.ntmps3
  go_upto_region 8 with (first | ((with_reducible refine gate_callee (f := 7) rfl ?_); refine goesL_ (some 20) rfl rfl Try.func7 (by kernel_rfl) rfl #[.slice A1 l1.length c1, .int .i64 1048576] rfl (by (try simp only [List.map_toArray, List.map_cons, List.map_nil]); first | done | rfl | (simp only [List.length_drop, List.length_take]; rfl)) ?_; (with_reducible refine (laws_szStringS.calls k _ _ l1 1048576 t361 _ ?side1 ?side2 A4.out).mono ?_); (case side1 => repeat (first | exact HR1.out | (with_reducible refine Kd.C_alloc ?_ _) | (with_reducible refine Kd.C_drewN ?_ _) | (with_reducible refine Kd.C_drew ?_))); (case side2 => exact HC1.out); rintro e w' ⟨rfl, ⟨nd, rfl⟩⟩; refine ⟨_, rfl, ?_⟩) | ((with_reducible refine gate_callee (f := 9) rfl ?_); refine goesL_ (some 26) rfl rfl Try.func9 (by kernel_rfl) rfl #[.slice A1 l1.length c1] rfl (by (try simp only [List.map_toArray, List.map_cons, List.map_nil]); first | done | rfl | (simp only [List.length_drop, List.length_take]; rfl)) ?_; (with_reducible refine (laws_toStringS.calls k _ _ l1 t362 _ ?side1 ?side2 A6.out).mono ?_); (case side1 => repeat (first | exact HR1.out | (with_reducible refine Kd.C_alloc ?_ _) | (with_reducible refine Kd.C_drewN ?_ _) | (with_reducible refine Kd.C_drew ?_))); (case side2 => exact HC1.out); rintro e w11 ⟨v363, rfl, ho0, hb⟩; refine ⟨_, rfl, ?_⟩; have n0_ := Aside0.mk (Kd.R_lower ho0 (below_size (uB HB))); have n1_ := Aside0.mk (below_step (uB HB) hb); clear HB; have HO364 := n0_; have HB := n1_; clear n0_ n1_; (try clear hb); (try clear hb2); (try clear hk); (try clear hi); (try clear ho0); obtain ⟨Ao12, co12, eo12⟩ := Kd.R_slice HO364.out; subst eo12) | ((with_reducible refine gate_callee (f := 8) rfl ?_); refine goesL_ (some 28) rfl rfl Try.func8 (by kernel_rfl) rfl #[.int .i64 a0, .slice Ao12 t362.length co12, .int .i64 a2] rfl (by (try simp only [List.map_toArray, List.map_cons, List.map_nil]); first | done | rfl | (simp only [List.length_drop, List.length_take]; rfl)) ?_; (with_reducible refine (spec_BuildOrdered.calls k a0 _ _ t362 a2 t365 t366 t367 t368 t371 _ ?side1 ?side2 A7.out).mono ?_); (case side1 => exact uD HO364); (case side2 => exact (Kd.R_reads' HO364.out).2.1); rintro e w13 ⟨v369, rfl, ho0, hb⟩; refine ⟨_, rfl, ?_⟩; have n0_ := Aside0.mk (Kd.R_below (uR HO364) hb); have n1_ := Aside0.mk (Kd.R_lower ho0 (below_size (uB HB))); have n2_ := Aside0.mk (below_step (uB HB) hb); clear HO364 HB; have HO364 := n0_; have HO370 := n1_; have HB := n2_; clear n0_ n1_ n2_; (try clear hb); (try clear hb2); (try clear hk); (try clear hi); (try clear ho0)) | ((with_reducible refine gate_dst (N := 8) rfl ?_); refine box_event ?hg (N := 8) ?hd (cs := #[.int .i64 0, .int .i64 0, .int .i64 0, .slice none 0 0]) (t := 26) ?hr ?_; (case hd => rfl); (case hg => rfl); (case hr => first | (go_simp; done) | (go_simp; rfl)); intro gb372 hg w14 hbox hb; have n0_ := Aside0.mk (Kd.R_below (uR HO364) hb); have n1_ := Aside0.mk (Kd.R_below (uR HO370) hb); have n2_ := Aside0.mk (below_step (uB HB) hb); have n3_ := Aside0.mk (hbox); have n4_ := Aside0.mk ((by rw [hg]; exact (below_size (uB HB)) : w.heap.size ≤ gb372)); have n5_ := Aside0.mk ((by rw [hg]; exact (below_size (uB HB)) : w.heap.size ≤ gb372)); clear HO364 HO370 HB; have HO364 := n0_; have HO370 := n1_; have HB := n2_; have BK372 := n3_; have GW372 := n4_; have GE372 := n5_; clear n0_ n1_ n2_ n3_ n4_ n5_ hb hbox hg; have hcz15_0 : w14.cell? ⟨gb372, 0, none⟩ = some (.int .i64 0) := (blk_cell BK372.out 0).trans rfl; have hcz15_1 : w14.cell? ⟨gb372, 1, none⟩ = some (.int .i64 0) := (blk_cell BK372.out 1).trans rfl; have hcz15_2 : w14.cell? ⟨gb372, 2, none⟩ = some (.int .i64 0) := (blk_cell BK372.out 2).trans rfl; have hcz15_3 : w14.cell? ⟨gb372, 3, none⟩ = some (.slice none 0 0) := (blk_cell BK372.out 3).trans rfl; have hfz15_0 := blk_frozen BK372.out 0; have hfz15_1 := blk_frozen BK372.out 1; have hfz15_2 := blk_frozen BK372.out 2; have hfz15_3 := blk_frozen BK372.out 3; obtain ⟨Ao16, co16, eo16⟩ := Kd.R_slice HO370.out; subst eo16) | ((with_reducible refine gate_callee (f := 9) rfl ?_); refine goesL_ (some 32) rfl rfl Try.func9 (by kernel_rfl) rfl #[.slice A1 l1.length c1] rfl (by (try simp only [List.map_toArray, List.map_cons, List.map_nil]); first | done | rfl | (simp only [List.length_drop, List.length_take]; rfl)) ?_; (with_reducible refine (laws_toStringS.calls k _ _ l1 t373 _ ?side1 ?side2 A8.out).mono ?_); (case side1 => exact Kd.C_below HR1.out (by first | exact uB HB | exact uS HB (gC GE372 gN))); (case side2 => exact HC1.out); rintro e w17 ⟨v374, rfl, ho0, hb⟩; refine ⟨_, rfl, ?_⟩; have n0_ := Aside0.mk (Kd.R_elder' (by (with_reducible repeat (first | apply Kd.R_alloc | apply Kd.R_drewN | apply Kd.R_drew)); exact (Kd.R_mono (Kd.R_far (p := ⟨gb372, 3, none⟩) (Kd.R_far (p := ⟨gb372, 2, none⟩) (Kd.R_far (p := ⟨gb372, 1, none⟩) (Kd.R_far (p := ⟨gb372, 0, none⟩) (Kd.R_types HO364.out BK372.out (by decide)) (fun _ hk => hk.2) (.int .i64 t365)) (fun _ hk => hk.2) (.int .i64 t366)) (fun _ hk => hk.2) (.int .i64 t367)) (fun _ hk => hk.2) (.slice Ao16 t368.length co16)) (fun _ h_ => h_.1))) (Kd.R_base ho0) hb); have n1_ := Aside0.mk (Kd.R_below (by (with_reducible repeat (first | apply Kd.R_alloc | apply Kd.R_drewN | apply Kd.R_drew)); exact (Kd.R_mono (Kd.R_far (p := ⟨gb372, 3, none⟩) (Kd.R_far (p := ⟨gb372, 2, none⟩) (Kd.R_far (p := ⟨gb372, 1, none⟩) (Kd.R_far (p := ⟨gb372, 0, none⟩) (Kd.R_types HO370.out BK372.out (by decide)) (fun _ hk => hk.2) (.int .i64 t365)) (fun _ hk => hk.2) (.int .i64 t366)) (fun _ hk => hk.2) (.int .i64 t367)) (fun _ hk => hk.2) (.slice Ao16 t368.length co16)) (fun _ h_ => h_.1))) hb); have n2_ := Aside0.mk (Kd.R_lower (Kd.R_new' ho0 (Kd.R_lt (by (with_reducible repeat (first | apply Kd.R_alloc | apply Kd.R_drewN | apply Kd.R_drew)); exact (Kd.R_mono (Kd.R_far (p := ⟨gb372, 3, none⟩) (Kd.R_far (p := ⟨gb372, 2, none⟩) (Kd.R_far (p := ⟨gb372, 1, none⟩) (Kd.R_far (p := ⟨gb372, 0, none⟩) (Kd.R_types HO364.out BK372.out (by decide)) (fun _ hk => hk.2) (.int .i64 t365)) (fun _ hk => hk.2) (.int .i64 t366)) (fun _ hk => hk.2) (.int .i64 t367)) (fun _ hk => hk.2) (.slice Ao16 t368.length co16)) (fun _ h_ => h_.1))))) (below_size (by first | exact uB HB | exact uS HB (gC GE372 gN)))); have n3_ := Aside0.mk (blk_below (g := gb372) (o := .cells #[.int .i64 t365, .int .i64 t366, .int .i64 t367, .slice Ao16 t368.length co16] 26 (0, 0)) (by refine uW ?_; refine blk_put (cs := #[.int .i64 t365, .int .i64 t366, .int .i64 t367, .slice none 0 0]) ?_ 3 _ rfl; refine uW ?_; refine blk_put (cs := #[.int .i64 t365, .int .i64 t366, .int .i64 0, .slice none 0 0]) ?_ 2 _ rfl; refine uW ?_; refine blk_put (cs := #[.int .i64 t365, .int .i64 0, .int .i64 0, .slice none 0 0]) ?_ 1 _ rfl; refine uW ?_; refine blk_put (cs := #[.int .i64 0, .int .i64 0, .int .i64 0, .slice none 0 0]) ?_ 0 _ rfl; refine uW ?_; exact BK372.out) hb); have n4_ := Aside0.mk (below_step (by first | exact uB HB | exact uS HB (gC GE372 gN)) hb); clear HO364 HO370 BK372 HB; have HO364 := n0_; have HO370 := n1_; have HO375 := n2_; have BK372 := n3_; have HB := n4_; clear n0_ n1_ n2_ n3_ n4_; (try clear hb); (try clear hb2); (try clear hk); (try clear hi); (try clear ho0); obtain ⟨Ao18, co18, eo18⟩ := Kd.R_slice HO375.out; subst eo18) | ((with_reducible refine gate_callee (f := 10) rfl ?_); refine goesL_ (some 37) rfl rfl Try.func10 (by kernel_rfl) rfl #[.int .i64 a0, .slice Ao18 t373.length co18, .int .i64 a2] rfl (by (try simp only [List.map_toArray, List.map_cons, List.map_nil]); first | done | rfl | (simp only [List.length_drop, List.length_take]; rfl)) ?_; (with_reducible refine (impl_BuildOrdered.calls k a0 _ _ t373 a2 t376 t377 t378 t379 t382 _ ?side1 ?side2 A9.out).mono ?_); (case side1 => exact uD HO375); (case side2 => exact (Kd.R_reads' HO375.out).2.1); rintro e w19 ⟨v380, rfl, ho0, hb⟩; refine ⟨_, rfl, ?_⟩; have n0_ := Aside0.mk (Kd.R_below (uR HO364) hb); have n1_ := Aside0.mk (Kd.R_elder' (uR HO370) (Kd.R_base ho0) hb); have n2_ := Aside0.mk (Kd.R_below (uR HO375) hb); have n3_ := Aside0.mk (Kd.R_lower (Kd.R_new' ho0 (Kd.R_lt (uR HO370))) (below_size (by first | exact uB HB | exact uS HB (gC GE372 gN)))); have n4_ := Aside0.mk (blk_below (g := gb372) (o := .cells #[.int .i64 t365, .int .i64 t366, .int .i64 t367, .slice Ao16 t368.length co16] 26 (0, 0)) (uK BK372) hb); have n5_ := Aside0.mk (below_step (by first | exact uB HB | exact uS HB (gC GE372 gN)) hb); clear HO364 HO370 HO375 BK372 HB; have HO364 := n0_; have HO370 := n1_; have HO375 := n2_; have HO381 := n3_; have BK372 := n4_; have HB := n5_; clear n0_ n1_ n2_ n3_ n4_ n5_; (try clear hb); (try clear hb2); (try clear hk); (try clear hi); (try clear ho0)) | ((with_reducible refine gate_dst (N := 11) rfl ?_); refine box_event ?hg (N := 11) ?hd (cs := #[.int .i64 0, .int .i64 0, .int .i64 0, .slice none 0 0]) (t := 26) ?hr ?_; (case hd => rfl); (case hg => rfl); (case hr => first | (go_simp; done) | (go_simp; rfl)); intro gb383 hg w20 hbox hb; have n0_ := Aside0.mk (Kd.R_below (uR HO364) hb); have n1_ := Aside0.mk (Kd.R_below (uR HO370) hb); have n2_ := Aside0.mk (Kd.R_below (uR HO375) hb); have n3_ := Aside0.mk (Kd.R_below (uR HO381) hb); have n4_ := Aside0.mk (blk_below (g := gb372) (o := .cells #[.int .i64 t365, .int .i64 t366, .int .i64 t367, .slice Ao16 t368.length co16] 26 (0, 0)) (uK BK372) hb); have n5_ := Aside0.mk (below_step (by first | exact uB HB | exact uS HB (gC GE372 gN)) hb); have n6_ := Aside0.mk (hbox); have n7_ := Aside0.mk ((by rw [hg]; exact (below_size (by first | exact uB HB | exact uS HB (gC GE372 gN))) : w.heap.size ≤ gb383)); have n8_ := Aside0.mk ((by rw [hg]; exact (below_size (by first | exact uB HB | exact uS HB (gC GE372 gN))) : w.heap.size ≤ gb383)); have n9_ := Aside0.mk ((by rw [hg]; exact Nat.ne_of_lt (blk_lt (g := gb372) (o := .cells #[.int .i64 t365, .int .i64 t366, .int .i64 t367, .slice Ao16 t368.length co16] 26 (0, 0)) (uK BK372)) : gb372 ≠ gb383)); have n10_ := Aside0.mk ((by rw [hg]; exact Nat.ne_of_gt (blk_lt (g := gb372) (o := .cells #[.int .i64 t365, .int .i64 t366, .int .i64 t367, .slice Ao16 t368.length co16] 26 (0, 0)) (uK BK372)) : gb383 ≠ gb372)); clear HO364 HO370 HO375 HO381 BK372 HB; have HO364 := n0_; have HO370 := n1_; have HO375 := n2_; have HO381 := n3_; have BK372 := n4_; have HB := n5_; have BK383 := n6_; have GW383 := n7_; have GE383 := n8_; have NB372_383 := n9_; have NB383_372 := n10_; clear n0_ n1_ n2_ n3_ n4_ n5_ n6_ n7_ n8_ n9_ n10_ hb hbox hg; have hnb21 := NB383_372.out; have hnc21 := NB372_383.out; have hcz22_0 : w20.cell? ⟨gb383, 0, none⟩ = some (.int .i64 0) := (blk_cell BK383.out 0).trans rfl; have hcz22_1 : w20.cell? ⟨gb383, 1, none⟩ = some (.int .i64 0) := (blk_cell BK383.out 1).trans rfl; have hcz22_2 : w20.cell? ⟨gb383, 2, none⟩ = some (.int .i64 0) := (blk_cell BK383.out 2).trans rfl; have hcz22_3 : w20.cell? ⟨gb383, 3, none⟩ = some (.slice none 0 0) := (blk_cell BK383.out 3).trans rfl; have hfz22_0 := blk_frozen BK383.out 0; have hfz22_1 := blk_frozen BK383.out 1; have hfz22_2 := blk_frozen BK383.out 2; have hfz22_3 := blk_frozen BK383.out 3; obtain ⟨Ao23, co23, eo23⟩ := Kd.R_slice HO381.out; subst eo23))
  (try simp only [Act.put, List.setIfInBounds_toArray, List.set_cons_zero, List.set_cons_succ])
  go_cut [48] (fun v48 wc => ∃ (kq : Nat) (x48_9 : Bool), v48 = .bool x48_9 ∧ Aside0 (laws_FnExactBuildOrdered.j0 kq a0 l1 a2 t371 t373 t382 x48_9 t365 t366 t367 t368 t376 t377 t378 t379 = some r) ∧ Aside0 (kq ≤ k) ∧ Aside0 (Kd.R Kd.string 9 wc w.heap.size (fun _ => True) (.slice Ao18 t373.length co18) t373) ∧ Aside0 (Kd.R (Kd.int .i64) 3 wc w.heap.size (fun k_ => some k_ ≠ ((.slice Ao23 t379.length co23) : Value).ownBlock) (.slice Ao16 t368.length co16) t368) ∧ Aside0 (Kd.R (Kd.int .i64) 3 wc w.heap.size (fun k_ => some k_ ≠ ((.slice Ao16 t368.length co16) : Value).ownBlock) (.slice Ao23 t379.length co23) t379) ∧ Aside0 (wc.heap[gb372]? = some (.cells #[.int .i64 t365, .int .i64 t366, .int .i64 t367, (.slice Ao16 t368.length co16)] 26 (0, 0))) ∧ Aside0 (wc.heap[gb383]? = some (.cells #[.int .i64 t376, .int .i64 t377, .int .i64 t378, (.slice Ao23 t379.length co23)] 26 (0, 0))) ∧ Aside0 (Below w.heap.size w wc))
  case first =>
   have H := HC10.out
   clear HC10
   replace H := Option.bind_eq_some_iff.mp H
   obtain ⟨t384, A240, H⟩ := H
   replace H : (if t384 = true then (laws_FnExactBuildOrdered.j0 k a0 l1 a2 t371 t373 t382 (t382 != t371) t365 t366 t367 t368 t376 t377 t378 t379) else (laws_FnExactBuildOrdered.j0 k a0 l1 a2 t371 t373 t382 true t365 t366 t367 t368 t376 t377 t378 t379)) = some r := H
   have A24 := Aside0.mk A240
   clear A240
   by_cases c25 : t384 = true
   ·
    subst c25
    have H1 : (laws_FnExactBuildOrdered.j0 k a0 l1 a2 t371 t373 t382 (t382 != t371) t365 t366 t367 t368 t376 t377 t378 t379) = some r := by rw [if_pos rfl] at H; exact H
    clear H
    have H := H1
    clear H1
    have H' := Aside0.mk H
    clear H
    have hnb26 := NB383_372.out
    have hnc26 := NB372_383.out
    have hcz27_0 : w20.cell? ⟨gb383, 0, none⟩ = some (.int .i64 0) := (blk_cell BK383.out 0).trans rfl
    have hcz27_1 : w20.cell? ⟨gb383, 1, none⟩ = some (.int .i64 0) := (blk_cell BK383.out 1).trans rfl
    have hcz27_2 : w20.cell? ⟨gb383, 2, none⟩ = some (.int .i64 0) := (blk_cell BK383.out 2).trans rfl
    have hcz27_3 : w20.cell? ⟨gb383, 3, none⟩ = some (.slice none 0 0) := (blk_cell BK383.out 3).trans rfl
    have hfz27_0 := blk_frozen BK383.out 0
    have hfz27_1 := blk_frozen BK383.out 1
    have hfz27_2 := blk_frozen BK383.out 2
    have hfz27_3 := blk_frozen BK383.out 3
    have hcz28_0 : w20.cell? ⟨gb372, 0, none⟩ = some (.int .i64 t365) := (blk_cell BK372.out 0).trans rfl
    have hcz28_1 : w20.cell? ⟨gb372, 1, none⟩ = some (.int .i64 t366) := (blk_cell BK372.out 1).trans rfl
    have hcz28_2 : w20.cell? ⟨gb372, 2, none⟩ = some (.int .i64 t367) := (blk_cell BK372.out 2).trans rfl
    have hcz28_3 : w20.cell? ⟨gb372, 3, none⟩ = some (.slice Ao16 t368.length co16) := (blk_cell BK372.out 3).trans rfl
    have hfz28_0 := blk_frozen BK372.out 0
    have hfz28_1 := blk_frozen BK372.out 1
    have hfz28_2 := blk_frozen BK372.out 2
    have hfz28_3 := blk_frozen BK372.out 3
    go_wp2_with (first | ((with_reducible refine gate_callee (f := 11) rfl ?_); refine goesL_ (some 42) rfl rfl Try.func11 (by kernel_rfl) rfl #[.agg #[.int .i64 t376, .int .i64 t377, .int .i64 t378, .slice Ao23 t379.length co23], .agg #[.int .i64 t365, .int .i64 t366, .int .i64 t367, .slice Ao16 t368.length co16]] rfl (by (try simp only [List.map_toArray, List.map_cons, List.map_nil]); first | done | rfl | (simp only [List.length_drop, List.length_take]; rfl)) ?_; (with_reducible refine (laws_eqOrdered.calls k t376 t377 t378 _ _ t379 t365 t366 t367 _ _ t368 true _ ?side1 ?side2 ?side3 ?side4 A24.out).mono ?_); (case side1 => refine (Kd.R_reads' (e := 3) (base := w.heap.size) (ok := fun k_ => (True ∧ some k_ ≠ (.slice Ao16 t368.length co16 : Value).ownBlock)) (n := t379.length) (c := co23) ?_).2.2; exact (by (with_reducible repeat (first | apply Kd.R_alloc | apply Kd.R_drewN | apply Kd.R_drew)); exact (Kd.R_mono (Kd.R_far (p := ⟨gb383, 3, none⟩) (Kd.R_far (p := ⟨gb383, 2, none⟩) (Kd.R_far (p := ⟨gb383, 1, none⟩) (Kd.R_far (p := ⟨gb383, 0, none⟩) (Kd.R_types HO381.out BK383.out (by decide)) (fun _ hk => hk.2) (.int .i64 t376)) (fun _ hk => hk.2) (.int .i64 t377)) (fun _ hk => hk.2) (.int .i64 t378)) (fun _ hk => hk.2) (.slice Ao23 t379.length co23)) (fun _ h_ => h_.1)))); (case side2 => exact (Kd.R_reads' HO381.out).2.1); (case side3 => refine (Kd.R_reads' (e := 3) (base := w.heap.size) (ok := fun k_ => (True ∧ some k_ ≠ (.slice Ao23 t379.length co23 : Value).ownBlock)) (n := t368.length) (c := co16) ?_).2.2; exact (by (with_reducible repeat (first | apply Kd.R_alloc | apply Kd.R_drewN | apply Kd.R_drew)); exact (Kd.R_mono (Kd.R_far (p := ⟨gb383, 3, none⟩) (Kd.R_far (p := ⟨gb383, 2, none⟩) (Kd.R_far (p := ⟨gb383, 1, none⟩) (Kd.R_far (p := ⟨gb383, 0, none⟩) (Kd.R_types HO370.out BK383.out (by decide)) (fun _ hk => hk.2) (.int .i64 t376)) (fun _ hk => hk.2) (.int .i64 t377)) (fun _ hk => hk.2) (.int .i64 t378)) (fun _ hk => hk.2) (.slice Ao23 t379.length co23)) (fun _ h_ => h_.1)))); (case side4 => exact (Kd.R_reads' HO370.out).2.1); rintro e w29 ⟨rfl, hb⟩; refine ⟨_, rfl, ?_⟩; have n0_ := Aside0.mk (Kd.R_below (by (with_reducible repeat (first | apply Kd.R_alloc | apply Kd.R_drewN | apply Kd.R_drew)); exact (Kd.R_mono (Kd.R_far (p := ⟨gb383, 3, none⟩) (Kd.R_far (p := ⟨gb383, 2, none⟩) (Kd.R_far (p := ⟨gb383, 1, none⟩) (Kd.R_far (p := ⟨gb383, 0, none⟩) (Kd.R_types HO364.out BK383.out (by decide)) (fun _ hk => hk.2) (.int .i64 t376)) (fun _ hk => hk.2) (.int .i64 t377)) (fun _ hk => hk.2) (.int .i64 t378)) (fun _ hk => hk.2) (.slice Ao23 t379.length co23)) (fun _ h_ => h_.1))) hb); have n1_ := Aside0.mk (Kd.R_below (by (with_reducible repeat (first | apply Kd.R_alloc | apply Kd.R_drewN | apply Kd.R_drew)); exact (Kd.R_mono (Kd.R_far (p := ⟨gb383, 3, none⟩) (Kd.R_far (p := ⟨gb383, 2, none⟩) (Kd.R_far (p := ⟨gb383, 1, none⟩) (Kd.R_far (p := ⟨gb383, 0, none⟩) (Kd.R_types HO370.out BK383.out (by decide)) (fun _ hk => hk.2) (.int .i64 t376)) (fun _ hk => hk.2) (.int .i64 t377)) (fun _ hk => hk.2) (.int .i64 t378)) (fun _ hk => hk.2) (.slice Ao23 t379.length co23)) (fun _ h_ => h_.1))) hb); have n2_ := Aside0.mk (Kd.R_below (by (with_reducible repeat (first | apply Kd.R_alloc | apply Kd.R_drewN | apply Kd.R_drew)); exact (Kd.R_mono (Kd.R_far (p := ⟨gb383, 3, none⟩) (Kd.R_far (p := ⟨gb383, 2, none⟩) (Kd.R_far (p := ⟨gb383, 1, none⟩) (Kd.R_far (p := ⟨gb383, 0, none⟩) (Kd.R_types HO375.out BK383.out (by decide)) (fun _ hk => hk.2) (.int .i64 t376)) (fun _ hk => hk.2) (.int .i64 t377)) (fun _ hk => hk.2) (.int .i64 t378)) (fun _ hk => hk.2) (.slice Ao23 t379.length co23)) (fun _ h_ => h_.1))) hb); have n3_ := Aside0.mk (Kd.R_below (by (with_reducible repeat (first | apply Kd.R_alloc | apply Kd.R_drewN | apply Kd.R_drew)); exact (Kd.R_mono (Kd.R_far (p := ⟨gb383, 3, none⟩) (Kd.R_far (p := ⟨gb383, 2, none⟩) (Kd.R_far (p := ⟨gb383, 1, none⟩) (Kd.R_far (p := ⟨gb383, 0, none⟩) (Kd.R_types HO381.out BK383.out (by decide)) (fun _ hk => hk.2) (.int .i64 t376)) (fun _ hk => hk.2) (.int .i64 t377)) (fun _ hk => hk.2) (.int .i64 t378)) (fun _ hk => hk.2) (.slice Ao23 t379.length co23)) (fun _ h_ => h_.1))) hb); have n4_ := Aside0.mk (blk_below (g := gb372) (o := .cells #[.int .i64 t365, .int .i64 t366, .int .i64 t367, .slice Ao16 t368.length co16] 26 (0, 0)) (by refine uW ?_; refine blk_far ?_ NB372_383.out _; refine uW ?_; refine blk_far ?_ NB372_383.out _; refine uW ?_; refine blk_far ?_ NB372_383.out _; refine uW ?_; refine blk_far ?_ NB372_383.out _; refine uW ?_; exact BK372.out) hb); have n5_ := Aside0.mk (blk_below (g := gb383) (o := .cells #[.int .i64 t376, .int .i64 t377, .int .i64 t378, .slice Ao23 t379.length co23] 26 (0, 0)) (by refine uW ?_; refine blk_put (cs := #[.int .i64 t376, .int .i64 t377, .int .i64 t378, .slice none 0 0]) ?_ 3 _ rfl; refine uW ?_; refine blk_put (cs := #[.int .i64 t376, .int .i64 t377, .int .i64 0, .slice none 0 0]) ?_ 2 _ rfl; refine uW ?_; refine blk_put (cs := #[.int .i64 t376, .int .i64 0, .int .i64 0, .slice none 0 0]) ?_ 1 _ rfl; refine uW ?_; refine blk_put (cs := #[.int .i64 0, .int .i64 0, .int .i64 0, .slice none 0 0]) ?_ 0 _ rfl; refine uW ?_; exact BK383.out) hb); have n6_ := Aside0.mk (below_step (by first | exact uB HB | exact uS HB (gC GE372 (gC GE383 gN))) hb); clear HO364 HO370 HO375 HO381 BK372 BK383 HB; have HO364 := n0_; have HO370 := n1_; have HO375 := n2_; have HO381 := n3_; have BK372 := n4_; have BK383 := n5_; have HB := n6_; clear n0_ n1_ n2_ n3_ n4_ n5_ n6_; (try clear hb); (try clear hb2); (try clear hk); (try clear hi)))
    go_meet
    case rel => exact ⟨_, ((t382 != t371)), (by first | rfl | (simp; done) | (simp [*]; done)), H', ⟨by first | omega | exact Nat.le_refl _⟩, ⟨by (with_reducible repeat (first | apply Kd.R_alloc | apply Kd.R_drewN | apply Kd.R_drew)); exact Kd.R_mono HO375.out (fun _ hk => trivial)⟩, ⟨by (with_reducible repeat (first | apply Kd.R_alloc | apply Kd.R_drewN | apply Kd.R_drew)); exact Kd.R_mono HO370.out (fun _ hk => hk.2)⟩, ⟨by (with_reducible repeat (first | apply Kd.R_alloc | apply Kd.R_drewN | apply Kd.R_drew)); exact Kd.R_mono HO381.out (fun _ hk => hk.2)⟩, ⟨by refine uW ?_; exact BK372.out⟩, ⟨by refine uW ?_; exact BK383.out⟩, ⟨by first | exact uB HB | exact uS HB (gC GE372 (gC GE383 gN))⟩⟩
   ·
    replace c25 := Bool.eq_false_iff.mpr c25
    subst c25
    have H1 : (laws_FnExactBuildOrdered.j0 k a0 l1 a2 t371 t373 t382 true t365 t366 t367 t368 t376 t377 t378 t379) = some r := by rw [if_neg (show ¬ (false = true) by decide)] at H; exact H
    clear H
    have H := H1
    clear H1
    have H' := Aside0.mk H
    clear H
    have hnb30 := NB383_372.out
    have hnc30 := NB372_383.out
    have hcz31_0 : w20.cell? ⟨gb383, 0, none⟩ = some (.int .i64 0) := (blk_cell BK383.out 0).trans rfl
    have hcz31_1 : w20.cell? ⟨gb383, 1, none⟩ = some (.int .i64 0) := (blk_cell BK383.out 1).trans rfl
    have hcz31_2 : w20.cell? ⟨gb383, 2, none⟩ = some (.int .i64 0) := (blk_cell BK383.out 2).trans rfl
    have hcz31_3 : w20.cell? ⟨gb383, 3, none⟩ = some (.slice none 0 0) := (blk_cell BK383.out 3).trans rfl
    have hfz31_0 := blk_frozen BK383.out 0
    have hfz31_1 := blk_frozen BK383.out 1
    have hfz31_2 := blk_frozen BK383.out 2
    have hfz31_3 := blk_frozen BK383.out 3
    have hcz32_0 : w20.cell? ⟨gb372, 0, none⟩ = some (.int .i64 t365) := (blk_cell BK372.out 0).trans rfl
    have hcz32_1 : w20.cell? ⟨gb372, 1, none⟩ = some (.int .i64 t366) := (blk_cell BK372.out 1).trans rfl
    have hcz32_2 : w20.cell? ⟨gb372, 2, none⟩ = some (.int .i64 t367) := (blk_cell BK372.out 2).trans rfl
    have hcz32_3 : w20.cell? ⟨gb372, 3, none⟩ = some (.slice Ao16 t368.length co16) := (blk_cell BK372.out 3).trans rfl
    have hfz32_0 := blk_frozen BK372.out 0
    have hfz32_1 := blk_frozen BK372.out 1
    have hfz32_2 := blk_frozen BK372.out 2
    have hfz32_3 := blk_frozen BK372.out 3
    go_wp2_with (first | ((with_reducible refine gate_callee (f := 11) rfl ?_); refine goesL_ (some 42) rfl rfl Try.func11 (by kernel_rfl) rfl #[.agg #[.int .i64 t376, .int .i64 t377, .int .i64 t378, .slice Ao23 t379.length co23], .agg #[.int .i64 t365, .int .i64 t366, .int .i64 t367, .slice Ao16 t368.length co16]] rfl (by (try simp only [List.map_toArray, List.map_cons, List.map_nil]); first | done | rfl | (simp only [List.length_drop, List.length_take]; rfl)) ?_; (with_reducible refine (laws_eqOrdered.calls k t376 t377 t378 _ _ t379 t365 t366 t367 _ _ t368 false _ ?side1 ?side2 ?side3 ?side4 A24.out).mono ?_); (case side1 => refine (Kd.R_reads' (e := 3) (base := w.heap.size) (ok := fun k_ => (True ∧ some k_ ≠ (.slice Ao16 t368.length co16 : Value).ownBlock)) (n := t379.length) (c := co23) ?_).2.2; exact (by (with_reducible repeat (first | apply Kd.R_alloc | apply Kd.R_drewN | apply Kd.R_drew)); exact (Kd.R_mono (Kd.R_far (p := ⟨gb383, 3, none⟩) (Kd.R_far (p := ⟨gb383, 2, none⟩) (Kd.R_far (p := ⟨gb383, 1, none⟩) (Kd.R_far (p := ⟨gb383, 0, none⟩) (Kd.R_types HO381.out BK383.out (by decide)) (fun _ hk => hk.2) (.int .i64 t376)) (fun _ hk => hk.2) (.int .i64 t377)) (fun _ hk => hk.2) (.int .i64 t378)) (fun _ hk => hk.2) (.slice Ao23 t379.length co23)) (fun _ h_ => h_.1)))); (case side2 => exact (Kd.R_reads' HO381.out).2.1); (case side3 => refine (Kd.R_reads' (e := 3) (base := w.heap.size) (ok := fun k_ => (True ∧ some k_ ≠ (.slice Ao23 t379.length co23 : Value).ownBlock)) (n := t368.length) (c := co16) ?_).2.2; exact (by (with_reducible repeat (first | apply Kd.R_alloc | apply Kd.R_drewN | apply Kd.R_drew)); exact (Kd.R_mono (Kd.R_far (p := ⟨gb383, 3, none⟩) (Kd.R_far (p := ⟨gb383, 2, none⟩) (Kd.R_far (p := ⟨gb383, 1, none⟩) (Kd.R_far (p := ⟨gb383, 0, none⟩) (Kd.R_types HO370.out BK383.out (by decide)) (fun _ hk => hk.2) (.int .i64 t376)) (fun _ hk => hk.2) (.int .i64 t377)) (fun _ hk => hk.2) (.int .i64 t378)) (fun _ hk => hk.2) (.slice Ao23 t379.length co23)) (fun _ h_ => h_.1)))); (case side4 => exact (Kd.R_reads' HO370.out).2.1); rintro e w33 ⟨rfl, hb⟩; refine ⟨_, rfl, ?_⟩; have n0_ := Aside0.mk (Kd.R_below (by (with_reducible repeat (first | apply Kd.R_alloc | apply Kd.R_drewN | apply Kd.R_drew)); exact (Kd.R_mono (Kd.R_far (p := ⟨gb383, 3, none⟩) (Kd.R_far (p := ⟨gb383, 2, none⟩) (Kd.R_far (p := ⟨gb383, 1, none⟩) (Kd.R_far (p := ⟨gb383, 0, none⟩) (Kd.R_types HO364.out BK383.out (by decide)) (fun _ hk => hk.2) (.int .i64 t376)) (fun _ hk => hk.2) (.int .i64 t377)) (fun _ hk => hk.2) (.int .i64 t378)) (fun _ hk => hk.2) (.slice Ao23 t379.length co23)) (fun _ h_ => h_.1))) hb); have n1_ := Aside0.mk (Kd.R_below (by (with_reducible repeat (first | apply Kd.R_alloc | apply Kd.R_drewN | apply Kd.R_drew)); exact (Kd.R_mono (Kd.R_far (p := ⟨gb383, 3, none⟩) (Kd.R_far (p := ⟨gb383, 2, none⟩) (Kd.R_far (p := ⟨gb383, 1, none⟩) (Kd.R_far (p := ⟨gb383, 0, none⟩) (Kd.R_types HO370.out BK383.out (by decide)) (fun _ hk => hk.2) (.int .i64 t376)) (fun _ hk => hk.2) (.int .i64 t377)) (fun _ hk => hk.2) (.int .i64 t378)) (fun _ hk => hk.2) (.slice Ao23 t379.length co23)) (fun _ h_ => h_.1))) hb); have n2_ := Aside0.mk (Kd.R_below (by (with_reducible repeat (first | apply Kd.R_alloc | apply Kd.R_drewN | apply Kd.R_drew)); exact (Kd.R_mono (Kd.R_far (p := ⟨gb383, 3, none⟩) (Kd.R_far (p := ⟨gb383, 2, none⟩) (Kd.R_far (p := ⟨gb383, 1, none⟩) (Kd.R_far (p := ⟨gb383, 0, none⟩) (Kd.R_types HO375.out BK383.out (by decide)) (fun _ hk => hk.2) (.int .i64 t376)) (fun _ hk => hk.2) (.int .i64 t377)) (fun _ hk => hk.2) (.int .i64 t378)) (fun _ hk => hk.2) (.slice Ao23 t379.length co23)) (fun _ h_ => h_.1))) hb); have n3_ := Aside0.mk (Kd.R_below (by (with_reducible repeat (first | apply Kd.R_alloc | apply Kd.R_drewN | apply Kd.R_drew)); exact (Kd.R_mono (Kd.R_far (p := ⟨gb383, 3, none⟩) (Kd.R_far (p := ⟨gb383, 2, none⟩) (Kd.R_far (p := ⟨gb383, 1, none⟩) (Kd.R_far (p := ⟨gb383, 0, none⟩) (Kd.R_types HO381.out BK383.out (by decide)) (fun _ hk => hk.2) (.int .i64 t376)) (fun _ hk => hk.2) (.int .i64 t377)) (fun _ hk => hk.2) (.int .i64 t378)) (fun _ hk => hk.2) (.slice Ao23 t379.length co23)) (fun _ h_ => h_.1))) hb); have n4_ := Aside0.mk (blk_below (g := gb372) (o := .cells #[.int .i64 t365, .int .i64 t366, .int .i64 t367, .slice Ao16 t368.length co16] 26 (0, 0)) (by refine uW ?_; refine blk_far ?_ NB372_383.out _; refine uW ?_; refine blk_far ?_ NB372_383.out _; refine uW ?_; refine blk_far ?_ NB372_383.out _; refine uW ?_; refine blk_far ?_ NB372_383.out _; refine uW ?_; exact BK372.out) hb); have n5_ := Aside0.mk (blk_below (g := gb383) (o := .cells #[.int .i64 t376, .int .i64 t377, .int .i64 t378, .slice Ao23 t379.length co23] 26 (0, 0)) (by refine uW ?_; refine blk_put (cs := #[.int .i64 t376, .int .i64 t377, .int .i64 t378, .slice none 0 0]) ?_ 3 _ rfl; refine uW ?_; refine blk_put (cs := #[.int .i64 t376, .int .i64 t377, .int .i64 0, .slice none 0 0]) ?_ 2 _ rfl; refine uW ?_; refine blk_put (cs := #[.int .i64 t376, .int .i64 0, .int .i64 0, .slice none 0 0]) ?_ 1 _ rfl; refine uW ?_; refine blk_put (cs := #[.int .i64 0, .int .i64 0, .int .i64 0, .slice none 0 0]) ?_ 0 _ rfl; refine uW ?_; exact BK383.out) hb); have n6_ := Aside0.mk (below_step (by first | exact uB HB | exact uS HB (gC GE372 (gC GE383 gN))) hb); clear HO364 HO370 HO375 HO381 BK372 BK383 HB; have HO364 := n0_; have HO370 := n1_; have HO375 := n2_; have HO381 := n3_; have BK372 := n4_; have BK383 := n5_; have HB := n6_; clear n0_ n1_ n2_ n3_ n4_ n5_ n6_; (try clear hb); (try clear hb2); (try clear hk); (try clear hi)))
    go_meet
    case rel => exact ⟨_, (true), (by first | rfl | (simp; done) | (simp [*]; done)), H', ⟨by first | omega | exact Nat.le_refl _⟩, ⟨by (with_reducible repeat (first | apply Kd.R_alloc | apply Kd.R_drewN | apply Kd.R_drew)); exact Kd.R_mono HO375.out (fun _ hk => trivial)⟩, ⟨by (with_reducible repeat (first | apply Kd.R_alloc | apply Kd.R_drewN | apply Kd.R_drew)); exact Kd.R_mono HO370.out (fun _ hk => hk.2)⟩, ⟨by (with_reducible repeat (first | apply Kd.R_alloc | apply Kd.R_drewN | apply Kd.R_drew)); exact Kd.R_mono HO381.out (fun _ hk => hk.2)⟩, ⟨by refine uW ?_; exact BK372.out⟩, ⟨by refine uW ?_; exact BK383.out⟩, ⟨by first | exact uB HB | exact uS HB (gC GE372 (gC GE383 gN))⟩⟩
  case rest =>
   clear HC10
   try clear c1
   try clear c2
   try clear p2
   try clear c3
   try clear c5
   try clear c5b0
   try clear c7
   try clear c8
   try clear c9
   try clear c10
   try clear c11
   try clear c21
   try clear c25
   try clear c26
   try clear c30
   try clear hcz15_0
   try clear hcz15_1
   try clear hcz15_2
   try clear hcz15_3
   try clear hcz22_0
   try clear hcz22_1
   try clear hcz22_2
   try clear hcz22_3
   try clear hcz27_0
   try clear hcz27_1
   try clear hcz27_2
   try clear hcz27_3
   try clear hcz28_0
   try clear hcz28_1
   try clear hcz28_2
   try clear hcz28_3
   try clear hcz31_0
   try clear hcz31_1
   try clear hcz31_2
   try clear hcz31_3
   try clear hcz32_0
   try clear hcz32_1
   try clear hcz32_2
   try clear hcz32_3
   try clear hfz15_0
   try clear hfz15_1
   try clear hfz15_2
   try clear hfz15_3
   try clear hfz22_0
   try clear hfz22_1
   try clear hfz22_2
   try clear hfz22_3
   try clear hfz27_0
   try clear hfz27_1
   try clear hfz27_2
   try clear hfz27_3
   try clear hfz28_0
   try clear hfz28_1
   try clear hfz28_2
   try clear hfz28_3
   try clear hfz31_0
   try clear hfz31_1
   try clear hfz31_2
   try clear hfz31_3
   try clear hfz32_0
   try clear hfz32_1
   try clear hfz32_2
   try clear hfz32_3
   obtain ⟨kq, x48_9, rfl, HA, HJ9, HO_10, HO_373003, HO_384003, BK372, BK383, HB⟩ := hcut
   cases kq with
   | zero => exact absurd HA.out (by simp [laws_FnExactBuildOrdered.j0])
   | succ kj9 =>
    have H := HA.out
    clear HA
    simp only [laws_FnExactBuildOrdered.j0] at H
    by_cases c34 : x48_9 = true
    ·
     subst c34
     have H1 : (some false) = some r := by rw [if_pos rfl] at H; exact H
     clear H
     have H := H1
     clear H1
     obtain rfl := Option.some.inj H
     go_wp2
     go_ret
     exact ⟨by first | rfl | (simp [errW_none, errW_some] <;> rfl) | (simp [*, errW_none, errW_some] <;> rfl), by first | exact uB HB | exact uS HB (gC GE372 (gC GE383 gN))⟩
    ·
     replace c34 := Bool.eq_false_iff.mpr c34
     subst c34
     have H1 : ((laws_toStringS.f kj9 l1).bind fun t385 => ((laws_eqStringS.f kj9 t373 t385).bind fun t388 => (if t388 = true then ((laws_markStringS.f kj9 t373 1).bind fun bt389 => (if bt389.1 < 0 then (laws_FnExactBuildOrdered.j1 kj9 a0 l1 a2 t371 true t365 t366 t367 t368 t376 t377 t378 t379) else ((laws_eqOrdered.f kj9 t376 t377 t378 t379 t365 t366 t367 t368).bind fun t391 => (if t391 = true then (laws_FnExactBuildOrdered.j1 kj9 a0 l1 a2 t371 (t382 != t371) t365 t366 t367 t368 t376 t377 t378 t379) else (laws_FnExactBuildOrdered.j1 kj9 a0 l1 a2 t371 true t365 t366 t367 t368 t376 t377 t378 t379))))) else (some false)))) = some r := by rw [if_neg (show ¬ (false = true) by decide)] at H; exact H
     clear H
     have H := H1
     clear H1
     replace H := Option.bind_eq_some_iff.mp H
     obtain ⟨t385, A350, H⟩ := H
     replace H : ((laws_eqStringS.f kj9 t373 t385).bind fun t388 => (if t388 = true then ((laws_markStringS.f kj9 t373 1).bind fun bt389 => (if bt389.1 < 0 then (laws_FnExactBuildOrdered.j1 kj9 a0 l1 a2 t371 true t365 t366 t367 t368 t376 t377 t378 t379) else ((laws_eqOrdered.f kj9 t376 t377 t378 t379 t365 t366 t367 t368).bind fun t391 => (if t391 = true then (laws_FnExactBuildOrdered.j1 kj9 a0 l1 a2 t371 (t382 != t371) t365 t366 t367 t368 t376 t377 t378 t379) else (laws_FnExactBuildOrdered.j1 kj9 a0 l1 a2 t371 true t365 t366 t367 t368 t376 t377 t378 t379))))) else (some false))) = some r := H
     have A35 := Aside0.mk A350
     clear A350
     replace H := Option.bind_eq_some_iff.mp H
     obtain ⟨t388, A360, H⟩ := H
     replace H : (if t388 = true then ((laws_markStringS.f kj9 t373 1).bind fun bt389 => (if bt389.1 < 0 then (laws_FnExactBuildOrdered.j1 kj9 a0 l1 a2 t371 true t365 t366 t367 t368 t376 t377 t378 t379) else ((laws_eqOrdered.f kj9 t376 t377 t378 t379 t365 t366 t367 t368).bind fun t391 => (if t391 = true then (laws_FnExactBuildOrdered.j1 kj9 a0 l1 a2 t371 (t382 != t371) t365 t366 t367 t368 t376 t377 t378 t379) else (laws_FnExactBuildOrdered.j1 kj9 a0 l1 a2 t371 true t365 t366 t367 t368 t376 t377 t378 t379))))) else (some false)) = some r := H
     have A36 := Aside0.mk A360
     clear A360
     by_cases c37 : t388 = true
     ·
      subst c37
      have H1 : ((laws_markStringS.f kj9 t373 1).bind fun bt389 => (if bt389.1 < 0 then (laws_FnExactBuildOrdered.j1 kj9 a0 l1 a2 t371 true t365 t366 t367 t368 t376 t377 t378 t379) else ((laws_eqOrdered.f kj9 t376 t377 t378 t379 t365 t366 t367 t368).bind fun t391 => (if t391 = true then (laws_FnExactBuildOrdered.j1 kj9 a0 l1 a2 t371 (t382 != t371) t365 t366 t367 t368 t376 t377 t378 t379) else (laws_FnExactBuildOrdered.j1 kj9 a0 l1 a2 t371 true t365 t366 t367 t368 t376 t377 t378 t379))))) = some r := by rw [if_pos rfl] at H; exact H
      clear H
      have H := H1
      clear H1
      replace H := Option.bind_eq_some_iff.mp H
      obtain ⟨⟨t389, t390⟩, A380, H⟩ := H
      replace H : (if t389 < 0 then (laws_FnExactBuildOrdered.j1 kj9 a0 l1 a2 t371 true t365 t366 t367 t368 t376 t377 t378 t379) else ((laws_eqOrdered.f kj9 t376 t377 t378 t379 t365 t366 t367 t368).bind fun t391 => (if t391 = true then (laws_FnExactBuildOrdered.j1 kj9 a0 l1 a2 t371 (t382 != t371) t365 t366 t367 t368 t376 t377 t378 t379) else (laws_FnExactBuildOrdered.j1 kj9 a0 l1 a2 t371 true t365 t366 t367 t368 t376 t377 t378 t379)))) = some r := H
      have A38 := Aside0.mk A380
      clear A380
      have HC39 := Aside0.mk H
      clear H
      go_upto_region 14 with (first | ((with_reducible refine gate_callee (f := 9) rfl ?_); refine goesL_ (some 51) rfl rfl Try.func9 (by kernel_rfl) rfl #[.slice A1 l1.length c1] rfl (by (try simp only [List.map_toArray, List.map_cons, List.map_nil]); first | done | rfl | (simp only [List.length_drop, List.length_take]; rfl)) ?_; (with_reducible refine (laws_toStringS.calls kj9 _ _ l1 t385 _ ?side1 ?side2 A35.out).mono ?_); (case side1 => exact uC HR1 HB); (case side2 => exact HC1.out); rintro e w40 ⟨v386, rfl, ho0, hb⟩; refine ⟨_, rfl, ?_⟩; have n0_ := Aside0.mk (Kd.R_elder' (uR HO_10) (Kd.R_base ho0) hb); have n1_ := Aside0.mk (Kd.R_below (uR HO_373003) hb); have n2_ := Aside0.mk (Kd.R_below (uR HO_384003) hb); have n3_ := Aside0.mk (Kd.R_lower (Kd.R_new' ho0 (Kd.R_lt (uR HO_10))) (below_size (by first | exact uB HB | exact uS HB (gC GE372 (gC GE383 gN))))); have n4_ := Aside0.mk (blk_below (g := gb372) (o := .cells #[.int .i64 t365, .int .i64 t366, .int .i64 t367, .slice Ao16 t368.length co16] 26 (0, 0)) (uK BK372) hb); have n5_ := Aside0.mk (blk_below (g := gb383) (o := .cells #[.int .i64 t376, .int .i64 t377, .int .i64 t378, .slice Ao23 t379.length co23] 26 (0, 0)) (uK BK383) hb); have n6_ := Aside0.mk (below_step (by first | exact uB HB | exact uS HB (gC GE372 (gC GE383 gN))) hb); clear HO_10 HO_373003 HO_384003 BK372 BK383 HB; have HO_10 := n0_; have HO_373003 := n1_; have HO_384003 := n2_; have HO387 := n3_; have BK372 := n4_; have BK383 := n5_; have HB := n6_; clear n0_ n1_ n2_ n3_ n4_ n5_ n6_; (try clear hb); (try clear hb2); (try clear hk); (try clear hi); (try clear ho0); obtain ⟨Ao41, co41, eo41⟩ := Kd.R_slice HO387.out; subst eo41) | ((with_reducible refine gate_callee (f := 12) rfl ?_); refine goesL_ (some 52) rfl rfl Try.func12 (by kernel_rfl) rfl #[.slice Ao18 t373.length co18, .slice Ao41 t385.length co41] rfl (by (try simp only [List.map_toArray, List.map_cons, List.map_nil]); first | done | rfl | (simp only [List.length_drop, List.length_take]; rfl)) ?_; (with_reducible refine (laws_eqStringS.calls kj9 _ _ t373 _ _ t385 true _ ?side1 ?side2 ?side3 ?side4 A36.out).mono ?_); (case side1 => exact uD HO_10); (case side2 => exact (Kd.R_reads' HO_10.out).2.1); (case side3 => exact uD HO387); (case side4 => exact (Kd.R_reads' HO387.out).2.1); rintro e w' ⟨rfl, ⟨nd, rfl⟩⟩; refine ⟨_, rfl, ?_⟩) | ((with_reducible refine gate_callee (f := 13) rfl ?_); refine goesL_ (some 56) rfl rfl Try.func13 (by kernel_rfl) rfl #[.slice Ao18 t373.length co18, .int .i64 1] rfl (by (try simp only [List.map_toArray, List.map_cons, List.map_nil]); first | done | rfl | (simp only [List.length_drop, List.length_take]; rfl)) ?_; (with_reducible refine (laws_markStringS.calls kj9 (fun k_ => some k_ = (.slice Ao18 t373.length co18 : Value).ownBlock) (.slice Ao18 t373.length co18) t373 1 t389 t390 w _ ?side1 ?side2 A38.out).mono ?_); (case side1 => first | exact uB HB | exact uS HB (gC GE372 (gC GE383 gN))); (case side2 => exact Kd.R_tight rfl HO_10.out); rintro e w42 ⟨rfl, hy0, hb, hkp⟩; refine ⟨_, rfl, ?_⟩; have n0_ := Aside0.mk (Kd.R_reok rfl hy0 (fun k_ e_ => HO_10.out.1 k_ e_)); have n1_ := Aside0.mk (Kd.R_mono (ok' := fun k_ => some k_ ≠ (.slice Ao23 t379.length co23 : Value).ownBlock) (Kd.R_keptB ((Kd.R_apart' HO_373003.out (Kd.R_typed HO_10.out) (by decide))) hkp (fun k_ hk_ hs_ => (hk_.2) hs_)) (fun k_ hk_ => hk_.1.1)); have n2_ := Aside0.mk (Kd.R_mono (ok' := fun k_ => some k_ ≠ (.slice Ao16 t368.length co16 : Value).ownBlock) (Kd.R_keptB ((Kd.R_apart' HO_384003.out (Kd.R_typed HO_10.out) (by decide))) hkp (fun k_ hk_ hs_ => (hk_.2) hs_)) (fun k_ hk_ => hk_.1.1)); have n3_ := Aside0.mk (blk_kept (uK BK372) hkp (fun hs_ => (fun e_ => (Kd.R_ne HO_10.out BK372.out (by decide)) e_) hs_)); have n4_ := Aside0.mk (blk_kept (uK BK383) hkp (fun hs_ => (fun e_ => (Kd.R_ne HO_10.out BK383.out (by decide)) e_) hs_)); have n5_ := Aside0.mk (Kd.R_mono (ok' := fun k_ => some k_ ≠ (.slice Ao18 t373.length co18 : Value).ownBlock) (Kd.R_keptB (HO387.out) hkp (fun k_ hk_ hs_ => (hk_.2) hs_)) (fun k_ hk_ => hk_.1.2)); have n6_ := Aside0.mk (hb); clear HO_10 HO_373003 HO_384003 BK372 BK383 HO387 HB; have HO_10 := n0_; have HO_373003 := n1_; have HO_384003 := n2_; have BK372 := n3_; have BK383 := n4_; have HO387 := n5_; have HB := n6_; clear n0_ n1_ n2_ n3_ n4_ n5_ n6_; (try clear hb); (try clear hkp); (try clear hy0)))
      (try simp only [Act.put, List.setIfInBounds_toArray, List.set_cons_zero, List.set_cons_succ])
      go_cut [69] (fun v69 wc => ∃ (kq : Nat) (x69_38 : Bool), v69 = .bool x69_38 ∧ Aside0 (laws_FnExactBuildOrdered.j1 kq a0 l1 a2 t371 x69_38 t365 t366 t367 t368 t376 t377 t378 t379 = some r) ∧ Aside0 (kq ≤ kj9) ∧ Aside0 (Kd.R (Kd.int .i64) 3 wc w.heap.size (fun k_ => some k_ ≠ ((.slice Ao23 t379.length co23) : Value).ownBlock) (.slice Ao16 t368.length co16) t368) ∧ Aside0 (Kd.R (Kd.int .i64) 3 wc w.heap.size (fun k_ => some k_ ≠ ((.slice Ao16 t368.length co16) : Value).ownBlock) (.slice Ao23 t379.length co23) t379) ∧ Aside0 (wc.heap[gb372]? = some (.cells #[.int .i64 t365, .int .i64 t366, .int .i64 t367, (.slice Ao16 t368.length co16)] 26 (0, 0))) ∧ Aside0 (wc.heap[gb383]? = some (.cells #[.int .i64 t376, .int .i64 t377, .int .i64 t378, (.slice Ao23 t379.length co23)] 26 (0, 0))) ∧ Aside0 (Below w.heap.size w wc))
      case first =>
       have H := HC39.out
       clear HC39
       by_cases c43 : t389 < 0
       ·
        rw [if_pos c43] at H
        have c43b0 : decide (t389 < 0) = true := decide_eq_true c43
        clear c43
        (first | rw [c43b0] | (simp only [i64_w, i32_w]; rw [c43b0]) | skip)
        have H' := Aside0.mk H
        clear H
        go_wp2
        go_meet
        case rel => exact ⟨_, (true), (by first | rfl | (simp; done) | (simp [*]; done)), H', ⟨by have := HJ9.out; first | omega | exact Nat.le_refl _⟩, ⟨by (with_reducible repeat (first | apply Kd.R_alloc | apply Kd.R_drewN | apply Kd.R_drew)); exact HO_373003.out⟩, ⟨by (with_reducible repeat (first | apply Kd.R_alloc | apply Kd.R_drewN | apply Kd.R_drew)); exact HO_384003.out⟩, ⟨by refine uW ?_; exact BK372.out⟩, ⟨by refine uW ?_; exact BK383.out⟩, ⟨by first | exact uB HB | exact uS HB (gC GE372 (gC GE383 gN))⟩⟩
       ·
        rw [if_neg c43] at H
        have c43b0 : decide (t389 < 0) = false := decide_eq_false c43
        clear c43
        (first | rw [c43b0] | (simp only [i64_w, i32_w]; rw [c43b0]) | skip)
        replace H := Option.bind_eq_some_iff.mp H
        obtain ⟨t391, A440, H⟩ := H
        replace H : (if t391 = true then (laws_FnExactBuildOrdered.j1 kj9 a0 l1 a2 t371 (t382 != t371) t365 t366 t367 t368 t376 t377 t378 t379) else (laws_FnExactBuildOrdered.j1 kj9 a0 l1 a2 t371 true t365 t366 t367 t368 t376 t377 t378 t379)) = some r := H
        have A44 := Aside0.mk A440
        clear A440
        by_cases c45 : t391 = true
        ·
         subst c45
         have H1 : (laws_FnExactBuildOrdered.j1 kj9 a0 l1 a2 t371 (t382 != t371) t365 t366 t367 t368 t376 t377 t378 t379) = some r := by rw [if_pos rfl] at H; exact H
         clear H
         have H := H1
         clear H1
         have H' := Aside0.mk H
         clear H
         have hnb46 := NB383_372.out
         have hnc46 := NB372_383.out
         have hcz47_0 : w42.cell? ⟨gb383, 0, none⟩ = some (.int .i64 t376) := (blk_cell BK383.out 0).trans rfl
         have hcz47_1 : w42.cell? ⟨gb383, 1, none⟩ = some (.int .i64 t377) := (blk_cell BK383.out 1).trans rfl
         have hcz47_2 : w42.cell? ⟨gb383, 2, none⟩ = some (.int .i64 t378) := (blk_cell BK383.out 2).trans rfl
         have hcz47_3 : w42.cell? ⟨gb383, 3, none⟩ = some (.slice Ao23 t379.length co23) := (blk_cell BK383.out 3).trans rfl
         have hfz47_0 := blk_frozen BK383.out 0
         have hfz47_1 := blk_frozen BK383.out 1
         have hfz47_2 := blk_frozen BK383.out 2
         have hfz47_3 := blk_frozen BK383.out 3
         have hcz48_0 : w42.cell? ⟨gb372, 0, none⟩ = some (.int .i64 t365) := (blk_cell BK372.out 0).trans rfl
         have hcz48_1 : w42.cell? ⟨gb372, 1, none⟩ = some (.int .i64 t366) := (blk_cell BK372.out 1).trans rfl
         have hcz48_2 : w42.cell? ⟨gb372, 2, none⟩ = some (.int .i64 t367) := (blk_cell BK372.out 2).trans rfl
         have hcz48_3 : w42.cell? ⟨gb372, 3, none⟩ = some (.slice Ao16 t368.length co16) := (blk_cell BK372.out 3).trans rfl
         have hfz48_0 := blk_frozen BK372.out 0
         have hfz48_1 := blk_frozen BK372.out 1
         have hfz48_2 := blk_frozen BK372.out 2
         have hfz48_3 := blk_frozen BK372.out 3
         go_wp2_with (first | (go_at_call 11; (with_reducible refine (laws_eqOrdered.calls kj9 t376 t377 t378 _ _ t379 t365 t366 t367 _ _ t368 true _ ?side1 ?side2 ?side3 ?side4 A44.out).mono ?_); (case side1 => exact uD HO_384003); (case side2 => exact (Kd.R_reads' HO_384003.out).2.1); (case side3 => exact uD HO_373003); (case side4 => exact (Kd.R_reads' HO_373003.out).2.1); rintro e w49 ⟨rfl, hb⟩; have n0_ := Aside0.mk (Kd.R_below (uR HO_10) hb); have n1_ := Aside0.mk (Kd.R_below (uR HO_373003) hb); have n2_ := Aside0.mk (Kd.R_below (uR HO_384003) hb); have n3_ := Aside0.mk (Kd.R_below (uR HO387) hb); have n4_ := Aside0.mk (blk_below (g := gb372) (o := .cells #[.int .i64 t365, .int .i64 t366, .int .i64 t367, .slice Ao16 t368.length co16] 26 (0, 0)) (uK BK372) hb); have n5_ := Aside0.mk (blk_below (g := gb383) (o := .cells #[.int .i64 t376, .int .i64 t377, .int .i64 t378, .slice Ao23 t379.length co23] 26 (0, 0)) (uK BK383) hb); have n6_ := Aside0.mk (below_step (by first | exact uB HB | exact uS HB (gC GE372 (gC GE383 gN))) hb); clear HO_10 HO_373003 HO_384003 HO387 BK372 BK383 HB; have HO_10 := n0_; have HO_373003 := n1_; have HO_384003 := n2_; have HO387 := n3_; have BK372 := n4_; have BK383 := n5_; have HB := n6_; clear n0_ n1_ n2_ n3_ n4_ n5_ n6_; (try clear hb); (try clear hb2); (try clear hk); (try clear hi)))
         go_meet
         case rel => exact ⟨_, ((t382 != t371)), (by first | rfl | (simp; done) | (simp [*]; done)), H', ⟨by have := HJ9.out; first | omega | exact Nat.le_refl _⟩, ⟨by (with_reducible repeat (first | apply Kd.R_alloc | apply Kd.R_drewN | apply Kd.R_drew)); exact HO_373003.out⟩, ⟨by (with_reducible repeat (first | apply Kd.R_alloc | apply Kd.R_drewN | apply Kd.R_drew)); exact HO_384003.out⟩, ⟨by refine uW ?_; exact BK372.out⟩, ⟨by refine uW ?_; exact BK383.out⟩, ⟨by first | exact uB HB | exact uS HB (gC GE372 (gC GE383 gN))⟩⟩
        ·
         replace c45 := Bool.eq_false_iff.mpr c45
         subst c45
         have H1 : (laws_FnExactBuildOrdered.j1 kj9 a0 l1 a2 t371 true t365 t366 t367 t368 t376 t377 t378 t379) = some r := by rw [if_neg (show ¬ (false = true) by decide)] at H; exact H
         clear H
         have H := H1
         clear H1
         have H' := Aside0.mk H
         clear H
         have hnb50 := NB383_372.out
         have hnc50 := NB372_383.out
         have hcz51_0 : w42.cell? ⟨gb383, 0, none⟩ = some (.int .i64 t376) := (blk_cell BK383.out 0).trans rfl
         have hcz51_1 : w42.cell? ⟨gb383, 1, none⟩ = some (.int .i64 t377) := (blk_cell BK383.out 1).trans rfl
         have hcz51_2 : w42.cell? ⟨gb383, 2, none⟩ = some (.int .i64 t378) := (blk_cell BK383.out 2).trans rfl
         have hcz51_3 : w42.cell? ⟨gb383, 3, none⟩ = some (.slice Ao23 t379.length co23) := (blk_cell BK383.out 3).trans rfl
         have hfz51_0 := blk_frozen BK383.out 0
         have hfz51_1 := blk_frozen BK383.out 1
         have hfz51_2 := blk_frozen BK383.out 2
         have hfz51_3 := blk_frozen BK383.out 3
         have hcz52_0 : w42.cell? ⟨gb372, 0, none⟩ = some (.int .i64 t365) := (blk_cell BK372.out 0).trans rfl
         have hcz52_1 : w42.cell? ⟨gb372, 1, none⟩ = some (.int .i64 t366) := (blk_cell BK372.out 1).trans rfl
         have hcz52_2 : w42.cell? ⟨gb372, 2, none⟩ = some (.int .i64 t367) := (blk_cell BK372.out 2).trans rfl
         have hcz52_3 : w42.cell? ⟨gb372, 3, none⟩ = some (.slice Ao16 t368.length co16) := (blk_cell BK372.out 3).trans rfl
         have hfz52_0 := blk_frozen BK372.out 0
         have hfz52_1 := blk_frozen BK372.out 1
         have hfz52_2 := blk_frozen BK372.out 2
         have hfz52_3 := blk_frozen BK372.out 3
         go_wp2_with (first | (go_at_call 11; (with_reducible refine (laws_eqOrdered.calls kj9 t376 t377 t378 _ _ t379 t365 t366 t367 _ _ t368 false _ ?side1 ?side2 ?side3 ?side4 A44.out).mono ?_); (case side1 => exact uD HO_384003); (case side2 => exact (Kd.R_reads' HO_384003.out).2.1); (case side3 => exact uD HO_373003); (case side4 => exact (Kd.R_reads' HO_373003.out).2.1); rintro e w53 ⟨rfl, hb⟩; have n0_ := Aside0.mk (Kd.R_below (uR HO_10) hb); have n1_ := Aside0.mk (Kd.R_below (uR HO_373003) hb); have n2_ := Aside0.mk (Kd.R_below (uR HO_384003) hb); have n3_ := Aside0.mk (Kd.R_below (uR HO387) hb); have n4_ := Aside0.mk (blk_below (g := gb372) (o := .cells #[.int .i64 t365, .int .i64 t366, .int .i64 t367, .slice Ao16 t368.length co16] 26 (0, 0)) (uK BK372) hb); have n5_ := Aside0.mk (blk_below (g := gb383) (o := .cells #[.int .i64 t376, .int .i64 t377, .int .i64 t378, .slice Ao23 t379.length co23] 26 (0, 0)) (uK BK383) hb); have n6_ := Aside0.mk (below_step (by first | exact uB HB | exact uS HB (gC GE372 (gC GE383 gN))) hb); clear HO_10 HO_373003 HO_384003 HO387 BK372 BK383 HB; have HO_10 := n0_; have HO_373003 := n1_; have HO_384003 := n2_; have HO387 := n3_; have BK372 := n4_; have BK383 := n5_; have HB := n6_; clear n0_ n1_ n2_ n3_ n4_ n5_ n6_; (try clear hb); (try clear hb2); (try clear hk); (try clear hi)))
         go_meet
         case rel => exact ⟨_, (true), (by first | rfl | (simp; done) | (simp [*]; done)), H', ⟨by have := HJ9.out; first | omega | exact Nat.le_refl _⟩, ⟨by (with_reducible repeat (first | apply Kd.R_alloc | apply Kd.R_drewN | apply Kd.R_drew)); exact HO_373003.out⟩, ⟨by (with_reducible repeat (first | apply Kd.R_alloc | apply Kd.R_drewN | apply Kd.R_drew)); exact HO_384003.out⟩, ⟨by refine uW ?_; exact BK372.out⟩, ⟨by refine uW ?_; exact BK383.out⟩, ⟨by first | exact uB HB | exact uS HB (gC GE372 (gC GE383 gN))⟩⟩
      case rest =>
       clear HC39
       try clear c1
       try clear c2
       try clear p2
       try clear c3
       try clear c4
       try clear c5
       try clear c5b0
       try clear c7
       try clear c8
       try clear c9
       try clear c10
       try clear c11
       try clear c12
       try clear c13
       try clear c21
       try clear c25
       try clear c26
       try clear c30
       try clear c34
       try clear c37
       try clear c43
       try clear c43b0
       try clear c45
       try clear c46
       try clear c50
       try clear hcz15_0
       try clear hcz15_1
       try clear hcz15_2
       try clear hcz15_3
       try clear hcz22_0
       try clear hcz22_1
       try clear hcz22_2
       try clear hcz22_3
       try clear hcz27_0
       try clear hcz27_1
       try clear hcz27_2
       try clear hcz27_3
       try clear hcz28_0
       try clear hcz28_1
       try clear hcz28_2
       try clear hcz28_3
       try clear hcz31_0
       try clear hcz31_1
       try clear hcz31_2
       try clear hcz31_3
       try clear hcz32_0
       try clear hcz32_1
       try clear hcz32_2
       try clear hcz32_3
       try clear hcz47_0
       try clear hcz47_1
       try clear hcz47_2
       try clear hcz47_3
       try clear hcz48_0
       try clear hcz48_1
       try clear hcz48_2
       try clear hcz48_3
       try clear hcz51_0
       try clear hcz51_1
       try clear hcz51_2
       try clear hcz51_3
       try clear hcz52_0
       try clear hcz52_1
       try clear hcz52_2
       try clear hcz52_3
       try clear hfz15_0
       try clear hfz15_1
       try clear hfz15_2
       try clear hfz15_3
       try clear hfz22_0
       try clear hfz22_1
       try clear hfz22_2
       try clear hfz22_3
       try clear hfz27_0
       try clear hfz27_1
       try clear hfz27_2
       try clear hfz27_3
       try clear hfz28_0
       try clear hfz28_1
       try clear hfz28_2
       try clear hfz28_3
       try clear hfz31_0
       try clear hfz31_1
       try clear hfz31_2
       try clear hfz31_3
       try clear hfz32_0
       try clear hfz32_1
       try clear hfz32_2
       try clear hfz32_3
       try clear hfz47_0
       try clear hfz47_1
       try clear hfz47_2
       try clear hfz47_3
       try clear hfz48_0
       try clear hfz48_1
       try clear hfz48_2
       try clear hfz48_3
       try clear hfz51_0
       try clear hfz51_1
       try clear hfz51_2
       try clear hfz51_3
       try clear hfz52_0
       try clear hfz52_1
       try clear hfz52_2
       try clear hfz52_3
       try clear p2
       obtain ⟨kq, x69_38, rfl, HA, HJ38, HO_373003, HO_384003, BK372, BK383, HB⟩ := hcut
       cases kq with
       | zero => exact absurd HA.out (by simp [laws_FnExactBuildOrdered.j1])
       | succ kj38 =>
        have H := HA.out
        clear HA
        simp only [laws_FnExactBuildOrdered.j1] at H
        by_cases c54 : x69_38 = true
        ·
         subst c54
         have H1 : (some false) = some r := by rw [if_pos rfl] at H; exact H
         clear H
         have H := H1
         clear H1
         obtain rfl := Option.some.inj H
         go_wp2
         go_ret
         exact ⟨by first | rfl | (simp [errW_none, errW_some] <;> rfl) | (simp [*, errW_none, errW_some] <;> rfl), by first | exact uB HB | exact uS HB (gC GE372 (gC GE383 gN))⟩
        ·
         replace c54 := Bool.eq_false_iff.mpr c54
         subst c54
         have H1 : ((laws_markOrdered.f kj38 t376 t377 t378 t379 1).bind fun bt392 => ((laws_heldOrdered.f kj38 t376 t377 t378 bt392.2 1).bind fun t394 => (if t394 < 0 then (some false) else (if t394 = bt392.1 then ((laws_toStringS.f kj38 l1).bind fun t395 => ((impl_BuildOrdered.f kj38 a0 t395 a2).bind fun bt398 => ((laws_eqOrdered.f kj38 bt398.1 bt398.2.1 bt398.2.2.1 bt398.2.2.2.1 t365 t366 t367 t368).bind fun t406 => (if t406 = true then (laws_FnExactBuildOrdered.j2 kj38 bt392.1 (bt398.2.2.2.2 != t371) t376 t377 t378 bt392.2) else (laws_FnExactBuildOrdered.j2 kj38 bt392.1 true t376 t377 t378 bt392.2))))) else (some false))))) = some r := by rw [if_neg (show ¬ (false = true) by decide)] at H; exact H
         clear H
         have H := H1
         clear H1
         replace H := Option.bind_eq_some_iff.mp H
         obtain ⟨⟨t392, t393⟩, A550, H⟩ := H
         replace H : ((laws_heldOrdered.f kj38 t376 t377 t378 t393 1).bind fun t394 => (if t394 < 0 then (some false) else (if t394 = t392 then ((laws_toStringS.f kj38 l1).bind fun t395 => ((impl_BuildOrdered.f kj38 a0 t395 a2).bind fun bt398 => ((laws_eqOrdered.f kj38 bt398.1 bt398.2.1 bt398.2.2.1 bt398.2.2.2.1 t365 t366 t367 t368).bind fun t406 => (if t406 = true then (laws_FnExactBuildOrdered.j2 kj38 t392 (bt398.2.2.2.2 != t371) t376 t377 t378 t393) else (laws_FnExactBuildOrdered.j2 kj38 t392 true t376 t377 t378 t393))))) else (some false)))) = some r := H
         have A55 := Aside0.mk A550
         clear A550
         replace H := Option.bind_eq_some_iff.mp H
         obtain ⟨t394, A560, H⟩ := H
         replace H : (if t394 < 0 then (some false) else (if t394 = t392 then ((laws_toStringS.f kj38 l1).bind fun t395 => ((impl_BuildOrdered.f kj38 a0 t395 a2).bind fun bt398 => ((laws_eqOrdered.f kj38 bt398.1 bt398.2.1 bt398.2.2.1 bt398.2.2.2.1 t365 t366 t367 t368).bind fun t406 => (if t406 = true then (laws_FnExactBuildOrdered.j2 kj38 t392 (bt398.2.2.2.2 != t371) t376 t377 t378 t393) else (laws_FnExactBuildOrdered.j2 kj38 t392 true t376 t377 t378 t393))))) else (some false))) = some r := H
         have A56 := Aside0.mk A560
         clear A560
         by_cases c57 : t394 < 0
         ·
          rw [if_pos c57] at H
          have c57b0 : decide (t394 < 0) = true := decide_eq_true c57
          clear c57
          obtain rfl := Option.some.inj H
          have hnb58 := NB383_372.out
          have hnc58 := NB372_383.out
          have hcz59_0 : wc.cell? ⟨gb383, 0, none⟩ = some (.int .i64 t376) := (blk_cell BK383.out 0).trans rfl
          have hcz59_1 : wc.cell? ⟨gb383, 1, none⟩ = some (.int .i64 t377) := (blk_cell BK383.out 1).trans rfl
          have hcz59_2 : wc.cell? ⟨gb383, 2, none⟩ = some (.int .i64 t378) := (blk_cell BK383.out 2).trans rfl
          have hcz59_3 : wc.cell? ⟨gb383, 3, none⟩ = some (.slice Ao23 t379.length co23) := (blk_cell BK383.out 3).trans rfl
          have hfz59_0 := blk_frozen BK383.out 0
          have hfz59_1 := blk_frozen BK383.out 1
          have hfz59_2 := blk_frozen BK383.out 2
          have hfz59_3 := blk_frozen BK383.out 3
          go_wp2_with (first | ((with_reducible refine gate_callee (f := 14) rfl ?_); refine goesL_ (some 72) rfl rfl Try.func14 (by kernel_rfl) rfl #[.agg #[.int .i64 t376, .int .i64 t377, .int .i64 t378, .slice Ao23 t379.length co23], .int .i64 1] rfl (by (try simp only [List.map_toArray, List.map_cons, List.map_nil]); first | done | rfl | (simp only [List.length_drop, List.length_take]; rfl)) ?_; (with_reducible refine (laws_markOrdered.calls kj38 t376 t377 t378 (fun k_ => some k_ = (.slice Ao23 t379.length co23 : Value).ownBlock) (.slice Ao23 t379.length co23) t379 1 t392 t393 w _ ?side1 ?side2 A55.out).mono ?_); (case side1 => first | exact uB HB | exact uS HB (gC GE372 (gC GE383 gN))); (case side2 => exact Kd.R_tight rfl HO_384003.out); rintro e w60 ⟨rfl, hy0, hb, hkp⟩; refine ⟨_, rfl, ?_⟩; have n0_ := Aside0.mk (Kd.R_mono (ok' := fun k_ => some k_ ≠ (.slice Ao23 t379.length co23 : Value).ownBlock) (Kd.R_keptB (HO_373003.out) hkp (fun k_ hk_ hs_ => (hk_) hs_)) (fun k_ hk_ => hk_.1)); have n1_ := Aside0.mk (Kd.R_reok rfl hy0 (fun k_ e_ => HO_384003.out.1 k_ e_)); have n2_ := Aside0.mk (blk_kept (uK BK372) hkp (fun hs_ => (fun e_ => (Kd.R_ne HO_384003.out BK372.out (by decide)) e_) hs_)); have n3_ := Aside0.mk (blk_kept (uK BK383) hkp (fun hs_ => (fun e_ => (Kd.R_ne HO_384003.out BK383.out (by decide)) e_) hs_)); have n4_ := Aside0.mk (hb); clear HO_373003 HO_384003 BK372 BK383 HB; have HO_373003 := n0_; have HO_384003 := n1_; have BK372 := n2_; have BK383 := n3_; have HB := n4_; clear n0_ n1_ n2_ n3_ n4_; (try clear hb); (try clear hkp); (try clear hy0); have hcz61_0 : w60.cell? ⟨gb383, 0, none⟩ = some (.int .i64 t376) := (blk_cell BK383.out 0).trans rfl; have hcz61_1 : w60.cell? ⟨gb383, 1, none⟩ = some (.int .i64 t377) := (blk_cell BK383.out 1).trans rfl; have hcz61_2 : w60.cell? ⟨gb383, 2, none⟩ = some (.int .i64 t378) := (blk_cell BK383.out 2).trans rfl; have hcz61_3 : w60.cell? ⟨gb383, 3, none⟩ = some (.slice Ao23 t379.length co23) := (blk_cell BK383.out 3).trans rfl; have hfz61_0 := blk_frozen BK383.out 0; have hfz61_1 := blk_frozen BK383.out 1; have hfz61_2 := blk_frozen BK383.out 2; have hfz61_3 := blk_frozen BK383.out 3) | ((with_reducible refine gate_callee (f := 15) rfl ?_); refine goesL_ (some 75) rfl rfl Try.func15 (by kernel_rfl) rfl #[.agg #[.int .i64 t376, .int .i64 t377, .int .i64 t378, .slice Ao23 t393.length co23], .int .i64 1] rfl (by (try simp only [List.map_toArray, List.map_cons, List.map_nil]); first | done | (rw [show t393.length = t379.length from (Kd.R_reads' HO_384003.out).1.symm] <;> rfl) | rfl | (simp only [List.length_drop, List.length_take]; rfl)) ?_; (with_reducible refine (laws_heldOrdered.calls kj38 t376 t377 t378 _ _ t393 1 t394 _ ?side1 ?side2 A56.out).mono ?_); (case side1 => exact uD HO_384003); (case side2 => rw [show t393.length = t379.length from (Kd.R_reads' HO_384003.out).1.symm]; exact (Kd.R_reads' HO_384003.out).2.1); rintro e w62 ⟨rfl, hb⟩; refine ⟨_, rfl, ?_⟩; have n0_ := Aside0.mk (Kd.R_below (uR HO_373003) hb); have n1_ := Aside0.mk (Kd.R_below (uR HO_384003) hb); have n2_ := Aside0.mk (blk_below (g := gb372) (o := .cells #[.int .i64 t365, .int .i64 t366, .int .i64 t367, .slice Ao16 t368.length co16] 26 (0, 0)) (uK BK372) hb); have n3_ := Aside0.mk (blk_below (g := gb383) (o := .cells #[.int .i64 t376, .int .i64 t377, .int .i64 t378, .slice Ao23 t379.length co23] 26 (0, 0)) (uK BK383) hb); have n4_ := Aside0.mk (below_step (by first | exact uB HB | exact uS HB (gC GE372 (gC GE383 gN))) hb); clear HO_373003 HO_384003 BK372 BK383 HB; have HO_373003 := n0_; have HO_384003 := n1_; have BK372 := n2_; have BK383 := n3_; have HB := n4_; clear n0_ n1_ n2_ n3_ n4_; (try clear hb); (try clear hb2); (try clear hk); (try clear hi)))
          go_ret
          exact ⟨by first | rfl | (simp [errW_none, errW_some] <;> rfl) | (simp [*, errW_none, errW_some] <;> rfl), by first | exact uB HB | exact uS HB (gC GE372 (gC GE383 gN))⟩
         ·
          rw [if_neg c57] at H
          have c57b0 : decide (t394 < 0) = false := decide_eq_false c57
          clear c57
          by_cases c63 : t394 = t392
          ·
           rw [if_pos c63] at H
           have c63b0 : (t394 == t392) = true := beq_iff_eq.mpr c63
           have c63b1 : (t394 != t392) = false := bne_eq_false_iff_eq.mpr c63
           clear c63
           replace H := Option.bind_eq_some_iff.mp H
           obtain ⟨t395, A640, H⟩ := H
           replace H : ((impl_BuildOrdered.f kj38 a0 t395 a2).bind fun bt398 => ((laws_eqOrdered.f kj38 bt398.1 bt398.2.1 bt398.2.2.1 bt398.2.2.2.1 t365 t366 t367 t368).bind fun t406 => (if t406 = true then (laws_FnExactBuildOrdered.j2 kj38 t392 (bt398.2.2.2.2 != t371) t376 t377 t378 t393) else (laws_FnExactBuildOrdered.j2 kj38 t392 true t376 t377 t378 t393)))) = some r := H
           have A64 := Aside0.mk A640
           clear A640
           replace H := Option.bind_eq_some_iff.mp H
           obtain ⟨⟨t398, t399, t400, t401, t404⟩, A650, H⟩ := H
           replace H : ((laws_eqOrdered.f kj38 t398 t399 t400 t401 t365 t366 t367 t368).bind fun t406 => (if t406 = true then (laws_FnExactBuildOrdered.j2 kj38 t392 (t404 != t371) t376 t377 t378 t393) else (laws_FnExactBuildOrdered.j2 kj38 t392 true t376 t377 t378 t393))) = some r := H
           have A65 := Aside0.mk A650
           clear A650
           have HC66 := Aside0.mk H
           clear H
           have hnb67 := NB383_372.out
           have hnc67 := NB372_383.out
           have hcz68_0 : wc.cell? ⟨gb383, 0, none⟩ = some (.int .i64 t376) := (blk_cell BK383.out 0).trans rfl
           have hcz68_1 : wc.cell? ⟨gb383, 1, none⟩ = some (.int .i64 t377) := (blk_cell BK383.out 1).trans rfl
           have hcz68_2 : wc.cell? ⟨gb383, 2, none⟩ = some (.int .i64 t378) := (blk_cell BK383.out 2).trans rfl
           have hcz68_3 : wc.cell? ⟨gb383, 3, none⟩ = some (.slice Ao23 t379.length co23) := (blk_cell BK383.out 3).trans rfl
           have hfz68_0 := blk_frozen BK383.out 0
           have hfz68_1 := blk_frozen BK383.out 1
           have hfz68_2 := blk_frozen BK383.out 2
           have hfz68_3 := blk_frozen BK383.out 3
           go_upto_region 25 with (first | ((with_reducible refine gate_callee (f := 14) rfl ?_); refine goesL_ (some 72) rfl rfl Try.func14 (by kernel_rfl) rfl #[.agg #[.int .i64 t376, .int .i64 t377, .int .i64 t378, .slice Ao23 t379.length co23], .int .i64 1] rfl (by (try simp only [List.map_toArray, List.map_cons, List.map_nil]); first | done | rfl | (simp only [List.length_drop, List.length_take]; rfl)) ?_; (with_reducible refine (laws_markOrdered.calls kj38 t376 t377 t378 (fun k_ => some k_ = (.slice Ao23 t379.length co23 : Value).ownBlock) (.slice Ao23 t379.length co23) t379 1 t392 t393 w _ ?side1 ?side2 A55.out).mono ?_); (case side1 => first | exact uB HB | exact uS HB (gC GE372 (gC GE383 gN))); (case side2 => exact Kd.R_tight rfl HO_384003.out); rintro e w69 ⟨rfl, hy0, hb, hkp⟩; refine ⟨_, rfl, ?_⟩; have n0_ := Aside0.mk (Kd.R_mono (ok' := fun k_ => some k_ ≠ (.slice Ao23 t379.length co23 : Value).ownBlock) (Kd.R_keptB (HO_373003.out) hkp (fun k_ hk_ hs_ => (hk_) hs_)) (fun k_ hk_ => hk_.1)); have n1_ := Aside0.mk (Kd.R_reok rfl hy0 (fun k_ e_ => HO_384003.out.1 k_ e_)); have n2_ := Aside0.mk (blk_kept (uK BK372) hkp (fun hs_ => (fun e_ => (Kd.R_ne HO_384003.out BK372.out (by decide)) e_) hs_)); have n3_ := Aside0.mk (blk_kept (uK BK383) hkp (fun hs_ => (fun e_ => (Kd.R_ne HO_384003.out BK383.out (by decide)) e_) hs_)); have n4_ := Aside0.mk (hb); clear HO_373003 HO_384003 BK372 BK383 HB; have HO_373003 := n0_; have HO_384003 := n1_; have BK372 := n2_; have BK383 := n3_; have HB := n4_; clear n0_ n1_ n2_ n3_ n4_; (try clear hb); (try clear hkp); (try clear hy0); have hcz70_0 : w69.cell? ⟨gb383, 0, none⟩ = some (.int .i64 t376) := (blk_cell BK383.out 0).trans rfl; have hcz70_1 : w69.cell? ⟨gb383, 1, none⟩ = some (.int .i64 t377) := (blk_cell BK383.out 1).trans rfl; have hcz70_2 : w69.cell? ⟨gb383, 2, none⟩ = some (.int .i64 t378) := (blk_cell BK383.out 2).trans rfl; have hcz70_3 : w69.cell? ⟨gb383, 3, none⟩ = some (.slice Ao23 t379.length co23) := (blk_cell BK383.out 3).trans rfl; have hfz70_0 := blk_frozen BK383.out 0; have hfz70_1 := blk_frozen BK383.out 1; have hfz70_2 := blk_frozen BK383.out 2; have hfz70_3 := blk_frozen BK383.out 3) | ((with_reducible refine gate_callee (f := 15) rfl ?_); refine goesL_ (some 75) rfl rfl Try.func15 (by kernel_rfl) rfl #[.agg #[.int .i64 t376, .int .i64 t377, .int .i64 t378, .slice Ao23 t393.length co23], .int .i64 1] rfl (by (try simp only [List.map_toArray, List.map_cons, List.map_nil]); first | done | (rw [show t393.length = t379.length from (Kd.R_reads' HO_384003.out).1.symm] <;> rfl) | rfl | (simp only [List.length_drop, List.length_take]; rfl)) ?_; (with_reducible refine (laws_heldOrdered.calls kj38 t376 t377 t378 _ _ t393 1 t394 _ ?side1 ?side2 A56.out).mono ?_); (case side1 => exact uD HO_384003); (case side2 => rw [show t393.length = t379.length from (Kd.R_reads' HO_384003.out).1.symm]; exact (Kd.R_reads' HO_384003.out).2.1); rintro e w71 ⟨rfl, hb⟩; refine ⟨_, rfl, ?_⟩; have n0_ := Aside0.mk (Kd.R_below (uR HO_373003) hb); have n1_ := Aside0.mk (Kd.R_below (uR HO_384003) hb); have n2_ := Aside0.mk (blk_below (g := gb372) (o := .cells #[.int .i64 t365, .int .i64 t366, .int .i64 t367, .slice Ao16 t368.length co16] 26 (0, 0)) (uK BK372) hb); have n3_ := Aside0.mk (blk_below (g := gb383) (o := .cells #[.int .i64 t376, .int .i64 t377, .int .i64 t378, .slice Ao23 t379.length co23] 26 (0, 0)) (uK BK383) hb); have n4_ := Aside0.mk (below_step (by first | exact uB HB | exact uS HB (gC GE372 (gC GE383 gN))) hb); clear HO_373003 HO_384003 BK372 BK383 HB; have HO_373003 := n0_; have HO_384003 := n1_; have BK372 := n2_; have BK383 := n3_; have HB := n4_; clear n0_ n1_ n2_ n3_ n4_; (try clear hb); (try clear hb2); (try clear hk); (try clear hi)) | ((with_reducible refine gate_callee (f := 9) rfl ?_); refine goesL_ (some 84) rfl rfl Try.func9 (by kernel_rfl) rfl #[.slice A1 l1.length c1] rfl (by (try simp only [List.map_toArray, List.map_cons, List.map_nil]); first | done | rfl | (simp only [List.length_drop, List.length_take]; rfl)) ?_; (with_reducible refine (laws_toStringS.calls kj38 _ _ l1 t395 _ ?side1 ?side2 A64.out).mono ?_); (case side1 => exact uC HR1 HB); (case side2 => exact HC1.out); rintro e w72 ⟨v396, rfl, ho0, hb⟩; refine ⟨_, rfl, ?_⟩; have n0_ := Aside0.mk (Kd.R_below (uR HO_373003) hb); have n1_ := Aside0.mk (Kd.R_below (uR HO_384003) hb); have n2_ := Aside0.mk (Kd.R_lower ho0 (below_size (by first | exact uB HB | exact uS HB (gC GE372 (gC GE383 gN))))); have n3_ := Aside0.mk (blk_below (g := gb372) (o := .cells #[.int .i64 t365, .int .i64 t366, .int .i64 t367, .slice Ao16 t368.length co16] 26 (0, 0)) (uK BK372) hb); have n4_ := Aside0.mk (blk_below (g := gb383) (o := .cells #[.int .i64 t376, .int .i64 t377, .int .i64 t378, .slice Ao23 t379.length co23] 26 (0, 0)) (uK BK383) hb); have n5_ := Aside0.mk (below_step (by first | exact uB HB | exact uS HB (gC GE372 (gC GE383 gN))) hb); clear HO_373003 HO_384003 BK372 BK383 HB; have HO_373003 := n0_; have HO_384003 := n1_; have HO397 := n2_; have BK372 := n3_; have BK383 := n4_; have HB := n5_; clear n0_ n1_ n2_ n3_ n4_ n5_; (try clear hb); (try clear hb2); (try clear hk); (try clear hi); (try clear ho0); obtain ⟨Ao73, co73, eo73⟩ := Kd.R_slice HO397.out; subst eo73) | ((with_reducible refine gate_callee (f := 10) rfl ?_); refine goesL_ (some 86) rfl rfl Try.func10 (by kernel_rfl) rfl #[.int .i64 a0, .slice Ao73 t395.length co73, .int .i64 a2] rfl (by (try simp only [List.map_toArray, List.map_cons, List.map_nil]); first | done | rfl | (simp only [List.length_drop, List.length_take]; rfl)) ?_; (with_reducible refine (impl_BuildOrdered.calls kj38 a0 _ _ t395 a2 t398 t399 t400 t401 t404 _ ?side1 ?side2 A65.out).mono ?_); (case side1 => exact uD HO397); (case side2 => exact (Kd.R_reads' HO397.out).2.1); rintro e w74 ⟨v402, rfl, ho0, hb⟩; refine ⟨_, rfl, ?_⟩; have n0_ := Aside0.mk (Kd.R_elder' (uR HO_373003) (Kd.R_base ho0) hb); have n1_ := Aside0.mk (Kd.R_elder' (uR HO_384003) (Kd.R_base ho0) hb); have n2_ := Aside0.mk (Kd.R_below (uR HO397) hb); have n3_ := Aside0.mk (Kd.R_lower (Kd.R_new' (Kd.R_new' ho0 (Kd.R_lt (uR HO_373003))) (Kd.R_lt (uR HO_384003))) (below_size (by first | exact uB HB | exact uS HB (gC GE372 (gC GE383 gN))))); have n4_ := Aside0.mk (blk_below (g := gb372) (o := .cells #[.int .i64 t365, .int .i64 t366, .int .i64 t367, .slice Ao16 t368.length co16] 26 (0, 0)) (uK BK372) hb); have n5_ := Aside0.mk (blk_below (g := gb383) (o := .cells #[.int .i64 t376, .int .i64 t377, .int .i64 t378, .slice Ao23 t379.length co23] 26 (0, 0)) (uK BK383) hb); have n6_ := Aside0.mk (below_step (by first | exact uB HB | exact uS HB (gC GE372 (gC GE383 gN))) hb); clear HO_373003 HO_384003 HO397 BK372 BK383 HB; have HO_373003 := n0_; have HO_384003 := n1_; have HO397 := n2_; have HO403 := n3_; have BK372 := n4_; have BK383 := n5_; have HB := n6_; clear n0_ n1_ n2_ n3_ n4_ n5_ n6_; (try clear hb); (try clear hb2); (try clear hk); (try clear hi); (try clear ho0)) | ((with_reducible refine gate_dst (N := 16) rfl ?_); refine box_event ?hg (N := 16) ?hd (cs := #[.int .i64 0, .int .i64 0, .int .i64 0, .slice none 0 0]) (t := 26) ?hr ?_; (case hd => rfl); (case hg => rfl); (case hr => first | (go_simp; done) | (go_simp; rfl)); intro gb405 hg w75 hbox hb; have n0_ := Aside0.mk (Kd.R_below (uR HO_373003) hb); have n1_ := Aside0.mk (Kd.R_below (uR HO_384003) hb); have n2_ := Aside0.mk (Kd.R_below (uR HO397) hb); have n3_ := Aside0.mk (Kd.R_below (uR HO403) hb); have n4_ := Aside0.mk (blk_below (g := gb372) (o := .cells #[.int .i64 t365, .int .i64 t366, .int .i64 t367, .slice Ao16 t368.length co16] 26 (0, 0)) (uK BK372) hb); have n5_ := Aside0.mk (blk_below (g := gb383) (o := .cells #[.int .i64 t376, .int .i64 t377, .int .i64 t378, .slice Ao23 t379.length co23] 26 (0, 0)) (uK BK383) hb); have n6_ := Aside0.mk (below_step (by first | exact uB HB | exact uS HB (gC GE372 (gC GE383 gN))) hb); have n7_ := Aside0.mk (hbox); have n8_ := Aside0.mk ((by rw [hg]; exact (below_size (by first | exact uB HB | exact uS HB (gC GE372 (gC GE383 gN)))) : w.heap.size ≤ gb405)); have n9_ := Aside0.mk ((by rw [hg]; exact (below_size (by first | exact uB HB | exact uS HB (gC GE372 (gC GE383 gN)))) : w.heap.size ≤ gb405)); have n10_ := Aside0.mk ((by rw [hg]; exact Nat.ne_of_lt (blk_lt (g := gb372) (o := .cells #[.int .i64 t365, .int .i64 t366, .int .i64 t367, .slice Ao16 t368.length co16] 26 (0, 0)) (uK BK372)) : gb372 ≠ gb405)); have n11_ := Aside0.mk ((by rw [hg]; exact Nat.ne_of_gt (blk_lt (g := gb372) (o := .cells #[.int .i64 t365, .int .i64 t366, .int .i64 t367, .slice Ao16 t368.length co16] 26 (0, 0)) (uK BK372)) : gb405 ≠ gb372)); have n12_ := Aside0.mk ((by rw [hg]; exact Nat.ne_of_lt (blk_lt (g := gb383) (o := .cells #[.int .i64 t376, .int .i64 t377, .int .i64 t378, .slice Ao23 t379.length co23] 26 (0, 0)) (uK BK383)) : gb383 ≠ gb405)); have n13_ := Aside0.mk ((by rw [hg]; exact Nat.ne_of_gt (blk_lt (g := gb383) (o := .cells #[.int .i64 t376, .int .i64 t377, .int .i64 t378, .slice Ao23 t379.length co23] 26 (0, 0)) (uK BK383)) : gb405 ≠ gb383)); clear HO_373003 HO_384003 HO397 HO403 BK372 BK383 HB; have HO_373003 := n0_; have HO_384003 := n1_; have HO397 := n2_; have HO403 := n3_; have BK372 := n4_; have BK383 := n5_; have HB := n6_; have BK405 := n7_; have GW405 := n8_; have GE405 := n9_; have NB372_405 := n10_; have NB405_372 := n11_; have NB383_405 := n12_; have NB405_383 := n13_; clear n0_ n1_ n2_ n3_ n4_ n5_ n6_ n7_ n8_ n9_ n10_ n11_ n12_ n13_ hb hbox hg; have hnb76 := NB405_372.out; have hnc76 := NB372_405.out; have hnb77 := NB405_383.out; have hnc77 := NB383_405.out; have hcz78_0 : w75.cell? ⟨gb405, 0, none⟩ = some (.int .i64 0) := (blk_cell BK405.out 0).trans rfl; have hcz78_1 : w75.cell? ⟨gb405, 1, none⟩ = some (.int .i64 0) := (blk_cell BK405.out 1).trans rfl; have hcz78_2 : w75.cell? ⟨gb405, 2, none⟩ = some (.int .i64 0) := (blk_cell BK405.out 2).trans rfl; have hcz78_3 : w75.cell? ⟨gb405, 3, none⟩ = some (.slice none 0 0) := (blk_cell BK405.out 3).trans rfl; have hfz78_0 := blk_frozen BK405.out 0; have hfz78_1 := blk_frozen BK405.out 1; have hfz78_2 := blk_frozen BK405.out 2; have hfz78_3 := blk_frozen BK405.out 3; obtain ⟨Ao79, co79, eo79⟩ := Kd.R_slice HO403.out; subst eo79))
           (try simp only [Act.put, List.setIfInBounds_toArray, List.set_cons_zero, List.set_cons_succ])
           go_cut [97] (fun v97 wc => ∃ (kq : Nat) (x97_65 : Bool), v97 = .bool x97_65 ∧ Aside0 (laws_FnExactBuildOrdered.j2 kq t392 x97_65 t376 t377 t378 t393 = some r) ∧ Aside0 (kq ≤ kj38) ∧ Aside0 (Kd.R (Kd.int .i64) 3 wc w.heap.size (fun k_ => some k_ ≠ ((.slice Ao23 t379.length co23) : Value).ownBlock ∧ some k_ ≠ ((.slice Ao79 t401.length co79) : Value).ownBlock) (.slice Ao16 t368.length co16) t368) ∧ Aside0 (Kd.R (Kd.int .i64) 3 wc w.heap.size (fun k_ => some k_ ≠ ((.slice Ao16 t368.length co16) : Value).ownBlock ∧ some k_ ≠ ((.slice Ao79 t401.length co79) : Value).ownBlock) (.slice Ao23 t379.length co23) t393) ∧ Aside0 (Kd.R (Kd.int .i64) 3 wc w.heap.size (fun k_ => some k_ ≠ ((.slice Ao16 t368.length co16) : Value).ownBlock ∧ some k_ ≠ ((.slice Ao23 t379.length co23) : Value).ownBlock) (.slice Ao79 t401.length co79) t401) ∧ Aside0 (wc.heap[gb372]? = some (.cells #[.int .i64 t365, .int .i64 t366, .int .i64 t367, (.slice Ao16 t368.length co16)] 26 (0, 0))) ∧ Aside0 (wc.heap[gb383]? = some (.cells #[.int .i64 t376, .int .i64 t377, .int .i64 t378, (.slice Ao23 t379.length co23)] 26 (0, 0))) ∧ Aside0 (wc.heap[gb405]? = some (.cells #[.int .i64 t398, .int .i64 t399, .int .i64 t400, (.slice Ao79 t401.length co79)] 26 (0, 0))) ∧ Aside0 (Below w.heap.size w wc))
           case first =>
            have H := HC66.out
            clear HC66
            replace H := Option.bind_eq_some_iff.mp H
            obtain ⟨t406, A800, H⟩ := H
            replace H : (if t406 = true then (laws_FnExactBuildOrdered.j2 kj38 t392 (t404 != t371) t376 t377 t378 t393) else (laws_FnExactBuildOrdered.j2 kj38 t392 true t376 t377 t378 t393)) = some r := H
            have A80 := Aside0.mk A800
            clear A800
            by_cases c81 : t406 = true
            ·
             subst c81
             have H1 : (laws_FnExactBuildOrdered.j2 kj38 t392 (t404 != t371) t376 t377 t378 t393) = some r := by rw [if_pos rfl] at H; exact H
             clear H
             have H := H1
             clear H1
             have H' := Aside0.mk H
             clear H
             have hnb82 := NB405_372.out
             have hnc82 := NB372_405.out
             have hnb83 := NB405_383.out
             have hnc83 := NB383_405.out
             have hcz84_0 : w75.cell? ⟨gb405, 0, none⟩ = some (.int .i64 0) := (blk_cell BK405.out 0).trans rfl
             have hcz84_1 : w75.cell? ⟨gb405, 1, none⟩ = some (.int .i64 0) := (blk_cell BK405.out 1).trans rfl
             have hcz84_2 : w75.cell? ⟨gb405, 2, none⟩ = some (.int .i64 0) := (blk_cell BK405.out 2).trans rfl
             have hcz84_3 : w75.cell? ⟨gb405, 3, none⟩ = some (.slice none 0 0) := (blk_cell BK405.out 3).trans rfl
             have hfz84_0 := blk_frozen BK405.out 0
             have hfz84_1 := blk_frozen BK405.out 1
             have hfz84_2 := blk_frozen BK405.out 2
             have hfz84_3 := blk_frozen BK405.out 3
             have hnb85 := NB372_383.out
             have hnc85 := NB383_372.out
             have hcz86_0 : w75.cell? ⟨gb372, 0, none⟩ = some (.int .i64 t365) := (blk_cell BK372.out 0).trans rfl
             have hcz86_1 : w75.cell? ⟨gb372, 1, none⟩ = some (.int .i64 t366) := (blk_cell BK372.out 1).trans rfl
             have hcz86_2 : w75.cell? ⟨gb372, 2, none⟩ = some (.int .i64 t367) := (blk_cell BK372.out 2).trans rfl
             have hcz86_3 : w75.cell? ⟨gb372, 3, none⟩ = some (.slice Ao16 t368.length co16) := (blk_cell BK372.out 3).trans rfl
             have hfz86_0 := blk_frozen BK372.out 0
             have hfz86_1 := blk_frozen BK372.out 1
             have hfz86_2 := blk_frozen BK372.out 2
             have hfz86_3 := blk_frozen BK372.out 3
             go_wp2_with (first | ((with_reducible refine gate_callee (f := 11) rfl ?_); refine goesL_ (some 91) rfl rfl Try.func11 (by kernel_rfl) rfl #[.agg #[.int .i64 t398, .int .i64 t399, .int .i64 t400, .slice Ao79 t401.length co79], .agg #[.int .i64 t365, .int .i64 t366, .int .i64 t367, .slice Ao16 t368.length co16]] rfl (by (try simp only [List.map_toArray, List.map_cons, List.map_nil]); first | done | rfl | (simp only [List.length_drop, List.length_take]; rfl)) ?_; (with_reducible refine (laws_eqOrdered.calls kj38 t398 t399 t400 _ _ t401 t365 t366 t367 _ _ t368 true _ ?side1 ?side2 ?side3 ?side4 A80.out).mono ?_); (case side1 => refine (Kd.R_reads' (e := 3) (base := w.heap.size) (ok := fun k_ => ((True ∧ some k_ ≠ (.slice Ao16 t368.length co16 : Value).ownBlock) ∧ some k_ ≠ (.slice Ao23 t379.length co23 : Value).ownBlock)) (n := t401.length) (c := co79) ?_).2.2; exact (by (with_reducible repeat (first | apply Kd.R_alloc | apply Kd.R_drewN | apply Kd.R_drew)); exact (Kd.R_mono (Kd.R_far (p := ⟨gb405, 3, none⟩) (Kd.R_far (p := ⟨gb405, 2, none⟩) (Kd.R_far (p := ⟨gb405, 1, none⟩) (Kd.R_far (p := ⟨gb405, 0, none⟩) (Kd.R_types HO403.out BK405.out (by decide)) (fun _ hk => hk.2) (.int .i64 t398)) (fun _ hk => hk.2) (.int .i64 t399)) (fun _ hk => hk.2) (.int .i64 t400)) (fun _ hk => hk.2) (.slice Ao79 t401.length co79)) (fun _ h_ => h_.1)))); (case side2 => exact (Kd.R_reads' HO403.out).2.1); (case side3 => refine (Kd.R_reads' (e := 3) (base := w.heap.size) (ok := fun k_ => (some k_ ≠ (.slice Ao23 t379.length co23 : Value).ownBlock ∧ some k_ ≠ (.slice Ao79 t401.length co79 : Value).ownBlock)) (n := t368.length) (c := co16) ?_).2.2; exact (by (with_reducible repeat (first | apply Kd.R_alloc | apply Kd.R_drewN | apply Kd.R_drew)); exact (Kd.R_mono (Kd.R_far (p := ⟨gb405, 3, none⟩) (Kd.R_far (p := ⟨gb405, 2, none⟩) (Kd.R_far (p := ⟨gb405, 1, none⟩) (Kd.R_far (p := ⟨gb405, 0, none⟩) (Kd.R_types HO_373003.out BK405.out (by decide)) (fun _ hk => hk.2) (.int .i64 t398)) (fun _ hk => hk.2) (.int .i64 t399)) (fun _ hk => hk.2) (.int .i64 t400)) (fun _ hk => hk.2) (.slice Ao79 t401.length co79)) (fun _ h_ => h_.1)))); (case side4 => exact (Kd.R_reads' HO_373003.out).2.1); rintro e w87 ⟨rfl, hb⟩; refine ⟨_, rfl, ?_⟩; have n0_ := Aside0.mk (Kd.R_below (by (with_reducible repeat (first | apply Kd.R_alloc | apply Kd.R_drewN | apply Kd.R_drew)); exact (Kd.R_mono (Kd.R_far (p := ⟨gb405, 3, none⟩) (Kd.R_far (p := ⟨gb405, 2, none⟩) (Kd.R_far (p := ⟨gb405, 1, none⟩) (Kd.R_far (p := ⟨gb405, 0, none⟩) (Kd.R_types HO_373003.out BK405.out (by decide)) (fun _ hk => hk.2) (.int .i64 t398)) (fun _ hk => hk.2) (.int .i64 t399)) (fun _ hk => hk.2) (.int .i64 t400)) (fun _ hk => hk.2) (.slice Ao79 t401.length co79)) (fun _ h_ => h_.1))) hb); have n1_ := Aside0.mk (Kd.R_below (by (with_reducible repeat (first | apply Kd.R_alloc | apply Kd.R_drewN | apply Kd.R_drew)); exact (Kd.R_mono (Kd.R_far (p := ⟨gb405, 3, none⟩) (Kd.R_far (p := ⟨gb405, 2, none⟩) (Kd.R_far (p := ⟨gb405, 1, none⟩) (Kd.R_far (p := ⟨gb405, 0, none⟩) (Kd.R_types HO_384003.out BK405.out (by decide)) (fun _ hk => hk.2) (.int .i64 t398)) (fun _ hk => hk.2) (.int .i64 t399)) (fun _ hk => hk.2) (.int .i64 t400)) (fun _ hk => hk.2) (.slice Ao79 t401.length co79)) (fun _ h_ => h_.1))) hb); have n2_ := Aside0.mk (Kd.R_below (by (with_reducible repeat (first | apply Kd.R_alloc | apply Kd.R_drewN | apply Kd.R_drew)); exact (Kd.R_mono (Kd.R_far (p := ⟨gb405, 3, none⟩) (Kd.R_far (p := ⟨gb405, 2, none⟩) (Kd.R_far (p := ⟨gb405, 1, none⟩) (Kd.R_far (p := ⟨gb405, 0, none⟩) (Kd.R_types HO397.out BK405.out (by decide)) (fun _ hk => hk.2) (.int .i64 t398)) (fun _ hk => hk.2) (.int .i64 t399)) (fun _ hk => hk.2) (.int .i64 t400)) (fun _ hk => hk.2) (.slice Ao79 t401.length co79)) (fun _ h_ => h_.1))) hb); have n3_ := Aside0.mk (Kd.R_below (by (with_reducible repeat (first | apply Kd.R_alloc | apply Kd.R_drewN | apply Kd.R_drew)); exact (Kd.R_mono (Kd.R_far (p := ⟨gb405, 3, none⟩) (Kd.R_far (p := ⟨gb405, 2, none⟩) (Kd.R_far (p := ⟨gb405, 1, none⟩) (Kd.R_far (p := ⟨gb405, 0, none⟩) (Kd.R_types HO403.out BK405.out (by decide)) (fun _ hk => hk.2) (.int .i64 t398)) (fun _ hk => hk.2) (.int .i64 t399)) (fun _ hk => hk.2) (.int .i64 t400)) (fun _ hk => hk.2) (.slice Ao79 t401.length co79)) (fun _ h_ => h_.1))) hb); have n4_ := Aside0.mk (blk_below (g := gb372) (o := .cells #[.int .i64 t365, .int .i64 t366, .int .i64 t367, .slice Ao16 t368.length co16] 26 (0, 0)) (by refine uW ?_; refine blk_far ?_ NB372_405.out _; refine uW ?_; refine blk_far ?_ NB372_405.out _; refine uW ?_; refine blk_far ?_ NB372_405.out _; refine uW ?_; refine blk_far ?_ NB372_405.out _; refine uW ?_; exact BK372.out) hb); have n5_ := Aside0.mk (blk_below (g := gb383) (o := .cells #[.int .i64 t376, .int .i64 t377, .int .i64 t378, .slice Ao23 t379.length co23] 26 (0, 0)) (by refine uW ?_; refine blk_far ?_ NB383_405.out _; refine uW ?_; refine blk_far ?_ NB383_405.out _; refine uW ?_; refine blk_far ?_ NB383_405.out _; refine uW ?_; refine blk_far ?_ NB383_405.out _; refine uW ?_; exact BK383.out) hb); have n6_ := Aside0.mk (blk_below (g := gb405) (o := .cells #[.int .i64 t398, .int .i64 t399, .int .i64 t400, .slice Ao79 t401.length co79] 26 (0, 0)) (by refine uW ?_; refine blk_put (cs := #[.int .i64 t398, .int .i64 t399, .int .i64 t400, .slice none 0 0]) ?_ 3 _ rfl; refine uW ?_; refine blk_put (cs := #[.int .i64 t398, .int .i64 t399, .int .i64 0, .slice none 0 0]) ?_ 2 _ rfl; refine uW ?_; refine blk_put (cs := #[.int .i64 t398, .int .i64 0, .int .i64 0, .slice none 0 0]) ?_ 1 _ rfl; refine uW ?_; refine blk_put (cs := #[.int .i64 0, .int .i64 0, .int .i64 0, .slice none 0 0]) ?_ 0 _ rfl; refine uW ?_; exact BK405.out) hb); have n7_ := Aside0.mk (below_step (by first | exact uB HB | exact uS HB (gC GE372 (gC GE383 (gC GE405 gN)))) hb); clear HO_373003 HO_384003 HO397 HO403 BK372 BK383 BK405 HB; have HO_373003 := n0_; have HO_384003 := n1_; have HO397 := n2_; have HO403 := n3_; have BK372 := n4_; have BK383 := n5_; have BK405 := n6_; have HB := n7_; clear n0_ n1_ n2_ n3_ n4_ n5_ n6_ n7_; (try clear hb); (try clear hb2); (try clear hk); (try clear hi)))
             go_meet
             case rel => exact ⟨_, ((t404 != t371)), (by first | rfl | (simp; done) | (simp [*]; done)), H', ⟨by have := HJ9.out; have := HJ38.out; first | omega | exact Nat.le_refl _⟩, ⟨by (with_reducible repeat (first | apply Kd.R_alloc | apply Kd.R_drewN | apply Kd.R_drew)); exact HO_373003.out⟩, ⟨by (with_reducible repeat (first | apply Kd.R_alloc | apply Kd.R_drewN | apply Kd.R_drew)); exact HO_384003.out⟩, ⟨by (with_reducible repeat (first | apply Kd.R_alloc | apply Kd.R_drewN | apply Kd.R_drew)); exact Kd.R_mono HO403.out (fun _ hk => ⟨hk.1.2, hk.2⟩)⟩, ⟨by refine uW ?_; exact BK372.out⟩, ⟨by refine uW ?_; exact BK383.out⟩, ⟨by refine uW ?_; exact BK405.out⟩, ⟨by first | exact uB HB | exact uS HB (gC GE372 (gC GE383 (gC GE405 gN)))⟩⟩
            ·
             replace c81 := Bool.eq_false_iff.mpr c81
             subst c81
             have H1 : (laws_FnExactBuildOrdered.j2 kj38 t392 true t376 t377 t378 t393) = some r := by rw [if_neg (show ¬ (false = true) by decide)] at H; exact H
             clear H
             have H := H1
             clear H1
             have H' := Aside0.mk H
             clear H
             have hnb88 := NB405_372.out
             have hnc88 := NB372_405.out
             have hnb89 := NB405_383.out
             have hnc89 := NB383_405.out
             have hcz90_0 : w75.cell? ⟨gb405, 0, none⟩ = some (.int .i64 0) := (blk_cell BK405.out 0).trans rfl
             have hcz90_1 : w75.cell? ⟨gb405, 1, none⟩ = some (.int .i64 0) := (blk_cell BK405.out 1).trans rfl
             have hcz90_2 : w75.cell? ⟨gb405, 2, none⟩ = some (.int .i64 0) := (blk_cell BK405.out 2).trans rfl
             have hcz90_3 : w75.cell? ⟨gb405, 3, none⟩ = some (.slice none 0 0) := (blk_cell BK405.out 3).trans rfl
             have hfz90_0 := blk_frozen BK405.out 0
             have hfz90_1 := blk_frozen BK405.out 1
             have hfz90_2 := blk_frozen BK405.out 2
             have hfz90_3 := blk_frozen BK405.out 3
             have hnb91 := NB372_383.out
             have hnc91 := NB383_372.out
             have hcz92_0 : w75.cell? ⟨gb372, 0, none⟩ = some (.int .i64 t365) := (blk_cell BK372.out 0).trans rfl
             have hcz92_1 : w75.cell? ⟨gb372, 1, none⟩ = some (.int .i64 t366) := (blk_cell BK372.out 1).trans rfl
             have hcz92_2 : w75.cell? ⟨gb372, 2, none⟩ = some (.int .i64 t367) := (blk_cell BK372.out 2).trans rfl
             have hcz92_3 : w75.cell? ⟨gb372, 3, none⟩ = some (.slice Ao16 t368.length co16) := (blk_cell BK372.out 3).trans rfl
             have hfz92_0 := blk_frozen BK372.out 0
             have hfz92_1 := blk_frozen BK372.out 1
             have hfz92_2 := blk_frozen BK372.out 2
             have hfz92_3 := blk_frozen BK372.out 3
             go_wp2_with (first | ((with_reducible refine gate_callee (f := 11) rfl ?_); refine goesL_ (some 91) rfl rfl Try.func11 (by kernel_rfl) rfl #[.agg #[.int .i64 t398, .int .i64 t399, .int .i64 t400, .slice Ao79 t401.length co79], .agg #[.int .i64 t365, .int .i64 t366, .int .i64 t367, .slice Ao16 t368.length co16]] rfl (by (try simp only [List.map_toArray, List.map_cons, List.map_nil]); first | done | rfl | (simp only [List.length_drop, List.length_take]; rfl)) ?_; (with_reducible refine (laws_eqOrdered.calls kj38 t398 t399 t400 _ _ t401 t365 t366 t367 _ _ t368 false _ ?side1 ?side2 ?side3 ?side4 A80.out).mono ?_); (case side1 => refine (Kd.R_reads' (e := 3) (base := w.heap.size) (ok := fun k_ => ((True ∧ some k_ ≠ (.slice Ao16 t368.length co16 : Value).ownBlock) ∧ some k_ ≠ (.slice Ao23 t379.length co23 : Value).ownBlock)) (n := t401.length) (c := co79) ?_).2.2; exact (by (with_reducible repeat (first | apply Kd.R_alloc | apply Kd.R_drewN | apply Kd.R_drew)); exact (Kd.R_mono (Kd.R_far (p := ⟨gb405, 3, none⟩) (Kd.R_far (p := ⟨gb405, 2, none⟩) (Kd.R_far (p := ⟨gb405, 1, none⟩) (Kd.R_far (p := ⟨gb405, 0, none⟩) (Kd.R_types HO403.out BK405.out (by decide)) (fun _ hk => hk.2) (.int .i64 t398)) (fun _ hk => hk.2) (.int .i64 t399)) (fun _ hk => hk.2) (.int .i64 t400)) (fun _ hk => hk.2) (.slice Ao79 t401.length co79)) (fun _ h_ => h_.1)))); (case side2 => exact (Kd.R_reads' HO403.out).2.1); (case side3 => refine (Kd.R_reads' (e := 3) (base := w.heap.size) (ok := fun k_ => (some k_ ≠ (.slice Ao23 t379.length co23 : Value).ownBlock ∧ some k_ ≠ (.slice Ao79 t401.length co79 : Value).ownBlock)) (n := t368.length) (c := co16) ?_).2.2; exact (by (with_reducible repeat (first | apply Kd.R_alloc | apply Kd.R_drewN | apply Kd.R_drew)); exact (Kd.R_mono (Kd.R_far (p := ⟨gb405, 3, none⟩) (Kd.R_far (p := ⟨gb405, 2, none⟩) (Kd.R_far (p := ⟨gb405, 1, none⟩) (Kd.R_far (p := ⟨gb405, 0, none⟩) (Kd.R_types HO_373003.out BK405.out (by decide)) (fun _ hk => hk.2) (.int .i64 t398)) (fun _ hk => hk.2) (.int .i64 t399)) (fun _ hk => hk.2) (.int .i64 t400)) (fun _ hk => hk.2) (.slice Ao79 t401.length co79)) (fun _ h_ => h_.1)))); (case side4 => exact (Kd.R_reads' HO_373003.out).2.1); rintro e w93 ⟨rfl, hb⟩; refine ⟨_, rfl, ?_⟩; have n0_ := Aside0.mk (Kd.R_below (by (with_reducible repeat (first | apply Kd.R_alloc | apply Kd.R_drewN | apply Kd.R_drew)); exact (Kd.R_mono (Kd.R_far (p := ⟨gb405, 3, none⟩) (Kd.R_far (p := ⟨gb405, 2, none⟩) (Kd.R_far (p := ⟨gb405, 1, none⟩) (Kd.R_far (p := ⟨gb405, 0, none⟩) (Kd.R_types HO_373003.out BK405.out (by decide)) (fun _ hk => hk.2) (.int .i64 t398)) (fun _ hk => hk.2) (.int .i64 t399)) (fun _ hk => hk.2) (.int .i64 t400)) (fun _ hk => hk.2) (.slice Ao79 t401.length co79)) (fun _ h_ => h_.1))) hb); have n1_ := Aside0.mk (Kd.R_below (by (with_reducible repeat (first | apply Kd.R_alloc | apply Kd.R_drewN | apply Kd.R_drew)); exact (Kd.R_mono (Kd.R_far (p := ⟨gb405, 3, none⟩) (Kd.R_far (p := ⟨gb405, 2, none⟩) (Kd.R_far (p := ⟨gb405, 1, none⟩) (Kd.R_far (p := ⟨gb405, 0, none⟩) (Kd.R_types HO_384003.out BK405.out (by decide)) (fun _ hk => hk.2) (.int .i64 t398)) (fun _ hk => hk.2) (.int .i64 t399)) (fun _ hk => hk.2) (.int .i64 t400)) (fun _ hk => hk.2) (.slice Ao79 t401.length co79)) (fun _ h_ => h_.1))) hb); have n2_ := Aside0.mk (Kd.R_below (by (with_reducible repeat (first | apply Kd.R_alloc | apply Kd.R_drewN | apply Kd.R_drew)); exact (Kd.R_mono (Kd.R_far (p := ⟨gb405, 3, none⟩) (Kd.R_far (p := ⟨gb405, 2, none⟩) (Kd.R_far (p := ⟨gb405, 1, none⟩) (Kd.R_far (p := ⟨gb405, 0, none⟩) (Kd.R_types HO397.out BK405.out (by decide)) (fun _ hk => hk.2) (.int .i64 t398)) (fun _ hk => hk.2) (.int .i64 t399)) (fun _ hk => hk.2) (.int .i64 t400)) (fun _ hk => hk.2) (.slice Ao79 t401.length co79)) (fun _ h_ => h_.1))) hb); have n3_ := Aside0.mk (Kd.R_below (by (with_reducible repeat (first | apply Kd.R_alloc | apply Kd.R_drewN | apply Kd.R_drew)); exact (Kd.R_mono (Kd.R_far (p := ⟨gb405, 3, none⟩) (Kd.R_far (p := ⟨gb405, 2, none⟩) (Kd.R_far (p := ⟨gb405, 1, none⟩) (Kd.R_far (p := ⟨gb405, 0, none⟩) (Kd.R_types HO403.out BK405.out (by decide)) (fun _ hk => hk.2) (.int .i64 t398)) (fun _ hk => hk.2) (.int .i64 t399)) (fun _ hk => hk.2) (.int .i64 t400)) (fun _ hk => hk.2) (.slice Ao79 t401.length co79)) (fun _ h_ => h_.1))) hb); have n4_ := Aside0.mk (blk_below (g := gb372) (o := .cells #[.int .i64 t365, .int .i64 t366, .int .i64 t367, .slice Ao16 t368.length co16] 26 (0, 0)) (by refine uW ?_; refine blk_far ?_ NB372_405.out _; refine uW ?_; refine blk_far ?_ NB372_405.out _; refine uW ?_; refine blk_far ?_ NB372_405.out _; refine uW ?_; refine blk_far ?_ NB372_405.out _; refine uW ?_; exact BK372.out) hb); have n5_ := Aside0.mk (blk_below (g := gb383) (o := .cells #[.int .i64 t376, .int .i64 t377, .int .i64 t378, .slice Ao23 t379.length co23] 26 (0, 0)) (by refine uW ?_; refine blk_far ?_ NB383_405.out _; refine uW ?_; refine blk_far ?_ NB383_405.out _; refine uW ?_; refine blk_far ?_ NB383_405.out _; refine uW ?_; refine blk_far ?_ NB383_405.out _; refine uW ?_; exact BK383.out) hb); have n6_ := Aside0.mk (blk_below (g := gb405) (o := .cells #[.int .i64 t398, .int .i64 t399, .int .i64 t400, .slice Ao79 t401.length co79] 26 (0, 0)) (by refine uW ?_; refine blk_put (cs := #[.int .i64 t398, .int .i64 t399, .int .i64 t400, .slice none 0 0]) ?_ 3 _ rfl; refine uW ?_; refine blk_put (cs := #[.int .i64 t398, .int .i64 t399, .int .i64 0, .slice none 0 0]) ?_ 2 _ rfl; refine uW ?_; refine blk_put (cs := #[.int .i64 t398, .int .i64 0, .int .i64 0, .slice none 0 0]) ?_ 1 _ rfl; refine uW ?_; refine blk_put (cs := #[.int .i64 0, .int .i64 0, .int .i64 0, .slice none 0 0]) ?_ 0 _ rfl; refine uW ?_; exact BK405.out) hb); have n7_ := Aside0.mk (below_step (by first | exact uB HB | exact uS HB (gC GE372 (gC GE383 (gC GE405 gN)))) hb); clear HO_373003 HO_384003 HO397 HO403 BK372 BK383 BK405 HB; have HO_373003 := n0_; have HO_384003 := n1_; have HO397 := n2_; have HO403 := n3_; have BK372 := n4_; have BK383 := n5_; have BK405 := n6_; have HB := n7_; clear n0_ n1_ n2_ n3_ n4_ n5_ n6_ n7_; (try clear hb); (try clear hb2); (try clear hk); (try clear hi)))
             go_meet
             case rel => exact ⟨_, (true), (by first | rfl | (simp; done) | (simp [*]; done)), H', ⟨by have := HJ9.out; have := HJ38.out; first | omega | exact Nat.le_refl _⟩, ⟨by (with_reducible repeat (first | apply Kd.R_alloc | apply Kd.R_drewN | apply Kd.R_drew)); exact HO_373003.out⟩, ⟨by (with_reducible repeat (first | apply Kd.R_alloc | apply Kd.R_drewN | apply Kd.R_drew)); exact HO_384003.out⟩, ⟨by (with_reducible repeat (first | apply Kd.R_alloc | apply Kd.R_drewN | apply Kd.R_drew)); exact Kd.R_mono HO403.out (fun _ hk => ⟨hk.1.2, hk.2⟩)⟩, ⟨by refine uW ?_; exact BK372.out⟩, ⟨by refine uW ?_; exact BK383.out⟩, ⟨by refine uW ?_; exact BK405.out⟩, ⟨by first | exact uB HB | exact uS HB (gC GE372 (gC GE383 (gC GE405 gN)))⟩⟩
           case rest =>
            clear HC66
            try clear c1
            try clear c2
            try clear p2
            try clear c3
            try clear c4
            try clear c5
            try clear c5b0
            try clear c6
            try clear c7
            try clear c8
            try clear c9
            try clear c10
            try clear c11
            try clear c12
            try clear c13
            try clear c14
            try clear c15
            try clear c21
            try clear c25
            try clear c26
            try clear c30
            try clear c34
            try clear c37
            try clear c43
            try clear c43b0
            try clear c45
            try clear c46
            try clear c50
            try clear c54
            try clear c57
            try clear c57b0
            try clear c58
            try clear c63
            try clear c63b0
            try clear c63b1
            try clear c67
            try clear c76
            try clear c77
            try clear c81
            try clear c82
            try clear c83
            try clear c85
            try clear c88
            try clear c89
            try clear c91
            try clear hcz15_0
            try clear hcz15_1
            try clear hcz15_2
            try clear hcz15_3
            try clear hcz22_0
            try clear hcz22_1
            try clear hcz22_2
            try clear hcz22_3
            try clear hcz27_0
            try clear hcz27_1
            try clear hcz27_2
            try clear hcz27_3
            try clear hcz28_0
            try clear hcz28_1
            try clear hcz28_2
            try clear hcz28_3
            try clear hcz31_0
            try clear hcz31_1
            try clear hcz31_2
            try clear hcz31_3
            try clear hcz32_0
            try clear hcz32_1
            try clear hcz32_2
            try clear hcz32_3
            try clear hcz47_0
            try clear hcz47_1
            try clear hcz47_2
            try clear hcz47_3
            try clear hcz48_0
            try clear hcz48_1
            try clear hcz48_2
            try clear hcz48_3
            try clear hcz51_0
            try clear hcz51_1
            try clear hcz51_2
            try clear hcz51_3
            try clear hcz52_0
            try clear hcz52_1
            try clear hcz52_2
            try clear hcz52_3
            try clear hcz59_0
            try clear hcz59_1
            try clear hcz59_2
            try clear hcz59_3
            try clear hcz61_0
            try clear hcz61_1
            try clear hcz61_2
            try clear hcz61_3
            try clear hcz68_0
            try clear hcz68_1
            try clear hcz68_2
            try clear hcz68_3
            try clear hcz70_0
            try clear hcz70_1
            try clear hcz70_2
            try clear hcz70_3
            try clear hcz78_0
            try clear hcz78_1
            try clear hcz78_2
            try clear hcz78_3
            try clear hcz84_0
            try clear hcz84_1
            try clear hcz84_2
            try clear hcz84_3
            try clear hcz86_0
            try clear hcz86_1
            try clear hcz86_2
            try clear hcz86_3
            try clear hcz90_0
            try clear hcz90_1
            try clear hcz90_2
            try clear hcz90_3
            try clear hcz92_0
            try clear hcz92_1
            try clear hcz92_2
            try clear hcz92_3
            try clear hfz15_0
            try clear hfz15_1
            try clear hfz15_2
            try clear hfz15_3
            try clear hfz22_0
            try clear hfz22_1
            try clear hfz22_2
            try clear hfz22_3
            try clear hfz27_0
            try clear hfz27_1
            try clear hfz27_2
            try clear hfz27_3
            try clear hfz28_0
            try clear hfz28_1
            try clear hfz28_2
            try clear hfz28_3
            try clear hfz31_0
            try clear hfz31_1
            try clear hfz31_2
            try clear hfz31_3
            try clear hfz32_0
            try clear hfz32_1
            try clear hfz32_2
            try clear hfz32_3
            try clear hfz47_0
            try clear hfz47_1
            try clear hfz47_2
            try clear hfz47_3
            try clear hfz48_0
            try clear hfz48_1
            try clear hfz48_2
            try clear hfz48_3
            try clear hfz51_0
            try clear hfz51_1
            try clear hfz51_2
            try clear hfz51_3
            try clear hfz52_0
            try clear hfz52_1
            try clear hfz52_2
            try clear hfz52_3
            try clear hfz59_0
            try clear hfz59_1
            try clear hfz59_2
            try clear hfz59_3
            try clear hfz61_0
            try clear hfz61_1
            try clear hfz61_2
            try clear hfz61_3
            try clear hfz68_0
            try clear hfz68_1
            try clear hfz68_2
            try clear hfz68_3
            try clear hfz70_0
            try clear hfz70_1
            try clear hfz70_2
            try clear hfz70_3
            try clear hfz78_0
            try clear hfz78_1
            try clear hfz78_2
            try clear hfz78_3
            try clear hfz84_0
            try clear hfz84_1
            try clear hfz84_2
            try clear hfz84_3
            try clear hfz86_0
            try clear hfz86_1
            try clear hfz86_2
            try clear hfz86_3
            try clear hfz90_0
            try clear hfz90_1
            try clear hfz90_2
            try clear hfz90_3
            try clear hfz92_0
            try clear hfz92_1
            try clear hfz92_2
            try clear hfz92_3
            try clear p2
            obtain ⟨kq, x97_65, rfl, HA, HJ65, HO_373003, HO_384003, HO_406003, BK372, BK383, BK405, HB⟩ := hcut
            have hl384003_65 := (Kd.R_reads' HO_384003.out).1
            rw [hl384003_65] at HO_384003
            (try simp only [hl384003_65])
            (try simp only [hl384003_65] at BK372)
            (try simp only [hl384003_65] at BK383)
            (try simp only [hl384003_65] at BK405)
            (try simp only [hl384003_65] at HO_373003)
            (try simp only [hl384003_65] at HO_406003)
            cases kq with
            | zero => exact absurd HA.out (by simp [laws_FnExactBuildOrdered.j2])
            | succ kj65 =>
             have H := HA.out
             clear HA
             simp only [laws_FnExactBuildOrdered.j2] at H
             by_cases c94 : x97_65 = true
             ·
              subst c94
              have H1 : (some false) = some r := by rw [if_pos rfl] at H; exact H
              clear H
              have H := H1
              clear H1
              obtain rfl := Option.some.inj H
              go_wp2
              go_ret
              exact ⟨by first | rfl | (simp [errW_none, errW_some] <;> rfl) | (simp [*, errW_none, errW_some] <;> rfl), by first | exact uB HB | exact uS HB (gC GE372 (gC GE383 (gC GE405 gN)))⟩
             ·
              replace c94 := Bool.eq_false_iff.mpr c94
              subst c94
              have H1 : ((laws_heldOrdered.f kj65 t376 t377 t378 t393 1).bind fun t407 => (if t407 < 0 then (some false) else (if t407 = t392 then (some true) else (some false)))) = some r := by rw [if_neg (show ¬ (false = true) by decide)] at H; exact H
              clear H
              have H := H1
              clear H1
              replace H := Option.bind_eq_some_iff.mp H
              obtain ⟨t407, A950, H⟩ := H
              replace H : (if t407 < 0 then (some false) else (if t407 = t392 then (some true) else (some false))) = some r := H
              have A95 := Aside0.mk A950
              clear A950
              by_cases c96 : t407 < 0
              ·
               rw [if_pos c96] at H
               have c96b0 : decide (t407 < 0) = true := decide_eq_true c96
               clear c96
               obtain rfl := Option.some.inj H
               have hnb97 := NB383_372.out
               have hnc97 := NB372_383.out
               have hnb98 := NB383_405.out
               have hnc98 := NB405_383.out
               have hcz99_0 : wc.cell? ⟨gb383, 0, none⟩ = some (.int .i64 t376) := (blk_cell BK383.out 0).trans rfl
               have hcz99_1 : wc.cell? ⟨gb383, 1, none⟩ = some (.int .i64 t377) := (blk_cell BK383.out 1).trans rfl
               have hcz99_2 : wc.cell? ⟨gb383, 2, none⟩ = some (.int .i64 t378) := (blk_cell BK383.out 2).trans rfl
               have hcz99_3 : wc.cell? ⟨gb383, 3, none⟩ = some (.slice Ao23 t393.length co23) := (blk_cell BK383.out 3).trans rfl
               have hfz99_0 := blk_frozen BK383.out 0
               have hfz99_1 := blk_frozen BK383.out 1
               have hfz99_2 := blk_frozen BK383.out 2
               have hfz99_3 := blk_frozen BK383.out 3
               go_wp2_with (first | ((with_reducible refine gate_callee (f := 15) rfl ?_); refine goesL_ (some 100) rfl rfl Try.func15 (by kernel_rfl) rfl #[.agg #[.int .i64 t376, .int .i64 t377, .int .i64 t378, .slice Ao23 t393.length co23], .int .i64 1] rfl (by (try simp only [List.map_toArray, List.map_cons, List.map_nil]); first | done | rfl | (simp only [List.length_drop, List.length_take]; rfl)) ?_; (with_reducible refine (laws_heldOrdered.calls kj65 t376 t377 t378 _ _ t393 1 t407 _ ?side1 ?side2 A95.out).mono ?_); (case side1 => exact uD HO_384003); (case side2 => exact (Kd.R_reads' HO_384003.out).2.1); rintro e w100 ⟨rfl, hb⟩; refine ⟨_, rfl, ?_⟩; have n0_ := Aside0.mk (Kd.R_below (uR HO_373003) hb); have n1_ := Aside0.mk (Kd.R_below (uR HO_384003) hb); have n2_ := Aside0.mk (Kd.R_below (uR HO_406003) hb); have n3_ := Aside0.mk (blk_below (g := gb372) (o := .cells #[.int .i64 t365, .int .i64 t366, .int .i64 t367, .slice Ao16 t368.length co16] 26 (0, 0)) (uK BK372) hb); have n4_ := Aside0.mk (blk_below (g := gb383) (o := .cells #[.int .i64 t376, .int .i64 t377, .int .i64 t378, .slice Ao23 t393.length co23] 26 (0, 0)) (uK BK383) hb); have n5_ := Aside0.mk (blk_below (g := gb405) (o := .cells #[.int .i64 t398, .int .i64 t399, .int .i64 t400, .slice Ao79 t401.length co79] 26 (0, 0)) (uK BK405) hb); have n6_ := Aside0.mk (below_step (by first | exact uB HB | exact uS HB (gC GE372 (gC GE383 (gC GE405 gN)))) hb); clear HO_373003 HO_384003 HO_406003 BK372 BK383 BK405 HB; have HO_373003 := n0_; have HO_384003 := n1_; have HO_406003 := n2_; have BK372 := n3_; have BK383 := n4_; have BK405 := n5_; have HB := n6_; clear n0_ n1_ n2_ n3_ n4_ n5_ n6_; (try clear hb); (try clear hb2); (try clear hk); (try clear hi)))
               go_ret
               exact ⟨by first | rfl | (simp [errW_none, errW_some] <;> rfl) | (simp [*, errW_none, errW_some] <;> rfl), by first | exact uB HB | exact uS HB (gC GE372 (gC GE383 (gC GE405 gN)))⟩
              ·
               rw [if_neg c96] at H
               have c96b0 : decide (t407 < 0) = false := decide_eq_false c96
               clear c96
               by_cases c101 : t407 = t392
               ·
                rw [if_pos c101] at H
                have c101b0 : (t407 == t392) = true := beq_iff_eq.mpr c101
                have c101b1 : (t407 != t392) = false := bne_eq_false_iff_eq.mpr c101
                clear c101
                obtain rfl := Option.some.inj H
                have hnb102 := NB383_372.out
                have hnc102 := NB372_383.out
                have hnb103 := NB383_405.out
                have hnc103 := NB405_383.out
                have hcz104_0 : wc.cell? ⟨gb383, 0, none⟩ = some (.int .i64 t376) := (blk_cell BK383.out 0).trans rfl
                have hcz104_1 : wc.cell? ⟨gb383, 1, none⟩ = some (.int .i64 t377) := (blk_cell BK383.out 1).trans rfl
                have hcz104_2 : wc.cell? ⟨gb383, 2, none⟩ = some (.int .i64 t378) := (blk_cell BK383.out 2).trans rfl
                have hcz104_3 : wc.cell? ⟨gb383, 3, none⟩ = some (.slice Ao23 t393.length co23) := (blk_cell BK383.out 3).trans rfl
                have hfz104_0 := blk_frozen BK383.out 0
                have hfz104_1 := blk_frozen BK383.out 1
                have hfz104_2 := blk_frozen BK383.out 2
                have hfz104_3 := blk_frozen BK383.out 3
                go_wp2_with (first | ((with_reducible refine gate_callee (f := 15) rfl ?_); refine goesL_ (some 100) rfl rfl Try.func15 (by kernel_rfl) rfl #[.agg #[.int .i64 t376, .int .i64 t377, .int .i64 t378, .slice Ao23 t393.length co23], .int .i64 1] rfl (by (try simp only [List.map_toArray, List.map_cons, List.map_nil]); first | done | rfl | (simp only [List.length_drop, List.length_take]; rfl)) ?_; (with_reducible refine (laws_heldOrdered.calls kj65 t376 t377 t378 _ _ t393 1 t407 _ ?side1 ?side2 A95.out).mono ?_); (case side1 => exact uD HO_384003); (case side2 => exact (Kd.R_reads' HO_384003.out).2.1); rintro e w105 ⟨rfl, hb⟩; refine ⟨_, rfl, ?_⟩; have n0_ := Aside0.mk (Kd.R_below (uR HO_373003) hb); have n1_ := Aside0.mk (Kd.R_below (uR HO_384003) hb); have n2_ := Aside0.mk (Kd.R_below (uR HO_406003) hb); have n3_ := Aside0.mk (blk_below (g := gb372) (o := .cells #[.int .i64 t365, .int .i64 t366, .int .i64 t367, .slice Ao16 t368.length co16] 26 (0, 0)) (uK BK372) hb); have n4_ := Aside0.mk (blk_below (g := gb383) (o := .cells #[.int .i64 t376, .int .i64 t377, .int .i64 t378, .slice Ao23 t393.length co23] 26 (0, 0)) (uK BK383) hb); have n5_ := Aside0.mk (blk_below (g := gb405) (o := .cells #[.int .i64 t398, .int .i64 t399, .int .i64 t400, .slice Ao79 t401.length co79] 26 (0, 0)) (uK BK405) hb); have n6_ := Aside0.mk (below_step (by first | exact uB HB | exact uS HB (gC GE372 (gC GE383 (gC GE405 gN)))) hb); clear HO_373003 HO_384003 HO_406003 BK372 BK383 BK405 HB; have HO_373003 := n0_; have HO_384003 := n1_; have HO_406003 := n2_; have BK372 := n3_; have BK383 := n4_; have BK405 := n5_; have HB := n6_; clear n0_ n1_ n2_ n3_ n4_ n5_ n6_; (try clear hb); (try clear hb2); (try clear hk); (try clear hi)))
                go_ret
                exact ⟨by first | rfl | (simp [errW_none, errW_some] <;> rfl) | (simp [*, errW_none, errW_some] <;> rfl), by first | exact uB HB | exact uS HB (gC GE372 (gC GE383 (gC GE405 gN)))⟩
               ·
                rw [if_neg c101] at H
                have c101b0 : (t407 == t392) = false := beq_eq_false_iff_ne.mpr c101
                have c101b1 : (t407 != t392) = true := bne_iff_ne.mpr c101
                obtain rfl := Option.some.inj H
                have hnb106 := NB383_372.out
                have hnc106 := NB372_383.out
                have hnb107 := NB383_405.out
                have hnc107 := NB405_383.out
                have hcz108_0 : wc.cell? ⟨gb383, 0, none⟩ = some (.int .i64 t376) := (blk_cell BK383.out 0).trans rfl
                have hcz108_1 : wc.cell? ⟨gb383, 1, none⟩ = some (.int .i64 t377) := (blk_cell BK383.out 1).trans rfl
                have hcz108_2 : wc.cell? ⟨gb383, 2, none⟩ = some (.int .i64 t378) := (blk_cell BK383.out 2).trans rfl
                have hcz108_3 : wc.cell? ⟨gb383, 3, none⟩ = some (.slice Ao23 t393.length co23) := (blk_cell BK383.out 3).trans rfl
                have hfz108_0 := blk_frozen BK383.out 0
                have hfz108_1 := blk_frozen BK383.out 1
                have hfz108_2 := blk_frozen BK383.out 2
                have hfz108_3 := blk_frozen BK383.out 3
                go_wp2_with (first | ((with_reducible refine gate_callee (f := 15) rfl ?_); refine goesL_ (some 100) rfl rfl Try.func15 (by kernel_rfl) rfl #[.agg #[.int .i64 t376, .int .i64 t377, .int .i64 t378, .slice Ao23 t393.length co23], .int .i64 1] rfl (by (try simp only [List.map_toArray, List.map_cons, List.map_nil]); first | done | rfl | (simp only [List.length_drop, List.length_take]; rfl)) ?_; (with_reducible refine (laws_heldOrdered.calls kj65 t376 t377 t378 _ _ t393 1 t407 _ ?side1 ?side2 A95.out).mono ?_); (case side1 => exact uD HO_384003); (case side2 => exact (Kd.R_reads' HO_384003.out).2.1); rintro e w109 ⟨rfl, hb⟩; refine ⟨_, rfl, ?_⟩; have n0_ := Aside0.mk (Kd.R_below (uR HO_373003) hb); have n1_ := Aside0.mk (Kd.R_below (uR HO_384003) hb); have n2_ := Aside0.mk (Kd.R_below (uR HO_406003) hb); have n3_ := Aside0.mk (blk_below (g := gb372) (o := .cells #[.int .i64 t365, .int .i64 t366, .int .i64 t367, .slice Ao16 t368.length co16] 26 (0, 0)) (uK BK372) hb); have n4_ := Aside0.mk (blk_below (g := gb383) (o := .cells #[.int .i64 t376, .int .i64 t377, .int .i64 t378, .slice Ao23 t393.length co23] 26 (0, 0)) (uK BK383) hb); have n5_ := Aside0.mk (blk_below (g := gb405) (o := .cells #[.int .i64 t398, .int .i64 t399, .int .i64 t400, .slice Ao79 t401.length co79] 26 (0, 0)) (uK BK405) hb); have n6_ := Aside0.mk (below_step (by first | exact uB HB | exact uS HB (gC GE372 (gC GE383 (gC GE405 gN)))) hb); clear HO_373003 HO_384003 HO_406003 BK372 BK383 BK405 HB; have HO_373003 := n0_; have HO_384003 := n1_; have HO_406003 := n2_; have BK372 := n3_; have BK383 := n4_; have BK405 := n5_; have HB := n6_; clear n0_ n1_ n2_ n3_ n4_ n5_ n6_; (try clear hb); (try clear hb2); (try clear hk); (try clear hi)))
                go_ret
                exact ⟨by first | rfl | (simp [errW_none, errW_some] <;> rfl) | (simp [*, errW_none, errW_some] <;> rfl), by first | exact uB HB | exact uS HB (gC GE372 (gC GE383 (gC GE405 gN)))⟩
          ·
           rw [if_neg c63] at H
           have c63b0 : (t394 == t392) = false := beq_eq_false_iff_ne.mpr c63
           have c63b1 : (t394 != t392) = true := bne_iff_ne.mpr c63
           obtain rfl := Option.some.inj H
           have hnb110 := NB383_372.out
           have hnc110 := NB372_383.out
           have hcz111_0 : wc.cell? ⟨gb383, 0, none⟩ = some (.int .i64 t376) := (blk_cell BK383.out 0).trans rfl
           have hcz111_1 : wc.cell? ⟨gb383, 1, none⟩ = some (.int .i64 t377) := (blk_cell BK383.out 1).trans rfl
           have hcz111_2 : wc.cell? ⟨gb383, 2, none⟩ = some (.int .i64 t378) := (blk_cell BK383.out 2).trans rfl
           have hcz111_3 : wc.cell? ⟨gb383, 3, none⟩ = some (.slice Ao23 t379.length co23) := (blk_cell BK383.out 3).trans rfl
           have hfz111_0 := blk_frozen BK383.out 0
           have hfz111_1 := blk_frozen BK383.out 1
           have hfz111_2 := blk_frozen BK383.out 2
           have hfz111_3 := blk_frozen BK383.out 3
           go_wp2_with (first | ((with_reducible refine gate_callee (f := 14) rfl ?_); refine goesL_ (some 72) rfl rfl Try.func14 (by kernel_rfl) rfl #[.agg #[.int .i64 t376, .int .i64 t377, .int .i64 t378, .slice Ao23 t379.length co23], .int .i64 1] rfl (by (try simp only [List.map_toArray, List.map_cons, List.map_nil]); first | done | rfl | (simp only [List.length_drop, List.length_take]; rfl)) ?_; (with_reducible refine (laws_markOrdered.calls kj38 t376 t377 t378 (fun k_ => some k_ = (.slice Ao23 t379.length co23 : Value).ownBlock) (.slice Ao23 t379.length co23) t379 1 t392 t393 w _ ?side1 ?side2 A55.out).mono ?_); (case side1 => first | exact uB HB | exact uS HB (gC GE372 (gC GE383 gN))); (case side2 => exact Kd.R_tight rfl HO_384003.out); rintro e w112 ⟨rfl, hy0, hb, hkp⟩; refine ⟨_, rfl, ?_⟩; have n0_ := Aside0.mk (Kd.R_mono (ok' := fun k_ => some k_ ≠ (.slice Ao23 t379.length co23 : Value).ownBlock) (Kd.R_keptB (HO_373003.out) hkp (fun k_ hk_ hs_ => (hk_) hs_)) (fun k_ hk_ => hk_.1)); have n1_ := Aside0.mk (Kd.R_reok rfl hy0 (fun k_ e_ => HO_384003.out.1 k_ e_)); have n2_ := Aside0.mk (blk_kept (uK BK372) hkp (fun hs_ => (fun e_ => (Kd.R_ne HO_384003.out BK372.out (by decide)) e_) hs_)); have n3_ := Aside0.mk (blk_kept (uK BK383) hkp (fun hs_ => (fun e_ => (Kd.R_ne HO_384003.out BK383.out (by decide)) e_) hs_)); have n4_ := Aside0.mk (hb); clear HO_373003 HO_384003 BK372 BK383 HB; have HO_373003 := n0_; have HO_384003 := n1_; have BK372 := n2_; have BK383 := n3_; have HB := n4_; clear n0_ n1_ n2_ n3_ n4_; (try clear hb); (try clear hkp); (try clear hy0); have hcz113_0 : w112.cell? ⟨gb383, 0, none⟩ = some (.int .i64 t376) := (blk_cell BK383.out 0).trans rfl; have hcz113_1 : w112.cell? ⟨gb383, 1, none⟩ = some (.int .i64 t377) := (blk_cell BK383.out 1).trans rfl; have hcz113_2 : w112.cell? ⟨gb383, 2, none⟩ = some (.int .i64 t378) := (blk_cell BK383.out 2).trans rfl; have hcz113_3 : w112.cell? ⟨gb383, 3, none⟩ = some (.slice Ao23 t379.length co23) := (blk_cell BK383.out 3).trans rfl; have hfz113_0 := blk_frozen BK383.out 0; have hfz113_1 := blk_frozen BK383.out 1; have hfz113_2 := blk_frozen BK383.out 2; have hfz113_3 := blk_frozen BK383.out 3) | ((with_reducible refine gate_callee (f := 15) rfl ?_); refine goesL_ (some 75) rfl rfl Try.func15 (by kernel_rfl) rfl #[.agg #[.int .i64 t376, .int .i64 t377, .int .i64 t378, .slice Ao23 t393.length co23], .int .i64 1] rfl (by (try simp only [List.map_toArray, List.map_cons, List.map_nil]); first | done | (rw [show t393.length = t379.length from (Kd.R_reads' HO_384003.out).1.symm] <;> rfl) | rfl | (simp only [List.length_drop, List.length_take]; rfl)) ?_; (with_reducible refine (laws_heldOrdered.calls kj38 t376 t377 t378 _ _ t393 1 t394 _ ?side1 ?side2 A56.out).mono ?_); (case side1 => exact uD HO_384003); (case side2 => rw [show t393.length = t379.length from (Kd.R_reads' HO_384003.out).1.symm]; exact (Kd.R_reads' HO_384003.out).2.1); rintro e w114 ⟨rfl, hb⟩; refine ⟨_, rfl, ?_⟩; have n0_ := Aside0.mk (Kd.R_below (uR HO_373003) hb); have n1_ := Aside0.mk (Kd.R_below (uR HO_384003) hb); have n2_ := Aside0.mk (blk_below (g := gb372) (o := .cells #[.int .i64 t365, .int .i64 t366, .int .i64 t367, .slice Ao16 t368.length co16] 26 (0, 0)) (uK BK372) hb); have n3_ := Aside0.mk (blk_below (g := gb383) (o := .cells #[.int .i64 t376, .int .i64 t377, .int .i64 t378, .slice Ao23 t379.length co23] 26 (0, 0)) (uK BK383) hb); have n4_ := Aside0.mk (below_step (by first | exact uB HB | exact uS HB (gC GE372 (gC GE383 gN))) hb); clear HO_373003 HO_384003 BK372 BK383 HB; have HO_373003 := n0_; have HO_384003 := n1_; have BK372 := n2_; have BK383 := n3_; have HB := n4_; clear n0_ n1_ n2_ n3_ n4_; (try clear hb); (try clear hb2); (try clear hk); (try clear hi)))
           go_ret
           exact ⟨by first | rfl | (simp [errW_none, errW_some] <;> rfl) | (simp [*, errW_none, errW_some] <;> rfl), by first | exact uB HB | exact uS HB (gC GE372 (gC GE383 gN))⟩
     ·
      replace c37 := Bool.eq_false_iff.mpr c37
      subst c37
      have H1 : (some false) = some r := by rw [if_neg (show ¬ (false = true) by decide)] at H; exact H
      clear H
      have H := H1
      clear H1
      obtain rfl := Option.some.inj H
      go_wp2_with (first | ((with_reducible refine gate_callee (f := 9) rfl ?_); refine goesL_ (some 51) rfl rfl Try.func9 (by kernel_rfl) rfl #[.slice A1 l1.length c1] rfl (by (try simp only [List.map_toArray, List.map_cons, List.map_nil]); first | done | rfl | (simp only [List.length_drop, List.length_take]; rfl)) ?_; (with_reducible refine (laws_toStringS.calls kj9 _ _ l1 t385 _ ?side1 ?side2 A35.out).mono ?_); (case side1 => exact uC HR1 HB); (case side2 => exact HC1.out); rintro e w115 ⟨v386, rfl, ho0, hb⟩; refine ⟨_, rfl, ?_⟩; have n0_ := Aside0.mk (Kd.R_elder' (uR HO_10) (Kd.R_base ho0) hb); have n1_ := Aside0.mk (Kd.R_below (uR HO_373003) hb); have n2_ := Aside0.mk (Kd.R_below (uR HO_384003) hb); have n3_ := Aside0.mk (Kd.R_lower (Kd.R_new' ho0 (Kd.R_lt (uR HO_10))) (below_size (by first | exact uB HB | exact uS HB (gC GE372 (gC GE383 gN))))); have n4_ := Aside0.mk (blk_below (g := gb372) (o := .cells #[.int .i64 t365, .int .i64 t366, .int .i64 t367, .slice Ao16 t368.length co16] 26 (0, 0)) (uK BK372) hb); have n5_ := Aside0.mk (blk_below (g := gb383) (o := .cells #[.int .i64 t376, .int .i64 t377, .int .i64 t378, .slice Ao23 t379.length co23] 26 (0, 0)) (uK BK383) hb); have n6_ := Aside0.mk (below_step (by first | exact uB HB | exact uS HB (gC GE372 (gC GE383 gN))) hb); clear HO_10 HO_373003 HO_384003 BK372 BK383 HB; have HO_10 := n0_; have HO_373003 := n1_; have HO_384003 := n2_; have HO387 := n3_; have BK372 := n4_; have BK383 := n5_; have HB := n6_; clear n0_ n1_ n2_ n3_ n4_ n5_ n6_; (try clear hb); (try clear hb2); (try clear hk); (try clear hi); (try clear ho0); obtain ⟨Ao116, co116, eo116⟩ := Kd.R_slice HO387.out; subst eo116) | ((with_reducible refine gate_callee (f := 12) rfl ?_); refine goesL_ (some 52) rfl rfl Try.func12 (by kernel_rfl) rfl #[.slice Ao18 t373.length co18, .slice Ao116 t385.length co116] rfl (by (try simp only [List.map_toArray, List.map_cons, List.map_nil]); first | done | rfl | (simp only [List.length_drop, List.length_take]; rfl)) ?_; (with_reducible refine (laws_eqStringS.calls kj9 _ _ t373 _ _ t385 false _ ?side1 ?side2 ?side3 ?side4 A36.out).mono ?_); (case side1 => exact uD HO_10); (case side2 => exact (Kd.R_reads' HO_10.out).2.1); (case side3 => exact uD HO387); (case side4 => exact (Kd.R_reads' HO387.out).2.1); rintro e w' ⟨rfl, ⟨nd, rfl⟩⟩; refine ⟨_, rfl, ?_⟩))
      go_ret
      exact ⟨by first | rfl | (simp [errW_none, errW_some] <;> rfl) | (simp [*, errW_none, errW_some] <;> rfl), by first | exact uB HB | exact uS HB (gC GE372 (gC GE383 gN))⟩

end Go.Proofs.Ytippedfjmlkpiaa.PFnExactBuildOrdered
