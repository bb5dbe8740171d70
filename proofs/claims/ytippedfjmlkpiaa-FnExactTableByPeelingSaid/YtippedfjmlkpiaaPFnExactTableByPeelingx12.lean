-- made by wip/tools/myprint.py over the kit's print, for this claim
import Derived.Test.YtippedfjmlkpiaaPFnExactTableByPeelingx0
import Derived.Test.YtippedfjmlkpiaaPFnExactTableByPeelingx1
import Derived.Test.YtippedfjmlkpiaaPFnExactTableByPeelingx6
import Derived.Test.YtippedfjmlkpiaaPFnExactTableByPeelingx7
import Derived.Test.YtippedfjmlkpiaaPFnExactTableByPeelingx10
import Derived.Test.YtippedfjmlkpiaaPFnExactTableByPeelingx11
namespace Go.Proofs.Ytippedfjmlkpiaa.PFnExactTableByPeeling
open Go.RowKit Go.Proofs.YtippedfjmlkpiaaW.PrintWords Go.Proofs.YtippedfjmlkpiaaW.PrintLast Go.Proofs.YtippedfjmlkpiaaW.PrintMore
attribute [local go_sem] max2_int min2_int max_two min_two max_three min_three max_four min_four   -- for this text's walks alone
set_option linter.unusedVariables false
set_option linter.unusedSimpArgs false

/-! ### laws_FnExactTableByPeeling: function 4 -/
mutual
def laws_FnExactTableByPeeling.j0 : Nat → Int → List ByteArray → List Int → Int → Int → Bool → List ByteArray → List Int → Bool → Bool → Int → Int → Int → List Int → Int → Int → Int → List Int → Option (Bool)
 | 0, _, _, _, _, _, _, _, _, _, _, _, _, _, _, _, _, _, _ => none
 | k + 1, x0, x1, x2, x3, x4, x13, x14, x15, x17, x63, x393000, x393001, x393002, x393003, x407000, x407001, x407002, x407003 => if x63 = true then (some false) else ((laws_toStringS.f k x1).bind fun t408 => ((laws_eqStringS.f k x14 t408).bind fun t411 => (if t411 = true then ((laws_toIntS.f k x2).bind fun t412 => ((laws_eqIntS.f k x15 t412).bind fun t415 => (if t415 = true then ((laws_markStringS.f k x14 1).bind fun bt416 => ((laws_markIntS.f k x15 bt416.1).bind fun bt418 => (if bt418.1 < 0 then (laws_FnExactTableByPeeling.j1 k x0 x1 x2 x3 x4 x13 true x393000 x393001 x393002 x393003 x407000 x407001 x407002 x407003) else ((laws_eqTable.f k x407000 x407001 x407002 x407003 x393000 x393001 x393002 x393003).bind fun t420 => (if t420 = true then (laws_FnExactTableByPeeling.j1 k x0 x1 x2 x3 x4 x13 (x17 != x13) x393000 x393001 x393002 x393003 x407000 x407001 x407002 x407003) else (laws_FnExactTableByPeeling.j1 k x0 x1 x2 x3 x4 x13 true x393000 x393001 x393002 x393003 x407000 x407001 x407002 x407003)))))) else (some false)))) else (some false))))
def laws_FnExactTableByPeeling.j1 : Nat → Int → List ByteArray → List Int → Int → Int → Bool → Bool → Int → Int → Int → List Int → Int → Int → Int → List Int → Option (Bool)
 | 0, _, _, _, _, _, _, _, _, _, _, _, _, _, _, _ => none
 | k + 1, x0, x1, x2, x3, x4, x13, x92, x393000, x393001, x393002, x393003, x407000, x407001, x407002, x407003 => if x92 = true then (some false) else ((laws_markTable.f k x407000 x407001 x407002 x407003 1).bind fun bt421 => ((laws_heldTable.f k x407000 x407001 x407002 bt421.2 1).bind fun t423 => (if t423 < 0 then (some false) else (if t423 = bt421.1 then ((laws_toStringS.f k x1).bind fun t424 => ((laws_toIntS.f k x2).bind fun t427 => ((impl_TableByPeeling.f k x0 t424 t427 x3 x4).bind fun bt430 => ((laws_eqTable.f k bt430.1 bt430.2.1 bt430.2.2.1 bt430.2.2.2.1 x393000 x393001 x393002 x393003).bind fun t438 => (if t438 = true then (laws_FnExactTableByPeeling.j2 k bt421.1 (bt430.2.2.2.2 != x13) x407000 x407001 x407002 bt421.2) else (laws_FnExactTableByPeeling.j2 k bt421.1 true x407000 x407001 x407002 bt421.2)))))) else (some false)))))
def laws_FnExactTableByPeeling.j2 : Nat → Int → Bool → Int → Int → Int → List Int → Option (Bool)
 | 0, _, _, _, _, _, _ => none
 | k + 1, x19, x123, x407000, x407001, x407002, x407003 => if x123 = true then (some false) else ((laws_heldTable.f k x407000 x407001 x407002 x407003 1).bind fun t439 => (if t439 < 0 then (some false) else (if t439 = x19 then (some true) else (some false))))
end
def laws_FnExactTableByPeeling.f (k : Nat) (a0 : Int) (l1 : List ByteArray) (l2 : List Int) (a3 : Int) (a4 : Int) : Option (Bool) := if (l2.length : Int) > 1048576 then (some true) else ((laws_szStringS.f k l1 1048576).bind fun t378 => (if t378 < 0 then (some true) else ((laws_toStringS.f k l1).bind fun t379 => ((laws_toIntS.f k l2).bind fun t382 => ((spec_TableByPeeling.f k a0 t379 t382 a3 a4).bind fun bt385 => ((laws_toStringS.f k l1).bind fun t393 => ((laws_toIntS.f k l2).bind fun t396 => ((impl_TableByPeeling.f k a0 t393 t396 a3 a4).bind fun bt399 => ((laws_eqTable.f k bt399.1 bt399.2.1 bt399.2.2.1 bt399.2.2.2.1 bt385.1 bt385.2.1 bt385.2.2.1 bt385.2.2.2.1).bind fun t407 => (if t407 = true then (laws_FnExactTableByPeeling.j0 k a0 l1 l2 a3 a4 bt385.2.2.2.2 t393 t396 bt399.2.2.2.2 (bt399.2.2.2.2 != bt385.2.2.2.2) bt385.1 bt385.2.1 bt385.2.2.1 bt385.2.2.2.1 bt399.1 bt399.2.1 bt399.2.2.1 bt399.2.2.2.1) else (laws_FnExactTableByPeeling.j0 k a0 l1 l2 a3 a4 bt385.2.2.2.2 t393 t396 bt399.2.2.2.2 true bt385.1 bt385.2.1 bt385.2.2.1 bt385.2.2.2.1 bt399.1 bt399.2.1 bt399.2.2.1 bt399.2.2.2.1)))))))))))
theorem laws_FnExactTableByPeeling.mono_l : ∀ k, (∀ y0 y1 y2 y3 y4 y5 y6 y7 y8 y9 y10 y11 y12 y13 y14 y15 y16 y17, LeO (laws_FnExactTableByPeeling.j0 k y0 y1 y2 y3 y4 y5 y6 y7 y8 y9 y10 y11 y12 y13 y14 y15 y16 y17) (laws_FnExactTableByPeeling.j0 (k + 1) y0 y1 y2 y3 y4 y5 y6 y7 y8 y9 y10 y11 y12 y13 y14 y15 y16 y17)) ∧ (∀ y0 y1 y2 y3 y4 y5 y6 y7 y8 y9 y10 y11 y12 y13 y14, LeO (laws_FnExactTableByPeeling.j1 k y0 y1 y2 y3 y4 y5 y6 y7 y8 y9 y10 y11 y12 y13 y14) (laws_FnExactTableByPeeling.j1 (k + 1) y0 y1 y2 y3 y4 y5 y6 y7 y8 y9 y10 y11 y12 y13 y14)) ∧ (∀ y0 y1 y2 y3 y4 y5, LeO (laws_FnExactTableByPeeling.j2 k y0 y1 y2 y3 y4 y5) (laws_FnExactTableByPeeling.j2 (k + 1) y0 y1 y2 y3 y4 y5))
 | 0 => ⟨fun _ _ _ _ _ _ _ _ _ _ _ _ _ _ _ _ _ _ r h => by simp [laws_FnExactTableByPeeling.j0] at h, fun _ _ _ _ _ _ _ _ _ _ _ _ _ _ _ r h => by simp [laws_FnExactTableByPeeling.j1] at h, fun _ _ _ _ _ _ r h => by simp [laws_FnExactTableByPeeling.j2] at h⟩
 | k + 1 => by
  obtain ⟨ih0, ih1, ih2⟩ := laws_FnExactTableByPeeling.mono_l k
  refine ⟨?_, ?_, ?_⟩
  ·
   intro y0 y1 y2 y3 y4 y5 y6 y7 y8 y9 y10 y11 y12 y13 y14 y15 y16 y17
   unfold laws_FnExactTableByPeeling.j0
   repeat' first
   | (with_reducible exact ih0 _ _ _ _ _ _ _ _ _ _ _ _ _ _ _ _ _ _)
   | (with_reducible exact ih1 _ _ _ _ _ _ _ _ _ _ _ _ _ _ _)
   | (with_reducible exact ih2 _ _ _ _ _ _)
   | (with_reducible exact impl_TableByPeeling.mono _ _ _ _ _ _)
   | (with_reducible exact laws_eqIntS.mono _ _ _)
   | (with_reducible exact laws_eqStringS.mono _ _ _)
   | (with_reducible exact laws_eqTable.mono _ _ _ _ _ _ _ _ _)
   | (with_reducible exact laws_heldTable.mono _ _ _ _ _ _)
   | (with_reducible exact laws_markIntS.mono _ _ _)
   | (with_reducible exact laws_markStringS.mono _ _ _)
   | (with_reducible exact laws_markTable.mono _ _ _ _ _ _)
   | (with_reducible exact laws_szStringS.mono _ _ _)
   | (with_reducible exact laws_toIntS.mono _ _)
   | (with_reducible exact laws_toStringS.mono _ _)
   | (with_reducible exact spec_TableByPeeling.mono _ _ _ _ _ _)
   | (with_reducible exact LeO.refl _)
   | (with_reducible exact LeO.none _)
   | (with_reducible refine LeO.ite ?_ ?_)
   | (with_reducible refine LeO.bind ?_ (fun _ => ?_))
   | exact ih0 _ _ _ _ _ _ _ _ _ _ _ _ _ _ _ _ _ _
   | exact ih1 _ _ _ _ _ _ _ _ _ _ _ _ _ _ _
   | exact ih2 _ _ _ _ _ _
   | exact impl_TableByPeeling.mono _ _ _ _ _ _
   | exact laws_eqIntS.mono _ _ _
   | exact laws_eqStringS.mono _ _ _
   | exact laws_eqTable.mono _ _ _ _ _ _ _ _ _
   | exact laws_heldTable.mono _ _ _ _ _ _
   | exact laws_markIntS.mono _ _ _
   | exact laws_markStringS.mono _ _ _
   | exact laws_markTable.mono _ _ _ _ _ _
   | exact laws_szStringS.mono _ _ _
   | exact laws_toIntS.mono _ _
   | exact laws_toStringS.mono _ _
   | exact spec_TableByPeeling.mono _ _ _ _ _ _
   | exact LeO.none _
   | refine LeO.ite ?_ ?_
   | refine LeO.bind ?_ (fun _ => ?_)
  ·
   intro y0 y1 y2 y3 y4 y5 y6 y7 y8 y9 y10 y11 y12 y13 y14
   unfold laws_FnExactTableByPeeling.j1
   repeat' first
   | (with_reducible exact ih0 _ _ _ _ _ _ _ _ _ _ _ _ _ _ _ _ _ _)
   | (with_reducible exact ih1 _ _ _ _ _ _ _ _ _ _ _ _ _ _ _)
   | (with_reducible exact ih2 _ _ _ _ _ _)
   | (with_reducible exact impl_TableByPeeling.mono _ _ _ _ _ _)
   | (with_reducible exact laws_eqIntS.mono _ _ _)
   | (with_reducible exact laws_eqStringS.mono _ _ _)
   | (with_reducible exact laws_eqTable.mono _ _ _ _ _ _ _ _ _)
   | (with_reducible exact laws_heldTable.mono _ _ _ _ _ _)
   | (with_reducible exact laws_markIntS.mono _ _ _)
   | (with_reducible exact laws_markStringS.mono _ _ _)
   | (with_reducible exact laws_markTable.mono _ _ _ _ _ _)
   | (with_reducible exact laws_szStringS.mono _ _ _)
   | (with_reducible exact laws_toIntS.mono _ _)
   | (with_reducible exact laws_toStringS.mono _ _)
   | (with_reducible exact spec_TableByPeeling.mono _ _ _ _ _ _)
   | (with_reducible exact LeO.refl _)
   | (with_reducible exact LeO.none _)
   | (with_reducible refine LeO.ite ?_ ?_)
   | (with_reducible refine LeO.bind ?_ (fun _ => ?_))
   | exact ih0 _ _ _ _ _ _ _ _ _ _ _ _ _ _ _ _ _ _
   | exact ih1 _ _ _ _ _ _ _ _ _ _ _ _ _ _ _
   | exact ih2 _ _ _ _ _ _
   | exact impl_TableByPeeling.mono _ _ _ _ _ _
   | exact laws_eqIntS.mono _ _ _
   | exact laws_eqStringS.mono _ _ _
   | exact laws_eqTable.mono _ _ _ _ _ _ _ _ _
   | exact laws_heldTable.mono _ _ _ _ _ _
   | exact laws_markIntS.mono _ _ _
   | exact laws_markStringS.mono _ _ _
   | exact laws_markTable.mono _ _ _ _ _ _
   | exact laws_szStringS.mono _ _ _
   | exact laws_toIntS.mono _ _
   | exact laws_toStringS.mono _ _
   | exact spec_TableByPeeling.mono _ _ _ _ _ _
   | exact LeO.none _
   | refine LeO.ite ?_ ?_
   | refine LeO.bind ?_ (fun _ => ?_)
  ·
   intro y0 y1 y2 y3 y4 y5
   unfold laws_FnExactTableByPeeling.j2
   repeat' first
   | (with_reducible exact ih0 _ _ _ _ _ _ _ _ _ _ _ _ _ _ _ _ _ _)
   | (with_reducible exact ih1 _ _ _ _ _ _ _ _ _ _ _ _ _ _ _)
   | (with_reducible exact ih2 _ _ _ _ _ _)
   | (with_reducible exact impl_TableByPeeling.mono _ _ _ _ _ _)
   | (with_reducible exact laws_eqIntS.mono _ _ _)
   | (with_reducible exact laws_eqStringS.mono _ _ _)
   | (with_reducible exact laws_eqTable.mono _ _ _ _ _ _ _ _ _)
   | (with_reducible exact laws_heldTable.mono _ _ _ _ _ _)
   | (with_reducible exact laws_markIntS.mono _ _ _)
   | (with_reducible exact laws_markStringS.mono _ _ _)
   | (with_reducible exact laws_markTable.mono _ _ _ _ _ _)
   | (with_reducible exact laws_szStringS.mono _ _ _)
   | (with_reducible exact laws_toIntS.mono _ _)
   | (with_reducible exact laws_toStringS.mono _ _)
   | (with_reducible exact spec_TableByPeeling.mono _ _ _ _ _ _)
   | (with_reducible exact LeO.refl _)
   | (with_reducible exact LeO.none _)
   | (with_reducible refine LeO.ite ?_ ?_)
   | (with_reducible refine LeO.bind ?_ (fun _ => ?_))
   | exact ih0 _ _ _ _ _ _ _ _ _ _ _ _ _ _ _ _ _ _
   | exact ih1 _ _ _ _ _ _ _ _ _ _ _ _ _ _ _
   | exact ih2 _ _ _ _ _ _
   | exact impl_TableByPeeling.mono _ _ _ _ _ _
   | exact laws_eqIntS.mono _ _ _
   | exact laws_eqStringS.mono _ _ _
   | exact laws_eqTable.mono _ _ _ _ _ _ _ _ _
   | exact laws_heldTable.mono _ _ _ _ _ _
   | exact laws_markIntS.mono _ _ _
   | exact laws_markStringS.mono _ _ _
   | exact laws_markTable.mono _ _ _ _ _ _
   | exact laws_szStringS.mono _ _ _
   | exact laws_toIntS.mono _ _
   | exact laws_toStringS.mono _ _
   | exact spec_TableByPeeling.mono _ _ _ _ _ _
   | exact LeO.none _
   | refine LeO.ite ?_ ?_
   | refine LeO.bind ?_ (fun _ => ?_)
theorem laws_FnExactTableByPeeling.mono : ∀ a0 a1 a2 a3 a4 k, LeO (laws_FnExactTableByPeeling.f k a0 a1 a2 a3 a4) (laws_FnExactTableByPeeling.f (k + 1) a0 a1 a2 a3 a4) := by
 intro a0 a1 a2 a3 a4 k
 obtain ⟨ih0, ih1, ih2⟩ := laws_FnExactTableByPeeling.mono_l k
 unfold laws_FnExactTableByPeeling.f
 repeat' first
   | (with_reducible exact ih0 _ _ _ _ _ _ _ _ _ _ _ _ _ _ _ _ _ _)
   | (with_reducible exact ih1 _ _ _ _ _ _ _ _ _ _ _ _ _ _ _)
   | (with_reducible exact ih2 _ _ _ _ _ _)
   | (with_reducible exact impl_TableByPeeling.mono _ _ _ _ _ _)
   | (with_reducible exact laws_eqIntS.mono _ _ _)
   | (with_reducible exact laws_eqStringS.mono _ _ _)
   | (with_reducible exact laws_eqTable.mono _ _ _ _ _ _ _ _ _)
   | (with_reducible exact laws_heldTable.mono _ _ _ _ _ _)
   | (with_reducible exact laws_markIntS.mono _ _ _)
   | (with_reducible exact laws_markStringS.mono _ _ _)
   | (with_reducible exact laws_markTable.mono _ _ _ _ _ _)
   | (with_reducible exact laws_szStringS.mono _ _ _)
   | (with_reducible exact laws_toIntS.mono _ _)
   | (with_reducible exact laws_toStringS.mono _ _)
   | (with_reducible exact spec_TableByPeeling.mono _ _ _ _ _ _)
   | (with_reducible exact LeO.refl _)
   | (with_reducible exact LeO.none _)
   | (with_reducible refine LeO.ite ?_ ?_)
   | (with_reducible refine LeO.bind ?_ (fun _ => ?_))
   | exact ih0 _ _ _ _ _ _ _ _ _ _ _ _ _ _ _ _ _ _
   | exact ih1 _ _ _ _ _ _ _ _ _ _ _ _ _ _ _
   | exact ih2 _ _ _ _ _ _
   | exact impl_TableByPeeling.mono _ _ _ _ _ _
   | exact laws_eqIntS.mono _ _ _
   | exact laws_eqStringS.mono _ _ _
   | exact laws_eqTable.mono _ _ _ _ _ _ _ _ _
   | exact laws_heldTable.mono _ _ _ _ _ _
   | exact laws_markIntS.mono _ _ _
   | exact laws_markStringS.mono _ _ _
   | exact laws_markTable.mono _ _ _ _ _ _
   | exact laws_szStringS.mono _ _ _
   | exact laws_toIntS.mono _ _
   | exact laws_toStringS.mono _ _
   | exact spec_TableByPeeling.mono _ _ _ _ _ _
   | exact LeO.none _
   | refine LeO.ite ?_ ?_
   | refine LeO.bind ?_ (fun _ => ?_)
set_option maxHeartbeats 8000000 in
set_option maxRecDepth 100000 in
theorem laws_FnExactTableByPeeling.calls (k : Nat) (a0 : Int) (A1 : Option Addr) (c1 : Nat) (l1 : List ByteArray) (A2 : Option Addr) (c2 : Nat) (l2 : List Int) (a3 : Int) (a4 : Int) (r : Bool) (w : World) (hr1 : Kd.C Kd.string w A1 l1.length l1) (hc1 : l1.length ≤ c1) (hr2 : Kd.C (Kd.int .i64) w A2 l2.length l2) (hc2 : l2.length ≤ c2) (h : laws_FnExactTableByPeeling.f k a0 l1 l2 a3 a4 = some r) :
  Calls Try.prog 4 #[.int .i64 a0, .slice A1 l1.length c1, .slice A2 l2.length c2, .int .i64 a3, .int .i64 a4] w fun e w' => e = .returned (.bool r) ∧ Below w.heap.size w w' := by
 have hu35 := Try.underlying35
 have HR1 := Aside0.mk hr1
 have HC1 := Aside0.mk hc1
 clear hr1 hc1
 have HR2 := Aside0.mk hr2
 have HC2 := Aside0.mk hc2
 clear hr2 hc2
 have HB := Aside0.mk (Below.refl w.heap.size w)
 have H : (if (l2.length : Int) > 1048576 then (some true) else ((laws_szStringS.f k l1 1048576).bind fun t378 => (if t378 < 0 then (some true) else ((laws_toStringS.f k l1).bind fun t379 => ((laws_toIntS.f k l2).bind fun t382 => ((spec_TableByPeeling.f k a0 t379 t382 a3 a4).bind fun bt385 => ((laws_toStringS.f k l1).bind fun t393 => ((laws_toIntS.f k l2).bind fun t396 => ((impl_TableByPeeling.f k a0 t393 t396 a3 a4).bind fun bt399 => ((laws_eqTable.f k bt399.1 bt399.2.1 bt399.2.2.1 bt399.2.2.2.1 bt385.1 bt385.2.1 bt385.2.2.1 bt385.2.2.2.1).bind fun t407 => (if t407 = true then (laws_FnExactTableByPeeling.j0 k a0 l1 l2 a3 a4 bt385.2.2.2.2 t393 t396 bt399.2.2.2.2 (bt399.2.2.2.2 != bt385.2.2.2.2) bt385.1 bt385.2.1 bt385.2.2.1 bt385.2.2.2.1 bt399.1 bt399.2.1 bt399.2.2.1 bt399.2.2.2.1) else (laws_FnExactTableByPeeling.j0 k a0 l1 l2 a3 a4 bt385.2.2.2.2 t393 t396 bt399.2.2.2.2 true bt385.1 bt385.2.1 bt385.2.2.1 bt385.2.2.2.1 bt399.1 bt399.2.1 bt399.2.2.1 bt399.2.2.2.1)))))))))))) = some r := h
 clear h
 by_cases c6 : (l2.length : Int) > 1048576
 ·
  rw [if_pos c6] at H
  have c6b0 : decide (1048576 < (l2.length : Int)) = true := decide_eq_true c6
  have c6b1 : decide (1048576 < l2.length) = true := decide_eq_true (by omega)
  clear c6
  obtain rfl := Option.some.inj H
  go_enter Try.func4, Try.ntmps4
  go_wp2
  go_ret
  exact ⟨by first | rfl | (simp [errW_none, errW_some] <;> rfl) | (simp [*, errW_none, errW_some] <;> rfl), uB HB⟩
 ·
  rw [if_neg c6] at H
  have c6b0 : decide (1048576 < (l2.length : Int)) = false := decide_eq_false c6
  have c6b1 : decide (1048576 < l2.length) = false := decide_eq_false (by omega)
  clear c6
  replace H := Option.bind_eq_some_iff.mp H
  obtain ⟨t378, A70, H⟩ := H
  replace H : (if t378 < 0 then (some true) else ((laws_toStringS.f k l1).bind fun t379 => ((laws_toIntS.f k l2).bind fun t382 => ((spec_TableByPeeling.f k a0 t379 t382 a3 a4).bind fun bt385 => ((laws_toStringS.f k l1).bind fun t393 => ((laws_toIntS.f k l2).bind fun t396 => ((impl_TableByPeeling.f k a0 t393 t396 a3 a4).bind fun bt399 => ((laws_eqTable.f k bt399.1 bt399.2.1 bt399.2.2.1 bt399.2.2.2.1 bt385.1 bt385.2.1 bt385.2.2.1 bt385.2.2.2.1).bind fun t407 => (if t407 = true then (laws_FnExactTableByPeeling.j0 k a0 l1 l2 a3 a4 bt385.2.2.2.2 t393 t396 bt399.2.2.2.2 (bt399.2.2.2.2 != bt385.2.2.2.2) bt385.1 bt385.2.1 bt385.2.2.1 bt385.2.2.2.1 bt399.1 bt399.2.1 bt399.2.2.1 bt399.2.2.2.1) else (laws_FnExactTableByPeeling.j0 k a0 l1 l2 a3 a4 bt385.2.2.2.2 t393 t396 bt399.2.2.2.2 true bt385.1 bt385.2.1 bt385.2.2.1 bt385.2.2.2.1 bt399.1 bt399.2.1 bt399.2.2.1 bt399.2.2.2.1)))))))))) = some r := H
  have A7 := Aside0.mk A70
  clear A70
  by_cases c8 : t378 < 0
  ·
   rw [if_pos c8] at H
   have c8b0 : decide (t378 < 0) = true := decide_eq_true c8
   clear c8
   obtain rfl := Option.some.inj H
   go_enter Try.func4, Try.ntmps4
   go_wp2_with (first | ((with_reducible refine gate_callee (f := 7) rfl ?_); refine goesL_ (some 28) rfl rfl Try.func7 (by kernel_rfl) rfl #[.slice A1 l1.length c1, .int .i64 1048576] rfl (by (try simp only [List.map_toArray, List.map_cons, List.map_nil]); first | done | rfl | (simp only [List.length_drop, List.length_take]; rfl)) ?_; (with_reducible refine (laws_szStringS.calls k _ _ l1 1048576 t378 _ ?side1 ?side2 A7.out).mono ?_); (case side1 => repeat (first | exact HR1.out | (with_reducible refine Kd.C_alloc ?_ _) | (with_reducible refine Kd.C_drewN ?_ _) | (with_reducible refine Kd.C_drew ?_))); (case side2 => exact HC1.out); rintro e w' ⟨rfl, ⟨nd, rfl⟩⟩; refine ⟨_, rfl, ?_⟩))
   go_ret
   exact ⟨by first | rfl | (simp [errW_none, errW_some] <;> rfl) | (simp [*, errW_none, errW_some] <;> rfl), uB HB⟩
  ·
   rw [if_neg c8] at H
   have c8b0 : decide (t378 < 0) = false := decide_eq_false c8
   clear c8
   replace H := Option.bind_eq_some_iff.mp H
   obtain ⟨t379, A90, H⟩ := H
   replace H : ((laws_toIntS.f k l2).bind fun t382 => ((spec_TableByPeeling.f k a0 t379 t382 a3 a4).bind fun bt385 => ((laws_toStringS.f k l1).bind fun t393 => ((laws_toIntS.f k l2).bind fun t396 => ((impl_TableByPeeling.f k a0 t393 t396 a3 a4).bind fun bt399 => ((laws_eqTable.f k bt399.1 bt399.2.1 bt399.2.2.1 bt399.2.2.2.1 bt385.1 bt385.2.1 bt385.2.2.1 bt385.2.2.2.1).bind fun t407 => (if t407 = true then (laws_FnExactTableByPeeling.j0 k a0 l1 l2 a3 a4 bt385.2.2.2.2 t393 t396 bt399.2.2.2.2 (bt399.2.2.2.2 != bt385.2.2.2.2) bt385.1 bt385.2.1 bt385.2.2.1 bt385.2.2.2.1 bt399.1 bt399.2.1 bt399.2.2.1 bt399.2.2.2.1) else (laws_FnExactTableByPeeling.j0 k a0 l1 l2 a3 a4 bt385.2.2.2.2 t393 t396 bt399.2.2.2.2 true bt385.1 bt385.2.1 bt385.2.2.1 bt385.2.2.2.1 bt399.1 bt399.2.1 bt399.2.2.1 bt399.2.2.2.1)))))))) = some r := H
   have A9 := Aside0.mk A90
   clear A90
   replace H := Option.bind_eq_some_iff.mp H
   obtain ⟨t382, A100, H⟩ := H
   replace H : ((spec_TableByPeeling.f k a0 t379 t382 a3 a4).bind fun bt385 => ((laws_toStringS.f k l1).bind fun t393 => ((laws_toIntS.f k l2).bind fun t396 => ((impl_TableByPeeling.f k a0 t393 t396 a3 a4).bind fun bt399 => ((laws_eqTable.f k bt399.1 bt399.2.1 bt399.2.2.1 bt399.2.2.2.1 bt385.1 bt385.2.1 bt385.2.2.1 bt385.2.2.2.1).bind fun t407 => (if t407 = true then (laws_FnExactTableByPeeling.j0 k a0 l1 l2 a3 a4 bt385.2.2.2.2 t393 t396 bt399.2.2.2.2 (bt399.2.2.2.2 != bt385.2.2.2.2) bt385.1 bt385.2.1 bt385.2.2.1 bt385.2.2.2.1 bt399.1 bt399.2.1 bt399.2.2.1 bt399.2.2.2.1) else (laws_FnExactTableByPeeling.j0 k a0 l1 l2 a3 a4 bt385.2.2.2.2 t393 t396 bt399.2.2.2.2 true bt385.1 bt385.2.1 bt385.2.2.1 bt385.2.2.2.1 bt399.1 bt399.2.1 bt399.2.2.1 bt399.2.2.2.1))))))) = some r := H
   have A10 := Aside0.mk A100
   clear A100
   replace H := Option.bind_eq_some_iff.mp H
   obtain ⟨⟨t385, t386, t387, t388, t391⟩, A110, H⟩ := H
   replace H : ((laws_toStringS.f k l1).bind fun t393 => ((laws_toIntS.f k l2).bind fun t396 => ((impl_TableByPeeling.f k a0 t393 t396 a3 a4).bind fun bt399 => ((laws_eqTable.f k bt399.1 bt399.2.1 bt399.2.2.1 bt399.2.2.2.1 t385 t386 t387 t388).bind fun t407 => (if t407 = true then (laws_FnExactTableByPeeling.j0 k a0 l1 l2 a3 a4 t391 t393 t396 bt399.2.2.2.2 (bt399.2.2.2.2 != t391) t385 t386 t387 t388 bt399.1 bt399.2.1 bt399.2.2.1 bt399.2.2.2.1) else (laws_FnExactTableByPeeling.j0 k a0 l1 l2 a3 a4 t391 t393 t396 bt399.2.2.2.2 true t385 t386 t387 t388 bt399.1 bt399.2.1 bt399.2.2.1 bt399.2.2.2.1)))))) = some r := H
   have A11 := Aside0.mk A110
   clear A110
   replace H := Option.bind_eq_some_iff.mp H
   obtain ⟨t393, A120, H⟩ := H
   replace H : ((laws_toIntS.f k l2).bind fun t396 => ((impl_TableByPeeling.f k a0 t393 t396 a3 a4).bind fun bt399 => ((laws_eqTable.f k bt399.1 bt399.2.1 bt399.2.2.1 bt399.2.2.2.1 t385 t386 t387 t388).bind fun t407 => (if t407 = true then (laws_FnExactTableByPeeling.j0 k a0 l1 l2 a3 a4 t391 t393 t396 bt399.2.2.2.2 (bt399.2.2.2.2 != t391) t385 t386 t387 t388 bt399.1 bt399.2.1 bt399.2.2.1 bt399.2.2.2.1) else (laws_FnExactTableByPeeling.j0 k a0 l1 l2 a3 a4 t391 t393 t396 bt399.2.2.2.2 true t385 t386 t387 t388 bt399.1 bt399.2.1 bt399.2.2.1 bt399.2.2.2.1))))) = some r := H
   have A12 := Aside0.mk A120
   clear A120
   replace H := Option.bind_eq_some_iff.mp H
   obtain ⟨t396, A130, H⟩ := H
   replace H : ((impl_TableByPeeling.f k a0 t393 t396 a3 a4).bind fun bt399 => ((laws_eqTable.f k bt399.1 bt399.2.1 bt399.2.2.1 bt399.2.2.2.1 t385 t386 t387 t388).bind fun t407 => (if t407 = true then (laws_FnExactTableByPeeling.j0 k a0 l1 l2 a3 a4 t391 t393 t396 bt399.2.2.2.2 (bt399.2.2.2.2 != t391) t385 t386 t387 t388 bt399.1 bt399.2.1 bt399.2.2.1 bt399.2.2.2.1) else (laws_FnExactTableByPeeling.j0 k a0 l1 l2 a3 a4 t391 t393 t396 bt399.2.2.2.2 true t385 t386 t387 t388 bt399.1 bt399.2.1 bt399.2.2.1 bt399.2.2.2.1)))) = some r := H
   have A13 := Aside0.mk A130
   clear A130
   replace H := Option.bind_eq_some_iff.mp H
   obtain ⟨⟨t399, t400, t401, t402, t405⟩, A140, H⟩ := H
   replace H : ((laws_eqTable.f k t399 t400 t401 t402 t385 t386 t387 t388).bind fun t407 => (if t407 = true then (laws_FnExactTableByPeeling.j0 k a0 l1 l2 a3 a4 t391 t393 t396 t405 (t405 != t391) t385 t386 t387 t388 t399 t400 t401 t402) else (laws_FnExactTableByPeeling.j0 k a0 l1 l2 a3 a4 t391 t393 t396 t405 true t385 t386 t387 t388 t399 t400 t401 t402))) = some r := H
   have A14 := Aside0.mk A140
   clear A140
   have HC15 := Aside0.mk H
   clear H
   go_enter Try.func4, Try.ntmps4
   go_upto_region 11 with (first | ((with_reducible refine gate_callee (f := 7) rfl ?_); refine goesL_ (some 28) rfl rfl Try.func7 (by kernel_rfl) rfl #[.slice A1 l1.length c1, .int .i64 1048576] rfl (by (try simp only [List.map_toArray, List.map_cons, List.map_nil]); first | done | rfl | (simp only [List.length_drop, List.length_take]; rfl)) ?_; (with_reducible refine (laws_szStringS.calls k _ _ l1 1048576 t378 _ ?side1 ?side2 A7.out).mono ?_); (case side1 => repeat (first | exact HR1.out | (with_reducible refine Kd.C_alloc ?_ _) | (with_reducible refine Kd.C_drewN ?_ _) | (with_reducible refine Kd.C_drew ?_))); (case side2 => exact HC1.out); rintro e w' ⟨rfl, ⟨nd, rfl⟩⟩; refine ⟨_, rfl, ?_⟩) | ((with_reducible refine gate_callee (f := 9) rfl ?_); refine goesL_ (some 34) rfl rfl Try.func9 (by kernel_rfl) rfl #[.slice A1 l1.length c1] rfl (by (try simp only [List.map_toArray, List.map_cons, List.map_nil]); first | done | rfl | (simp only [List.length_drop, List.length_take]; rfl)) ?_; (with_reducible refine (laws_toStringS.calls k _ _ l1 t379 _ ?side1 ?side2 A9.out).mono ?_); (case side1 => repeat (first | exact HR1.out | (with_reducible refine Kd.C_alloc ?_ _) | (with_reducible refine Kd.C_drewN ?_ _) | (with_reducible refine Kd.C_drew ?_))); (case side2 => exact HC1.out); rintro e w16 ⟨v380, rfl, ho0, hb⟩; refine ⟨_, rfl, ?_⟩; have n0_ := Aside0.mk (Kd.R_lower ho0 (below_size (uB HB))); have n1_ := Aside0.mk (below_step (uB HB) hb); clear HB; have HO381 := n0_; have HB := n1_; clear n0_ n1_; (try clear hb); (try clear hb2); (try clear hk); (try clear hi); (try clear ho0)) | ((with_reducible refine gate_callee (f := 17) rfl ?_); refine goesL_ (some 36) rfl rfl Try.func17 (by kernel_rfl) rfl #[.slice A2 l2.length c2] rfl (by (try simp only [List.map_toArray, List.map_cons, List.map_nil]); first | done | rfl | (simp only [List.length_drop, List.length_take]; rfl)) ?_; (with_reducible refine (laws_toIntS.calls k _ _ l2 t382 _ ?side1 ?side2 A10.out).mono ?_); (case side1 => exact uC HR2 HB); (case side2 => exact HC2.out); rintro e w17 ⟨v383, rfl, ho0, hb⟩; refine ⟨_, rfl, ?_⟩; have n0_ := Aside0.mk (Kd.R_below (uR HO381) hb); have n1_ := Aside0.mk (Kd.R_lower ho0 (below_size (uB HB))); have n2_ := Aside0.mk (below_step (uB HB) hb); clear HO381 HB; have HO381 := n0_; have HO384 := n1_; have HB := n2_; clear n0_ n1_ n2_; (try clear hb); (try clear hb2); (try clear hk); (try clear hi); (try clear ho0); obtain ⟨Ao18, co18, eo18⟩ := Kd.R_slice HO381.out; subst eo18; obtain ⟨Ao19, co19, eo19⟩ := Kd.R_slice HO384.out; subst eo19) | ((with_reducible refine gate_callee (f := 16) rfl ?_); refine goesL_ (some 39) rfl rfl Try.func16 (by kernel_rfl) rfl #[.int .i64 a0, .slice Ao18 t379.length co18, .slice Ao19 t382.length co19, .int .i64 a3, .int .i64 a4] rfl (by (try simp only [List.map_toArray, List.map_cons, List.map_nil]); first | done | rfl | (simp only [List.length_drop, List.length_take]; rfl)) ?_; (with_reducible refine (spec_TableByPeeling.calls k a0 _ _ t379 _ _ t382 a3 a4 t385 t386 t387 t388 t391 _ ?side1 ?side2 ?side3 ?side4 A11.out).mono ?_); (case side1 => exact uD HO381); (case side2 => exact (Kd.R_reads' HO381.out).2.1); (case side3 => exact uD HO384); (case side4 => exact (Kd.R_reads' HO384.out).2.1); rintro e w20 ⟨v389, rfl, ho0, hb⟩; refine ⟨_, rfl, ?_⟩; have n0_ := Aside0.mk (Kd.R_below (uR HO381) hb); have n1_ := Aside0.mk (Kd.R_elder' (uR HO384) (Kd.R_base ho0) hb); have n2_ := Aside0.mk (Kd.R_lower (Kd.R_new' ho0 (Kd.R_lt (uR HO384))) (below_size (uB HB))); have n3_ := Aside0.mk (below_step (uB HB) hb); clear HO381 HO384 HB; have HO381 := n0_; have HO384 := n1_; have HO390 := n2_; have HB := n3_; clear n0_ n1_ n2_ n3_; (try clear hb); (try clear hb2); (try clear hk); (try clear hi); (try clear ho0)) | ((with_reducible refine gate_dst (N := 12) rfl ?_); refine box_event ?hg (N := 12) ?hd (cs := #[.int .i64 0, .int .i64 0, .int .i64 0, .slice none 0 0]) (t := 35) ?hr ?_; (case hd => rfl); (case hg => rfl); (case hr => first | (go_simp; done) | (go_simp; rfl)); intro gb392 hg w21 hbox hb; have n0_ := Aside0.mk (Kd.R_below (uR HO381) hb); have n1_ := Aside0.mk (Kd.R_below (uR HO384) hb); have n2_ := Aside0.mk (Kd.R_below (uR HO390) hb); have n3_ := Aside0.mk (below_step (uB HB) hb); have n4_ := Aside0.mk (hbox); have n5_ := Aside0.mk ((by rw [hg]; exact (below_size (uB HB)) : w.heap.size ≤ gb392)); have n6_ := Aside0.mk ((by rw [hg]; exact (below_size (uB HB)) : w.heap.size ≤ gb392)); clear HO381 HO384 HO390 HB; have HO381 := n0_; have HO384 := n1_; have HO390 := n2_; have HB := n3_; have BK392 := n4_; have GW392 := n5_; have GE392 := n6_; clear n0_ n1_ n2_ n3_ n4_ n5_ n6_ hb hbox hg; have hcz22_0 : w21.cell? ⟨gb392, 0, none⟩ = some (.int .i64 0) := (blk_cell BK392.out 0).trans rfl; have hcz22_1 : w21.cell? ⟨gb392, 1, none⟩ = some (.int .i64 0) := (blk_cell BK392.out 1).trans rfl; have hcz22_2 : w21.cell? ⟨gb392, 2, none⟩ = some (.int .i64 0) := (blk_cell BK392.out 2).trans rfl; have hcz22_3 : w21.cell? ⟨gb392, 3, none⟩ = some (.slice none 0 0) := (blk_cell BK392.out 3).trans rfl; have hfz22_0 := blk_frozen BK392.out 0; have hfz22_1 := blk_frozen BK392.out 1; have hfz22_2 := blk_frozen BK392.out 2; have hfz22_3 := blk_frozen BK392.out 3; obtain ⟨Ao23, co23, eo23⟩ := Kd.R_slice HO390.out; subst eo23) | ((with_reducible refine gate_callee (f := 9) rfl ?_); refine goesL_ (some 43) rfl rfl Try.func9 (by kernel_rfl) rfl #[.slice A1 l1.length c1] rfl (by (try simp only [List.map_toArray, List.map_cons, List.map_nil]); first | done | rfl | (simp only [List.length_drop, List.length_take]; rfl)) ?_; (with_reducible refine (laws_toStringS.calls k _ _ l1 t393 _ ?side1 ?side2 A12.out).mono ?_); (case side1 => exact Kd.C_below HR1.out (by first | exact uB HB | exact uS HB (gC GE392 gN))); (case side2 => exact HC1.out); rintro e w24 ⟨v394, rfl, ho0, hb⟩; refine ⟨_, rfl, ?_⟩; have n0_ := Aside0.mk (Kd.R_elder' (by (with_reducible repeat (first | apply Kd.R_alloc | apply Kd.R_drewN | apply Kd.R_drew)); exact (Kd.R_mono (Kd.R_far (p := ⟨gb392, 3, none⟩) (Kd.R_far (p := ⟨gb392, 2, none⟩) (Kd.R_far (p := ⟨gb392, 1, none⟩) (Kd.R_far (p := ⟨gb392, 0, none⟩) (Kd.R_types HO381.out BK392.out (by decide)) (fun _ hk => hk.2) (.int .i64 t385)) (fun _ hk => hk.2) (.int .i64 t386)) (fun _ hk => hk.2) (.int .i64 t387)) (fun _ hk => hk.2) (.slice Ao23 t388.length co23)) (fun _ h_ => h_.1))) (Kd.R_base ho0) hb); have n1_ := Aside0.mk (Kd.R_below (by (with_reducible repeat (first | apply Kd.R_alloc | apply Kd.R_drewN | apply Kd.R_drew)); exact (Kd.R_mono (Kd.R_far (p := ⟨gb392, 3, none⟩) (Kd.R_far (p := ⟨gb392, 2, none⟩) (Kd.R_far (p := ⟨gb392, 1, none⟩) (Kd.R_far (p := ⟨gb392, 0, none⟩) (Kd.R_types HO384.out BK392.out (by decide)) (fun _ hk => hk.2) (.int .i64 t385)) (fun _ hk => hk.2) (.int .i64 t386)) (fun _ hk => hk.2) (.int .i64 t387)) (fun _ hk => hk.2) (.slice Ao23 t388.length co23)) (fun _ h_ => h_.1))) hb); have n2_ := Aside0.mk (Kd.R_below (by (with_reducible repeat (first | apply Kd.R_alloc | apply Kd.R_drewN | apply Kd.R_drew)); exact (Kd.R_mono (Kd.R_far (p := ⟨gb392, 3, none⟩) (Kd.R_far (p := ⟨gb392, 2, none⟩) (Kd.R_far (p := ⟨gb392, 1, none⟩) (Kd.R_far (p := ⟨gb392, 0, none⟩) (Kd.R_types HO390.out BK392.out (by decide)) (fun _ hk => hk.2) (.int .i64 t385)) (fun _ hk => hk.2) (.int .i64 t386)) (fun _ hk => hk.2) (.int .i64 t387)) (fun _ hk => hk.2) (.slice Ao23 t388.length co23)) (fun _ h_ => h_.1))) hb); have n3_ := Aside0.mk (Kd.R_lower (Kd.R_new' ho0 (Kd.R_lt (by (with_reducible repeat (first | apply Kd.R_alloc | apply Kd.R_drewN | apply Kd.R_drew)); exact (Kd.R_mono (Kd.R_far (p := ⟨gb392, 3, none⟩) (Kd.R_far (p := ⟨gb392, 2, none⟩) (Kd.R_far (p := ⟨gb392, 1, none⟩) (Kd.R_far (p := ⟨gb392, 0, none⟩) (Kd.R_types HO381.out BK392.out (by decide)) (fun _ hk => hk.2) (.int .i64 t385)) (fun _ hk => hk.2) (.int .i64 t386)) (fun _ hk => hk.2) (.int .i64 t387)) (fun _ hk => hk.2) (.slice Ao23 t388.length co23)) (fun _ h_ => h_.1))))) (below_size (by first | exact uB HB | exact uS HB (gC GE392 gN)))); have n4_ := Aside0.mk (blk_below (g := gb392) (o := .cells #[.int .i64 t385, .int .i64 t386, .int .i64 t387, .slice Ao23 t388.length co23] 35 (0, 0)) (by refine uW ?_; refine blk_put (cs := #[.int .i64 t385, .int .i64 t386, .int .i64 t387, .slice none 0 0]) ?_ 3 _ rfl; refine uW ?_; refine blk_put (cs := #[.int .i64 t385, .int .i64 t386, .int .i64 0, .slice none 0 0]) ?_ 2 _ rfl; refine uW ?_; refine blk_put (cs := #[.int .i64 t385, .int .i64 0, .int .i64 0, .slice none 0 0]) ?_ 1 _ rfl; refine uW ?_; refine blk_put (cs := #[.int .i64 0, .int .i64 0, .int .i64 0, .slice none 0 0]) ?_ 0 _ rfl; refine uW ?_; exact BK392.out) hb); have n5_ := Aside0.mk (below_step (by first | exact uB HB | exact uS HB (gC GE392 gN)) hb); clear HO381 HO384 HO390 BK392 HB; have HO381 := n0_; have HO384 := n1_; have HO390 := n2_; have HO395 := n3_; have BK392 := n4_; have HB := n5_; clear n0_ n1_ n2_ n3_ n4_ n5_; (try clear hb); (try clear hb2); (try clear hk); (try clear hi); (try clear ho0)) | ((with_reducible refine gate_callee (f := 17) rfl ?_); refine goesL_ (some 45) rfl rfl Try.func17 (by kernel_rfl) rfl #[.slice A2 l2.length c2] rfl (by (try simp only [List.map_toArray, List.map_cons, List.map_nil]); first | done | rfl | (simp only [List.length_drop, List.length_take]; rfl)) ?_; (with_reducible refine (laws_toIntS.calls k _ _ l2 t396 _ ?side1 ?side2 A13.out).mono ?_); (case side1 => exact uC HR2 HB); (case side2 => exact HC2.out); rintro e w25 ⟨v397, rfl, ho0, hb⟩; refine ⟨_, rfl, ?_⟩; have n0_ := Aside0.mk (Kd.R_below (uR HO381) hb); have n1_ := Aside0.mk (Kd.R_elder' (uR HO384) (Kd.R_base ho0) hb); have n2_ := Aside0.mk (Kd.R_elder' (uR HO390) (Kd.R_base ho0) hb); have n3_ := Aside0.mk (Kd.R_below (uR HO395) hb); have n4_ := Aside0.mk (Kd.R_lower (Kd.R_new' (Kd.R_new' ho0 (Kd.R_lt (uR HO384))) (Kd.R_lt (uR HO390))) (below_size (by first | exact uB HB | exact uS HB (gC GE392 gN)))); have n5_ := Aside0.mk (blk_below (g := gb392) (o := .cells #[.int .i64 t385, .int .i64 t386, .int .i64 t387, .slice Ao23 t388.length co23] 35 (0, 0)) (uK BK392) hb); have n6_ := Aside0.mk (below_step (by first | exact uB HB | exact uS HB (gC GE392 gN)) hb); clear HO381 HO384 HO390 HO395 BK392 HB; have HO381 := n0_; have HO384 := n1_; have HO390 := n2_; have HO395 := n3_; have HO398 := n4_; have BK392 := n5_; have HB := n6_; clear n0_ n1_ n2_ n3_ n4_ n5_ n6_; (try clear hb); (try clear hb2); (try clear hk); (try clear hi); (try clear ho0); obtain ⟨Ao26, co26, eo26⟩ := Kd.R_slice HO395.out; subst eo26; obtain ⟨Ao27, co27, eo27⟩ := Kd.R_slice HO398.out; subst eo27) | ((with_reducible refine gate_callee (f := 18) rfl ?_); refine goesL_ (some 52) rfl rfl Try.func18 (by kernel_rfl) rfl #[.int .i64 a0, .slice Ao26 t393.length co26, .slice Ao27 t396.length co27, .int .i64 a3, .int .i64 a4] rfl (by (try simp only [List.map_toArray, List.map_cons, List.map_nil]); first | done | rfl | (simp only [List.length_drop, List.length_take]; rfl)) ?_; (with_reducible refine (impl_TableByPeeling.calls k a0 _ _ t393 _ _ t396 a3 a4 t399 t400 t401 t402 t405 _ ?side1 ?side2 ?side3 ?side4 A14.out).mono ?_); (case side1 => exact uD HO395); (case side2 => exact (Kd.R_reads' HO395.out).2.1); (case side3 => exact uD HO398); (case side4 => exact (Kd.R_reads' HO398.out).2.1); rintro e w28 ⟨v403, rfl, ho0, hb⟩; refine ⟨_, rfl, ?_⟩; have n0_ := Aside0.mk (Kd.R_below (uR HO381) hb); have n1_ := Aside0.mk (Kd.R_elder' (uR HO384) (Kd.R_base ho0) hb); have n2_ := Aside0.mk (Kd.R_elder' (uR HO390) (Kd.R_base ho0) hb); have n3_ := Aside0.mk (Kd.R_below (uR HO395) hb); have n4_ := Aside0.mk (Kd.R_elder' (uR HO398) (Kd.R_base ho0) hb); have n5_ := Aside0.mk (Kd.R_lower (Kd.R_new' (Kd.R_new' (Kd.R_new' ho0 (Kd.R_lt (uR HO384))) (Kd.R_lt (uR HO390))) (Kd.R_lt (uR HO398))) (below_size (by first | exact uB HB | exact uS HB (gC GE392 gN)))); have n6_ := Aside0.mk (blk_below (g := gb392) (o := .cells #[.int .i64 t385, .int .i64 t386, .int .i64 t387, .slice Ao23 t388.length co23] 35 (0, 0)) (uK BK392) hb); have n7_ := Aside0.mk (below_step (by first | exact uB HB | exact uS HB (gC GE392 gN)) hb); clear HO381 HO384 HO390 HO395 HO398 BK392 HB; have HO381 := n0_; have HO384 := n1_; have HO390 := n2_; have HO395 := n3_; have HO398 := n4_; have HO404 := n5_; have BK392 := n6_; have HB := n7_; clear n0_ n1_ n2_ n3_ n4_ n5_ n6_ n7_; (try clear hb); (try clear hb2); (try clear hk); (try clear hi); (try clear ho0)) | ((with_reducible refine gate_dst (N := 16) rfl ?_); refine box_event ?hg (N := 16) ?hd (cs := #[.int .i64 0, .int .i64 0, .int .i64 0, .slice none 0 0]) (t := 35) ?hr ?_; (case hd => rfl); (case hg => rfl); (case hr => first | (go_simp; done) | (go_simp; rfl)); intro gb406 hg w29 hbox hb; have n0_ := Aside0.mk (Kd.R_below (uR HO381) hb); have n1_ := Aside0.mk (Kd.R_below (uR HO384) hb); have n2_ := Aside0.mk (Kd.R_below (uR HO390) hb); have n3_ := Aside0.mk (Kd.R_below (uR HO395) hb); have n4_ := Aside0.mk (Kd.R_below (uR HO398) hb); have n5_ := Aside0.mk (Kd.R_below (uR HO404) hb); have n6_ := Aside0.mk (blk_below (g := gb392) (o := .cells #[.int .i64 t385, .int .i64 t386, .int .i64 t387, .slice Ao23 t388.length co23] 35 (0, 0)) (uK BK392) hb); have n7_ := Aside0.mk (below_step (by first | exact uB HB | exact uS HB (gC GE392 gN)) hb); have n8_ := Aside0.mk (hbox); have n9_ := Aside0.mk ((by rw [hg]; exact (below_size (by first | exact uB HB | exact uS HB (gC GE392 gN))) : w.heap.size ≤ gb406)); have n10_ := Aside0.mk ((by rw [hg]; exact (below_size (by first | exact uB HB | exact uS HB (gC GE392 gN))) : w.heap.size ≤ gb406)); have n11_ := Aside0.mk ((by rw [hg]; exact Nat.ne_of_lt (blk_lt (g := gb392) (o := .cells #[.int .i64 t385, .int .i64 t386, .int .i64 t387, .slice Ao23 t388.length co23] 35 (0, 0)) (uK BK392)) : gb392 ≠ gb406)); have n12_ := Aside0.mk ((by rw [hg]; exact Nat.ne_of_gt (blk_lt (g := gb392) (o := .cells #[.int .i64 t385, .int .i64 t386, .int .i64 t387, .slice Ao23 t388.length co23] 35 (0, 0)) (uK BK392)) : gb406 ≠ gb392)); clear HO381 HO384 HO390 HO395 HO398 HO404 BK392 HB; have HO381 := n0_; have HO384 := n1_; have HO390 := n2_; have HO395 := n3_; have HO398 := n4_; have HO404 := n5_; have BK392 := n6_; have HB := n7_; have BK406 := n8_; have GW406 := n9_; have GE406 := n10_; have NB392_406 := n11_; have NB406_392 := n12_; clear n0_ n1_ n2_ n3_ n4_ n5_ n6_ n7_ n8_ n9_ n10_ n11_ n12_ hb hbox hg; have hnb30 := NB406_392.out; have hnc30 := NB392_406.out; have hcz31_0 : w29.cell? ⟨gb406, 0, none⟩ = some (.int .i64 0) := (blk_cell BK406.out 0).trans rfl; have hcz31_1 : w29.cell? ⟨gb406, 1, none⟩ = some (.int .i64 0) := (blk_cell BK406.out 1).trans rfl; have hcz31_2 : w29.cell? ⟨gb406, 2, none⟩ = some (.int .i64 0) := (blk_cell BK406.out 2).trans rfl; have hcz31_3 : w29.cell? ⟨gb406, 3, none⟩ = some (.slice none 0 0) := (blk_cell BK406.out 3).trans rfl; have hfz31_0 := blk_frozen BK406.out 0; have hfz31_1 := blk_frozen BK406.out 1; have hfz31_2 := blk_frozen BK406.out 2; have hfz31_3 := blk_frozen BK406.out 3; obtain ⟨Ao32, co32, eo32⟩ := Kd.R_slice HO404.out; subst eo32))
   (try simp only [Act.put, List.setIfInBounds_toArray, List.set_cons_zero, List.set_cons_succ])
   go_cut [63] (fun v63 wc => ∃ (kq : Nat) (x63_14 : Bool), v63 = .bool x63_14 ∧ Aside0 (laws_FnExactTableByPeeling.j0 kq a0 l1 l2 a3 a4 t391 t393 t396 t405 x63_14 t385 t386 t387 t388 t399 t400 t401 t402 = some r) ∧ Aside0 (kq ≤ k) ∧ Aside0 (Kd.R Kd.string 9 wc w.heap.size (fun _ => True) (.slice Ao26 t393.length co26) t393) ∧ Aside0 (Kd.R (Kd.int .i64) 3 wc w.heap.size (fun k_ => some k_ ≠ ((.slice Ao23 t388.length co23) : Value).ownBlock ∧ some k_ ≠ ((.slice Ao32 t402.length co32) : Value).ownBlock) (.slice Ao27 t396.length co27) t396) ∧ Aside0 (Kd.R (Kd.int .i64) 3 wc w.heap.size (fun k_ => some k_ ≠ ((.slice Ao27 t396.length co27) : Value).ownBlock ∧ some k_ ≠ ((.slice Ao32 t402.length co32) : Value).ownBlock) (.slice Ao23 t388.length co23) t388) ∧ Aside0 (Kd.R (Kd.int .i64) 3 wc w.heap.size (fun k_ => some k_ ≠ ((.slice Ao27 t396.length co27) : Value).ownBlock ∧ some k_ ≠ ((.slice Ao23 t388.length co23) : Value).ownBlock) (.slice Ao32 t402.length co32) t402) ∧ Aside0 (wc.heap[gb392]? = some (.cells #[.int .i64 t385, .int .i64 t386, .int .i64 t387, (.slice Ao23 t388.length co23)] 35 (0, 0))) ∧ Aside0 (wc.heap[gb406]? = some (.cells #[.int .i64 t399, .int .i64 t400, .int .i64 t401, (.slice Ao32 t402.length co32)] 35 (0, 0))) ∧ Aside0 (Below w.heap.size w wc))
   case first =>
    have H := HC15.out
    clear HC15
    replace H := Option.bind_eq_some_iff.mp H
    obtain ⟨t407, A330, H⟩ := H
    replace H : (if t407 = true then (laws_FnExactTableByPeeling.j0 k a0 l1 l2 a3 a4 t391 t393 t396 t405 (t405 != t391) t385 t386 t387 t388 t399 t400 t401 t402) else (laws_FnExactTableByPeeling.j0 k a0 l1 l2 a3 a4 t391 t393 t396 t405 true t385 t386 t387 t388 t399 t400 t401 t402)) = some r := H
    have A33 := Aside0.mk A330
    clear A330
    by_cases c34 : t407 = true
    ·
     subst c34
     have H1 : (laws_FnExactTableByPeeling.j0 k a0 l1 l2 a3 a4 t391 t393 t396 t405 (t405 != t391) t385 t386 t387 t388 t399 t400 t401 t402) = some r := by rw [if_pos rfl] at H; exact H
     clear H
     have H := H1
     clear H1
     have H' := Aside0.mk H
     clear H
     have hnb35 := NB406_392.out
     have hnc35 := NB392_406.out
     have hcz36_0 : w29.cell? ⟨gb406, 0, none⟩ = some (.int .i64 0) := (blk_cell BK406.out 0).trans rfl
     have hcz36_1 : w29.cell? ⟨gb406, 1, none⟩ = some (.int .i64 0) := (blk_cell BK406.out 1).trans rfl
     have hcz36_2 : w29.cell? ⟨gb406, 2, none⟩ = some (.int .i64 0) := (blk_cell BK406.out 2).trans rfl
     have hcz36_3 : w29.cell? ⟨gb406, 3, none⟩ = some (.slice none 0 0) := (blk_cell BK406.out 3).trans rfl
     have hfz36_0 := blk_frozen BK406.out 0
     have hfz36_1 := blk_frozen BK406.out 1
     have hfz36_2 := blk_frozen BK406.out 2
     have hfz36_3 := blk_frozen BK406.out 3
     have hcz37_0 : w29.cell? ⟨gb392, 0, none⟩ = some (.int .i64 t385) := (blk_cell BK392.out 0).trans rfl
     have hcz37_1 : w29.cell? ⟨gb392, 1, none⟩ = some (.int .i64 t386) := (blk_cell BK392.out 1).trans rfl
     have hcz37_2 : w29.cell? ⟨gb392, 2, none⟩ = some (.int .i64 t387) := (blk_cell BK392.out 2).trans rfl
     have hcz37_3 : w29.cell? ⟨gb392, 3, none⟩ = some (.slice Ao23 t388.length co23) := (blk_cell BK392.out 3).trans rfl
     have hfz37_0 := blk_frozen BK392.out 0
     have hfz37_1 := blk_frozen BK392.out 1
     have hfz37_2 := blk_frozen BK392.out 2
     have hfz37_3 := blk_frozen BK392.out 3
     go_wp2_with (first | ((with_reducible refine gate_callee (f := 19) rfl ?_); refine goesL_ (some 57) rfl rfl Try.func19 (by kernel_rfl) rfl #[.agg #[.int .i64 t399, .int .i64 t400, .int .i64 t401, .slice Ao32 t402.length co32], .agg #[.int .i64 t385, .int .i64 t386, .int .i64 t387, .slice Ao23 t388.length co23]] rfl (by (try simp only [List.map_toArray, List.map_cons, List.map_nil]); first | done | rfl | (simp only [List.length_drop, List.length_take]; rfl)) ?_; (with_reducible refine (laws_eqTable.calls k t399 t400 t401 _ _ t402 t385 t386 t387 _ _ t388 true _ ?side1 ?side2 ?side3 ?side4 A33.out).mono ?_); (case side1 => refine (Kd.R_reads' (e := 3) (base := w.heap.size) (ok := fun k_ => (((True ∧ some k_ ≠ (.slice Ao19 t382.length co19 : Value).ownBlock) ∧ some k_ ≠ (.slice Ao23 t388.length co23 : Value).ownBlock) ∧ some k_ ≠ (.slice Ao27 t396.length co27 : Value).ownBlock)) (n := t402.length) (c := co32) ?_).2.2; exact (by (with_reducible repeat (first | apply Kd.R_alloc | apply Kd.R_drewN | apply Kd.R_drew)); exact (Kd.R_mono (Kd.R_far (p := ⟨gb406, 3, none⟩) (Kd.R_far (p := ⟨gb406, 2, none⟩) (Kd.R_far (p := ⟨gb406, 1, none⟩) (Kd.R_far (p := ⟨gb406, 0, none⟩) (Kd.R_types HO404.out BK406.out (by decide)) (fun _ hk => hk.2) (.int .i64 t399)) (fun _ hk => hk.2) (.int .i64 t400)) (fun _ hk => hk.2) (.int .i64 t401)) (fun _ hk => hk.2) (.slice Ao32 t402.length co32)) (fun _ h_ => h_.1)))); (case side2 => exact (Kd.R_reads' HO404.out).2.1); (case side3 => refine (Kd.R_reads' (e := 3) (base := w.heap.size) (ok := fun k_ => (((True ∧ some k_ ≠ (.slice Ao19 t382.length co19 : Value).ownBlock) ∧ some k_ ≠ (.slice Ao27 t396.length co27 : Value).ownBlock) ∧ some k_ ≠ (.slice Ao32 t402.length co32 : Value).ownBlock)) (n := t388.length) (c := co23) ?_).2.2; exact (by (with_reducible repeat (first | apply Kd.R_alloc | apply Kd.R_drewN | apply Kd.R_drew)); exact (Kd.R_mono (Kd.R_far (p := ⟨gb406, 3, none⟩) (Kd.R_far (p := ⟨gb406, 2, none⟩) (Kd.R_far (p := ⟨gb406, 1, none⟩) (Kd.R_far (p := ⟨gb406, 0, none⟩) (Kd.R_types HO390.out BK406.out (by decide)) (fun _ hk => hk.2) (.int .i64 t399)) (fun _ hk => hk.2) (.int .i64 t400)) (fun _ hk => hk.2) (.int .i64 t401)) (fun _ hk => hk.2) (.slice Ao32 t402.length co32)) (fun _ h_ => h_.1)))); (case side4 => exact (Kd.R_reads' HO390.out).2.1); rintro e w38 ⟨rfl, hb⟩; refine ⟨_, rfl, ?_⟩; have n0_ := Aside0.mk (Kd.R_below (by (with_reducible repeat (first | apply Kd.R_alloc | apply Kd.R_drewN | apply Kd.R_drew)); exact (Kd.R_mono (Kd.R_far (p := ⟨gb406, 3, none⟩) (Kd.R_far (p := ⟨gb406, 2, none⟩) (Kd.R_far (p := ⟨gb406, 1, none⟩) (Kd.R_far (p := ⟨gb406, 0, none⟩) (Kd.R_types HO381.out BK406.out (by decide)) (fun _ hk => hk.2) (.int .i64 t399)) (fun _ hk => hk.2) (.int .i64 t400)) (fun _ hk => hk.2) (.int .i64 t401)) (fun _ hk => hk.2) (.slice Ao32 t402.length co32)) (fun _ h_ => h_.1))) hb); have n1_ := Aside0.mk (Kd.R_below (by (with_reducible repeat (first | apply Kd.R_alloc | apply Kd.R_drewN | apply Kd.R_drew)); exact (Kd.R_mono (Kd.R_far (p := ⟨gb406, 3, none⟩) (Kd.R_far (p := ⟨gb406, 2, none⟩) (Kd.R_far (p := ⟨gb406, 1, none⟩) (Kd.R_far (p := ⟨gb406, 0, none⟩) (Kd.R_types HO384.out BK406.out (by decide)) (fun _ hk => hk.2) (.int .i64 t399)) (fun _ hk => hk.2) (.int .i64 t400)) (fun _ hk => hk.2) (.int .i64 t401)) (fun _ hk => hk.2) (.slice Ao32 t402.length co32)) (fun _ h_ => h_.1))) hb); have n2_ := Aside0.mk (Kd.R_below (by (with_reducible repeat (first | apply Kd.R_alloc | apply Kd.R_drewN | apply Kd.R_drew)); exact (Kd.R_mono (Kd.R_far (p := ⟨gb406, 3, none⟩) (Kd.R_far (p := ⟨gb406, 2, none⟩) (Kd.R_far (p := ⟨gb406, 1, none⟩) (Kd.R_far (p := ⟨gb406, 0, none⟩) (Kd.R_types HO390.out BK406.out (by decide)) (fun _ hk => hk.2) (.int .i64 t399)) (fun _ hk => hk.2) (.int .i64 t400)) (fun _ hk => hk.2) (.int .i64 t401)) (fun _ hk => hk.2) (.slice Ao32 t402.length co32)) (fun _ h_ => h_.1))) hb); have n3_ := Aside0.mk (Kd.R_below (by (with_reducible repeat (first | apply Kd.R_alloc | apply Kd.R_drewN | apply Kd.R_drew)); exact (Kd.R_mono (Kd.R_far (p := ⟨gb406, 3, none⟩) (Kd.R_far (p := ⟨gb406, 2, none⟩) (Kd.R_far (p := ⟨gb406, 1, none⟩) (Kd.R_far (p := ⟨gb406, 0, none⟩) (Kd.R_types HO395.out BK406.out (by decide)) (fun _ hk => hk.2) (.int .i64 t399)) (fun _ hk => hk.2) (.int .i64 t400)) (fun _ hk => hk.2) (.int .i64 t401)) (fun _ hk => hk.2) (.slice Ao32 t402.length co32)) (fun _ h_ => h_.1))) hb); have n4_ := Aside0.mk (Kd.R_below (by (with_reducible repeat (first | apply Kd.R_alloc | apply Kd.R_drewN | apply Kd.R_drew)); exact (Kd.R_mono (Kd.R_far (p := ⟨gb406, 3, none⟩) (Kd.R_far (p := ⟨gb406, 2, none⟩) (Kd.R_far (p := ⟨gb406, 1, none⟩) (Kd.R_far (p := ⟨gb406, 0, none⟩) (Kd.R_types HO398.out BK406.out (by decide)) (fun _ hk => hk.2) (.int .i64 t399)) (fun _ hk => hk.2) (.int .i64 t400)) (fun _ hk => hk.2) (.int .i64 t401)) (fun _ hk => hk.2) (.slice Ao32 t402.length co32)) (fun _ h_ => h_.1))) hb); have n5_ := Aside0.mk (Kd.R_below (by (with_reducible repeat (first | apply Kd.R_alloc | apply Kd.R_drewN | apply Kd.R_drew)); exact (Kd.R_mono (Kd.R_far (p := ⟨gb406, 3, none⟩) (Kd.R_far (p := ⟨gb406, 2, none⟩) (Kd.R_far (p := ⟨gb406, 1, none⟩) (Kd.R_far (p := ⟨gb406, 0, none⟩) (Kd.R_types HO404.out BK406.out (by decide)) (fun _ hk => hk.2) (.int .i64 t399)) (fun _ hk => hk.2) (.int .i64 t400)) (fun _ hk => hk.2) (.int .i64 t401)) (fun _ hk => hk.2) (.slice Ao32 t402.length co32)) (fun _ h_ => h_.1))) hb); have n6_ := Aside0.mk (blk_below (g := gb392) (o := .cells #[.int .i64 t385, .int .i64 t386, .int .i64 t387, .slice Ao23 t388.length co23] 35 (0, 0)) (by refine uW ?_; refine blk_far ?_ NB392_406.out _; refine uW ?_; refine blk_far ?_ NB392_406.out _; refine uW ?_; refine blk_far ?_ NB392_406.out _; refine uW ?_; refine blk_far ?_ NB392_406.out _; refine uW ?_; exact BK392.out) hb); have n7_ := Aside0.mk (blk_below (g := gb406) (o := .cells #[.int .i64 t399, .int .i64 t400, .int .i64 t401, .slice Ao32 t402.length co32] 35 (0, 0)) (by refine uW ?_; refine blk_put (cs := #[.int .i64 t399, .int .i64 t400, .int .i64 t401, .slice none 0 0]) ?_ 3 _ rfl; refine uW ?_; refine blk_put (cs := #[.int .i64 t399, .int .i64 t400, .int .i64 0, .slice none 0 0]) ?_ 2 _ rfl; refine uW ?_; refine blk_put (cs := #[.int .i64 t399, .int .i64 0, .int .i64 0, .slice none 0 0]) ?_ 1 _ rfl; refine uW ?_; refine blk_put (cs := #[.int .i64 0, .int .i64 0, .int .i64 0, .slice none 0 0]) ?_ 0 _ rfl; refine uW ?_; exact BK406.out) hb); have n8_ := Aside0.mk (below_step (by first | exact uB HB | exact uS HB (gC GE392 (gC GE406 gN))) hb); clear HO381 HO384 HO390 HO395 HO398 HO404 BK392 BK406 HB; have HO381 := n0_; have HO384 := n1_; have HO390 := n2_; have HO395 := n3_; have HO398 := n4_; have HO404 := n5_; have BK392 := n6_; have BK406 := n7_; have HB := n8_; clear n0_ n1_ n2_ n3_ n4_ n5_ n6_ n7_ n8_; (try clear hb); (try clear hb2); (try clear hk); (try clear hi)))
     go_meet
     case rel => exact ⟨_, ((t405 != t391)), (by first | rfl | (simp; done) | (simp [*]; done)), H', ⟨by first | omega | exact Nat.le_refl _⟩, ⟨by (with_reducible repeat (first | apply Kd.R_alloc | apply Kd.R_drewN | apply Kd.R_drew)); exact Kd.R_mono HO395.out (fun _ hk => trivial)⟩, ⟨by (with_reducible repeat (first | apply Kd.R_alloc | apply Kd.R_drewN | apply Kd.R_drew)); exact Kd.R_mono HO398.out (fun _ hk => ⟨hk.1.2, hk.2⟩)⟩, ⟨by (with_reducible repeat (first | apply Kd.R_alloc | apply Kd.R_drewN | apply Kd.R_drew)); exact Kd.R_mono HO390.out (fun _ hk => ⟨hk.1.2, hk.2⟩)⟩, ⟨by (with_reducible repeat (first | apply Kd.R_alloc | apply Kd.R_drewN | apply Kd.R_drew)); exact Kd.R_mono HO404.out (fun _ hk => ⟨hk.2, hk.1.2⟩)⟩, ⟨by refine uW ?_; exact BK392.out⟩, ⟨by refine uW ?_; exact BK406.out⟩, ⟨by first | exact uB HB | exact uS HB (gC GE392 (gC GE406 gN))⟩⟩
    ·
     replace c34 := Bool.eq_false_iff.mpr c34
     subst c34
     have H1 : (laws_FnExactTableByPeeling.j0 k a0 l1 l2 a3 a4 t391 t393 t396 t405 true t385 t386 t387 t388 t399 t400 t401 t402) = some r := by rw [if_neg (show ¬ (false = true) by decide)] at H; exact H
     clear H
     have H := H1
     clear H1
     have H' := Aside0.mk H
     clear H
     have hnb39 := NB406_392.out
     have hnc39 := NB392_406.out
     have hcz40_0 : w29.cell? ⟨gb406, 0, none⟩ = some (.int .i64 0) := (blk_cell BK406.out 0).trans rfl
     have hcz40_1 : w29.cell? ⟨gb406, 1, none⟩ = some (.int .i64 0) := (blk_cell BK406.out 1).trans rfl
     have hcz40_2 : w29.cell? ⟨gb406, 2, none⟩ = some (.int .i64 0) := (blk_cell BK406.out 2).trans rfl
     have hcz40_3 : w29.cell? ⟨gb406, 3, none⟩ = some (.slice none 0 0) := (blk_cell BK406.out 3).trans rfl
     have hfz40_0 := blk_frozen BK406.out 0
     have hfz40_1 := blk_frozen BK406.out 1
     have hfz40_2 := blk_frozen BK406.out 2
     have hfz40_3 := blk_frozen BK406.out 3
     have hcz41_0 : w29.cell? ⟨gb392, 0, none⟩ = some (.int .i64 t385) := (blk_cell BK392.out 0).trans rfl
     have hcz41_1 : w29.cell? ⟨gb392, 1, none⟩ = some (.int .i64 t386) := (blk_cell BK392.out 1).trans rfl
     have hcz41_2 : w29.cell? ⟨gb392, 2, none⟩ = some (.int .i64 t387) := (blk_cell BK392.out 2).trans rfl
     have hcz41_3 : w29.cell? ⟨gb392, 3, none⟩ = some (.slice Ao23 t388.length co23) := (blk_cell BK392.out 3).trans rfl
     have hfz41_0 := blk_frozen BK392.out 0
     have hfz41_1 := blk_frozen BK392.out 1
     have hfz41_2 := blk_frozen BK392.out 2
     have hfz41_3 := blk_frozen BK392.out 3
     go_wp2_with (first | ((with_reducible refine gate_callee (f := 19) rfl ?_); refine goesL_ (some 57) rfl rfl Try.func19 (by kernel_rfl) rfl #[.agg #[.int .i64 t399, .int .i64 t400, .int .i64 t401, .slice Ao32 t402.length co32], .agg #[.int .i64 t385, .int .i64 t386, .int .i64 t387, .slice Ao23 t388.length co23]] rfl (by (try simp only [List.map_toArray, List.map_cons, List.map_nil]); first | done | rfl | (simp only [List.length_drop, List.length_take]; rfl)) ?_; (with_reducible refine (laws_eqTable.calls k t399 t400 t401 _ _ t402 t385 t386 t387 _ _ t388 false _ ?side1 ?side2 ?side3 ?side4 A33.out).mono ?_); (case side1 => refine (Kd.R_reads' (e := 3) (base := w.heap.size) (ok := fun k_ => (((True ∧ some k_ ≠ (.slice Ao19 t382.length co19 : Value).ownBlock) ∧ some k_ ≠ (.slice Ao23 t388.length co23 : Value).ownBlock) ∧ some k_ ≠ (.slice Ao27 t396.length co27 : Value).ownBlock)) (n := t402.length) (c := co32) ?_).2.2; exact (by (with_reducible repeat (first | apply Kd.R_alloc | apply Kd.R_drewN | apply Kd.R_drew)); exact (Kd.R_mono (Kd.R_far (p := ⟨gb406, 3, none⟩) (Kd.R_far (p := ⟨gb406, 2, none⟩) (Kd.R_far (p := ⟨gb406, 1, none⟩) (Kd.R_far (p := ⟨gb406, 0, none⟩) (Kd.R_types HO404.out BK406.out (by decide)) (fun _ hk => hk.2) (.int .i64 t399)) (fun _ hk => hk.2) (.int .i64 t400)) (fun _ hk => hk.2) (.int .i64 t401)) (fun _ hk => hk.2) (.slice Ao32 t402.length co32)) (fun _ h_ => h_.1)))); (case side2 => exact (Kd.R_reads' HO404.out).2.1); (case side3 => refine (Kd.R_reads' (e := 3) (base := w.heap.size) (ok := fun k_ => (((True ∧ some k_ ≠ (.slice Ao19 t382.length co19 : Value).ownBlock) ∧ some k_ ≠ (.slice Ao27 t396.length co27 : Value).ownBlock) ∧ some k_ ≠ (.slice Ao32 t402.length co32 : Value).ownBlock)) (n := t388.length) (c := co23) ?_).2.2; exact (by (with_reducible repeat (first | apply Kd.R_alloc | apply Kd.R_drewN | apply Kd.R_drew)); exact (Kd.R_mono (Kd.R_far (p := ⟨gb406, 3, none⟩) (Kd.R_far (p := ⟨gb406, 2, none⟩) (Kd.R_far (p := ⟨gb406, 1, none⟩) (Kd.R_far (p := ⟨gb406, 0, none⟩) (Kd.R_types HO390.out BK406.out (by decide)) (fun _ hk => hk.2) (.int .i64 t399)) (fun _ hk => hk.2) (.int .i64 t400)) (fun _ hk => hk.2) (.int .i64 t401)) (fun _ hk => hk.2) (.slice Ao32 t402.length co32)) (fun _ h_ => h_.1)))); (case side4 => exact (Kd.R_reads' HO390.out).2.1); rintro e w42 ⟨rfl, hb⟩; refine ⟨_, rfl, ?_⟩; have n0_ := Aside0.mk (Kd.R_below (by (with_reducible repeat (first | apply Kd.R_alloc | apply Kd.R_drewN | apply Kd.R_drew)); exact (Kd.R_mono (Kd.R_far (p := ⟨gb406, 3, none⟩) (Kd.R_far (p := ⟨gb406, 2, none⟩) (Kd.R_far (p := ⟨gb406, 1, none⟩) (Kd.R_far (p := ⟨gb406, 0, none⟩) (Kd.R_types HO381.out BK406.out (by decide)) (fun _ hk => hk.2) (.int .i64 t399)) (fun _ hk => hk.2) (.int .i64 t400)) (fun _ hk => hk.2) (.int .i64 t401)) (fun _ hk => hk.2) (.slice Ao32 t402.length co32)) (fun _ h_ => h_.1))) hb); have n1_ := Aside0.mk (Kd.R_below (by (with_reducible repeat (first | apply Kd.R_alloc | apply Kd.R_drewN | apply Kd.R_drew)); exact (Kd.R_mono (Kd.R_far (p := ⟨gb406, 3, none⟩) (Kd.R_far (p := ⟨gb406, 2, none⟩) (Kd.R_far (p := ⟨gb406, 1, none⟩) (Kd.R_far (p := ⟨gb406, 0, none⟩) (Kd.R_types HO384.out BK406.out (by decide)) (fun _ hk => hk.2) (.int .i64 t399)) (fun _ hk => hk.2) (.int .i64 t400)) (fun _ hk => hk.2) (.int .i64 t401)) (fun _ hk => hk.2) (.slice Ao32 t402.length co32)) (fun _ h_ => h_.1))) hb); have n2_ := Aside0.mk (Kd.R_below (by (with_reducible repeat (first | apply Kd.R_alloc | apply Kd.R_drewN | apply Kd.R_drew)); exact (Kd.R_mono (Kd.R_far (p := ⟨gb406, 3, none⟩) (Kd.R_far (p := ⟨gb406, 2, none⟩) (Kd.R_far (p := ⟨gb406, 1, none⟩) (Kd.R_far (p := ⟨gb406, 0, none⟩) (Kd.R_types HO390.out BK406.out (by decide)) (fun _ hk => hk.2) (.int .i64 t399)) (fun _ hk => hk.2) (.int .i64 t400)) (fun _ hk => hk.2) (.int .i64 t401)) (fun _ hk => hk.2) (.slice Ao32 t402.length co32)) (fun _ h_ => h_.1))) hb); have n3_ := Aside0.mk (Kd.R_below (by (with_reducible repeat (first | apply Kd.R_alloc | apply Kd.R_drewN | apply Kd.R_drew)); exact (Kd.R_mono (Kd.R_far (p := ⟨gb406, 3, none⟩) (Kd.R_far (p := ⟨gb406, 2, none⟩) (Kd.R_far (p := ⟨gb406, 1, none⟩) (Kd.R_far (p := ⟨gb406, 0, none⟩) (Kd.R_types HO395.out BK406.out (by decide)) (fun _ hk => hk.2) (.int .i64 t399)) (fun _ hk => hk.2) (.int .i64 t400)) (fun _ hk => hk.2) (.int .i64 t401)) (fun _ hk => hk.2) (.slice Ao32 t402.length co32)) (fun _ h_ => h_.1))) hb); have n4_ := Aside0.mk (Kd.R_below (by (with_reducible repeat (first | apply Kd.R_alloc | apply Kd.R_drewN | apply Kd.R_drew)); exact (Kd.R_mono (Kd.R_far (p := ⟨gb406, 3, none⟩) (Kd.R_far (p := ⟨gb406, 2, none⟩) (Kd.R_far (p := ⟨gb406, 1, none⟩) (Kd.R_far (p := ⟨gb406, 0, none⟩) (Kd.R_types HO398.out BK406.out (by decide)) (fun _ hk => hk.2) (.int .i64 t399)) (fun _ hk => hk.2) (.int .i64 t400)) (fun _ hk => hk.2) (.int .i64 t401)) (fun _ hk => hk.2) (.slice Ao32 t402.length co32)) (fun _ h_ => h_.1))) hb); have n5_ := Aside0.mk (Kd.R_below (by (with_reducible repeat (first | apply Kd.R_alloc | apply Kd.R_drewN | apply Kd.R_drew)); exact (Kd.R_mono (Kd.R_far (p := ⟨gb406, 3, none⟩) (Kd.R_far (p := ⟨gb406, 2, none⟩) (Kd.R_far (p := ⟨gb406, 1, none⟩) (Kd.R_far (p := ⟨gb406, 0, none⟩) (Kd.R_types HO404.out BK406.out (by decide)) (fun _ hk => hk.2) (.int .i64 t399)) (fun _ hk => hk.2) (.int .i64 t400)) (fun _ hk => hk.2) (.int .i64 t401)) (fun _ hk => hk.2) (.slice Ao32 t402.length co32)) (fun _ h_ => h_.1))) hb); have n6_ := Aside0.mk (blk_below (g := gb392) (o := .cells #[.int .i64 t385, .int .i64 t386, .int .i64 t387, .slice Ao23 t388.length co23] 35 (0, 0)) (by refine uW ?_; refine blk_far ?_ NB392_406.out _; refine uW ?_; refine blk_far ?_ NB392_406.out _; refine uW ?_; refine blk_far ?_ NB392_406.out _; refine uW ?_; refine blk_far ?_ NB392_406.out _; refine uW ?_; exact BK392.out) hb); have n7_ := Aside0.mk (blk_below (g := gb406) (o := .cells #[.int .i64 t399, .int .i64 t400, .int .i64 t401, .slice Ao32 t402.length co32] 35 (0, 0)) (by refine uW ?_; refine blk_put (cs := #[.int .i64 t399, .int .i64 t400, .int .i64 t401, .slice none 0 0]) ?_ 3 _ rfl; refine uW ?_; refine blk_put (cs := #[.int .i64 t399, .int .i64 t400, .int .i64 0, .slice none 0 0]) ?_ 2 _ rfl; refine uW ?_; refine blk_put (cs := #[.int .i64 t399, .int .i64 0, .int .i64 0, .slice none 0 0]) ?_ 1 _ rfl; refine uW ?_; refine blk_put (cs := #[.int .i64 0, .int .i64 0, .int .i64 0, .slice none 0 0]) ?_ 0 _ rfl; refine uW ?_; exact BK406.out) hb); have n8_ := Aside0.mk (below_step (by first | exact uB HB | exact uS HB (gC GE392 (gC GE406 gN))) hb); clear HO381 HO384 HO390 HO395 HO398 HO404 BK392 BK406 HB; have HO381 := n0_; have HO384 := n1_; have HO390 := n2_; have HO395 := n3_; have HO398 := n4_; have HO404 := n5_; have BK392 := n6_; have BK406 := n7_; have HB := n8_; clear n0_ n1_ n2_ n3_ n4_ n5_ n6_ n7_ n8_; (try clear hb); (try clear hb2); (try clear hk); (try clear hi)))
     go_meet
     case rel => exact ⟨_, (true), (by first | rfl | (simp; done) | (simp [*]; done)), H', ⟨by first | omega | exact Nat.le_refl _⟩, ⟨by (with_reducible repeat (first | apply Kd.R_alloc | apply Kd.R_drewN | apply Kd.R_drew)); exact Kd.R_mono HO395.out (fun _ hk => trivial)⟩, ⟨by (with_reducible repeat (first | apply Kd.R_alloc | apply Kd.R_drewN | apply Kd.R_drew)); exact Kd.R_mono HO398.out (fun _ hk => ⟨hk.1.2, hk.2⟩)⟩, ⟨by (with_reducible repeat (first | apply Kd.R_alloc | apply Kd.R_drewN | apply Kd.R_drew)); exact Kd.R_mono HO390.out (fun _ hk => ⟨hk.1.2, hk.2⟩)⟩, ⟨by (with_reducible repeat (first | apply Kd.R_alloc | apply Kd.R_drewN | apply Kd.R_drew)); exact Kd.R_mono HO404.out (fun _ hk => ⟨hk.2, hk.1.2⟩)⟩, ⟨by refine uW ?_; exact BK392.out⟩, ⟨by refine uW ?_; exact BK406.out⟩, ⟨by first | exact uB HB | exact uS HB (gC GE392 (gC GE406 gN))⟩⟩
   case rest =>
    clear HC15
    try clear c1
    try clear c2
    try clear p2
    try clear c3
    try clear c4
    try clear c6
    try clear c6b0
    try clear c6b1
    try clear c7
    try clear c8
    try clear c8b0
    try clear c9
    try clear c16
    try clear c17
    try clear c18
    try clear c19
    try clear c30
    try clear c34
    try clear c35
    try clear c39
    try clear hcz22_0
    try clear hcz22_1
    try clear hcz22_2
    try clear hcz22_3
    try clear hcz31_0
    try clear hcz31_1
    try clear hcz31_2
    try clear hcz31_3
    try clear hcz36_0
    try clear hcz36_1
    try clear hcz36_2
    try clear hcz36_3
    try clear hcz37_0
    try clear hcz37_1
    try clear hcz37_2
    try clear hcz37_3
    try clear hcz40_0
    try clear hcz40_1
    try clear hcz40_2
    try clear hcz40_3
    try clear hcz41_0
    try clear hcz41_1
    try clear hcz41_2
    try clear hcz41_3
    try clear hfz22_0
    try clear hfz22_1
    try clear hfz22_2
    try clear hfz22_3
    try clear hfz31_0
    try clear hfz31_1
    try clear hfz31_2
    try clear hfz31_3
    try clear hfz36_0
    try clear hfz36_1
    try clear hfz36_2
    try clear hfz36_3
    try clear hfz37_0
    try clear hfz37_1
    try clear hfz37_2
    try clear hfz37_3
    try clear hfz40_0
    try clear hfz40_1
    try clear hfz40_2
    try clear hfz40_3
    try clear hfz41_0
    try clear hfz41_1
    try clear hfz41_2
    try clear hfz41_3
    obtain ⟨kq, x63_14, rfl, HA, HJ14, HO_14, HO_15, HO_393003, HO_407003, BK392, BK406, HB⟩ := hcut
    cases kq with
    | zero => exact absurd HA.out (by simp [laws_FnExactTableByPeeling.j0])
    | succ kj14 =>
     have H := HA.out
     clear HA
     simp only [laws_FnExactTableByPeeling.j0] at H
     by_cases c43 : x63_14 = true
     ·
      subst c43
      have H1 : (some false) = some r := by rw [if_pos rfl] at H; exact H
      clear H
      have H := H1
      clear H1
      obtain rfl := Option.some.inj H
      go_wp2
      go_ret
      exact ⟨by first | rfl | (simp [errW_none, errW_some] <;> rfl) | (simp [*, errW_none, errW_some] <;> rfl), by first | exact uB HB | exact uS HB (gC GE392 (gC GE406 gN))⟩
     ·
      replace c43 := Bool.eq_false_iff.mpr c43
      subst c43
      have H1 : ((laws_toStringS.f kj14 l1).bind fun t408 => ((laws_eqStringS.f kj14 t393 t408).bind fun t411 => (if t411 = true then ((laws_toIntS.f kj14 l2).bind fun t412 => ((laws_eqIntS.f kj14 t396 t412).bind fun t415 => (if t415 = true then ((laws_markStringS.f kj14 t393 1).bind fun bt416 => ((laws_markIntS.f kj14 t396 bt416.1).bind fun bt418 => (if bt418.1 < 0 then (laws_FnExactTableByPeeling.j1 kj14 a0 l1 l2 a3 a4 t391 true t385 t386 t387 t388 t399 t400 t401 t402) else ((laws_eqTable.f kj14 t399 t400 t401 t402 t385 t386 t387 t388).bind fun t420 => (if t420 = true then (laws_FnExactTableByPeeling.j1 kj14 a0 l1 l2 a3 a4 t391 (t405 != t391) t385 t386 t387 t388 t399 t400 t401 t402) else (laws_FnExactTableByPeeling.j1 kj14 a0 l1 l2 a3 a4 t391 true t385 t386 t387 t388 t399 t400 t401 t402)))))) else (some false)))) else (some false)))) = some r := by rw [if_neg (show ¬ (false = true) by decide)] at H; exact H
      clear H
      have H := H1
      clear H1
      replace H := Option.bind_eq_some_iff.mp H
      obtain ⟨t408, A440, H⟩ := H
      replace H : ((laws_eqStringS.f kj14 t393 t408).bind fun t411 => (if t411 = true then ((laws_toIntS.f kj14 l2).bind fun t412 => ((laws_eqIntS.f kj14 t396 t412).bind fun t415 => (if t415 = true then ((laws_markStringS.f kj14 t393 1).bind fun bt416 => ((laws_markIntS.f kj14 t396 bt416.1).bind fun bt418 => (if bt418.1 < 0 then (laws_FnExactTableByPeeling.j1 kj14 a0 l1 l2 a3 a4 t391 true t385 t386 t387 t388 t399 t400 t401 t402) else ((laws_eqTable.f kj14 t399 t400 t401 t402 t385 t386 t387 t388).bind fun t420 => (if t420 = true then (laws_FnExactTableByPeeling.j1 kj14 a0 l1 l2 a3 a4 t391 (t405 != t391) t385 t386 t387 t388 t399 t400 t401 t402) else (laws_FnExactTableByPeeling.j1 kj14 a0 l1 l2 a3 a4 t391 true t385 t386 t387 t388 t399 t400 t401 t402)))))) else (some false)))) else (some false))) = some r := H
      have A44 := Aside0.mk A440
      clear A440
      replace H := Option.bind_eq_some_iff.mp H
      obtain ⟨t411, A450, H⟩ := H
      replace H : (if t411 = true then ((laws_toIntS.f kj14 l2).bind fun t412 => ((laws_eqIntS.f kj14 t396 t412).bind fun t415 => (if t415 = true then ((laws_markStringS.f kj14 t393 1).bind fun bt416 => ((laws_markIntS.f kj14 t396 bt416.1).bind fun bt418 => (if bt418.1 < 0 then (laws_FnExactTableByPeeling.j1 kj14 a0 l1 l2 a3 a4 t391 true t385 t386 t387 t388 t399 t400 t401 t402) else ((laws_eqTable.f kj14 t399 t400 t401 t402 t385 t386 t387 t388).bind fun t420 => (if t420 = true then (laws_FnExactTableByPeeling.j1 kj14 a0 l1 l2 a3 a4 t391 (t405 != t391) t385 t386 t387 t388 t399 t400 t401 t402) else (laws_FnExactTableByPeeling.j1 kj14 a0 l1 l2 a3 a4 t391 true t385 t386 t387 t388 t399 t400 t401 t402)))))) else (some false)))) else (some false)) = some r := H
      have A45 := Aside0.mk A450
      clear A450
      by_cases c46 : t411 = true
      ·
       subst c46
       have H1 : ((laws_toIntS.f kj14 l2).bind fun t412 => ((laws_eqIntS.f kj14 t396 t412).bind fun t415 => (if t415 = true then ((laws_markStringS.f kj14 t393 1).bind fun bt416 => ((laws_markIntS.f kj14 t396 bt416.1).bind fun bt418 => (if bt418.1 < 0 then (laws_FnExactTableByPeeling.j1 kj14 a0 l1 l2 a3 a4 t391 true t385 t386 t387 t388 t399 t400 t401 t402) else ((laws_eqTable.f kj14 t399 t400 t401 t402 t385 t386 t387 t388).bind fun t420 => (if t420 = true then (laws_FnExactTableByPeeling.j1 kj14 a0 l1 l2 a3 a4 t391 (t405 != t391) t385 t386 t387 t388 t399 t400 t401 t402) else (laws_FnExactTableByPeeling.j1 kj14 a0 l1 l2 a3 a4 t391 true t385 t386 t387 t388 t399 t400 t401 t402)))))) else (some false)))) = some r := by rw [if_pos rfl] at H; exact H
       clear H
       have H := H1
       clear H1
       replace H := Option.bind_eq_some_iff.mp H
       obtain ⟨t412, A470, H⟩ := H
       replace H : ((laws_eqIntS.f kj14 t396 t412).bind fun t415 => (if t415 = true then ((laws_markStringS.f kj14 t393 1).bind fun bt416 => ((laws_markIntS.f kj14 t396 bt416.1).bind fun bt418 => (if bt418.1 < 0 then (laws_FnExactTableByPeeling.j1 kj14 a0 l1 l2 a3 a4 t391 true t385 t386 t387 t388 t399 t400 t401 t402) else ((laws_eqTable.f kj14 t399 t400 t401 t402 t385 t386 t387 t388).bind fun t420 => (if t420 = true then (laws_FnExactTableByPeeling.j1 kj14 a0 l1 l2 a3 a4 t391 (t405 != t391) t385 t386 t387 t388 t399 t400 t401 t402) else (laws_FnExactTableByPeeling.j1 kj14 a0 l1 l2 a3 a4 t391 true t385 t386 t387 t388 t399 t400 t401 t402)))))) else (some false))) = some r := H
       have A47 := Aside0.mk A470
       clear A470
       replace H := Option.bind_eq_some_iff.mp H
       obtain ⟨t415, A480, H⟩ := H
       replace H : (if t415 = true then ((laws_markStringS.f kj14 t393 1).bind fun bt416 => ((laws_markIntS.f kj14 t396 bt416.1).bind fun bt418 => (if bt418.1 < 0 then (laws_FnExactTableByPeeling.j1 kj14 a0 l1 l2 a3 a4 t391 true t385 t386 t387 t388 t399 t400 t401 t402) else ((laws_eqTable.f kj14 t399 t400 t401 t402 t385 t386 t387 t388).bind fun t420 => (if t420 = true then (laws_FnExactTableByPeeling.j1 kj14 a0 l1 l2 a3 a4 t391 (t405 != t391) t385 t386 t387 t388 t399 t400 t401 t402) else (laws_FnExactTableByPeeling.j1 kj14 a0 l1 l2 a3 a4 t391 true t385 t386 t387 t388 t399 t400 t401 t402)))))) else (some false)) = some r := H
       have A48 := Aside0.mk A480
       clear A480
       by_cases c49 : t415 = true
       ·
        subst c49
        have H1 : ((laws_markStringS.f kj14 t393 1).bind fun bt416 => ((laws_markIntS.f kj14 t396 bt416.1).bind fun bt418 => (if bt418.1 < 0 then (laws_FnExactTableByPeeling.j1 kj14 a0 l1 l2 a3 a4 t391 true t385 t386 t387 t388 t399 t400 t401 t402) else ((laws_eqTable.f kj14 t399 t400 t401 t402 t385 t386 t387 t388).bind fun t420 => (if t420 = true then (laws_FnExactTableByPeeling.j1 kj14 a0 l1 l2 a3 a4 t391 (t405 != t391) t385 t386 t387 t388 t399 t400 t401 t402) else (laws_FnExactTableByPeeling.j1 kj14 a0 l1 l2 a3 a4 t391 true t385 t386 t387 t388 t399 t400 t401 t402)))))) = some r := by rw [if_pos rfl] at H; exact H
        clear H
        have H := H1
        clear H1
        replace H := Option.bind_eq_some_iff.mp H
        obtain ⟨⟨t416, t417⟩, A500, H⟩ := H
        replace H : ((laws_markIntS.f kj14 t396 t416).bind fun bt418 => (if bt418.1 < 0 then (laws_FnExactTableByPeeling.j1 kj14 a0 l1 l2 a3 a4 t391 true t385 t386 t387 t388 t399 t400 t401 t402) else ((laws_eqTable.f kj14 t399 t400 t401 t402 t385 t386 t387 t388).bind fun t420 => (if t420 = true then (laws_FnExactTableByPeeling.j1 kj14 a0 l1 l2 a3 a4 t391 (t405 != t391) t385 t386 t387 t388 t399 t400 t401 t402) else (laws_FnExactTableByPeeling.j1 kj14 a0 l1 l2 a3 a4 t391 true t385 t386 t387 t388 t399 t400 t401 t402))))) = some r := H
        have A50 := Aside0.mk A500
        clear A500
        replace H := Option.bind_eq_some_iff.mp H
        obtain ⟨⟨t418, t419⟩, A510, H⟩ := H
        replace H : (if t418 < 0 then (laws_FnExactTableByPeeling.j1 kj14 a0 l1 l2 a3 a4 t391 true t385 t386 t387 t388 t399 t400 t401 t402) else ((laws_eqTable.f kj14 t399 t400 t401 t402 t385 t386 t387 t388).bind fun t420 => (if t420 = true then (laws_FnExactTableByPeeling.j1 kj14 a0 l1 l2 a3 a4 t391 (t405 != t391) t385 t386 t387 t388 t399 t400 t401 t402) else (laws_FnExactTableByPeeling.j1 kj14 a0 l1 l2 a3 a4 t391 true t385 t386 t387 t388 t399 t400 t401 t402)))) = some r := H
        have A51 := Aside0.mk A510
        clear A510
        have HC52 := Aside0.mk H
        clear H
        go_upto_region 20 with (first | ((with_reducible refine gate_callee (f := 9) rfl ?_); refine goesL_ (some 66) rfl rfl Try.func9 (by kernel_rfl) rfl #[.slice A1 l1.length c1] rfl (by (try simp only [List.map_toArray, List.map_cons, List.map_nil]); first | done | rfl | (simp only [List.length_drop, List.length_take]; rfl)) ?_; (with_reducible refine (laws_toStringS.calls kj14 _ _ l1 t408 _ ?side1 ?side2 A44.out).mono ?_); (case side1 => exact uC HR1 HB); (case side2 => exact HC1.out); rintro e w53 ⟨v409, rfl, ho0, hb⟩; refine ⟨_, rfl, ?_⟩; have n0_ := Aside0.mk (Kd.R_elder' (uR HO_14) (Kd.R_base ho0) hb); have n1_ := Aside0.mk (Kd.R_below (uR HO_15) hb); have n2_ := Aside0.mk (Kd.R_below (uR HO_393003) hb); have n3_ := Aside0.mk (Kd.R_below (uR HO_407003) hb); have n4_ := Aside0.mk (Kd.R_lower (Kd.R_new' ho0 (Kd.R_lt (uR HO_14))) (below_size (by first | exact uB HB | exact uS HB (gC GE392 (gC GE406 gN))))); have n5_ := Aside0.mk (blk_below (g := gb392) (o := .cells #[.int .i64 t385, .int .i64 t386, .int .i64 t387, .slice Ao23 t388.length co23] 35 (0, 0)) (uK BK392) hb); have n6_ := Aside0.mk (blk_below (g := gb406) (o := .cells #[.int .i64 t399, .int .i64 t400, .int .i64 t401, .slice Ao32 t402.length co32] 35 (0, 0)) (uK BK406) hb); have n7_ := Aside0.mk (below_step (by first | exact uB HB | exact uS HB (gC GE392 (gC GE406 gN))) hb); clear HO_14 HO_15 HO_393003 HO_407003 BK392 BK406 HB; have HO_14 := n0_; have HO_15 := n1_; have HO_393003 := n2_; have HO_407003 := n3_; have HO410 := n4_; have BK392 := n5_; have BK406 := n6_; have HB := n7_; clear n0_ n1_ n2_ n3_ n4_ n5_ n6_ n7_; (try clear hb); (try clear hb2); (try clear hk); (try clear hi); (try clear ho0); obtain ⟨Ao54, co54, eo54⟩ := Kd.R_slice HO410.out; subst eo54) | ((with_reducible refine gate_callee (f := 12) rfl ?_); refine goesL_ (some 67) rfl rfl Try.func12 (by kernel_rfl) rfl #[.slice Ao26 t393.length co26, .slice Ao54 t408.length co54] rfl (by (try simp only [List.map_toArray, List.map_cons, List.map_nil]); first | done | rfl | (simp only [List.length_drop, List.length_take]; rfl)) ?_; (with_reducible refine (laws_eqStringS.calls kj14 _ _ t393 _ _ t408 true _ ?side1 ?side2 ?side3 ?side4 A45.out).mono ?_); (case side1 => exact uD HO_14); (case side2 => exact (Kd.R_reads' HO_14.out).2.1); (case side3 => exact uD HO410); (case side4 => exact (Kd.R_reads' HO410.out).2.1); rintro e w' ⟨rfl, ⟨nd, rfl⟩⟩; refine ⟨_, rfl, ?_⟩) | ((with_reducible refine gate_callee (f := 17) rfl ?_); refine goesL_ (some 71) rfl rfl Try.func17 (by kernel_rfl) rfl #[.slice A2 l2.length c2] rfl (by (try simp only [List.map_toArray, List.map_cons, List.map_nil]); first | done | rfl | (simp only [List.length_drop, List.length_take]; rfl)) ?_; (with_reducible refine (laws_toIntS.calls kj14 _ _ l2 t412 _ ?side1 ?side2 A47.out).mono ?_); (case side1 => repeat (first | exact (Kd.C_below HR2.out (by first | exact uB HB | exact uS HB (gC GE392 (gC GE406 gN)))) | (with_reducible refine Kd.C_alloc ?_ _) | (with_reducible refine Kd.C_drewN ?_ _) | (with_reducible refine Kd.C_drew ?_))); (case side2 => exact HC2.out); rintro e w55 ⟨v413, rfl, ho0, hb⟩; refine ⟨_, rfl, ?_⟩; have n0_ := Aside0.mk (Kd.R_below (uR HO_14) hb); have n1_ := Aside0.mk (Kd.R_elder' (uR HO_15) (Kd.R_base ho0) hb); have n2_ := Aside0.mk (Kd.R_elder' (uR HO_393003) (Kd.R_base ho0) hb); have n3_ := Aside0.mk (Kd.R_elder' (uR HO_407003) (Kd.R_base ho0) hb); have n4_ := Aside0.mk (Kd.R_below (uR HO410) hb); have n5_ := Aside0.mk (Kd.R_lower (Kd.R_new' (Kd.R_new' (Kd.R_new' ho0 (Kd.R_lt (uR HO_15))) (Kd.R_lt (uR HO_393003))) (Kd.R_lt (uR HO_407003))) (below_size (by first | exact uB HB | exact uS HB (gC GE392 (gC GE406 gN))))); have n6_ := Aside0.mk (blk_below (g := gb392) (o := .cells #[.int .i64 t385, .int .i64 t386, .int .i64 t387, .slice Ao23 t388.length co23] 35 (0, 0)) (uK BK392) hb); have n7_ := Aside0.mk (blk_below (g := gb406) (o := .cells #[.int .i64 t399, .int .i64 t400, .int .i64 t401, .slice Ao32 t402.length co32] 35 (0, 0)) (uK BK406) hb); have n8_ := Aside0.mk (below_step (by first | exact uB HB | exact uS HB (gC GE392 (gC GE406 gN))) hb); clear HO_14 HO_15 HO_393003 HO_407003 HO410 BK392 BK406 HB; have HO_14 := n0_; have HO_15 := n1_; have HO_393003 := n2_; have HO_407003 := n3_; have HO410 := n4_; have HO414 := n5_; have BK392 := n6_; have BK406 := n7_; have HB := n8_; clear n0_ n1_ n2_ n3_ n4_ n5_ n6_ n7_ n8_; (try clear hb); (try clear hb2); (try clear hk); (try clear hi); (try clear ho0); obtain ⟨Ao56, co56, eo56⟩ := Kd.R_slice HO414.out; subst eo56) | ((with_reducible refine gate_callee (f := 20) rfl ?_); refine goesL_ (some 72) rfl rfl Try.func20 (by kernel_rfl) rfl #[.slice Ao27 t396.length co27, .slice Ao56 t412.length co56] rfl (by (try simp only [List.map_toArray, List.map_cons, List.map_nil]); first | done | rfl | (simp only [List.length_drop, List.length_take]; rfl)) ?_; (with_reducible refine (laws_eqIntS.calls kj14 _ _ t396 _ _ t412 true _ ?side1 ?side2 ?side3 ?side4 A48.out).mono ?_); (case side1 => exact uD HO_15); (case side2 => exact (Kd.R_reads' HO_15.out).2.1); (case side3 => exact uD HO414); (case side4 => exact (Kd.R_reads' HO414.out).2.1); rintro e w' ⟨rfl, ⟨nd, rfl⟩⟩; refine ⟨_, rfl, ?_⟩) | ((with_reducible refine gate_callee (f := 13) rfl ?_); refine goesL_ (some 76) rfl rfl Try.func13 (by kernel_rfl) rfl #[.slice Ao26 t393.length co26, .int .i64 1] rfl (by (try simp only [List.map_toArray, List.map_cons, List.map_nil]); first | done | rfl | (simp only [List.length_drop, List.length_take]; rfl)) ?_; (with_reducible refine (laws_markStringS.calls kj14 (fun k_ => some k_ = (.slice Ao26 t393.length co26 : Value).ownBlock) (.slice Ao26 t393.length co26) t393 1 t416 t417 w _ ?side1 ?side2 A50.out).mono ?_); (case side1 => first | exact uB HB | exact uS HB (gC GE392 (gC GE406 gN))); (case side2 => exact Kd.R_tight rfl HO_14.out); rintro e w57 ⟨rfl, hy0, hb, hkp⟩; refine ⟨_, rfl, ?_⟩; have n0_ := Aside0.mk (Kd.R_reok rfl hy0 (fun k_ e_ => HO_14.out.1 k_ e_)); have n1_ := Aside0.mk (Kd.R_mono (ok' := fun k_ => some k_ ≠ (.slice Ao23 t388.length co23 : Value).ownBlock ∧ some k_ ≠ (.slice Ao32 t402.length co32 : Value).ownBlock ∧ some k_ ≠ (.slice Ao56 t412.length co56 : Value).ownBlock) (Kd.R_keptB ((Kd.R_apart' HO_15.out (Kd.R_typed HO_14.out) (by decide))) hkp (fun k_ hk_ hs_ => (hk_.2) hs_)) (fun k_ hk_ => ⟨hk_.1.1.1.1, hk_.1.1.1.2, hk_.1.1.2⟩)); have n2_ := Aside0.mk (Kd.R_mono (ok' := fun k_ => some k_ ≠ (.slice Ao27 t396.length co27 : Value).ownBlock ∧ some k_ ≠ (.slice Ao32 t402.length co32 : Value).ownBlock ∧ some k_ ≠ (.slice Ao56 t412.length co56 : Value).ownBlock) (Kd.R_keptB ((Kd.R_apart' HO_393003.out (Kd.R_typed HO_14.out) (by decide))) hkp (fun k_ hk_ hs_ => (hk_.2) hs_)) (fun k_ hk_ => ⟨hk_.1.1.1.1, hk_.1.1.1.2, hk_.1.1.2⟩)); have n3_ := Aside0.mk (Kd.R_mono (ok' := fun k_ => some k_ ≠ (.slice Ao27 t396.length co27 : Value).ownBlock ∧ some k_ ≠ (.slice Ao23 t388.length co23 : Value).ownBlock ∧ some k_ ≠ (.slice Ao56 t412.length co56 : Value).ownBlock) (Kd.R_keptB ((Kd.R_apart' HO_407003.out (Kd.R_typed HO_14.out) (by decide))) hkp (fun k_ hk_ hs_ => (hk_.2) hs_)) (fun k_ hk_ => ⟨hk_.1.1.1.1, hk_.1.1.1.2, hk_.1.1.2⟩)); have n4_ := Aside0.mk (blk_kept (uK BK392) hkp (fun hs_ => (fun e_ => (Kd.R_ne HO_14.out BK392.out (by decide)) e_) hs_)); have n5_ := Aside0.mk (blk_kept (uK BK406) hkp (fun hs_ => (fun e_ => (Kd.R_ne HO_14.out BK406.out (by decide)) e_) hs_)); have n6_ := Aside0.mk (Kd.R_mono (ok' := fun k_ => some k_ ≠ (.slice Ao26 t393.length co26 : Value).ownBlock) (Kd.R_keptB (HO410.out) hkp (fun k_ hk_ hs_ => (hk_.2) hs_)) (fun k_ hk_ => hk_.1.2)); have n7_ := Aside0.mk (Kd.R_mono (ok' := fun k_ => some k_ ≠ (.slice Ao27 t396.length co27 : Value).ownBlock ∧ some k_ ≠ (.slice Ao23 t388.length co23 : Value).ownBlock ∧ some k_ ≠ (.slice Ao32 t402.length co32 : Value).ownBlock) (Kd.R_keptB ((Kd.R_apart' HO414.out (Kd.R_typed HO_14.out) (by decide))) hkp (fun k_ hk_ hs_ => (hk_.2) hs_)) (fun k_ hk_ => ⟨hk_.1.1.1.1.2, hk_.1.1.1.2, hk_.1.1.2⟩)); have n8_ := Aside0.mk (hb); clear HO_14 HO_15 HO_393003 HO_407003 BK392 BK406 HO410 HO414 HB; have HO_14 := n0_; have HO_15 := n1_; have HO_393003 := n2_; have HO_407003 := n3_; have BK392 := n4_; have BK406 := n5_; have HO410 := n6_; have HO414 := n7_; have HB := n8_; clear n0_ n1_ n2_ n3_ n4_ n5_ n6_ n7_ n8_; (try clear hb); (try clear hkp); (try clear hy0)) | ((with_reducible refine gate_callee (f := 21) rfl ?_); refine goesL_ (some 79) rfl rfl Try.func21 (by kernel_rfl) rfl #[.slice Ao27 t396.length co27, .int .i64 t416] rfl (by (try simp only [List.map_toArray, List.map_cons, List.map_nil]); first | done | rfl | (simp only [List.length_drop, List.length_take]; rfl)) ?_; (with_reducible refine (laws_markIntS.calls kj14 (fun k_ => some k_ = (.slice Ao27 t396.length co27 : Value).ownBlock) (.slice Ao27 t396.length co27) t396 t416 t418 t419 w _ ?side1 ?side2 A51.out).mono ?_); (case side1 => first | exact uB HB | exact uS HB (gC GE392 (gC GE406 gN))); (case side2 => exact Kd.R_tight rfl HO_15.out); rintro e w58 ⟨rfl, hy0, hb, hkp⟩; refine ⟨_, rfl, ?_⟩; have n0_ := Aside0.mk (Kd.R_mono (ok' := fun k_ => some k_ ≠ (.slice Ao54 t408.length co54 : Value).ownBlock) (Kd.R_keptB ((Kd.R_apart' HO_14.out (Kd.R_typed HO_15.out) (by decide))) hkp (fun k_ hk_ hs_ => (hk_.2) hs_)) (fun k_ hk_ => hk_.1.1.2)); have n1_ := Aside0.mk (Kd.R_reok rfl hy0 (fun k_ e_ => HO_15.out.1 k_ e_)); have n2_ := Aside0.mk (Kd.R_mono (ok' := fun k_ => some k_ ≠ (.slice Ao27 t396.length co27 : Value).ownBlock ∧ some k_ ≠ (.slice Ao32 t402.length co32 : Value).ownBlock ∧ some k_ ≠ (.slice Ao56 t412.length co56 : Value).ownBlock) (Kd.R_keptB (HO_393003.out) hkp (fun k_ hk_ hs_ => (hk_.1) hs_)) (fun k_ hk_ => ⟨hk_.1.1, hk_.1.2.1, hk_.1.2.2⟩)); have n3_ := Aside0.mk (Kd.R_mono (ok' := fun k_ => some k_ ≠ (.slice Ao27 t396.length co27 : Value).ownBlock ∧ some k_ ≠ (.slice Ao23 t388.length co23 : Value).ownBlock ∧ some k_ ≠ (.slice Ao56 t412.length co56 : Value).ownBlock) (Kd.R_keptB (HO_407003.out) hkp (fun k_ hk_ hs_ => (hk_.1) hs_)) (fun k_ hk_ => ⟨hk_.1.1, hk_.1.2.1, hk_.1.2.2⟩)); have n4_ := Aside0.mk (blk_kept (uK BK392) hkp (fun hs_ => (fun e_ => (Kd.R_ne HO_15.out BK392.out (by decide)) e_) hs_)); have n5_ := Aside0.mk (blk_kept (uK BK406) hkp (fun hs_ => (fun e_ => (Kd.R_ne HO_15.out BK406.out (by decide)) e_) hs_)); have n6_ := Aside0.mk (Kd.R_mono (ok' := fun k_ => some k_ ≠ (.slice Ao26 t393.length co26 : Value).ownBlock) (Kd.R_keptB ((Kd.R_apart' HO410.out (Kd.R_typed HO_15.out) (by decide))) hkp (fun k_ hk_ hs_ => (hk_.2) hs_)) (fun k_ hk_ => hk_.1.1)); have n7_ := Aside0.mk (Kd.R_mono (ok' := fun k_ => some k_ ≠ (.slice Ao27 t396.length co27 : Value).ownBlock ∧ some k_ ≠ (.slice Ao23 t388.length co23 : Value).ownBlock ∧ some k_ ≠ (.slice Ao32 t402.length co32 : Value).ownBlock) (Kd.R_keptB (HO414.out) hkp (fun k_ hk_ hs_ => (hk_.1) hs_)) (fun k_ hk_ => ⟨hk_.1.1, hk_.1.2.1, hk_.1.2.2⟩)); have n8_ := Aside0.mk (hb); clear HO_14 HO_15 HO_393003 HO_407003 BK392 BK406 HO410 HO414 HB; have HO_14 := n0_; have HO_15 := n1_; have HO_393003 := n2_; have HO_407003 := n3_; have BK392 := n4_; have BK406 := n5_; have HO410 := n6_; have HO414 := n7_; have HB := n8_; clear n0_ n1_ n2_ n3_ n4_ n5_ n6_ n7_ n8_; (try clear hb); (try clear hkp); (try clear hy0)))
        (try simp only [Act.put, List.setIfInBounds_toArray, List.set_cons_zero, List.set_cons_succ])
        go_cut [92] (fun v92 wc => ∃ (kq : Nat) (x92_51 : Bool), v92 = .bool x92_51 ∧ Aside0 (laws_FnExactTableByPeeling.j1 kq a0 l1 l2 a3 a4 t391 x92_51 t385 t386 t387 t388 t399 t400 t401 t402 = some r) ∧ Aside0 (kq ≤ kj14) ∧ Aside0 (Kd.R (Kd.int .i64) 3 wc w.heap.size (fun k_ => some k_ ≠ ((.slice Ao32 t402.length co32) : Value).ownBlock) (.slice Ao23 t388.length co23) t388) ∧ Aside0 (Kd.R (Kd.int .i64) 3 wc w.heap.size (fun k_ => some k_ ≠ ((.slice Ao23 t388.length co23) : Value).ownBlock) (.slice Ao32 t402.length co32) t402) ∧ Aside0 (wc.heap[gb392]? = some (.cells #[.int .i64 t385, .int .i64 t386, .int .i64 t387, (.slice Ao23 t388.length co23)] 35 (0, 0))) ∧ Aside0 (wc.heap[gb406]? = some (.cells #[.int .i64 t399, .int .i64 t400, .int .i64 t401, (.slice Ao32 t402.length co32)] 35 (0, 0))) ∧ Aside0 (Below w.heap.size w wc))
        case first =>
         have H := HC52.out
         clear HC52
         by_cases c59 : t418 < 0
         ·
          rw [if_pos c59] at H
          have c59b0 : decide (t418 < 0) = true := decide_eq_true c59
          clear c59
          (first | rw [c59b0] | (simp only [i64_w, i32_w]; rw [c59b0]) | skip)
          have H' := Aside0.mk H
          clear H
          go_wp2
          go_meet
          case rel => exact ⟨_, (true), (by first | rfl | (simp; done) | (simp [*]; done)), H', ⟨by have := HJ14.out; first | omega | exact Nat.le_refl _⟩, ⟨by (with_reducible repeat (first | apply Kd.R_alloc | apply Kd.R_drewN | apply Kd.R_drew)); exact Kd.R_mono HO_393003.out (fun _ hk => hk.2.1)⟩, ⟨by (with_reducible repeat (first | apply Kd.R_alloc | apply Kd.R_drewN | apply Kd.R_drew)); exact Kd.R_mono HO_407003.out (fun _ hk => hk.2.1)⟩, ⟨by refine uW ?_; exact BK392.out⟩, ⟨by refine uW ?_; exact BK406.out⟩, ⟨by first | exact uB HB | exact uS HB (gC GE392 (gC GE406 gN))⟩⟩
         ·
          rw [if_neg c59] at H
          have c59b0 : decide (t418 < 0) = false := decide_eq_false c59
          clear c59
          (first | rw [c59b0] | (simp only [i64_w, i32_w]; rw [c59b0]) | skip)
          replace H := Option.bind_eq_some_iff.mp H
          obtain ⟨t420, A600, H⟩ := H
          replace H : (if t420 = true then (laws_FnExactTableByPeeling.j1 kj14 a0 l1 l2 a3 a4 t391 (t405 != t391) t385 t386 t387 t388 t399 t400 t401 t402) else (laws_FnExactTableByPeeling.j1 kj14 a0 l1 l2 a3 a4 t391 true t385 t386 t387 t388 t399 t400 t401 t402)) = some r := H
          have A60 := Aside0.mk A600
          clear A600
          by_cases c61 : t420 = true
          ·
           subst c61
           have H1 : (laws_FnExactTableByPeeling.j1 kj14 a0 l1 l2 a3 a4 t391 (t405 != t391) t385 t386 t387 t388 t399 t400 t401 t402) = some r := by rw [if_pos rfl] at H; exact H
           clear H
           have H := H1
           clear H1
           have H' := Aside0.mk H
           clear H
           have hnb62 := NB406_392.out
           have hnc62 := NB392_406.out
           have hcz63_0 : w58.cell? ⟨gb406, 0, none⟩ = some (.int .i64 t399) := (blk_cell BK406.out 0).trans rfl
           have hcz63_1 : w58.cell? ⟨gb406, 1, none⟩ = some (.int .i64 t400) := (blk_cell BK406.out 1).trans rfl
           have hcz63_2 : w58.cell? ⟨gb406, 2, none⟩ = some (.int .i64 t401) := (blk_cell BK406.out 2).trans rfl
           have hcz63_3 : w58.cell? ⟨gb406, 3, none⟩ = some (.slice Ao32 t402.length co32) := (blk_cell BK406.out 3).trans rfl
           have hfz63_0 := blk_frozen BK406.out 0
           have hfz63_1 := blk_frozen BK406.out 1
           have hfz63_2 := blk_frozen BK406.out 2
           have hfz63_3 := blk_frozen BK406.out 3
           have hcz64_0 : w58.cell? ⟨gb392, 0, none⟩ = some (.int .i64 t385) := (blk_cell BK392.out 0).trans rfl
           have hcz64_1 : w58.cell? ⟨gb392, 1, none⟩ = some (.int .i64 t386) := (blk_cell BK392.out 1).trans rfl
           have hcz64_2 : w58.cell? ⟨gb392, 2, none⟩ = some (.int .i64 t387) := (blk_cell BK392.out 2).trans rfl
           have hcz64_3 : w58.cell? ⟨gb392, 3, none⟩ = some (.slice Ao23 t388.length co23) := (blk_cell BK392.out 3).trans rfl
           have hfz64_0 := blk_frozen BK392.out 0
           have hfz64_1 := blk_frozen BK392.out 1
           have hfz64_2 := blk_frozen BK392.out 2
           have hfz64_3 := blk_frozen BK392.out 3
           go_wp2_with (first | (go_at_call 19; (with_reducible refine (laws_eqTable.calls kj14 t399 t400 t401 _ _ t402 t385 t386 t387 _ _ t388 true _ ?side1 ?side2 ?side3 ?side4 A60.out).mono ?_); (case side1 => exact uD HO_407003); (case side2 => exact (Kd.R_reads' HO_407003.out).2.1); (case side3 => exact uD HO_393003); (case side4 => exact (Kd.R_reads' HO_393003.out).2.1); rintro e w65 ⟨rfl, hb⟩; have n0_ := Aside0.mk (Kd.R_below (uR HO_14) hb); have n1_ := Aside0.mk (Kd.R_below (uR HO_15) hb); have n2_ := Aside0.mk (Kd.R_below (uR HO_393003) hb); have n3_ := Aside0.mk (Kd.R_below (uR HO_407003) hb); have n4_ := Aside0.mk (Kd.R_below (uR HO410) hb); have n5_ := Aside0.mk (Kd.R_below (uR HO414) hb); have n6_ := Aside0.mk (blk_below (g := gb392) (o := .cells #[.int .i64 t385, .int .i64 t386, .int .i64 t387, .slice Ao23 t388.length co23] 35 (0, 0)) (uK BK392) hb); have n7_ := Aside0.mk (blk_below (g := gb406) (o := .cells #[.int .i64 t399, .int .i64 t400, .int .i64 t401, .slice Ao32 t402.length co32] 35 (0, 0)) (uK BK406) hb); have n8_ := Aside0.mk (below_step (by first | exact uB HB | exact uS HB (gC GE392 (gC GE406 gN))) hb); clear HO_14 HO_15 HO_393003 HO_407003 HO410 HO414 BK392 BK406 HB; have HO_14 := n0_; have HO_15 := n1_; have HO_393003 := n2_; have HO_407003 := n3_; have HO410 := n4_; have HO414 := n5_; have BK392 := n6_; have BK406 := n7_; have HB := n8_; clear n0_ n1_ n2_ n3_ n4_ n5_ n6_ n7_ n8_; (try clear hb); (try clear hb2); (try clear hk); (try clear hi)))
           go_meet
           case rel => exact ⟨_, ((t405 != t391)), (by first | rfl | (simp; done) | (simp [*]; done)), H', ⟨by have := HJ14.out; first | omega | exact Nat.le_refl _⟩, ⟨by (with_reducible repeat (first | apply Kd.R_alloc | apply Kd.R_drewN | apply Kd.R_drew)); exact Kd.R_mono HO_393003.out (fun _ hk => hk.2.1)⟩, ⟨by (with_reducible repeat (first | apply Kd.R_alloc | apply Kd.R_drewN | apply Kd.R_drew)); exact Kd.R_mono HO_407003.out (fun _ hk => hk.2.1)⟩, ⟨by refine uW ?_; exact BK392.out⟩, ⟨by refine uW ?_; exact BK406.out⟩, ⟨by first | exact uB HB | exact uS HB (gC GE392 (gC GE406 gN))⟩⟩
          ·
           replace c61 := Bool.eq_false_iff.mpr c61
           subst c61
           have H1 : (laws_FnExactTableByPeeling.j1 kj14 a0 l1 l2 a3 a4 t391 true t385 t386 t387 t388 t399 t400 t401 t402) = some r := by rw [if_neg (show ¬ (false = true) by decide)] at H; exact H
           clear H
           have H := H1
           clear H1
           have H' := Aside0.mk H
           clear H
           have hnb66 := NB406_392.out
           have hnc66 := NB392_406.out
           have hcz67_0 : w58.cell? ⟨gb406, 0, none⟩ = some (.int .i64 t399) := (blk_cell BK406.out 0).trans rfl
           have hcz67_1 : w58.cell? ⟨gb406, 1, none⟩ = some (.int .i64 t400) := (blk_cell BK406.out 1).trans rfl
           have hcz67_2 : w58.cell? ⟨gb406, 2, none⟩ = some (.int .i64 t401) := (blk_cell BK406.out 2).trans rfl
           have hcz67_3 : w58.cell? ⟨gb406, 3, none⟩ = some (.slice Ao32 t402.length co32) := (blk_cell BK406.out 3).trans rfl
           have hfz67_0 := blk_frozen BK406.out 0
           have hfz67_1 := blk_frozen BK406.out 1
           have hfz67_2 := blk_frozen BK406.out 2
           have hfz67_3 := blk_frozen BK406.out 3
           have hcz68_0 : w58.cell? ⟨gb392, 0, none⟩ = some (.int .i64 t385) := (blk_cell BK392.out 0).trans rfl
           have hcz68_1 : w58.cell? ⟨gb392, 1, none⟩ = some (.int .i64 t386) := (blk_cell BK392.out 1).trans rfl
           have hcz68_2 : w58.cell? ⟨gb392, 2, none⟩ = some (.int .i64 t387) := (blk_cell BK392.out 2).trans rfl
           have hcz68_3 : w58.cell? ⟨gb392, 3, none⟩ = some (.slice Ao23 t388.length co23) := (blk_cell BK392.out 3).trans rfl
           have hfz68_0 := blk_frozen BK392.out 0
           have hfz68_1 := blk_frozen BK392.out 1
           have hfz68_2 := blk_frozen BK392.out 2
           have hfz68_3 := blk_frozen BK392.out 3
           go_wp2_with (first | (go_at_call 19; (with_reducible refine (laws_eqTable.calls kj14 t399 t400 t401 _ _ t402 t385 t386 t387 _ _ t388 false _ ?side1 ?side2 ?side3 ?side4 A60.out).mono ?_); (case side1 => exact uD HO_407003); (case side2 => exact (Kd.R_reads' HO_407003.out).2.1); (case side3 => exact uD HO_393003); (case side4 => exact (Kd.R_reads' HO_393003.out).2.1); rintro e w69 ⟨rfl, hb⟩; have n0_ := Aside0.mk (Kd.R_below (uR HO_14) hb); have n1_ := Aside0.mk (Kd.R_below (uR HO_15) hb); have n2_ := Aside0.mk (Kd.R_below (uR HO_393003) hb); have n3_ := Aside0.mk (Kd.R_below (uR HO_407003) hb); have n4_ := Aside0.mk (Kd.R_below (uR HO410) hb); have n5_ := Aside0.mk (Kd.R_below (uR HO414) hb); have n6_ := Aside0.mk (blk_below (g := gb392) (o := .cells #[.int .i64 t385, .int .i64 t386, .int .i64 t387, .slice Ao23 t388.length co23] 35 (0, 0)) (uK BK392) hb); have n7_ := Aside0.mk (blk_below (g := gb406) (o := .cells #[.int .i64 t399, .int .i64 t400, .int .i64 t401, .slice Ao32 t402.length co32] 35 (0, 0)) (uK BK406) hb); have n8_ := Aside0.mk (below_step (by first | exact uB HB | exact uS HB (gC GE392 (gC GE406 gN))) hb); clear HO_14 HO_15 HO_393003 HO_407003 HO410 HO414 BK392 BK406 HB; have HO_14 := n0_; have HO_15 := n1_; have HO_393003 := n2_; have HO_407003 := n3_; have HO410 := n4_; have HO414 := n5_; have BK392 := n6_; have BK406 := n7_; have HB := n8_; clear n0_ n1_ n2_ n3_ n4_ n5_ n6_ n7_ n8_; (try clear hb); (try clear hb2); (try clear hk); (try clear hi)))
           go_meet
           case rel => exact ⟨_, (true), (by first | rfl | (simp; done) | (simp [*]; done)), H', ⟨by have := HJ14.out; first | omega | exact Nat.le_refl _⟩, ⟨by (with_reducible repeat (first | apply Kd.R_alloc | apply Kd.R_drewN | apply Kd.R_drew)); exact Kd.R_mono HO_393003.out (fun _ hk => hk.2.1)⟩, ⟨by (with_reducible repeat (first | apply Kd.R_alloc | apply Kd.R_drewN | apply Kd.R_drew)); exact Kd.R_mono HO_407003.out (fun _ hk => hk.2.1)⟩, ⟨by refine uW ?_; exact BK392.out⟩, ⟨by refine uW ?_; exact BK406.out⟩, ⟨by first | exact uB HB | exact uS HB (gC GE392 (gC GE406 gN))⟩⟩
        case rest =>
         clear HC52
         try clear c1
         try clear c2
         try clear p2
         try clear c3
         try clear c4
         try clear c5
         try clear c6
         try clear c6b0
         try clear c6b1
         try clear c7
         try clear c8
         try clear c8b0
         try clear c9
         try clear c12
         try clear c13
         try clear c16
         try clear c17
         try clear c18
         try clear c19
         try clear c20
         try clear c21
         try clear c30
         try clear c34
         try clear c35
         try clear c39
         try clear c43
         try clear c46
         try clear c49
         try clear c59
         try clear c59b0
         try clear c61
         try clear c62
         try clear c66
         try clear hcz22_0
         try clear hcz22_1
         try clear hcz22_2
         try clear hcz22_3
         try clear hcz31_0
         try clear hcz31_1
         try clear hcz31_2
         try clear hcz31_3
         try clear hcz36_0
         try clear hcz36_1
         try clear hcz36_2
         try clear hcz36_3
         try clear hcz37_0
         try clear hcz37_1
         try clear hcz37_2
         try clear hcz37_3
         try clear hcz40_0
         try clear hcz40_1
         try clear hcz40_2
         try clear hcz40_3
         try clear hcz41_0
         try clear hcz41_1
         try clear hcz41_2
         try clear hcz41_3
         try clear hcz63_0
         try clear hcz63_1
         try clear hcz63_2
         try clear hcz63_3
         try clear hcz64_0
         try clear hcz64_1
         try clear hcz64_2
         try clear hcz64_3
         try clear hcz67_0
         try clear hcz67_1
         try clear hcz67_2
         try clear hcz67_3
         try clear hcz68_0
         try clear hcz68_1
         try clear hcz68_2
         try clear hcz68_3
         try clear hfz22_0
         try clear hfz22_1
         try clear hfz22_2
         try clear hfz22_3
         try clear hfz31_0
         try clear hfz31_1
         try clear hfz31_2
         try clear hfz31_3
         try clear hfz36_0
         try clear hfz36_1
         try clear hfz36_2
         try clear hfz36_3
         try clear hfz37_0
         try clear hfz37_1
         try clear hfz37_2
         try clear hfz37_3
         try clear hfz40_0
         try clear hfz40_1
         try clear hfz40_2
         try clear hfz40_3
         try clear hfz41_0
         try clear hfz41_1
         try clear hfz41_2
         try clear hfz41_3
         try clear hfz63_0
         try clear hfz63_1
         try clear hfz63_2
         try clear hfz63_3
         try clear hfz64_0
         try clear hfz64_1
         try clear hfz64_2
         try clear hfz64_3
         try clear hfz67_0
         try clear hfz67_1
         try clear hfz67_2
         try clear hfz67_3
         try clear hfz68_0
         try clear hfz68_1
         try clear hfz68_2
         try clear hfz68_3
         try clear p2
         obtain ⟨kq, x92_51, rfl, HA, HJ51, HO_393003, HO_407003, BK392, BK406, HB⟩ := hcut
         cases kq with
         | zero => exact absurd HA.out (by simp [laws_FnExactTableByPeeling.j1])
         | succ kj51 =>
          have H := HA.out
          clear HA
          simp only [laws_FnExactTableByPeeling.j1] at H
          by_cases c70 : x92_51 = true
          ·
           subst c70
           have H1 : (some false) = some r := by rw [if_pos rfl] at H; exact H
           clear H
           have H := H1
           clear H1
           obtain rfl := Option.some.inj H
           go_wp2
           go_ret
           exact ⟨by first | rfl | (simp [errW_none, errW_some] <;> rfl) | (simp [*, errW_none, errW_some] <;> rfl), by first | exact uB HB | exact uS HB (gC GE392 (gC GE406 gN))⟩
          ·
           replace c70 := Bool.eq_false_iff.mpr c70
           subst c70
           have H1 : ((laws_markTable.f kj51 t399 t400 t401 t402 1).bind fun bt421 => ((laws_heldTable.f kj51 t399 t400 t401 bt421.2 1).bind fun t423 => (if t423 < 0 then (some false) else (if t423 = bt421.1 then ((laws_toStringS.f kj51 l1).bind fun t424 => ((laws_toIntS.f kj51 l2).bind fun t427 => ((impl_TableByPeeling.f kj51 a0 t424 t427 a3 a4).bind fun bt430 => ((laws_eqTable.f kj51 bt430.1 bt430.2.1 bt430.2.2.1 bt430.2.2.2.1 t385 t386 t387 t388).bind fun t438 => (if t438 = true then (laws_FnExactTableByPeeling.j2 kj51 bt421.1 (bt430.2.2.2.2 != t391) t399 t400 t401 bt421.2) else (laws_FnExactTableByPeeling.j2 kj51 bt421.1 true t399 t400 t401 bt421.2)))))) else (some false))))) = some r := by rw [if_neg (show ¬ (false = true) by decide)] at H; exact H
           clear H
           have H := H1
           clear H1
           replace H := Option.bind_eq_some_iff.mp H
           obtain ⟨⟨t421, t422⟩, A710, H⟩ := H
           replace H : ((laws_heldTable.f kj51 t399 t400 t401 t422 1).bind fun t423 => (if t423 < 0 then (some false) else (if t423 = t421 then ((laws_toStringS.f kj51 l1).bind fun t424 => ((laws_toIntS.f kj51 l2).bind fun t427 => ((impl_TableByPeeling.f kj51 a0 t424 t427 a3 a4).bind fun bt430 => ((laws_eqTable.f kj51 bt430.1 bt430.2.1 bt430.2.2.1 bt430.2.2.2.1 t385 t386 t387 t388).bind fun t438 => (if t438 = true then (laws_FnExactTableByPeeling.j2 kj51 t421 (bt430.2.2.2.2 != t391) t399 t400 t401 t422) else (laws_FnExactTableByPeeling.j2 kj51 t421 true t399 t400 t401 t422)))))) else (some false)))) = some r := H
           have A71 := Aside0.mk A710
           clear A710
           replace H := Option.bind_eq_some_iff.mp H
           obtain ⟨t423, A720, H⟩ := H
           replace H : (if t423 < 0 then (some false) else (if t423 = t421 then ((laws_toStringS.f kj51 l1).bind fun t424 => ((laws_toIntS.f kj51 l2).bind fun t427 => ((impl_TableByPeeling.f kj51 a0 t424 t427 a3 a4).bind fun bt430 => ((laws_eqTable.f kj51 bt430.1 bt430.2.1 bt430.2.2.1 bt430.2.2.2.1 t385 t386 t387 t388).bind fun t438 => (if t438 = true then (laws_FnExactTableByPeeling.j2 kj51 t421 (bt430.2.2.2.2 != t391) t399 t400 t401 t422) else (laws_FnExactTableByPeeling.j2 kj51 t421 true t399 t400 t401 t422)))))) else (some false))) = some r := H
           have A72 := Aside0.mk A720
           clear A720
           by_cases c73 : t423 < 0
           ·
            rw [if_pos c73] at H
            have c73b0 : decide (t423 < 0) = true := decide_eq_true c73
            clear c73
            obtain rfl := Option.some.inj H
            have hnb74 := NB406_392.out
            have hnc74 := NB392_406.out
            have hcz75_0 : wc.cell? ⟨gb406, 0, none⟩ = some (.int .i64 t399) := (blk_cell BK406.out 0).trans rfl
            have hcz75_1 : wc.cell? ⟨gb406, 1, none⟩ = some (.int .i64 t400) := (blk_cell BK406.out 1).trans rfl
            have hcz75_2 : wc.cell? ⟨gb406, 2, none⟩ = some (.int .i64 t401) := (blk_cell BK406.out 2).trans rfl
            have hcz75_3 : wc.cell? ⟨gb406, 3, none⟩ = some (.slice Ao32 t402.length co32) := (blk_cell BK406.out 3).trans rfl
            have hfz75_0 := blk_frozen BK406.out 0
            have hfz75_1 := blk_frozen BK406.out 1
            have hfz75_2 := blk_frozen BK406.out 2
            have hfz75_3 := blk_frozen BK406.out 3
            go_wp2_with (first | ((with_reducible refine gate_callee (f := 22) rfl ?_); refine goesL_ (some 95) rfl rfl Try.func22 (by kernel_rfl) rfl #[.agg #[.int .i64 t399, .int .i64 t400, .int .i64 t401, .slice Ao32 t402.length co32], .int .i64 1] rfl (by (try simp only [List.map_toArray, List.map_cons, List.map_nil]); first | done | rfl | (simp only [List.length_drop, List.length_take]; rfl)) ?_; (with_reducible refine (laws_markTable.calls kj51 t399 t400 t401 (fun k_ => some k_ = (.slice Ao32 t402.length co32 : Value).ownBlock) (.slice Ao32 t402.length co32) t402 1 t421 t422 w _ ?side1 ?side2 A71.out).mono ?_); (case side1 => first | exact uB HB | exact uS HB (gC GE392 (gC GE406 gN))); (case side2 => exact Kd.R_tight rfl HO_407003.out); rintro e w76 ⟨rfl, hy0, hb, hkp⟩; refine ⟨_, rfl, ?_⟩; have n0_ := Aside0.mk (Kd.R_mono (ok' := fun k_ => some k_ ≠ (.slice Ao32 t402.length co32 : Value).ownBlock) (Kd.R_keptB (HO_393003.out) hkp (fun k_ hk_ hs_ => (hk_) hs_)) (fun k_ hk_ => hk_.1)); have n1_ := Aside0.mk (Kd.R_reok rfl hy0 (fun k_ e_ => HO_407003.out.1 k_ e_)); have n2_ := Aside0.mk (blk_kept (uK BK392) hkp (fun hs_ => (fun e_ => (Kd.R_ne HO_407003.out BK392.out (by decide)) e_) hs_)); have n3_ := Aside0.mk (blk_kept (uK BK406) hkp (fun hs_ => (fun e_ => (Kd.R_ne HO_407003.out BK406.out (by decide)) e_) hs_)); have n4_ := Aside0.mk (hb); clear HO_393003 HO_407003 BK392 BK406 HB; have HO_393003 := n0_; have HO_407003 := n1_; have BK392 := n2_; have BK406 := n3_; have HB := n4_; clear n0_ n1_ n2_ n3_ n4_; (try clear hb); (try clear hkp); (try clear hy0); have hcz77_0 : w76.cell? ⟨gb406, 0, none⟩ = some (.int .i64 t399) := (blk_cell BK406.out 0).trans rfl; have hcz77_1 : w76.cell? ⟨gb406, 1, none⟩ = some (.int .i64 t400) := (blk_cell BK406.out 1).trans rfl; have hcz77_2 : w76.cell? ⟨gb406, 2, none⟩ = some (.int .i64 t401) := (blk_cell BK406.out 2).trans rfl; have hcz77_3 : w76.cell? ⟨gb406, 3, none⟩ = some (.slice Ao32 t402.length co32) := (blk_cell BK406.out 3).trans rfl; have hfz77_0 := blk_frozen BK406.out 0; have hfz77_1 := blk_frozen BK406.out 1; have hfz77_2 := blk_frozen BK406.out 2; have hfz77_3 := blk_frozen BK406.out 3) | ((with_reducible refine gate_callee (f := 23) rfl ?_); refine goesL_ (some 98) rfl rfl Try.func23 (by kernel_rfl) rfl #[.agg #[.int .i64 t399, .int .i64 t400, .int .i64 t401, .slice Ao32 t422.length co32], .int .i64 1] rfl (by (try simp only [List.map_toArray, List.map_cons, List.map_nil]); first | done | (rw [show t422.length = t402.length from (Kd.R_reads' HO_407003.out).1.symm] <;> rfl) | rfl | (simp only [List.length_drop, List.length_take]; rfl)) ?_; (with_reducible refine (laws_heldTable.calls kj51 t399 t400 t401 _ _ t422 1 t423 _ ?side1 ?side2 A72.out).mono ?_); (case side1 => exact uD HO_407003); (case side2 => rw [show t422.length = t402.length from (Kd.R_reads' HO_407003.out).1.symm]; exact (Kd.R_reads' HO_407003.out).2.1); rintro e w78 ⟨rfl, hb⟩; refine ⟨_, rfl, ?_⟩; have n0_ := Aside0.mk (Kd.R_below (uR HO_393003) hb); have n1_ := Aside0.mk (Kd.R_below (uR HO_407003) hb); have n2_ := Aside0.mk (blk_below (g := gb392) (o := .cells #[.int .i64 t385, .int .i64 t386, .int .i64 t387, .slice Ao23 t388.length co23] 35 (0, 0)) (uK BK392) hb); have n3_ := Aside0.mk (blk_below (g := gb406) (o := .cells #[.int .i64 t399, .int .i64 t400, .int .i64 t401, .slice Ao32 t402.length co32] 35 (0, 0)) (uK BK406) hb); have n4_ := Aside0.mk (below_step (by first | exact uB HB | exact uS HB (gC GE392 (gC GE406 gN))) hb); clear HO_393003 HO_407003 BK392 BK406 HB; have HO_393003 := n0_; have HO_407003 := n1_; have BK392 := n2_; have BK406 := n3_; have HB := n4_; clear n0_ n1_ n2_ n3_ n4_; (try clear hb); (try clear hb2); (try clear hk); (try clear hi)))
            go_ret
            exact ⟨by first | rfl | (simp [errW_none, errW_some] <;> rfl) | (simp [*, errW_none, errW_some] <;> rfl), by first | exact uB HB | exact uS HB (gC GE392 (gC GE406 gN))⟩
           ·
            rw [if_neg c73] at H
            have c73b0 : decide (t423 < 0) = false := decide_eq_false c73
            clear c73
            by_cases c79 : t423 = t421
            ·
             rw [if_pos c79] at H
             have c79b0 : (t423 == t421) = true := beq_iff_eq.mpr c79
             have c79b1 : (t423 != t421) = false := bne_eq_false_iff_eq.mpr c79
             clear c79
             replace H := Option.bind_eq_some_iff.mp H
             obtain ⟨t424, A800, H⟩ := H
             replace H : ((laws_toIntS.f kj51 l2).bind fun t427 => ((impl_TableByPeeling.f kj51 a0 t424 t427 a3 a4).bind fun bt430 => ((laws_eqTable.f kj51 bt430.1 bt430.2.1 bt430.2.2.1 bt430.2.2.2.1 t385 t386 t387 t388).bind fun t438 => (if t438 = true then (laws_FnExactTableByPeeling.j2 kj51 t421 (bt430.2.2.2.2 != t391) t399 t400 t401 t422) else (laws_FnExactTableByPeeling.j2 kj51 t421 true t399 t400 t401 t422))))) = some r := H
             have A80 := Aside0.mk A800
             clear A800
             replace H := Option.bind_eq_some_iff.mp H
             obtain ⟨t427, A810, H⟩ := H
             replace H : ((impl_TableByPeeling.f kj51 a0 t424 t427 a3 a4).bind fun bt430 => ((laws_eqTable.f kj51 bt430.1 bt430.2.1 bt430.2.2.1 bt430.2.2.2.1 t385 t386 t387 t388).bind fun t438 => (if t438 = true then (laws_FnExactTableByPeeling.j2 kj51 t421 (bt430.2.2.2.2 != t391) t399 t400 t401 t422) else (laws_FnExactTableByPeeling.j2 kj51 t421 true t399 t400 t401 t422)))) = some r := H
             have A81 := Aside0.mk A810
             clear A810
             replace H := Option.bind_eq_some_iff.mp H
             obtain ⟨⟨t430, t431, t432, t433, t436⟩, A820, H⟩ := H
             replace H : ((laws_eqTable.f kj51 t430 t431 t432 t433 t385 t386 t387 t388).bind fun t438 => (if t438 = true then (laws_FnExactTableByPeeling.j2 kj51 t421 (t436 != t391) t399 t400 t401 t422) else (laws_FnExactTableByPeeling.j2 kj51 t421 true t399 t400 t401 t422))) = some r := H
             have A82 := Aside0.mk A820
             clear A820
             have HC83 := Aside0.mk H
             clear H
             have hnb84 := NB406_392.out
             have hnc84 := NB392_406.out
             have hcz85_0 : wc.cell? ⟨gb406, 0, none⟩ = some (.int .i64 t399) := (blk_cell BK406.out 0).trans rfl
             have hcz85_1 : wc.cell? ⟨gb406, 1, none⟩ = some (.int .i64 t400) := (blk_cell BK406.out 1).trans rfl
             have hcz85_2 : wc.cell? ⟨gb406, 2, none⟩ = some (.int .i64 t401) := (blk_cell BK406.out 2).trans rfl
             have hcz85_3 : wc.cell? ⟨gb406, 3, none⟩ = some (.slice Ao32 t402.length co32) := (blk_cell BK406.out 3).trans rfl
             have hfz85_0 := blk_frozen BK406.out 0
             have hfz85_1 := blk_frozen BK406.out 1
             have hfz85_2 := blk_frozen BK406.out 2
             have hfz85_3 := blk_frozen BK406.out 3
             go_upto_region 31 with (first | ((with_reducible refine gate_callee (f := 22) rfl ?_); refine goesL_ (some 95) rfl rfl Try.func22 (by kernel_rfl) rfl #[.agg #[.int .i64 t399, .int .i64 t400, .int .i64 t401, .slice Ao32 t402.length co32], .int .i64 1] rfl (by (try simp only [List.map_toArray, List.map_cons, List.map_nil]); first | done | rfl | (simp only [List.length_drop, List.length_take]; rfl)) ?_; (with_reducible refine (laws_markTable.calls kj51 t399 t400 t401 (fun k_ => some k_ = (.slice Ao32 t402.length co32 : Value).ownBlock) (.slice Ao32 t402.length co32) t402 1 t421 t422 w _ ?side1 ?side2 A71.out).mono ?_); (case side1 => first | exact uB HB | exact uS HB (gC GE392 (gC GE406 gN))); (case side2 => exact Kd.R_tight rfl HO_407003.out); rintro e w86 ⟨rfl, hy0, hb, hkp⟩; refine ⟨_, rfl, ?_⟩; have n0_ := Aside0.mk (Kd.R_mono (ok' := fun k_ => some k_ ≠ (.slice Ao32 t402.length co32 : Value).ownBlock) (Kd.R_keptB (HO_393003.out) hkp (fun k_ hk_ hs_ => (hk_) hs_)) (fun k_ hk_ => hk_.1)); have n1_ := Aside0.mk (Kd.R_reok rfl hy0 (fun k_ e_ => HO_407003.out.1 k_ e_)); have n2_ := Aside0.mk (blk_kept (uK BK392) hkp (fun hs_ => (fun e_ => (Kd.R_ne HO_407003.out BK392.out (by decide)) e_) hs_)); have n3_ := Aside0.mk (blk_kept (uK BK406) hkp (fun hs_ => (fun e_ => (Kd.R_ne HO_407003.out BK406.out (by decide)) e_) hs_)); have n4_ := Aside0.mk (hb); clear HO_393003 HO_407003 BK392 BK406 HB; have HO_393003 := n0_; have HO_407003 := n1_; have BK392 := n2_; have BK406 := n3_; have HB := n4_; clear n0_ n1_ n2_ n3_ n4_; (try clear hb); (try clear hkp); (try clear hy0); have hcz87_0 : w86.cell? ⟨gb406, 0, none⟩ = some (.int .i64 t399) := (blk_cell BK406.out 0).trans rfl; have hcz87_1 : w86.cell? ⟨gb406, 1, none⟩ = some (.int .i64 t400) := (blk_cell BK406.out 1).trans rfl; have hcz87_2 : w86.cell? ⟨gb406, 2, none⟩ = some (.int .i64 t401) := (blk_cell BK406.out 2).trans rfl; have hcz87_3 : w86.cell? ⟨gb406, 3, none⟩ = some (.slice Ao32 t402.length co32) := (blk_cell BK406.out 3).trans rfl; have hfz87_0 := blk_frozen BK406.out 0; have hfz87_1 := blk_frozen BK406.out 1; have hfz87_2 := blk_frozen BK406.out 2; have hfz87_3 := blk_frozen BK406.out 3) | ((with_reducible refine gate_callee (f := 23) rfl ?_); refine goesL_ (some 98) rfl rfl Try.func23 (by kernel_rfl) rfl #[.agg #[.int .i64 t399, .int .i64 t400, .int .i64 t401, .slice Ao32 t422.length co32], .int .i64 1] rfl (by (try simp only [List.map_toArray, List.map_cons, List.map_nil]); first | done | (rw [show t422.length = t402.length from (Kd.R_reads' HO_407003.out).1.symm] <;> rfl) | rfl | (simp only [List.length_drop, List.length_take]; rfl)) ?_; (with_reducible refine (laws_heldTable.calls kj51 t399 t400 t401 _ _ t422 1 t423 _ ?side1 ?side2 A72.out).mono ?_); (case side1 => exact uD HO_407003); (case side2 => rw [show t422.length = t402.length from (Kd.R_reads' HO_407003.out).1.symm]; exact (Kd.R_reads' HO_407003.out).2.1); rintro e w88 ⟨rfl, hb⟩; refine ⟨_, rfl, ?_⟩; have n0_ := Aside0.mk (Kd.R_below (uR HO_393003) hb); have n1_ := Aside0.mk (Kd.R_below (uR HO_407003) hb); have n2_ := Aside0.mk (blk_below (g := gb392) (o := .cells #[.int .i64 t385, .int .i64 t386, .int .i64 t387, .slice Ao23 t388.length co23] 35 (0, 0)) (uK BK392) hb); have n3_ := Aside0.mk (blk_below (g := gb406) (o := .cells #[.int .i64 t399, .int .i64 t400, .int .i64 t401, .slice Ao32 t402.length co32] 35 (0, 0)) (uK BK406) hb); have n4_ := Aside0.mk (below_step (by first | exact uB HB | exact uS HB (gC GE392 (gC GE406 gN))) hb); clear HO_393003 HO_407003 BK392 BK406 HB; have HO_393003 := n0_; have HO_407003 := n1_; have BK392 := n2_; have BK406 := n3_; have HB := n4_; clear n0_ n1_ n2_ n3_ n4_; (try clear hb); (try clear hb2); (try clear hk); (try clear hi)) | ((with_reducible refine gate_callee (f := 9) rfl ?_); refine goesL_ (some 107) rfl rfl Try.func9 (by kernel_rfl) rfl #[.slice A1 l1.length c1] rfl (by (try simp only [List.map_toArray, List.map_cons, List.map_nil]); first | done | rfl | (simp only [List.length_drop, List.length_take]; rfl)) ?_; (with_reducible refine (laws_toStringS.calls kj51 _ _ l1 t424 _ ?side1 ?side2 A80.out).mono ?_); (case side1 => exact uC HR1 HB); (case side2 => exact HC1.out); rintro e w89 ⟨v425, rfl, ho0, hb⟩; refine ⟨_, rfl, ?_⟩; have n0_ := Aside0.mk (Kd.R_below (uR HO_393003) hb); have n1_ := Aside0.mk (Kd.R_below (uR HO_407003) hb); have n2_ := Aside0.mk (Kd.R_lower ho0 (below_size (by first | exact uB HB | exact uS HB (gC GE392 (gC GE406 gN))))); have n3_ := Aside0.mk (blk_below (g := gb392) (o := .cells #[.int .i64 t385, .int .i64 t386, .int .i64 t387, .slice Ao23 t388.length co23] 35 (0, 0)) (uK BK392) hb); have n4_ := Aside0.mk (blk_below (g := gb406) (o := .cells #[.int .i64 t399, .int .i64 t400, .int .i64 t401, .slice Ao32 t402.length co32] 35 (0, 0)) (uK BK406) hb); have n5_ := Aside0.mk (below_step (by first | exact uB HB | exact uS HB (gC GE392 (gC GE406 gN))) hb); clear HO_393003 HO_407003 BK392 BK406 HB; have HO_393003 := n0_; have HO_407003 := n1_; have HO426 := n2_; have BK392 := n3_; have BK406 := n4_; have HB := n5_; clear n0_ n1_ n2_ n3_ n4_ n5_; (try clear hb); (try clear hb2); (try clear hk); (try clear hi); (try clear ho0)) | ((with_reducible refine gate_callee (f := 17) rfl ?_); refine goesL_ (some 109) rfl rfl Try.func17 (by kernel_rfl) rfl #[.slice A2 l2.length c2] rfl (by (try simp only [List.map_toArray, List.map_cons, List.map_nil]); first | done | rfl | (simp only [List.length_drop, List.length_take]; rfl)) ?_; (with_reducible refine (laws_toIntS.calls kj51 _ _ l2 t427 _ ?side1 ?side2 A81.out).mono ?_); (case side1 => exact uC HR2 HB); (case side2 => exact HC2.out); rintro e w90 ⟨v428, rfl, ho0, hb⟩; refine ⟨_, rfl, ?_⟩; have n0_ := Aside0.mk (Kd.R_elder' (uR HO_393003) (Kd.R_base ho0) hb); have n1_ := Aside0.mk (Kd.R_elder' (uR HO_407003) (Kd.R_base ho0) hb); have n2_ := Aside0.mk (Kd.R_below (uR HO426) hb); have n3_ := Aside0.mk (Kd.R_lower (Kd.R_new' (Kd.R_new' ho0 (Kd.R_lt (uR HO_393003))) (Kd.R_lt (uR HO_407003))) (below_size (by first | exact uB HB | exact uS HB (gC GE392 (gC GE406 gN))))); have n4_ := Aside0.mk (blk_below (g := gb392) (o := .cells #[.int .i64 t385, .int .i64 t386, .int .i64 t387, .slice Ao23 t388.length co23] 35 (0, 0)) (uK BK392) hb); have n5_ := Aside0.mk (blk_below (g := gb406) (o := .cells #[.int .i64 t399, .int .i64 t400, .int .i64 t401, .slice Ao32 t402.length co32] 35 (0, 0)) (uK BK406) hb); have n6_ := Aside0.mk (below_step (by first | exact uB HB | exact uS HB (gC GE392 (gC GE406 gN))) hb); clear HO_393003 HO_407003 HO426 BK392 BK406 HB; have HO_393003 := n0_; have HO_407003 := n1_; have HO426 := n2_; have HO429 := n3_; have BK392 := n4_; have BK406 := n5_; have HB := n6_; clear n0_ n1_ n2_ n3_ n4_ n5_ n6_; (try clear hb); (try clear hb2); (try clear hk); (try clear hi); (try clear ho0); obtain ⟨Ao91, co91, eo91⟩ := Kd.R_slice HO426.out; subst eo91; obtain ⟨Ao92, co92, eo92⟩ := Kd.R_slice HO429.out; subst eo92) | ((with_reducible refine gate_callee (f := 18) rfl ?_); refine goesL_ (some 112) rfl rfl Try.func18 (by kernel_rfl) rfl #[.int .i64 a0, .slice Ao91 t424.length co91, .slice Ao92 t427.length co92, .int .i64 a3, .int .i64 a4] rfl (by (try simp only [List.map_toArray, List.map_cons, List.map_nil]); first | done | rfl | (simp only [List.length_drop, List.length_take]; rfl)) ?_; (with_reducible refine (impl_TableByPeeling.calls kj51 a0 _ _ t424 _ _ t427 a3 a4 t430 t431 t432 t433 t436 _ ?side1 ?side2 ?side3 ?side4 A82.out).mono ?_); (case side1 => exact uD HO426); (case side2 => exact (Kd.R_reads' HO426.out).2.1); (case side3 => exact uD HO429); (case side4 => exact (Kd.R_reads' HO429.out).2.1); rintro e w93 ⟨v434, rfl, ho0, hb⟩; refine ⟨_, rfl, ?_⟩; have n0_ := Aside0.mk (Kd.R_elder' (uR HO_393003) (Kd.R_base ho0) hb); have n1_ := Aside0.mk (Kd.R_elder' (uR HO_407003) (Kd.R_base ho0) hb); have n2_ := Aside0.mk (Kd.R_below (uR HO426) hb); have n3_ := Aside0.mk (Kd.R_elder' (uR HO429) (Kd.R_base ho0) hb); have n4_ := Aside0.mk (Kd.R_lower (Kd.R_new' (Kd.R_new' (Kd.R_new' ho0 (Kd.R_lt (uR HO_393003))) (Kd.R_lt (uR HO_407003))) (Kd.R_lt (uR HO429))) (below_size (by first | exact uB HB | exact uS HB (gC GE392 (gC GE406 gN))))); have n5_ := Aside0.mk (blk_below (g := gb392) (o := .cells #[.int .i64 t385, .int .i64 t386, .int .i64 t387, .slice Ao23 t388.length co23] 35 (0, 0)) (uK BK392) hb); have n6_ := Aside0.mk (blk_below (g := gb406) (o := .cells #[.int .i64 t399, .int .i64 t400, .int .i64 t401, .slice Ao32 t402.length co32] 35 (0, 0)) (uK BK406) hb); have n7_ := Aside0.mk (below_step (by first | exact uB HB | exact uS HB (gC GE392 (gC GE406 gN))) hb); clear HO_393003 HO_407003 HO426 HO429 BK392 BK406 HB; have HO_393003 := n0_; have HO_407003 := n1_; have HO426 := n2_; have HO429 := n3_; have HO435 := n4_; have BK392 := n5_; have BK406 := n6_; have HB := n7_; clear n0_ n1_ n2_ n3_ n4_ n5_ n6_ n7_; (try clear hb); (try clear hb2); (try clear hk); (try clear hi); (try clear ho0)) | ((with_reducible refine gate_dst (N := 21) rfl ?_); refine box_event ?hg (N := 21) ?hd (cs := #[.int .i64 0, .int .i64 0, .int .i64 0, .slice none 0 0]) (t := 35) ?hr ?_; (case hd => rfl); (case hg => rfl); (case hr => first | (go_simp; done) | (go_simp; rfl)); intro gb437 hg w94 hbox hb; have n0_ := Aside0.mk (Kd.R_below (uR HO_393003) hb); have n1_ := Aside0.mk (Kd.R_below (uR HO_407003) hb); have n2_ := Aside0.mk (Kd.R_below (uR HO426) hb); have n3_ := Aside0.mk (Kd.R_below (uR HO429) hb); have n4_ := Aside0.mk (Kd.R_below (uR HO435) hb); have n5_ := Aside0.mk (blk_below (g := gb392) (o := .cells #[.int .i64 t385, .int .i64 t386, .int .i64 t387, .slice Ao23 t388.length co23] 35 (0, 0)) (uK BK392) hb); have n6_ := Aside0.mk (blk_below (g := gb406) (o := .cells #[.int .i64 t399, .int .i64 t400, .int .i64 t401, .slice Ao32 t402.length co32] 35 (0, 0)) (uK BK406) hb); have n7_ := Aside0.mk (below_step (by first | exact uB HB | exact uS HB (gC GE392 (gC GE406 gN))) hb); have n8_ := Aside0.mk (hbox); have n9_ := Aside0.mk ((by rw [hg]; exact (below_size (by first | exact uB HB | exact uS HB (gC GE392 (gC GE406 gN)))) : w.heap.size ≤ gb437)); have n10_ := Aside0.mk ((by rw [hg]; exact (below_size (by first | exact uB HB | exact uS HB (gC GE392 (gC GE406 gN)))) : w.heap.size ≤ gb437)); have n11_ := Aside0.mk ((by rw [hg]; exact Nat.ne_of_lt (blk_lt (g := gb392) (o := .cells #[.int .i64 t385, .int .i64 t386, .int .i64 t387, .slice Ao23 t388.length co23] 35 (0, 0)) (uK BK392)) : gb392 ≠ gb437)); have n12_ := Aside0.mk ((by rw [hg]; exact Nat.ne_of_gt (blk_lt (g := gb392) (o := .cells #[.int .i64 t385, .int .i64 t386, .int .i64 t387, .slice Ao23 t388.length co23] 35 (0, 0)) (uK BK392)) : gb437 ≠ gb392)); have n13_ := Aside0.mk ((by rw [hg]; exact Nat.ne_of_lt (blk_lt (g := gb406) (o := .cells #[.int .i64 t399, .int .i64 t400, .int .i64 t401, .slice Ao32 t402.length co32] 35 (0, 0)) (uK BK406)) : gb406 ≠ gb437)); have n14_ := Aside0.mk ((by rw [hg]; exact Nat.ne_of_gt (blk_lt (g := gb406) (o := .cells #[.int .i64 t399, .int .i64 t400, .int .i64 t401, .slice Ao32 t402.length co32] 35 (0, 0)) (uK BK406)) : gb437 ≠ gb406)); clear HO_393003 HO_407003 HO426 HO429 HO435 BK392 BK406 HB; have HO_393003 := n0_; have HO_407003 := n1_; have HO426 := n2_; have HO429 := n3_; have HO435 := n4_; have BK392 := n5_; have BK406 := n6_; have HB := n7_; have BK437 := n8_; have GW437 := n9_; have GE437 := n10_; have NB392_437 := n11_; have NB437_392 := n12_; have NB406_437 := n13_; have NB437_406 := n14_; clear n0_ n1_ n2_ n3_ n4_ n5_ n6_ n7_ n8_ n9_ n10_ n11_ n12_ n13_ n14_ hb hbox hg; have hnb95 := NB437_392.out; have hnc95 := NB392_437.out; have hnb96 := NB437_406.out; have hnc96 := NB406_437.out; have hcz97_0 : w94.cell? ⟨gb437, 0, none⟩ = some (.int .i64 0) := (blk_cell BK437.out 0).trans rfl; have hcz97_1 : w94.cell? ⟨gb437, 1, none⟩ = some (.int .i64 0) := (blk_cell BK437.out 1).trans rfl; have hcz97_2 : w94.cell? ⟨gb437, 2, none⟩ = some (.int .i64 0) := (blk_cell BK437.out 2).trans rfl; have hcz97_3 : w94.cell? ⟨gb437, 3, none⟩ = some (.slice none 0 0) := (blk_cell BK437.out 3).trans rfl; have hfz97_0 := blk_frozen BK437.out 0; have hfz97_1 := blk_frozen BK437.out 1; have hfz97_2 := blk_frozen BK437.out 2; have hfz97_3 := blk_frozen BK437.out 3; obtain ⟨Ao98, co98, eo98⟩ := Kd.R_slice HO435.out; subst eo98))
             (try simp only [Act.put, List.setIfInBounds_toArray, List.set_cons_zero, List.set_cons_succ])
             go_cut [123] (fun v123 wc => ∃ (kq : Nat) (x123_82 : Bool), v123 = .bool x123_82 ∧ Aside0 (laws_FnExactTableByPeeling.j2 kq t421 x123_82 t399 t400 t401 t422 = some r) ∧ Aside0 (kq ≤ kj51) ∧ Aside0 (Kd.R (Kd.int .i64) 3 wc w.heap.size (fun k_ => some k_ ≠ ((.slice Ao32 t402.length co32) : Value).ownBlock ∧ some k_ ≠ ((.slice Ao98 t433.length co98) : Value).ownBlock) (.slice Ao23 t388.length co23) t388) ∧ Aside0 (Kd.R (Kd.int .i64) 3 wc w.heap.size (fun k_ => some k_ ≠ ((.slice Ao23 t388.length co23) : Value).ownBlock ∧ some k_ ≠ ((.slice Ao98 t433.length co98) : Value).ownBlock) (.slice Ao32 t402.length co32) t422) ∧ Aside0 (Kd.R (Kd.int .i64) 3 wc w.heap.size (fun k_ => some k_ ≠ ((.slice Ao23 t388.length co23) : Value).ownBlock ∧ some k_ ≠ ((.slice Ao32 t402.length co32) : Value).ownBlock) (.slice Ao98 t433.length co98) t433) ∧ Aside0 (wc.heap[gb392]? = some (.cells #[.int .i64 t385, .int .i64 t386, .int .i64 t387, (.slice Ao23 t388.length co23)] 35 (0, 0))) ∧ Aside0 (wc.heap[gb406]? = some (.cells #[.int .i64 t399, .int .i64 t400, .int .i64 t401, (.slice Ao32 t402.length co32)] 35 (0, 0))) ∧ Aside0 (wc.heap[gb437]? = some (.cells #[.int .i64 t430, .int .i64 t431, .int .i64 t432, (.slice Ao98 t433.length co98)] 35 (0, 0))) ∧ Aside0 (Below w.heap.size w wc))
             case first =>
              have H := HC83.out
              clear HC83
              replace H := Option.bind_eq_some_iff.mp H
              obtain ⟨t438, A990, H⟩ := H
              replace H : (if t438 = true then (laws_FnExactTableByPeeling.j2 kj51 t421 (t436 != t391) t399 t400 t401 t422) else (laws_FnExactTableByPeeling.j2 kj51 t421 true t399 t400 t401 t422)) = some r := H
              have A99 := Aside0.mk A990
              clear A990
              by_cases c100 : t438 = true
              ·
               subst c100
               have H1 : (laws_FnExactTableByPeeling.j2 kj51 t421 (t436 != t391) t399 t400 t401 t422) = some r := by rw [if_pos rfl] at H; exact H
               clear H
               have H := H1
               clear H1
               have H' := Aside0.mk H
               clear H
               have hnb101 := NB437_392.out
               have hnc101 := NB392_437.out
               have hnb102 := NB437_406.out
               have hnc102 := NB406_437.out
               have hcz103_0 : w94.cell? ⟨gb437, 0, none⟩ = some (.int .i64 0) := (blk_cell BK437.out 0).trans rfl
               have hcz103_1 : w94.cell? ⟨gb437, 1, none⟩ = some (.int .i64 0) := (blk_cell BK437.out 1).trans rfl
               have hcz103_2 : w94.cell? ⟨gb437, 2, none⟩ = some (.int .i64 0) := (blk_cell BK437.out 2).trans rfl
               have hcz103_3 : w94.cell? ⟨gb437, 3, none⟩ = some (.slice none 0 0) := (blk_cell BK437.out 3).trans rfl
               have hfz103_0 := blk_frozen BK437.out 0
               have hfz103_1 := blk_frozen BK437.out 1
               have hfz103_2 := blk_frozen BK437.out 2
               have hfz103_3 := blk_frozen BK437.out 3
               have hnb104 := NB392_406.out
               have hnc104 := NB406_392.out
               have hcz105_0 : w94.cell? ⟨gb392, 0, none⟩ = some (.int .i64 t385) := (blk_cell BK392.out 0).trans rfl
               have hcz105_1 : w94.cell? ⟨gb392, 1, none⟩ = some (.int .i64 t386) := (blk_cell BK392.out 1).trans rfl
               have hcz105_2 : w94.cell? ⟨gb392, 2, none⟩ = some (.int .i64 t387) := (blk_cell BK392.out 2).trans rfl
               have hcz105_3 : w94.cell? ⟨gb392, 3, none⟩ = some (.slice Ao23 t388.length co23) := (blk_cell BK392.out 3).trans rfl
               have hfz105_0 := blk_frozen BK392.out 0
               have hfz105_1 := blk_frozen BK392.out 1
               have hfz105_2 := blk_frozen BK392.out 2
               have hfz105_3 := blk_frozen BK392.out 3
               go_wp2_with (first | ((with_reducible refine gate_callee (f := 19) rfl ?_); refine goesL_ (some 117) rfl rfl Try.func19 (by kernel_rfl) rfl #[.agg #[.int .i64 t430, .int .i64 t431, .int .i64 t432, .slice Ao98 t433.length co98], .agg #[.int .i64 t385, .int .i64 t386, .int .i64 t387, .slice Ao23 t388.length co23]] rfl (by (try simp only [List.map_toArray, List.map_cons, List.map_nil]); first | done | rfl | (simp only [List.length_drop, List.length_take]; rfl)) ?_; (with_reducible refine (laws_eqTable.calls kj51 t430 t431 t432 _ _ t433 t385 t386 t387 _ _ t388 true _ ?side1 ?side2 ?side3 ?side4 A99.out).mono ?_); (case side1 => refine (Kd.R_reads' (e := 3) (base := w.heap.size) (ok := fun k_ => (((True ∧ some k_ ≠ (.slice Ao23 t388.length co23 : Value).ownBlock) ∧ some k_ ≠ (.slice Ao32 t402.length co32 : Value).ownBlock) ∧ some k_ ≠ (.slice Ao92 t427.length co92 : Value).ownBlock)) (n := t433.length) (c := co98) ?_).2.2; exact (by (with_reducible repeat (first | apply Kd.R_alloc | apply Kd.R_drewN | apply Kd.R_drew)); exact (Kd.R_mono (Kd.R_far (p := ⟨gb437, 3, none⟩) (Kd.R_far (p := ⟨gb437, 2, none⟩) (Kd.R_far (p := ⟨gb437, 1, none⟩) (Kd.R_far (p := ⟨gb437, 0, none⟩) (Kd.R_types HO435.out BK437.out (by decide)) (fun _ hk => hk.2) (.int .i64 t430)) (fun _ hk => hk.2) (.int .i64 t431)) (fun _ hk => hk.2) (.int .i64 t432)) (fun _ hk => hk.2) (.slice Ao98 t433.length co98)) (fun _ h_ => h_.1)))); (case side2 => exact (Kd.R_reads' HO435.out).2.1); (case side3 => refine (Kd.R_reads' (e := 3) (base := w.heap.size) (ok := fun k_ => ((some k_ ≠ (.slice Ao32 t402.length co32 : Value).ownBlock ∧ some k_ ≠ (.slice Ao92 t427.length co92 : Value).ownBlock) ∧ some k_ ≠ (.slice Ao98 t433.length co98 : Value).ownBlock)) (n := t388.length) (c := co23) ?_).2.2; exact (by (with_reducible repeat (first | apply Kd.R_alloc | apply Kd.R_drewN | apply Kd.R_drew)); exact (Kd.R_mono (Kd.R_far (p := ⟨gb437, 3, none⟩) (Kd.R_far (p := ⟨gb437, 2, none⟩) (Kd.R_far (p := ⟨gb437, 1, none⟩) (Kd.R_far (p := ⟨gb437, 0, none⟩) (Kd.R_types HO_393003.out BK437.out (by decide)) (fun _ hk => hk.2) (.int .i64 t430)) (fun _ hk => hk.2) (.int .i64 t431)) (fun _ hk => hk.2) (.int .i64 t432)) (fun _ hk => hk.2) (.slice Ao98 t433.length co98)) (fun _ h_ => h_.1)))); (case side4 => exact (Kd.R_reads' HO_393003.out).2.1); rintro e w106 ⟨rfl, hb⟩; refine ⟨_, rfl, ?_⟩; have n0_ := Aside0.mk (Kd.R_below (by (with_reducible repeat (first | apply Kd.R_alloc | apply Kd.R_drewN | apply Kd.R_drew)); exact (Kd.R_mono (Kd.R_far (p := ⟨gb437, 3, none⟩) (Kd.R_far (p := ⟨gb437, 2, none⟩) (Kd.R_far (p := ⟨gb437, 1, none⟩) (Kd.R_far (p := ⟨gb437, 0, none⟩) (Kd.R_types HO_393003.out BK437.out (by decide)) (fun _ hk => hk.2) (.int .i64 t430)) (fun _ hk => hk.2) (.int .i64 t431)) (fun _ hk => hk.2) (.int .i64 t432)) (fun _ hk => hk.2) (.slice Ao98 t433.length co98)) (fun _ h_ => h_.1))) hb); have n1_ := Aside0.mk (Kd.R_below (by (with_reducible repeat (first | apply Kd.R_alloc | apply Kd.R_drewN | apply Kd.R_drew)); exact (Kd.R_mono (Kd.R_far (p := ⟨gb437, 3, none⟩) (Kd.R_far (p := ⟨gb437, 2, none⟩) (Kd.R_far (p := ⟨gb437, 1, none⟩) (Kd.R_far (p := ⟨gb437, 0, none⟩) (Kd.R_types HO_407003.out BK437.out (by decide)) (fun _ hk => hk.2) (.int .i64 t430)) (fun _ hk => hk.2) (.int .i64 t431)) (fun _ hk => hk.2) (.int .i64 t432)) (fun _ hk => hk.2) (.slice Ao98 t433.length co98)) (fun _ h_ => h_.1))) hb); have n2_ := Aside0.mk (Kd.R_below (by (with_reducible repeat (first | apply Kd.R_alloc | apply Kd.R_drewN | apply Kd.R_drew)); exact (Kd.R_mono (Kd.R_far (p := ⟨gb437, 3, none⟩) (Kd.R_far (p := ⟨gb437, 2, none⟩) (Kd.R_far (p := ⟨gb437, 1, none⟩) (Kd.R_far (p := ⟨gb437, 0, none⟩) (Kd.R_types HO426.out BK437.out (by decide)) (fun _ hk => hk.2) (.int .i64 t430)) (fun _ hk => hk.2) (.int .i64 t431)) (fun _ hk => hk.2) (.int .i64 t432)) (fun _ hk => hk.2) (.slice Ao98 t433.length co98)) (fun _ h_ => h_.1))) hb); have n3_ := Aside0.mk (Kd.R_below (by (with_reducible repeat (first | apply Kd.R_alloc | apply Kd.R_drewN | apply Kd.R_drew)); exact (Kd.R_mono (Kd.R_far (p := ⟨gb437, 3, none⟩) (Kd.R_far (p := ⟨gb437, 2, none⟩) (Kd.R_far (p := ⟨gb437, 1, none⟩) (Kd.R_far (p := ⟨gb437, 0, none⟩) (Kd.R_types HO429.out BK437.out (by decide)) (fun _ hk => hk.2) (.int .i64 t430)) (fun _ hk => hk.2) (.int .i64 t431)) (fun _ hk => hk.2) (.int .i64 t432)) (fun _ hk => hk.2) (.slice Ao98 t433.length co98)) (fun _ h_ => h_.1))) hb); have n4_ := Aside0.mk (Kd.R_below (by (with_reducible repeat (first | apply Kd.R_alloc | apply Kd.R_drewN | apply Kd.R_drew)); exact (Kd.R_mono (Kd.R_far (p := ⟨gb437, 3, none⟩) (Kd.R_far (p := ⟨gb437, 2, none⟩) (Kd.R_far (p := ⟨gb437, 1, none⟩) (Kd.R_far (p := ⟨gb437, 0, none⟩) (Kd.R_types HO435.out BK437.out (by decide)) (fun _ hk => hk.2) (.int .i64 t430)) (fun _ hk => hk.2) (.int .i64 t431)) (fun _ hk => hk.2) (.int .i64 t432)) (fun _ hk => hk.2) (.slice Ao98 t433.length co98)) (fun _ h_ => h_.1))) hb); have n5_ := Aside0.mk (blk_below (g := gb392) (o := .cells #[.int .i64 t385, .int .i64 t386, .int .i64 t387, .slice Ao23 t388.length co23] 35 (0, 0)) (by refine uW ?_; refine blk_far ?_ NB392_437.out _; refine uW ?_; refine blk_far ?_ NB392_437.out _; refine uW ?_; refine blk_far ?_ NB392_437.out _; refine uW ?_; refine blk_far ?_ NB392_437.out _; refine uW ?_; exact BK392.out) hb); have n6_ := Aside0.mk (blk_below (g := gb406) (o := .cells #[.int .i64 t399, .int .i64 t400, .int .i64 t401, .slice Ao32 t402.length co32] 35 (0, 0)) (by refine uW ?_; refine blk_far ?_ NB406_437.out _; refine uW ?_; refine blk_far ?_ NB406_437.out _; refine uW ?_; refine blk_far ?_ NB406_437.out _; refine uW ?_; refine blk_far ?_ NB406_437.out _; refine uW ?_; exact BK406.out) hb); have n7_ := Aside0.mk (blk_below (g := gb437) (o := .cells #[.int .i64 t430, .int .i64 t431, .int .i64 t432, .slice Ao98 t433.length co98] 35 (0, 0)) (by refine uW ?_; refine blk_put (cs := #[.int .i64 t430, .int .i64 t431, .int .i64 t432, .slice none 0 0]) ?_ 3 _ rfl; refine uW ?_; refine blk_put (cs := #[.int .i64 t430, .int .i64 t431, .int .i64 0, .slice none 0 0]) ?_ 2 _ rfl; refine uW ?_; refine blk_put (cs := #[.int .i64 t430, .int .i64 0, .int .i64 0, .slice none 0 0]) ?_ 1 _ rfl; refine uW ?_; refine blk_put (cs := #[.int .i64 0, .int .i64 0, .int .i64 0, .slice none 0 0]) ?_ 0 _ rfl; refine uW ?_; exact BK437.out) hb); have n8_ := Aside0.mk (below_step (by first | exact uB HB | exact uS HB (gC GE392 (gC GE406 (gC GE437 gN)))) hb); clear HO_393003 HO_407003 HO426 HO429 HO435 BK392 BK406 BK437 HB; have HO_393003 := n0_; have HO_407003 := n1_; have HO426 := n2_; have HO429 := n3_; have HO435 := n4_; have BK392 := n5_; have BK406 := n6_; have BK437 := n7_; have HB := n8_; clear n0_ n1_ n2_ n3_ n4_ n5_ n6_ n7_ n8_; (try clear hb); (try clear hb2); (try clear hk); (try clear hi)))
               go_meet
               case rel => exact ⟨_, ((t436 != t391)), (by first | rfl | (simp; done) | (simp [*]; done)), H', ⟨by have := HJ14.out; have := HJ51.out; first | omega | exact Nat.le_refl _⟩, ⟨by (with_reducible repeat (first | apply Kd.R_alloc | apply Kd.R_drewN | apply Kd.R_drew)); exact Kd.R_mono HO_393003.out (fun _ hk => ⟨hk.1.1, hk.2⟩)⟩, ⟨by (with_reducible repeat (first | apply Kd.R_alloc | apply Kd.R_drewN | apply Kd.R_drew)); exact Kd.R_mono HO_407003.out (fun _ hk => ⟨hk.1.1, hk.2⟩)⟩, ⟨by (with_reducible repeat (first | apply Kd.R_alloc | apply Kd.R_drewN | apply Kd.R_drew)); exact Kd.R_mono HO435.out (fun _ hk => ⟨hk.1.1.2, hk.1.2⟩)⟩, ⟨by refine uW ?_; exact BK392.out⟩, ⟨by refine uW ?_; exact BK406.out⟩, ⟨by refine uW ?_; exact BK437.out⟩, ⟨by first | exact uB HB | exact uS HB (gC GE392 (gC GE406 (gC GE437 gN)))⟩⟩
              ·
               replace c100 := Bool.eq_false_iff.mpr c100
               subst c100
               have H1 : (laws_FnExactTableByPeeling.j2 kj51 t421 true t399 t400 t401 t422) = some r := by rw [if_neg (show ¬ (false = true) by decide)] at H; exact H
               clear H
               have H := H1
               clear H1
               have H' := Aside0.mk H
               clear H
               have hnb107 := NB437_392.out
               have hnc107 := NB392_437.out
               have hnb108 := NB437_406.out
               have hnc108 := NB406_437.out
               have hcz109_0 : w94.cell? ⟨gb437, 0, none⟩ = some (.int .i64 0) := (blk_cell BK437.out 0).trans rfl
               have hcz109_1 : w94.cell? ⟨gb437, 1, none⟩ = some (.int .i64 0) := (blk_cell BK437.out 1).trans rfl
               have hcz109_2 : w94.cell? ⟨gb437, 2, none⟩ = some (.int .i64 0) := (blk_cell BK437.out 2).trans rfl
               have hcz109_3 : w94.cell? ⟨gb437, 3, none⟩ = some (.slice none 0 0) := (blk_cell BK437.out 3).trans rfl
               have hfz109_0 := blk_frozen BK437.out 0
               have hfz109_1 := blk_frozen BK437.out 1
               have hfz109_2 := blk_frozen BK437.out 2
               have hfz109_3 := blk_frozen BK437.out 3
               have hnb110 := NB392_406.out
               have hnc110 := NB406_392.out
               have hcz111_0 : w94.cell? ⟨gb392, 0, none⟩ = some (.int .i64 t385) := (blk_cell BK392.out 0).trans rfl
               have hcz111_1 : w94.cell? ⟨gb392, 1, none⟩ = some (.int .i64 t386) := (blk_cell BK392.out 1).trans rfl
               have hcz111_2 : w94.cell? ⟨gb392, 2, none⟩ = some (.int .i64 t387) := (blk_cell BK392.out 2).trans rfl
               have hcz111_3 : w94.cell? ⟨gb392, 3, none⟩ = some (.slice Ao23 t388.length co23) := (blk_cell BK392.out 3).trans rfl
               have hfz111_0 := blk_frozen BK392.out 0
               have hfz111_1 := blk_frozen BK392.out 1
               have hfz111_2 := blk_frozen BK392.out 2
               have hfz111_3 := blk_frozen BK392.out 3
               go_wp2_with (first | ((with_reducible refine gate_callee (f := 19) rfl ?_); refine goesL_ (some 117) rfl rfl Try.func19 (by kernel_rfl) rfl #[.agg #[.int .i64 t430, .int .i64 t431, .int .i64 t432, .slice Ao98 t433.length co98], .agg #[.int .i64 t385, .int .i64 t386, .int .i64 t387, .slice Ao23 t388.length co23]] rfl (by (try simp only [List.map_toArray, List.map_cons, List.map_nil]); first | done | rfl | (simp only [List.length_drop, List.length_take]; rfl)) ?_; (with_reducible refine (laws_eqTable.calls kj51 t430 t431 t432 _ _ t433 t385 t386 t387 _ _ t388 false _ ?side1 ?side2 ?side3 ?side4 A99.out).mono ?_); (case side1 => refine (Kd.R_reads' (e := 3) (base := w.heap.size) (ok := fun k_ => (((True ∧ some k_ ≠ (.slice Ao23 t388.length co23 : Value).ownBlock) ∧ some k_ ≠ (.slice Ao32 t402.length co32 : Value).ownBlock) ∧ some k_ ≠ (.slice Ao92 t427.length co92 : Value).ownBlock)) (n := t433.length) (c := co98) ?_).2.2; exact (by (with_reducible repeat (first | apply Kd.R_alloc | apply Kd.R_drewN | apply Kd.R_drew)); exact (Kd.R_mono (Kd.R_far (p := ⟨gb437, 3, none⟩) (Kd.R_far (p := ⟨gb437, 2, none⟩) (Kd.R_far (p := ⟨gb437, 1, none⟩) (Kd.R_far (p := ⟨gb437, 0, none⟩) (Kd.R_types HO435.out BK437.out (by decide)) (fun _ hk => hk.2) (.int .i64 t430)) (fun _ hk => hk.2) (.int .i64 t431)) (fun _ hk => hk.2) (.int .i64 t432)) (fun _ hk => hk.2) (.slice Ao98 t433.length co98)) (fun _ h_ => h_.1)))); (case side2 => exact (Kd.R_reads' HO435.out).2.1); (case side3 => refine (Kd.R_reads' (e := 3) (base := w.heap.size) (ok := fun k_ => ((some k_ ≠ (.slice Ao32 t402.length co32 : Value).ownBlock ∧ some k_ ≠ (.slice Ao92 t427.length co92 : Value).ownBlock) ∧ some k_ ≠ (.slice Ao98 t433.length co98 : Value).ownBlock)) (n := t388.length) (c := co23) ?_).2.2; exact (by (with_reducible repeat (first | apply Kd.R_alloc | apply Kd.R_drewN | apply Kd.R_drew)); exact (Kd.R_mono (Kd.R_far (p := ⟨gb437, 3, none⟩) (Kd.R_far (p := ⟨gb437, 2, none⟩) (Kd.R_far (p := ⟨gb437, 1, none⟩) (Kd.R_far (p := ⟨gb437, 0, none⟩) (Kd.R_types HO_393003.out BK437.out (by decide)) (fun _ hk => hk.2) (.int .i64 t430)) (fun _ hk => hk.2) (.int .i64 t431)) (fun _ hk => hk.2) (.int .i64 t432)) (fun _ hk => hk.2) (.slice Ao98 t433.length co98)) (fun _ h_ => h_.1)))); (case side4 => exact (Kd.R_reads' HO_393003.out).2.1); rintro e w112 ⟨rfl, hb⟩; refine ⟨_, rfl, ?_⟩; have n0_ := Aside0.mk (Kd.R_below (by (with_reducible repeat (first | apply Kd.R_alloc | apply Kd.R_drewN | apply Kd.R_drew)); exact (Kd.R_mono (Kd.R_far (p := ⟨gb437, 3, none⟩) (Kd.R_far (p := ⟨gb437, 2, none⟩) (Kd.R_far (p := ⟨gb437, 1, none⟩) (Kd.R_far (p := ⟨gb437, 0, none⟩) (Kd.R_types HO_393003.out BK437.out (by decide)) (fun _ hk => hk.2) (.int .i64 t430)) (fun _ hk => hk.2) (.int .i64 t431)) (fun _ hk => hk.2) (.int .i64 t432)) (fun _ hk => hk.2) (.slice Ao98 t433.length co98)) (fun _ h_ => h_.1))) hb); have n1_ := Aside0.mk (Kd.R_below (by (with_reducible repeat (first | apply Kd.R_alloc | apply Kd.R_drewN | apply Kd.R_drew)); exact (Kd.R_mono (Kd.R_far (p := ⟨gb437, 3, none⟩) (Kd.R_far (p := ⟨gb437, 2, none⟩) (Kd.R_far (p := ⟨gb437, 1, none⟩) (Kd.R_far (p := ⟨gb437, 0, none⟩) (Kd.R_types HO_407003.out BK437.out (by decide)) (fun _ hk => hk.2) (.int .i64 t430)) (fun _ hk => hk.2) (.int .i64 t431)) (fun _ hk => hk.2) (.int .i64 t432)) (fun _ hk => hk.2) (.slice Ao98 t433.length co98)) (fun _ h_ => h_.1))) hb); have n2_ := Aside0.mk (Kd.R_below (by (with_reducible repeat (first | apply Kd.R_alloc | apply Kd.R_drewN | apply Kd.R_drew)); exact (Kd.R_mono (Kd.R_far (p := ⟨gb437, 3, none⟩) (Kd.R_far (p := ⟨gb437, 2, none⟩) (Kd.R_far (p := ⟨gb437, 1, none⟩) (Kd.R_far (p := ⟨gb437, 0, none⟩) (Kd.R_types HO426.out BK437.out (by decide)) (fun _ hk => hk.2) (.int .i64 t430)) (fun _ hk => hk.2) (.int .i64 t431)) (fun _ hk => hk.2) (.int .i64 t432)) (fun _ hk => hk.2) (.slice Ao98 t433.length co98)) (fun _ h_ => h_.1))) hb); have n3_ := Aside0.mk (Kd.R_below (by (with_reducible repeat (first | apply Kd.R_alloc | apply Kd.R_drewN | apply Kd.R_drew)); exact (Kd.R_mono (Kd.R_far (p := ⟨gb437, 3, none⟩) (Kd.R_far (p := ⟨gb437, 2, none⟩) (Kd.R_far (p := ⟨gb437, 1, none⟩) (Kd.R_far (p := ⟨gb437, 0, none⟩) (Kd.R_types HO429.out BK437.out (by decide)) (fun _ hk => hk.2) (.int .i64 t430)) (fun _ hk => hk.2) (.int .i64 t431)) (fun _ hk => hk.2) (.int .i64 t432)) (fun _ hk => hk.2) (.slice Ao98 t433.length co98)) (fun _ h_ => h_.1))) hb); have n4_ := Aside0.mk (Kd.R_below (by (with_reducible repeat (first | apply Kd.R_alloc | apply Kd.R_drewN | apply Kd.R_drew)); exact (Kd.R_mono (Kd.R_far (p := ⟨gb437, 3, none⟩) (Kd.R_far (p := ⟨gb437, 2, none⟩) (Kd.R_far (p := ⟨gb437, 1, none⟩) (Kd.R_far (p := ⟨gb437, 0, none⟩) (Kd.R_types HO435.out BK437.out (by decide)) (fun _ hk => hk.2) (.int .i64 t430)) (fun _ hk => hk.2) (.int .i64 t431)) (fun _ hk => hk.2) (.int .i64 t432)) (fun _ hk => hk.2) (.slice Ao98 t433.length co98)) (fun _ h_ => h_.1))) hb); have n5_ := Aside0.mk (blk_below (g := gb392) (o := .cells #[.int .i64 t385, .int .i64 t386, .int .i64 t387, .slice Ao23 t388.length co23] 35 (0, 0)) (by refine uW ?_; refine blk_far ?_ NB392_437.out _; refine uW ?_; refine blk_far ?_ NB392_437.out _; refine uW ?_; refine blk_far ?_ NB392_437.out _; refine uW ?_; refine blk_far ?_ NB392_437.out _; refine uW ?_; exact BK392.out) hb); have n6_ := Aside0.mk (blk_below (g := gb406) (o := .cells #[.int .i64 t399, .int .i64 t400, .int .i64 t401, .slice Ao32 t402.length co32] 35 (0, 0)) (by refine uW ?_; refine blk_far ?_ NB406_437.out _; refine uW ?_; refine blk_far ?_ NB406_437.out _; refine uW ?_; refine blk_far ?_ NB406_437.out _; refine uW ?_; refine blk_far ?_ NB406_437.out _; refine uW ?_; exact BK406.out) hb); have n7_ := Aside0.mk (blk_below (g := gb437) (o := .cells #[.int .i64 t430, .int .i64 t431, .int .i64 t432, .slice Ao98 t433.length co98] 35 (0, 0)) (by refine uW ?_; refine blk_put (cs := #[.int .i64 t430, .int .i64 t431, .int .i64 t432, .slice none 0 0]) ?_ 3 _ rfl; refine uW ?_; refine blk_put (cs := #[.int .i64 t430, .int .i64 t431, .int .i64 0, .slice none 0 0]) ?_ 2 _ rfl; refine uW ?_; refine blk_put (cs := #[.int .i64 t430, .int .i64 0, .int .i64 0, .slice none 0 0]) ?_ 1 _ rfl; refine uW ?_; refine blk_put (cs := #[.int .i64 0, .int .i64 0, .int .i64 0, .slice none 0 0]) ?_ 0 _ rfl; refine uW ?_; exact BK437.out) hb); have n8_ := Aside0.mk (below_step (by first | exact uB HB | exact uS HB (gC GE392 (gC GE406 (gC GE437 gN)))) hb); clear HO_393003 HO_407003 HO426 HO429 HO435 BK392 BK406 BK437 HB; have HO_393003 := n0_; have HO_407003 := n1_; have HO426 := n2_; have HO429 := n3_; have HO435 := n4_; have BK392 := n5_; have BK406 := n6_; have BK437 := n7_; have HB := n8_; clear n0_ n1_ n2_ n3_ n4_ n5_ n6_ n7_ n8_; (try clear hb); (try clear hb2); (try clear hk); (try clear hi)))
               go_meet
               case rel => exact ⟨_, (true), (by first | rfl | (simp; done) | (simp [*]; done)), H', ⟨by have := HJ14.out; have := HJ51.out; first | omega | exact Nat.le_refl _⟩, ⟨by (with_reducible repeat (first | apply Kd.R_alloc | apply Kd.R_drewN | apply Kd.R_drew)); exact Kd.R_mono HO_393003.out (fun _ hk => ⟨hk.1.1, hk.2⟩)⟩, ⟨by (with_reducible repeat (first | apply Kd.R_alloc | apply Kd.R_drewN | apply Kd.R_drew)); exact Kd.R_mono HO_407003.out (fun _ hk => ⟨hk.1.1, hk.2⟩)⟩, ⟨by (with_reducible repeat (first | apply Kd.R_alloc | apply Kd.R_drewN | apply Kd.R_drew)); exact Kd.R_mono HO435.out (fun _ hk => ⟨hk.1.1.2, hk.1.2⟩)⟩, ⟨by refine uW ?_; exact BK392.out⟩, ⟨by refine uW ?_; exact BK406.out⟩, ⟨by refine uW ?_; exact BK437.out⟩, ⟨by first | exact uB HB | exact uS HB (gC GE392 (gC GE406 (gC GE437 gN)))⟩⟩
             case rest =>
              clear HC83
              try clear c1
              try clear c2
              try clear p2
              try clear c3
              try clear c4
              try clear c5
              try clear c6
              try clear c6b0
              try clear c6b1
              try clear c7
              try clear c8
              try clear c8b0
              try clear c9
              try clear c10
              try clear c11
              try clear c12
              try clear c13
              try clear c16
              try clear c17
              try clear c18
              try clear c19
              try clear c20
              try clear c21
              try clear c22
              try clear c23
              try clear c30
              try clear c34
              try clear c35
              try clear c39
              try clear c43
              try clear c46
              try clear c49
              try clear c59
              try clear c59b0
              try clear c61
              try clear c62
              try clear c66
              try clear c70
              try clear c73
              try clear c73b0
              try clear c74
              try clear c79
              try clear c79b0
              try clear c79b1
              try clear c84
              try clear c95
              try clear c96
              try clear c100
              try clear c101
              try clear c102
              try clear c104
              try clear c107
              try clear c108
              try clear c110
              try clear hcz103_0
              try clear hcz103_1
              try clear hcz103_2
              try clear hcz103_3
              try clear hcz105_0
              try clear hcz105_1
              try clear hcz105_2
              try clear hcz105_3
              try clear hcz109_0
              try clear hcz109_1
              try clear hcz109_2
              try clear hcz109_3
              try clear hcz111_0
              try clear hcz111_1
              try clear hcz111_2
              try clear hcz111_3
              try clear hcz22_0
              try clear hcz22_1
              try clear hcz22_2
              try clear hcz22_3
              try clear hcz31_0
              try clear hcz31_1
              try clear hcz31_2
              try clear hcz31_3
              try clear hcz36_0
              try clear hcz36_1
              try clear hcz36_2
              try clear hcz36_3
              try clear hcz37_0
              try clear hcz37_1
              try clear hcz37_2
              try clear hcz37_3
              try clear hcz40_0
              try clear hcz40_1
              try clear hcz40_2
              try clear hcz40_3
              try clear hcz41_0
              try clear hcz41_1
              try clear hcz41_2
              try clear hcz41_3
              try clear hcz63_0
              try clear hcz63_1
              try clear hcz63_2
              try clear hcz63_3
              try clear hcz64_0
              try clear hcz64_1
              try clear hcz64_2
              try clear hcz64_3
              try clear hcz67_0
              try clear hcz67_1
              try clear hcz67_2
              try clear hcz67_3
              try clear hcz68_0
              try clear hcz68_1
              try clear hcz68_2
              try clear hcz68_3
              try clear hcz75_0
              try clear hcz75_1
              try clear hcz75_2
              try clear hcz75_3
              try clear hcz77_0
              try clear hcz77_1
              try clear hcz77_2
              try clear hcz77_3
              try clear hcz85_0
              try clear hcz85_1
              try clear hcz85_2
              try clear hcz85_3
              try clear hcz87_0
              try clear hcz87_1
              try clear hcz87_2
              try clear hcz87_3
              try clear hcz97_0
              try clear hcz97_1
              try clear hcz97_2
              try clear hcz97_3
              try clear hfz103_0
              try clear hfz103_1
              try clear hfz103_2
              try clear hfz103_3
              try clear hfz105_0
              try clear hfz105_1
              try clear hfz105_2
              try clear hfz105_3
              try clear hfz109_0
              try clear hfz109_1
              try clear hfz109_2
              try clear hfz109_3
              try clear hfz111_0
              try clear hfz111_1
              try clear hfz111_2
              try clear hfz111_3
              try clear hfz22_0
              try clear hfz22_1
              try clear hfz22_2
              try clear hfz22_3
              try clear hfz31_0
              try clear hfz31_1
              try clear hfz31_2
              try clear hfz31_3
              try clear hfz36_0
              try clear hfz36_1
              try clear hfz36_2
              try clear hfz36_3
              try clear hfz37_0
              try clear hfz37_1
              try clear hfz37_2
              try clear hfz37_3
              try clear hfz40_0
              try clear hfz40_1
              try clear hfz40_2
              try clear hfz40_3
              try clear hfz41_0
              try clear hfz41_1
              try clear hfz41_2
              try clear hfz41_3
              try clear hfz63_0
              try clear hfz63_1
              try clear hfz63_2
              try clear hfz63_3
              try clear hfz64_0
              try clear hfz64_1
              try clear hfz64_2
              try clear hfz64_3
              try clear hfz67_0
              try clear hfz67_1
              try clear hfz67_2
              try clear hfz67_3
              try clear hfz68_0
              try clear hfz68_1
              try clear hfz68_2
              try clear hfz68_3
              try clear hfz75_0
              try clear hfz75_1
              try clear hfz75_2
              try clear hfz75_3
              try clear hfz77_0
              try clear hfz77_1
              try clear hfz77_2
              try clear hfz77_3
              try clear hfz85_0
              try clear hfz85_1
              try clear hfz85_2
              try clear hfz85_3
              try clear hfz87_0
              try clear hfz87_1
              try clear hfz87_2
              try clear hfz87_3
              try clear hfz97_0
              try clear hfz97_1
              try clear hfz97_2
              try clear hfz97_3
              try clear p2
              obtain ⟨kq, x123_82, rfl, HA, HJ82, HO_393003, HO_407003, HO_438003, BK392, BK406, BK437, HB⟩ := hcut
              have hl407003_82 := (Kd.R_reads' HO_407003.out).1
              rw [hl407003_82] at HO_407003
              (try simp only [hl407003_82])
              (try simp only [hl407003_82] at BK392)
              (try simp only [hl407003_82] at BK406)
              (try simp only [hl407003_82] at BK437)
              (try simp only [hl407003_82] at HO_393003)
              (try simp only [hl407003_82] at HO_438003)
              cases kq with
              | zero => exact absurd HA.out (by simp [laws_FnExactTableByPeeling.j2])
              | succ kj82 =>
               have H := HA.out
               clear HA
               simp only [laws_FnExactTableByPeeling.j2] at H
               by_cases c113 : x123_82 = true
               ·
                subst c113
                have H1 : (some false) = some r := by rw [if_pos rfl] at H; exact H
                clear H
                have H := H1
                clear H1
                obtain rfl := Option.some.inj H
                go_wp2
                go_ret
                exact ⟨by first | rfl | (simp [errW_none, errW_some] <;> rfl) | (simp [*, errW_none, errW_some] <;> rfl), by first | exact uB HB | exact uS HB (gC GE392 (gC GE406 (gC GE437 gN)))⟩
               ·
                replace c113 := Bool.eq_false_iff.mpr c113
                subst c113
                have H1 : ((laws_heldTable.f kj82 t399 t400 t401 t422 1).bind fun t439 => (if t439 < 0 then (some false) else (if t439 = t421 then (some true) else (some false)))) = some r := by rw [if_neg (show ¬ (false = true) by decide)] at H; exact H
                clear H
                have H := H1
                clear H1
                replace H := Option.bind_eq_some_iff.mp H
                obtain ⟨t439, A1140, H⟩ := H
                replace H : (if t439 < 0 then (some false) else (if t439 = t421 then (some true) else (some false))) = some r := H
                have A114 := Aside0.mk A1140
                clear A1140
                by_cases c115 : t439 < 0
                ·
                 rw [if_pos c115] at H
                 have c115b0 : decide (t439 < 0) = true := decide_eq_true c115
                 clear c115
                 obtain rfl := Option.some.inj H
                 have hnb116 := NB406_392.out
                 have hnc116 := NB392_406.out
                 have hnb117 := NB406_437.out
                 have hnc117 := NB437_406.out
                 have hcz118_0 : wc.cell? ⟨gb406, 0, none⟩ = some (.int .i64 t399) := (blk_cell BK406.out 0).trans rfl
                 have hcz118_1 : wc.cell? ⟨gb406, 1, none⟩ = some (.int .i64 t400) := (blk_cell BK406.out 1).trans rfl
                 have hcz118_2 : wc.cell? ⟨gb406, 2, none⟩ = some (.int .i64 t401) := (blk_cell BK406.out 2).trans rfl
                 have hcz118_3 : wc.cell? ⟨gb406, 3, none⟩ = some (.slice Ao32 t422.length co32) := (blk_cell BK406.out 3).trans rfl
                 have hfz118_0 := blk_frozen BK406.out 0
                 have hfz118_1 := blk_frozen BK406.out 1
                 have hfz118_2 := blk_frozen BK406.out 2
                 have hfz118_3 := blk_frozen BK406.out 3
                 go_wp2_with (first | ((with_reducible refine gate_callee (f := 23) rfl ?_); refine goesL_ (some 126) rfl rfl Try.func23 (by kernel_rfl) rfl #[.agg #[.int .i64 t399, .int .i64 t400, .int .i64 t401, .slice Ao32 t422.length co32], .int .i64 1] rfl (by (try simp only [List.map_toArray, List.map_cons, List.map_nil]); first | done | rfl | (simp only [List.length_drop, List.length_take]; rfl)) ?_; (with_reducible refine (laws_heldTable.calls kj82 t399 t400 t401 _ _ t422 1 t439 _ ?side1 ?side2 A114.out).mono ?_); (case side1 => exact uD HO_407003); (case side2 => exact (Kd.R_reads' HO_407003.out).2.1); rintro e w119 ⟨rfl, hb⟩; refine ⟨_, rfl, ?_⟩; have n0_ := Aside0.mk (Kd.R_below (uR HO_393003) hb); have n1_ := Aside0.mk (Kd.R_below (uR HO_407003) hb); have n2_ := Aside0.mk (Kd.R_below (uR HO_438003) hb); have n3_ := Aside0.mk (blk_below (g := gb392) (o := .cells #[.int .i64 t385, .int .i64 t386, .int .i64 t387, .slice Ao23 t388.length co23] 35 (0, 0)) (uK BK392) hb); have n4_ := Aside0.mk (blk_below (g := gb406) (o := .cells #[.int .i64 t399, .int .i64 t400, .int .i64 t401, .slice Ao32 t422.length co32] 35 (0, 0)) (uK BK406) hb); have n5_ := Aside0.mk (blk_below (g := gb437) (o := .cells #[.int .i64 t430, .int .i64 t431, .int .i64 t432, .slice Ao98 t433.length co98] 35 (0, 0)) (uK BK437) hb); have n6_ := Aside0.mk (below_step (by first | exact uB HB | exact uS HB (gC GE392 (gC GE406 (gC GE437 gN)))) hb); clear HO_393003 HO_407003 HO_438003 BK392 BK406 BK437 HB; have HO_393003 := n0_; have HO_407003 := n1_; have HO_438003 := n2_; have BK392 := n3_; have BK406 := n4_; have BK437 := n5_; have HB := n6_; clear n0_ n1_ n2_ n3_ n4_ n5_ n6_; (try clear hb); (try clear hb2); (try clear hk); (try clear hi)))
                 go_ret
                 exact ⟨by first | rfl | (simp [errW_none, errW_some] <;> rfl) | (simp [*, errW_none, errW_some] <;> rfl), by first | exact uB HB | exact uS HB (gC GE392 (gC GE406 (gC GE437 gN)))⟩
                ·
                 rw [if_neg c115] at H
                 have c115b0 : decide (t439 < 0) = false := decide_eq_false c115
                 clear c115
                 by_cases c120 : t439 = t421
                 ·
                  rw [if_pos c120] at H
                  have c120b0 : (t439 == t421) = true := beq_iff_eq.mpr c120
                  have c120b1 : (t439 != t421) = false := bne_eq_false_iff_eq.mpr c120
                  clear c120
                  obtain rfl := Option.some.inj H
                  have hnb121 := NB406_392.out
                  have hnc121 := NB392_406.out
                  have hnb122 := NB406_437.out
                  have hnc122 := NB437_406.out
                  have hcz123_0 : wc.cell? ⟨gb406, 0, none⟩ = some (.int .i64 t399) := (blk_cell BK406.out 0).trans rfl
                  have hcz123_1 : wc.cell? ⟨gb406, 1, none⟩ = some (.int .i64 t400) := (blk_cell BK406.out 1).trans rfl
                  have hcz123_2 : wc.cell? ⟨gb406, 2, none⟩ = some (.int .i64 t401) := (blk_cell BK406.out 2).trans rfl
                  have hcz123_3 : wc.cell? ⟨gb406, 3, none⟩ = some (.slice Ao32 t422.length co32) := (blk_cell BK406.out 3).trans rfl
                  have hfz123_0 := blk_frozen BK406.out 0
                  have hfz123_1 := blk_frozen BK406.out 1
                  have hfz123_2 := blk_frozen BK406.out 2
                  have hfz123_3 := blk_frozen BK406.out 3
                  go_wp2_with (first | ((with_reducible refine gate_callee (f := 23) rfl ?_); refine goesL_ (some 126) rfl rfl Try.func23 (by kernel_rfl) rfl #[.agg #[.int .i64 t399, .int .i64 t400, .int .i64 t401, .slice Ao32 t422.length co32], .int .i64 1] rfl (by (try simp only [List.map_toArray, List.map_cons, List.map_nil]); first | done | rfl | (simp only [List.length_drop, List.length_take]; rfl)) ?_; (with_reducible refine (laws_heldTable.calls kj82 t399 t400 t401 _ _ t422 1 t439 _ ?side1 ?side2 A114.out).mono ?_); (case side1 => exact uD HO_407003); (case side2 => exact (Kd.R_reads' HO_407003.out).2.1); rintro e w124 ⟨rfl, hb⟩; refine ⟨_, rfl, ?_⟩; have n0_ := Aside0.mk (Kd.R_below (uR HO_393003) hb); have n1_ := Aside0.mk (Kd.R_below (uR HO_407003) hb); have n2_ := Aside0.mk (Kd.R_below (uR HO_438003) hb); have n3_ := Aside0.mk (blk_below (g := gb392) (o := .cells #[.int .i64 t385, .int .i64 t386, .int .i64 t387, .slice Ao23 t388.length co23] 35 (0, 0)) (uK BK392) hb); have n4_ := Aside0.mk (blk_below (g := gb406) (o := .cells #[.int .i64 t399, .int .i64 t400, .int .i64 t401, .slice Ao32 t422.length co32] 35 (0, 0)) (uK BK406) hb); have n5_ := Aside0.mk (blk_below (g := gb437) (o := .cells #[.int .i64 t430, .int .i64 t431, .int .i64 t432, .slice Ao98 t433.length co98] 35 (0, 0)) (uK BK437) hb); have n6_ := Aside0.mk (below_step (by first | exact uB HB | exact uS HB (gC GE392 (gC GE406 (gC GE437 gN)))) hb); clear HO_393003 HO_407003 HO_438003 BK392 BK406 BK437 HB; have HO_393003 := n0_; have HO_407003 := n1_; have HO_438003 := n2_; have BK392 := n3_; have BK406 := n4_; have BK437 := n5_; have HB := n6_; clear n0_ n1_ n2_ n3_ n4_ n5_ n6_; (try clear hb); (try clear hb2); (try clear hk); (try clear hi)))
                  go_ret
                  exact ⟨by first | rfl | (simp [errW_none, errW_some] <;> rfl) | (simp [*, errW_none, errW_some] <;> rfl), by first | exact uB HB | exact uS HB (gC GE392 (gC GE406 (gC GE437 gN)))⟩
                 ·
                  rw [if_neg c120] at H
                  have c120b0 : (t439 == t421) = false := beq_eq_false_iff_ne.mpr c120
                  have c120b1 : (t439 != t421) = true := bne_iff_ne.mpr c120
                  obtain rfl := Option.some.inj H
                  have hnb125 := NB406_392.out
                  have hnc125 := NB392_406.out
                  have hnb126 := NB406_437.out
                  have hnc126 := NB437_406.out
                  have hcz127_0 : wc.cell? ⟨gb406, 0, none⟩ = some (.int .i64 t399) := (blk_cell BK406.out 0).trans rfl
                  have hcz127_1 : wc.cell? ⟨gb406, 1, none⟩ = some (.int .i64 t400) := (blk_cell BK406.out 1).trans rfl
                  have hcz127_2 : wc.cell? ⟨gb406, 2, none⟩ = some (.int .i64 t401) := (blk_cell BK406.out 2).trans rfl
                  have hcz127_3 : wc.cell? ⟨gb406, 3, none⟩ = some (.slice Ao32 t422.length co32) := (blk_cell BK406.out 3).trans rfl
                  have hfz127_0 := blk_frozen BK406.out 0
                  have hfz127_1 := blk_frozen BK406.out 1
                  have hfz127_2 := blk_frozen BK406.out 2
                  have hfz127_3 := blk_frozen BK406.out 3
                  go_wp2_with (first | ((with_reducible refine gate_callee (f := 23) rfl ?_); refine goesL_ (some 126) rfl rfl Try.func23 (by kernel_rfl) rfl #[.agg #[.int .i64 t399, .int .i64 t400, .int .i64 t401, .slice Ao32 t422.length co32], .int .i64 1] rfl (by (try simp only [List.map_toArray, List.map_cons, List.map_nil]); first | done | rfl | (simp only [List.length_drop, List.length_take]; rfl)) ?_; (with_reducible refine (laws_heldTable.calls kj82 t399 t400 t401 _ _ t422 1 t439 _ ?side1 ?side2 A114.out).mono ?_); (case side1 => exact uD HO_407003); (case side2 => exact (Kd.R_reads' HO_407003.out).2.1); rintro e w128 ⟨rfl, hb⟩; refine ⟨_, rfl, ?_⟩; have n0_ := Aside0.mk (Kd.R_below (uR HO_393003) hb); have n1_ := Aside0.mk (Kd.R_below (uR HO_407003) hb); have n2_ := Aside0.mk (Kd.R_below (uR HO_438003) hb); have n3_ := Aside0.mk (blk_below (g := gb392) (o := .cells #[.int .i64 t385, .int .i64 t386, .int .i64 t387, .slice Ao23 t388.length co23] 35 (0, 0)) (uK BK392) hb); have n4_ := Aside0.mk (blk_below (g := gb406) (o := .cells #[.int .i64 t399, .int .i64 t400, .int .i64 t401, .slice Ao32 t422.length co32] 35 (0, 0)) (uK BK406) hb); have n5_ := Aside0.mk (blk_below (g := gb437) (o := .cells #[.int .i64 t430, .int .i64 t431, .int .i64 t432, .slice Ao98 t433.length co98] 35 (0, 0)) (uK BK437) hb); have n6_ := Aside0.mk (below_step (by first | exact uB HB | exact uS HB (gC GE392 (gC GE406 (gC GE437 gN)))) hb); clear HO_393003 HO_407003 HO_438003 BK392 BK406 BK437 HB; have HO_393003 := n0_; have HO_407003 := n1_; have HO_438003 := n2_; have BK392 := n3_; have BK406 := n4_; have BK437 := n5_; have HB := n6_; clear n0_ n1_ n2_ n3_ n4_ n5_ n6_; (try clear hb); (try clear hb2); (try clear hk); (try clear hi)))
                  go_ret
                  exact ⟨by first | rfl | (simp [errW_none, errW_some] <;> rfl) | (simp [*, errW_none, errW_some] <;> rfl), by first | exact uB HB | exact uS HB (gC GE392 (gC GE406 (gC GE437 gN)))⟩
            ·
             rw [if_neg c79] at H
             have c79b0 : (t423 == t421) = false := beq_eq_false_iff_ne.mpr c79
             have c79b1 : (t423 != t421) = true := bne_iff_ne.mpr c79
             obtain rfl := Option.some.inj H
             have hnb129 := NB406_392.out
             have hnc129 := NB392_406.out
             have hcz130_0 : wc.cell? ⟨gb406, 0, none⟩ = some (.int .i64 t399) := (blk_cell BK406.out 0).trans rfl
             have hcz130_1 : wc.cell? ⟨gb406, 1, none⟩ = some (.int .i64 t400) := (blk_cell BK406.out 1).trans rfl
             have hcz130_2 : wc.cell? ⟨gb406, 2, none⟩ = some (.int .i64 t401) := (blk_cell BK406.out 2).trans rfl
             have hcz130_3 : wc.cell? ⟨gb406, 3, none⟩ = some (.slice Ao32 t402.length co32) := (blk_cell BK406.out 3).trans rfl
             have hfz130_0 := blk_frozen BK406.out 0
             have hfz130_1 := blk_frozen BK406.out 1
             have hfz130_2 := blk_frozen BK406.out 2
             have hfz130_3 := blk_frozen BK406.out 3
             go_wp2_with (first | ((with_reducible refine gate_callee (f := 22) rfl ?_); refine goesL_ (some 95) rfl rfl Try.func22 (by kernel_rfl) rfl #[.agg #[.int .i64 t399, .int .i64 t400, .int .i64 t401, .slice Ao32 t402.length co32], .int .i64 1] rfl (by (try simp only [List.map_toArray, List.map_cons, List.map_nil]); first | done | rfl | (simp only [List.length_drop, List.length_take]; rfl)) ?_; (with_reducible refine (laws_markTable.calls kj51 t399 t400 t401 (fun k_ => some k_ = (.slice Ao32 t402.length co32 : Value).ownBlock) (.slice Ao32 t402.length co32) t402 1 t421 t422 w _ ?side1 ?side2 A71.out).mono ?_); (case side1 => first | exact uB HB | exact uS HB (gC GE392 (gC GE406 gN))); (case side2 => exact Kd.R_tight rfl HO_407003.out); rintro e w131 ⟨rfl, hy0, hb, hkp⟩; refine ⟨_, rfl, ?_⟩; have n0_ := Aside0.mk (Kd.R_mono (ok' := fun k_ => some k_ ≠ (.slice Ao32 t402.length co32 : Value).ownBlock) (Kd.R_keptB (HO_393003.out) hkp (fun k_ hk_ hs_ => (hk_) hs_)) (fun k_ hk_ => hk_.1)); have n1_ := Aside0.mk (Kd.R_reok rfl hy0 (fun k_ e_ => HO_407003.out.1 k_ e_)); have n2_ := Aside0.mk (blk_kept (uK BK392) hkp (fun hs_ => (fun e_ => (Kd.R_ne HO_407003.out BK392.out (by decide)) e_) hs_)); have n3_ := Aside0.mk (blk_kept (uK BK406) hkp (fun hs_ => (fun e_ => (Kd.R_ne HO_407003.out BK406.out (by decide)) e_) hs_)); have n4_ := Aside0.mk (hb); clear HO_393003 HO_407003 BK392 BK406 HB; have HO_393003 := n0_; have HO_407003 := n1_; have BK392 := n2_; have BK406 := n3_; have HB := n4_; clear n0_ n1_ n2_ n3_ n4_; (try clear hb); (try clear hkp); (try clear hy0); have hcz132_0 : w131.cell? ⟨gb406, 0, none⟩ = some (.int .i64 t399) := (blk_cell BK406.out 0).trans rfl; have hcz132_1 : w131.cell? ⟨gb406, 1, none⟩ = some (.int .i64 t400) := (blk_cell BK406.out 1).trans rfl; have hcz132_2 : w131.cell? ⟨gb406, 2, none⟩ = some (.int .i64 t401) := (blk_cell BK406.out 2).trans rfl; have hcz132_3 : w131.cell? ⟨gb406, 3, none⟩ = some (.slice Ao32 t402.length co32) := (blk_cell BK406.out 3).trans rfl; have hfz132_0 := blk_frozen BK406.out 0; have hfz132_1 := blk_frozen BK406.out 1; have hfz132_2 := blk_frozen BK406.out 2; have hfz132_3 := blk_frozen BK406.out 3) | ((with_reducible refine gate_callee (f := 23) rfl ?_); refine goesL_ (some 98) rfl rfl Try.func23 (by kernel_rfl) rfl #[.agg #[.int .i64 t399, .int .i64 t400, .int .i64 t401, .slice Ao32 t422.length co32], .int .i64 1] rfl (by (try simp only [List.map_toArray, List.map_cons, List.map_nil]); first | done | (rw [show t422.length = t402.length from (Kd.R_reads' HO_407003.out).1.symm] <;> rfl) | rfl | (simp only [List.length_drop, List.length_take]; rfl)) ?_; (with_reducible refine (laws_heldTable.calls kj51 t399 t400 t401 _ _ t422 1 t423 _ ?side1 ?side2 A72.out).mono ?_); (case side1 => exact uD HO_407003); (case side2 => rw [show t422.length = t402.length from (Kd.R_reads' HO_407003.out).1.symm]; exact (Kd.R_reads' HO_407003.out).2.1); rintro e w133 ⟨rfl, hb⟩; refine ⟨_, rfl, ?_⟩; have n0_ := Aside0.mk (Kd.R_below (uR HO_393003) hb); have n1_ := Aside0.mk (Kd.R_below (uR HO_407003) hb); have n2_ := Aside0.mk (blk_below (g := gb392) (o := .cells #[.int .i64 t385, .int .i64 t386, .int .i64 t387, .slice Ao23 t388.length co23] 35 (0, 0)) (uK BK392) hb); have n3_ := Aside0.mk (blk_below (g := gb406) (o := .cells #[.int .i64 t399, .int .i64 t400, .int .i64 t401, .slice Ao32 t402.length co32] 35 (0, 0)) (uK BK406) hb); have n4_ := Aside0.mk (below_step (by first | exact uB HB | exact uS HB (gC GE392 (gC GE406 gN))) hb); clear HO_393003 HO_407003 BK392 BK406 HB; have HO_393003 := n0_; have HO_407003 := n1_; have BK392 := n2_; have BK406 := n3_; have HB := n4_; clear n0_ n1_ n2_ n3_ n4_; (try clear hb); (try clear hb2); (try clear hk); (try clear hi)))
             go_ret
             exact ⟨by first | rfl | (simp [errW_none, errW_some] <;> rfl) | (simp [*, errW_none, errW_some] <;> rfl), by first | exact uB HB | exact uS HB (gC GE392 (gC GE406 gN))⟩
       ·
        replace c49 := Bool.eq_false_iff.mpr c49
        subst c49
        have H1 : (some false) = some r := by rw [if_neg (show ¬ (false = true) by decide)] at H; exact H
        clear H
        have H := H1
        clear H1
        obtain rfl := Option.some.inj H
        go_wp2_with (first | ((with_reducible refine gate_callee (f := 9) rfl ?_); refine goesL_ (some 66) rfl rfl Try.func9 (by kernel_rfl) rfl #[.slice A1 l1.length c1] rfl (by (try simp only [List.map_toArray, List.map_cons, List.map_nil]); first | done | rfl | (simp only [List.length_drop, List.length_take]; rfl)) ?_; (with_reducible refine (laws_toStringS.calls kj14 _ _ l1 t408 _ ?side1 ?side2 A44.out).mono ?_); (case side1 => exact uC HR1 HB); (case side2 => exact HC1.out); rintro e w134 ⟨v409, rfl, ho0, hb⟩; refine ⟨_, rfl, ?_⟩; have n0_ := Aside0.mk (Kd.R_elder' (uR HO_14) (Kd.R_base ho0) hb); have n1_ := Aside0.mk (Kd.R_below (uR HO_15) hb); have n2_ := Aside0.mk (Kd.R_below (uR HO_393003) hb); have n3_ := Aside0.mk (Kd.R_below (uR HO_407003) hb); have n4_ := Aside0.mk (Kd.R_lower (Kd.R_new' ho0 (Kd.R_lt (uR HO_14))) (below_size (by first | exact uB HB | exact uS HB (gC GE392 (gC GE406 gN))))); have n5_ := Aside0.mk (blk_below (g := gb392) (o := .cells #[.int .i64 t385, .int .i64 t386, .int .i64 t387, .slice Ao23 t388.length co23] 35 (0, 0)) (uK BK392) hb); have n6_ := Aside0.mk (blk_below (g := gb406) (o := .cells #[.int .i64 t399, .int .i64 t400, .int .i64 t401, .slice Ao32 t402.length co32] 35 (0, 0)) (uK BK406) hb); have n7_ := Aside0.mk (below_step (by first | exact uB HB | exact uS HB (gC GE392 (gC GE406 gN))) hb); clear HO_14 HO_15 HO_393003 HO_407003 BK392 BK406 HB; have HO_14 := n0_; have HO_15 := n1_; have HO_393003 := n2_; have HO_407003 := n3_; have HO410 := n4_; have BK392 := n5_; have BK406 := n6_; have HB := n7_; clear n0_ n1_ n2_ n3_ n4_ n5_ n6_ n7_; (try clear hb); (try clear hb2); (try clear hk); (try clear hi); (try clear ho0); obtain ⟨Ao135, co135, eo135⟩ := Kd.R_slice HO410.out; subst eo135) | ((with_reducible refine gate_callee (f := 12) rfl ?_); refine goesL_ (some 67) rfl rfl Try.func12 (by kernel_rfl) rfl #[.slice Ao26 t393.length co26, .slice Ao135 t408.length co135] rfl (by (try simp only [List.map_toArray, List.map_cons, List.map_nil]); first | done | rfl | (simp only [List.length_drop, List.length_take]; rfl)) ?_; (with_reducible refine (laws_eqStringS.calls kj14 _ _ t393 _ _ t408 true _ ?side1 ?side2 ?side3 ?side4 A45.out).mono ?_); (case side1 => exact uD HO_14); (case side2 => exact (Kd.R_reads' HO_14.out).2.1); (case side3 => exact uD HO410); (case side4 => exact (Kd.R_reads' HO410.out).2.1); rintro e w' ⟨rfl, ⟨nd, rfl⟩⟩; refine ⟨_, rfl, ?_⟩) | ((with_reducible refine gate_callee (f := 17) rfl ?_); refine goesL_ (some 71) rfl rfl Try.func17 (by kernel_rfl) rfl #[.slice A2 l2.length c2] rfl (by (try simp only [List.map_toArray, List.map_cons, List.map_nil]); first | done | rfl | (simp only [List.length_drop, List.length_take]; rfl)) ?_; (with_reducible refine (laws_toIntS.calls kj14 _ _ l2 t412 _ ?side1 ?side2 A47.out).mono ?_); (case side1 => repeat (first | exact (Kd.C_below HR2.out (by first | exact uB HB | exact uS HB (gC GE392 (gC GE406 gN)))) | (with_reducible refine Kd.C_alloc ?_ _) | (with_reducible refine Kd.C_drewN ?_ _) | (with_reducible refine Kd.C_drew ?_))); (case side2 => exact HC2.out); rintro e w136 ⟨v413, rfl, ho0, hb⟩; refine ⟨_, rfl, ?_⟩; have n0_ := Aside0.mk (Kd.R_below (uR HO_14) hb); have n1_ := Aside0.mk (Kd.R_elder' (uR HO_15) (Kd.R_base ho0) hb); have n2_ := Aside0.mk (Kd.R_elder' (uR HO_393003) (Kd.R_base ho0) hb); have n3_ := Aside0.mk (Kd.R_elder' (uR HO_407003) (Kd.R_base ho0) hb); have n4_ := Aside0.mk (Kd.R_below (uR HO410) hb); have n5_ := Aside0.mk (Kd.R_lower (Kd.R_new' (Kd.R_new' (Kd.R_new' ho0 (Kd.R_lt (uR HO_15))) (Kd.R_lt (uR HO_393003))) (Kd.R_lt (uR HO_407003))) (below_size (by first | exact uB HB | exact uS HB (gC GE392 (gC GE406 gN))))); have n6_ := Aside0.mk (blk_below (g := gb392) (o := .cells #[.int .i64 t385, .int .i64 t386, .int .i64 t387, .slice Ao23 t388.length co23] 35 (0, 0)) (uK BK392) hb); have n7_ := Aside0.mk (blk_below (g := gb406) (o := .cells #[.int .i64 t399, .int .i64 t400, .int .i64 t401, .slice Ao32 t402.length co32] 35 (0, 0)) (uK BK406) hb); have n8_ := Aside0.mk (below_step (by first | exact uB HB | exact uS HB (gC GE392 (gC GE406 gN))) hb); clear HO_14 HO_15 HO_393003 HO_407003 HO410 BK392 BK406 HB; have HO_14 := n0_; have HO_15 := n1_; have HO_393003 := n2_; have HO_407003 := n3_; have HO410 := n4_; have HO414 := n5_; have BK392 := n6_; have BK406 := n7_; have HB := n8_; clear n0_ n1_ n2_ n3_ n4_ n5_ n6_ n7_ n8_; (try clear hb); (try clear hb2); (try clear hk); (try clear hi); (try clear ho0); obtain ⟨Ao137, co137, eo137⟩ := Kd.R_slice HO414.out; subst eo137) | ((with_reducible refine gate_callee (f := 20) rfl ?_); refine goesL_ (some 72) rfl rfl Try.func20 (by kernel_rfl) rfl #[.slice Ao27 t396.length co27, .slice Ao137 t412.length co137] rfl (by (try simp only [List.map_toArray, List.map_cons, List.map_nil]); first | done | rfl | (simp only [List.length_drop, List.length_take]; rfl)) ?_; (with_reducible refine (laws_eqIntS.calls kj14 _ _ t396 _ _ t412 false _ ?side1 ?side2 ?side3 ?side4 A48.out).mono ?_); (case side1 => exact uD HO_15); (case side2 => exact (Kd.R_reads' HO_15.out).2.1); (case side3 => exact uD HO414); (case side4 => exact (Kd.R_reads' HO414.out).2.1); rintro e w' ⟨rfl, ⟨nd, rfl⟩⟩; refine ⟨_, rfl, ?_⟩))
        go_ret
        exact ⟨by first | rfl | (simp [errW_none, errW_some] <;> rfl) | (simp [*, errW_none, errW_some] <;> rfl), by first | exact uB HB | exact uS HB (gC GE392 (gC GE406 gN))⟩
      ·
       replace c46 := Bool.eq_false_iff.mpr c46
       subst c46
       have H1 : (some false) = some r := by rw [if_neg (show ¬ (false = true) by decide)] at H; exact H
       clear H
       have H := H1
       clear H1
       obtain rfl := Option.some.inj H
       go_wp2_with (first | ((with_reducible refine gate_callee (f := 9) rfl ?_); refine goesL_ (some 66) rfl rfl Try.func9 (by kernel_rfl) rfl #[.slice A1 l1.length c1] rfl (by (try simp only [List.map_toArray, List.map_cons, List.map_nil]); first | done | rfl | (simp only [List.length_drop, List.length_take]; rfl)) ?_; (with_reducible refine (laws_toStringS.calls kj14 _ _ l1 t408 _ ?side1 ?side2 A44.out).mono ?_); (case side1 => exact uC HR1 HB); (case side2 => exact HC1.out); rintro e w138 ⟨v409, rfl, ho0, hb⟩; refine ⟨_, rfl, ?_⟩; have n0_ := Aside0.mk (Kd.R_elder' (uR HO_14) (Kd.R_base ho0) hb); have n1_ := Aside0.mk (Kd.R_below (uR HO_15) hb); have n2_ := Aside0.mk (Kd.R_below (uR HO_393003) hb); have n3_ := Aside0.mk (Kd.R_below (uR HO_407003) hb); have n4_ := Aside0.mk (Kd.R_lower (Kd.R_new' ho0 (Kd.R_lt (uR HO_14))) (below_size (by first | exact uB HB | exact uS HB (gC GE392 (gC GE406 gN))))); have n5_ := Aside0.mk (blk_below (g := gb392) (o := .cells #[.int .i64 t385, .int .i64 t386, .int .i64 t387, .slice Ao23 t388.length co23] 35 (0, 0)) (uK BK392) hb); have n6_ := Aside0.mk (blk_below (g := gb406) (o := .cells #[.int .i64 t399, .int .i64 t400, .int .i64 t401, .slice Ao32 t402.length co32] 35 (0, 0)) (uK BK406) hb); have n7_ := Aside0.mk (below_step (by first | exact uB HB | exact uS HB (gC GE392 (gC GE406 gN))) hb); clear HO_14 HO_15 HO_393003 HO_407003 BK392 BK406 HB; have HO_14 := n0_; have HO_15 := n1_; have HO_393003 := n2_; have HO_407003 := n3_; have HO410 := n4_; have BK392 := n5_; have BK406 := n6_; have HB := n7_; clear n0_ n1_ n2_ n3_ n4_ n5_ n6_ n7_; (try clear hb); (try clear hb2); (try clear hk); (try clear hi); (try clear ho0); obtain ⟨Ao139, co139, eo139⟩ := Kd.R_slice HO410.out; subst eo139) | ((with_reducible refine gate_callee (f := 12) rfl ?_); refine goesL_ (some 67) rfl rfl Try.func12 (by kernel_rfl) rfl #[.slice Ao26 t393.length co26, .slice Ao139 t408.length co139] rfl (by (try simp only [List.map_toArray, List.map_cons, List.map_nil]); first | done | rfl | (simp only [List.length_drop, List.length_take]; rfl)) ?_; (with_reducible refine (laws_eqStringS.calls kj14 _ _ t393 _ _ t408 false _ ?side1 ?side2 ?side3 ?side4 A45.out).mono ?_); (case side1 => exact uD HO_14); (case side2 => exact (Kd.R_reads' HO_14.out).2.1); (case side3 => exact uD HO410); (case side4 => exact (Kd.R_reads' HO410.out).2.1); rintro e w' ⟨rfl, ⟨nd, rfl⟩⟩; refine ⟨_, rfl, ?_⟩))
       go_ret
       exact ⟨by first | rfl | (simp [errW_none, errW_some] <;> rfl) | (simp [*, errW_none, errW_some] <;> rfl), by first | exact uB HB | exact uS HB (gC GE392 (gC GE406 gN))⟩

end Go.Proofs.Ytippedfjmlkpiaa.PFnExactTableByPeeling
