-- made by wip/tools/myprint.py over the kit's print, for this claim
import Derived.Test.YtohfcpekgdbobaaPFnExactBuildDisplacedx0
import Derived.Test.YtohfcpekgdbobaaPFnExactBuildDisplacedx1
import Derived.Test.YtohfcpekgdbobaaPFnExactBuildDisplacedx3
import Derived.Test.YtohfcpekgdbobaaPFnExactBuildDisplacedx10
import Derived.Test.YtohfcpekgdbobaaPFnExactBuildDisplacedx11
import Derived.Test.YtohfcpekgdbobaaPFnExactBuildDisplacedx12
namespace Go.Proofs.Ytohfcpekgdbobaa.PFnExactBuildDisplaced
open Go.RowKit Go.Proofs.YtohfcpekgdbobaaW.PrintWords Go.Proofs.YtohfcpekgdbobaaW.PrintLast Go.Proofs.YtohfcpekgdbobaaW.PrintMore
attribute [local go_sem] max2_int min2_int max_two min_two max_three min_three max_four min_four   -- for this text's walks alone
set_option linter.unusedVariables false
set_option linter.unusedSimpArgs false

/-! ### laws_FnExactBuildDisplaced: function 3 -/
mutual
def laws_FnExactBuildDisplaced.j0 : Nat → Int → List ByteArray → Int → Int → Bool → List ByteArray → Bool → Bool → Int → Int → Int → List Int → Int → Int → Int → List Int → Option (Bool)
 | 0, _, _, _, _, _, _, _, _, _, _, _, _, _, _, _, _ => none
 | k + 1, x0, x1, x2, x3, x11, x12, x14, x52, x330000, x330001, x330002, x330003, x341000, x341001, x341002, x341003 => if x52 = true then (some false) else ((laws_toStringS.f k x1).bind fun t342 => ((laws_eqStringS.f k x12 t342).bind fun t345 => (if t345 = true then ((laws_markStringS.f k x12 1).bind fun bt346 => (if bt346.1 < 0 then (laws_FnExactBuildDisplaced.j1 k x0 x1 x2 x3 x11 true x330000 x330001 x330002 x330003 x341000 x341001 x341002 x341003) else ((laws_eqDisplaced.f k x341000 x341001 x341002 x341003 x330000 x330001 x330002 x330003).bind fun t348 => (if t348 = true then (laws_FnExactBuildDisplaced.j1 k x0 x1 x2 x3 x11 (x14 != x11) x330000 x330001 x330002 x330003 x341000 x341001 x341002 x341003) else (laws_FnExactBuildDisplaced.j1 k x0 x1 x2 x3 x11 true x330000 x330001 x330002 x330003 x341000 x341001 x341002 x341003))))) else (some false))))
def laws_FnExactBuildDisplaced.j1 : Nat → Int → List ByteArray → Int → Int → Bool → Bool → Int → Int → Int → List Int → Int → Int → Int → List Int → Option (Bool)
 | 0, _, _, _, _, _, _, _, _, _, _, _, _, _, _ => none
 | k + 1, x0, x1, x2, x3, x11, x73, x330000, x330001, x330002, x330003, x341000, x341001, x341002, x341003 => if x73 = true then (some false) else ((laws_markDisplaced.f k x341000 x341001 x341002 x341003 1).bind fun bt349 => ((laws_heldDisplaced.f k x341000 x341001 x341002 bt349.2 1).bind fun t351 => (if t351 < 0 then (some false) else (if t351 = bt349.1 then ((laws_toStringS.f k x1).bind fun t352 => ((impl_BuildDisplaced.f k x0 t352 x2 x3).bind fun bt355 => ((laws_eqDisplaced.f k bt355.1 bt355.2.1 bt355.2.2.1 bt355.2.2.2.1 x330000 x330001 x330002 x330003).bind fun t363 => (if t363 = true then (laws_FnExactBuildDisplaced.j2 k bt349.1 (bt355.2.2.2.2 != x11) x341000 x341001 x341002 bt349.2) else (laws_FnExactBuildDisplaced.j2 k bt349.1 true x341000 x341001 x341002 bt349.2))))) else (some false)))))
def laws_FnExactBuildDisplaced.j2 : Nat → Int → Bool → Int → Int → Int → List Int → Option (Bool)
 | 0, _, _, _, _, _, _ => none
 | k + 1, x16, x102, x341000, x341001, x341002, x341003 => if x102 = true then (some false) else ((laws_heldDisplaced.f k x341000 x341001 x341002 x341003 1).bind fun t364 => (if t364 < 0 then (some false) else (if t364 = x16 then (some true) else (some false))))
end
def laws_FnExactBuildDisplaced.f (k : Nat) (a0 : Int) (l1 : List ByteArray) (a2 : Int) (a3 : Int) : Option (Bool) := (laws_szStringS.f k l1 1048576).bind fun t318 => (if t318 < 0 then (some true) else ((laws_toStringS.f k l1).bind fun t319 => ((spec_BuildDisplaced.f k a0 t319 a2 a3).bind fun bt322 => ((laws_toStringS.f k l1).bind fun t330 => ((impl_BuildDisplaced.f k a0 t330 a2 a3).bind fun bt333 => ((laws_eqDisplaced.f k bt333.1 bt333.2.1 bt333.2.2.1 bt333.2.2.2.1 bt322.1 bt322.2.1 bt322.2.2.1 bt322.2.2.2.1).bind fun t341 => (if t341 = true then (laws_FnExactBuildDisplaced.j0 k a0 l1 a2 a3 bt322.2.2.2.2 t330 bt333.2.2.2.2 (bt333.2.2.2.2 != bt322.2.2.2.2) bt322.1 bt322.2.1 bt322.2.2.1 bt322.2.2.2.1 bt333.1 bt333.2.1 bt333.2.2.1 bt333.2.2.2.1) else (laws_FnExactBuildDisplaced.j0 k a0 l1 a2 a3 bt322.2.2.2.2 t330 bt333.2.2.2.2 true bt322.1 bt322.2.1 bt322.2.2.1 bt322.2.2.2.1 bt333.1 bt333.2.1 bt333.2.2.1 bt333.2.2.2.1))))))))
theorem laws_FnExactBuildDisplaced.mono_l : ∀ k, (∀ y0 y1 y2 y3 y4 y5 y6 y7 y8 y9 y10 y11 y12 y13 y14 y15, LeO (laws_FnExactBuildDisplaced.j0 k y0 y1 y2 y3 y4 y5 y6 y7 y8 y9 y10 y11 y12 y13 y14 y15) (laws_FnExactBuildDisplaced.j0 (k + 1) y0 y1 y2 y3 y4 y5 y6 y7 y8 y9 y10 y11 y12 y13 y14 y15)) ∧ (∀ y0 y1 y2 y3 y4 y5 y6 y7 y8 y9 y10 y11 y12 y13, LeO (laws_FnExactBuildDisplaced.j1 k y0 y1 y2 y3 y4 y5 y6 y7 y8 y9 y10 y11 y12 y13) (laws_FnExactBuildDisplaced.j1 (k + 1) y0 y1 y2 y3 y4 y5 y6 y7 y8 y9 y10 y11 y12 y13)) ∧ (∀ y0 y1 y2 y3 y4 y5, LeO (laws_FnExactBuildDisplaced.j2 k y0 y1 y2 y3 y4 y5) (laws_FnExactBuildDisplaced.j2 (k + 1) y0 y1 y2 y3 y4 y5))
 | 0 => ⟨fun _ _ _ _ _ _ _ _ _ _ _ _ _ _ _ _ r h => by simp [laws_FnExactBuildDisplaced.j0] at h, fun _ _ _ _ _ _ _ _ _ _ _ _ _ _ r h => by simp [laws_FnExactBuildDisplaced.j1] at h, fun _ _ _ _ _ _ r h => by simp [laws_FnExactBuildDisplaced.j2] at h⟩
 | k + 1 => by
  obtain ⟨ih0, ih1, ih2⟩ := laws_FnExactBuildDisplaced.mono_l k
  refine ⟨?_, ?_, ?_⟩
  ·
   intro y0 y1 y2 y3 y4 y5 y6 y7 y8 y9 y10 y11 y12 y13 y14 y15
   unfold laws_FnExactBuildDisplaced.j0
   repeat' first
   | (with_reducible exact ih0 _ _ _ _ _ _ _ _ _ _ _ _ _ _ _ _)
   | (with_reducible exact ih1 _ _ _ _ _ _ _ _ _ _ _ _ _ _)
   | (with_reducible exact ih2 _ _ _ _ _ _)
   | (with_reducible exact impl_BuildDisplaced.mono _ _ _ _ _)
   | (with_reducible exact laws_eqDisplaced.mono _ _ _ _ _ _ _ _ _)
   | (with_reducible exact laws_eqStringS.mono _ _ _)
   | (with_reducible exact laws_heldDisplaced.mono _ _ _ _ _ _)
   | (with_reducible exact laws_markDisplaced.mono _ _ _ _ _ _)
   | (with_reducible exact laws_markStringS.mono _ _ _)
   | (with_reducible exact laws_szStringS.mono _ _ _)
   | (with_reducible exact laws_toStringS.mono _ _)
   | (with_reducible exact spec_BuildDisplaced.mono _ _ _ _ _)
   | (with_reducible exact LeO.refl _)
   | (with_reducible exact LeO.none _)
   | (with_reducible refine LeO.ite ?_ ?_)
   | (with_reducible refine LeO.bind ?_ (fun _ => ?_))
   | exact ih0 _ _ _ _ _ _ _ _ _ _ _ _ _ _ _ _
   | exact ih1 _ _ _ _ _ _ _ _ _ _ _ _ _ _
   | exact ih2 _ _ _ _ _ _
   | exact impl_BuildDisplaced.mono _ _ _ _ _
   | exact laws_eqDisplaced.mono _ _ _ _ _ _ _ _ _
   | exact laws_eqStringS.mono _ _ _
   | exact laws_heldDisplaced.mono _ _ _ _ _ _
   | exact laws_markDisplaced.mono _ _ _ _ _ _
   | exact laws_markStringS.mono _ _ _
   | exact laws_szStringS.mono _ _ _
   | exact laws_toStringS.mono _ _
   | exact spec_BuildDisplaced.mono _ _ _ _ _
   | exact LeO.none _
   | refine LeO.ite ?_ ?_
   | refine LeO.bind ?_ (fun _ => ?_)
  ·
   intro y0 y1 y2 y3 y4 y5 y6 y7 y8 y9 y10 y11 y12 y13
   unfold laws_FnExactBuildDisplaced.j1
   repeat' first
   | (with_reducible exact ih0 _ _ _ _ _ _ _ _ _ _ _ _ _ _ _ _)
   | (with_reducible exact ih1 _ _ _ _ _ _ _ _ _ _ _ _ _ _)
   | (with_reducible exact ih2 _ _ _ _ _ _)
   | (with_reducible exact impl_BuildDisplaced.mono _ _ _ _ _)
   | (with_reducible exact laws_eqDisplaced.mono _ _ _ _ _ _ _ _ _)
   | (with_reducible exact laws_eqStringS.mono _ _ _)
   | (with_reducible exact laws_heldDisplaced.mono _ _ _ _ _ _)
   | (with_reducible exact laws_markDisplaced.mono _ _ _ _ _ _)
   | (with_reducible exact laws_markStringS.mono _ _ _)
   | (with_reducible exact laws_szStringS.mono _ _ _)
   | (with_reducible exact laws_toStringS.mono _ _)
   | (with_reducible exact spec_BuildDisplaced.mono _ _ _ _ _)
   | (with_reducible exact LeO.refl _)
   | (with_reducible exact LeO.none _)
   | (with_reducible refine LeO.ite ?_ ?_)
   | (with_reducible refine LeO.bind ?_ (fun _ => ?_))
   | exact ih0 _ _ _ _ _ _ _ _ _ _ _ _ _ _ _ _
   | exact ih1 _ _ _ _ _ _ _ _ _ _ _ _ _ _
   | exact ih2 _ _ _ _ _ _
   | exact impl_BuildDisplaced.mono _ _ _ _ _
   | exact laws_eqDisplaced.mono _ _ _ _ _ _ _ _ _
   | exact laws_eqStringS.mono _ _ _
   | exact laws_heldDisplaced.mono _ _ _ _ _ _
   | exact laws_markDisplaced.mono _ _ _ _ _ _
   | exact laws_markStringS.mono _ _ _
   | exact laws_szStringS.mono _ _ _
   | exact laws_toStringS.mono _ _
   | exact spec_BuildDisplaced.mono _ _ _ _ _
   | exact LeO.none _
   | refine LeO.ite ?_ ?_
   | refine LeO.bind ?_ (fun _ => ?_)
  ·
   intro y0 y1 y2 y3 y4 y5
   unfold laws_FnExactBuildDisplaced.j2
   repeat' first
   | (with_reducible exact ih0 _ _ _ _ _ _ _ _ _ _ _ _ _ _ _ _)
   | (with_reducible exact ih1 _ _ _ _ _ _ _ _ _ _ _ _ _ _)
   | (with_reducible exact ih2 _ _ _ _ _ _)
   | (with_reducible exact impl_BuildDisplaced.mono _ _ _ _ _)
   | (with_reducible exact laws_eqDisplaced.mono _ _ _ _ _ _ _ _ _)
   | (with_reducible exact laws_eqStringS.mono _ _ _)
   | (with_reducible exact laws_heldDisplaced.mono _ _ _ _ _ _)
   | (with_reducible exact laws_markDisplaced.mono _ _ _ _ _ _)
   | (with_reducible exact laws_markStringS.mono _ _ _)
   | (with_reducible exact laws_szStringS.mono _ _ _)
   | (with_reducible exact laws_toStringS.mono _ _)
   | (with_reducible exact spec_BuildDisplaced.mono _ _ _ _ _)
   | (with_reducible exact LeO.refl _)
   | (with_reducible exact LeO.none _)
   | (with_reducible refine LeO.ite ?_ ?_)
   | (with_reducible refine LeO.bind ?_ (fun _ => ?_))
   | exact ih0 _ _ _ _ _ _ _ _ _ _ _ _ _ _ _ _
   | exact ih1 _ _ _ _ _ _ _ _ _ _ _ _ _ _
   | exact ih2 _ _ _ _ _ _
   | exact impl_BuildDisplaced.mono _ _ _ _ _
   | exact laws_eqDisplaced.mono _ _ _ _ _ _ _ _ _
   | exact laws_eqStringS.mono _ _ _
   | exact laws_heldDisplaced.mono _ _ _ _ _ _
   | exact laws_markDisplaced.mono _ _ _ _ _ _
   | exact laws_markStringS.mono _ _ _
   | exact laws_szStringS.mono _ _ _
   | exact laws_toStringS.mono _ _
   | exact spec_BuildDisplaced.mono _ _ _ _ _
   | exact LeO.none _
   | refine LeO.ite ?_ ?_
   | refine LeO.bind ?_ (fun _ => ?_)
theorem laws_FnExactBuildDisplaced.mono : ∀ a0 a1 a2 a3 k, LeO (laws_FnExactBuildDisplaced.f k a0 a1 a2 a3) (laws_FnExactBuildDisplaced.f (k + 1) a0 a1 a2 a3) := by
 intro a0 a1 a2 a3 k
 obtain ⟨ih0, ih1, ih2⟩ := laws_FnExactBuildDisplaced.mono_l k
 unfold laws_FnExactBuildDisplaced.f
 repeat' first
   | (with_reducible exact ih0 _ _ _ _ _ _ _ _ _ _ _ _ _ _ _ _)
   | (with_reducible exact ih1 _ _ _ _ _ _ _ _ _ _ _ _ _ _)
   | (with_reducible exact ih2 _ _ _ _ _ _)
   | (with_reducible exact impl_BuildDisplaced.mono _ _ _ _ _)
   | (with_reducible exact laws_eqDisplaced.mono _ _ _ _ _ _ _ _ _)
   | (with_reducible exact laws_eqStringS.mono _ _ _)
   | (with_reducible exact laws_heldDisplaced.mono _ _ _ _ _ _)
   | (with_reducible exact laws_markDisplaced.mono _ _ _ _ _ _)
   | (with_reducible exact laws_markStringS.mono _ _ _)
   | (with_reducible exact laws_szStringS.mono _ _ _)
   | (with_reducible exact laws_toStringS.mono _ _)
   | (with_reducible exact spec_BuildDisplaced.mono _ _ _ _ _)
   | (with_reducible exact LeO.refl _)
   | (with_reducible exact LeO.none _)
   | (with_reducible refine LeO.ite ?_ ?_)
   | (with_reducible refine LeO.bind ?_ (fun _ => ?_))
   | exact ih0 _ _ _ _ _ _ _ _ _ _ _ _ _ _ _ _
   | exact ih1 _ _ _ _ _ _ _ _ _ _ _ _ _ _
   | exact ih2 _ _ _ _ _ _
   | exact impl_BuildDisplaced.mono _ _ _ _ _
   | exact laws_eqDisplaced.mono _ _ _ _ _ _ _ _ _
   | exact laws_eqStringS.mono _ _ _
   | exact laws_heldDisplaced.mono _ _ _ _ _ _
   | exact laws_markDisplaced.mono _ _ _ _ _ _
   | exact laws_markStringS.mono _ _ _
   | exact laws_szStringS.mono _ _ _
   | exact laws_toStringS.mono _ _
   | exact spec_BuildDisplaced.mono _ _ _ _ _
   | exact LeO.none _
   | refine LeO.ite ?_ ?_
   | refine LeO.bind ?_ (fun _ => ?_)
set_option maxHeartbeats 8000000 in
set_option maxRecDepth 100000 in
theorem laws_FnExactBuildDisplaced.calls (k : Nat) (a0 : Int) (A1 : Option Addr) (c1 : Nat) (l1 : List ByteArray) (a2 : Int) (a3 : Int) (r : Bool) (w : World) (hr1 : Kd.C Kd.string w A1 l1.length l1) (hc1 : l1.length ≤ c1) (h : laws_FnExactBuildDisplaced.f k a0 l1 a2 a3 = some r) :
  Calls Try.prog 3 #[.int .i64 a0, .slice A1 l1.length c1, .int .i64 a2, .int .i64 a3] w fun e w' => e = .returned (.bool r) ∧ Below w.heap.size w w' := by
 have hu26 := Try.underlying26
 have HR1 := Aside0.mk hr1
 have HC1 := Aside0.mk hc1
 clear hr1 hc1
 have HB := Aside0.mk (Below.refl w.heap.size w)
 have H : ((laws_szStringS.f k l1 1048576).bind fun t318 => (if t318 < 0 then (some true) else ((laws_toStringS.f k l1).bind fun t319 => ((spec_BuildDisplaced.f k a0 t319 a2 a3).bind fun bt322 => ((laws_toStringS.f k l1).bind fun t330 => ((impl_BuildDisplaced.f k a0 t330 a2 a3).bind fun bt333 => ((laws_eqDisplaced.f k bt333.1 bt333.2.1 bt333.2.2.1 bt333.2.2.2.1 bt322.1 bt322.2.1 bt322.2.2.1 bt322.2.2.2.1).bind fun t341 => (if t341 = true then (laws_FnExactBuildDisplaced.j0 k a0 l1 a2 a3 bt322.2.2.2.2 t330 bt333.2.2.2.2 (bt333.2.2.2.2 != bt322.2.2.2.2) bt322.1 bt322.2.1 bt322.2.2.1 bt322.2.2.2.1 bt333.1 bt333.2.1 bt333.2.2.1 bt333.2.2.2.1) else (laws_FnExactBuildDisplaced.j0 k a0 l1 a2 a3 bt322.2.2.2.2 t330 bt333.2.2.2.2 true bt322.1 bt322.2.1 bt322.2.2.1 bt322.2.2.2.1 bt333.1 bt333.2.1 bt333.2.2.1 bt333.2.2.2.1))))))))) = some r := h
 clear h
 replace H := Option.bind_eq_some_iff.mp H
 obtain ⟨t318, A50, H⟩ := H
 replace H : (if t318 < 0 then (some true) else ((laws_toStringS.f k l1).bind fun t319 => ((spec_BuildDisplaced.f k a0 t319 a2 a3).bind fun bt322 => ((laws_toStringS.f k l1).bind fun t330 => ((impl_BuildDisplaced.f k a0 t330 a2 a3).bind fun bt333 => ((laws_eqDisplaced.f k bt333.1 bt333.2.1 bt333.2.2.1 bt333.2.2.2.1 bt322.1 bt322.2.1 bt322.2.2.1 bt322.2.2.2.1).bind fun t341 => (if t341 = true then (laws_FnExactBuildDisplaced.j0 k a0 l1 a2 a3 bt322.2.2.2.2 t330 bt333.2.2.2.2 (bt333.2.2.2.2 != bt322.2.2.2.2) bt322.1 bt322.2.1 bt322.2.2.1 bt322.2.2.2.1 bt333.1 bt333.2.1 bt333.2.2.1 bt333.2.2.2.1) else (laws_FnExactBuildDisplaced.j0 k a0 l1 a2 a3 bt322.2.2.2.2 t330 bt333.2.2.2.2 true bt322.1 bt322.2.1 bt322.2.2.1 bt322.2.2.2.1 bt333.1 bt333.2.1 bt333.2.2.1 bt333.2.2.2.1)))))))) = some r := H
 have A5 := Aside0.mk A50
 clear A50
 by_cases c6 : t318 < 0
 ·
  rw [if_pos c6] at H
  have c6b0 : decide (t318 < 0) = true := decide_eq_true c6
  clear c6
  obtain rfl := Option.some.inj H
  go_enter Try.func3, Try.ntmps3
  go_wp2_with (first | ((with_reducible refine gate_callee (f := 4) rfl ?_); refine goesL_ (some 22) rfl rfl Try.func4 (by kernel_rfl) rfl #[.slice A1 l1.length c1, .int .i64 1048576] rfl (by (try simp only [List.map_toArray, List.map_cons, List.map_nil]); first | done | rfl | (simp only [List.length_drop, List.length_take]; rfl)) ?_; (with_reducible refine (laws_szStringS.calls k _ _ l1 1048576 t318 _ ?side1 ?side2 A5.out).mono ?_); (case side1 => repeat (first | exact HR1.out | (with_reducible refine Kd.C_alloc ?_ _) | (with_reducible refine Kd.C_drewN ?_ _) | (with_reducible refine Kd.C_drew ?_))); (case side2 => exact HC1.out); rintro e w' ⟨rfl, ⟨nd, rfl⟩⟩; refine ⟨_, rfl, ?_⟩))
  go_ret
  exact ⟨by first | rfl | (simp [errW_none, errW_some] <;> rfl) | (simp [*, errW_none, errW_some] <;> rfl), uB HB⟩
 ·
  rw [if_neg c6] at H
  have c6b0 : decide (t318 < 0) = false := decide_eq_false c6
  clear c6
  replace H := Option.bind_eq_some_iff.mp H
  obtain ⟨t319, A70, H⟩ := H
  replace H : ((spec_BuildDisplaced.f k a0 t319 a2 a3).bind fun bt322 => ((laws_toStringS.f k l1).bind fun t330 => ((impl_BuildDisplaced.f k a0 t330 a2 a3).bind fun bt333 => ((laws_eqDisplaced.f k bt333.1 bt333.2.1 bt333.2.2.1 bt333.2.2.2.1 bt322.1 bt322.2.1 bt322.2.2.1 bt322.2.2.2.1).bind fun t341 => (if t341 = true then (laws_FnExactBuildDisplaced.j0 k a0 l1 a2 a3 bt322.2.2.2.2 t330 bt333.2.2.2.2 (bt333.2.2.2.2 != bt322.2.2.2.2) bt322.1 bt322.2.1 bt322.2.2.1 bt322.2.2.2.1 bt333.1 bt333.2.1 bt333.2.2.1 bt333.2.2.2.1) else (laws_FnExactBuildDisplaced.j0 k a0 l1 a2 a3 bt322.2.2.2.2 t330 bt333.2.2.2.2 true bt322.1 bt322.2.1 bt322.2.2.1 bt322.2.2.2.1 bt333.1 bt333.2.1 bt333.2.2.1 bt333.2.2.2.1)))))) = some r := H
  have A7 := Aside0.mk A70
  clear A70
  replace H := Option.bind_eq_some_iff.mp H
  obtain ⟨⟨t322, t323, t324, t325, t328⟩, A80, H⟩ := H
  replace H : ((laws_toStringS.f k l1).bind fun t330 => ((impl_BuildDisplaced.f k a0 t330 a2 a3).bind fun bt333 => ((laws_eqDisplaced.f k bt333.1 bt333.2.1 bt333.2.2.1 bt333.2.2.2.1 t322 t323 t324 t325).bind fun t341 => (if t341 = true then (laws_FnExactBuildDisplaced.j0 k a0 l1 a2 a3 t328 t330 bt333.2.2.2.2 (bt333.2.2.2.2 != t328) t322 t323 t324 t325 bt333.1 bt333.2.1 bt333.2.2.1 bt333.2.2.2.1) else (laws_FnExactBuildDisplaced.j0 k a0 l1 a2 a3 t328 t330 bt333.2.2.2.2 true t322 t323 t324 t325 bt333.1 bt333.2.1 bt333.2.2.1 bt333.2.2.2.1))))) = some r := H
  have A8 := Aside0.mk A80
  clear A80
  replace H := Option.bind_eq_some_iff.mp H
  obtain ⟨t330, A90, H⟩ := H
  replace H : ((impl_BuildDisplaced.f k a0 t330 a2 a3).bind fun bt333 => ((laws_eqDisplaced.f k bt333.1 bt333.2.1 bt333.2.2.1 bt333.2.2.2.1 t322 t323 t324 t325).bind fun t341 => (if t341 = true then (laws_FnExactBuildDisplaced.j0 k a0 l1 a2 a3 t328 t330 bt333.2.2.2.2 (bt333.2.2.2.2 != t328) t322 t323 t324 t325 bt333.1 bt333.2.1 bt333.2.2.1 bt333.2.2.2.1) else (laws_FnExactBuildDisplaced.j0 k a0 l1 a2 a3 t328 t330 bt333.2.2.2.2 true t322 t323 t324 t325 bt333.1 bt333.2.1 bt333.2.2.1 bt333.2.2.2.1)))) = some r := H
  have A9 := Aside0.mk A90
  clear A90
  replace H := Option.bind_eq_some_iff.mp H
  obtain ⟨⟨t333, t334, t335, t336, t339⟩, A100, H⟩ := H
  replace H : ((laws_eqDisplaced.f k t333 t334 t335 t336 t322 t323 t324 t325).bind fun t341 => (if t341 = true then (laws_FnExactBuildDisplaced.j0 k a0 l1 a2 a3 t328 t330 t339 (t339 != t328) t322 t323 t324 t325 t333 t334 t335 t336) else (laws_FnExactBuildDisplaced.j0 k a0 l1 a2 a3 t328 t330 t339 true t322 t323 t324 t325 t333 t334 t335 t336))) = some r := H
  have A10 := Aside0.mk A100
  clear A100
  have HC11 := Aside0.mk H
  clear H
  go_enter Try.func3, Try.ntmps3
  go_upto_region 8 with (first | ((with_reducible refine gate_callee (f := 4) rfl ?_); refine goesL_ (some 22) rfl rfl Try.func4 (by kernel_rfl) rfl #[.slice A1 l1.length c1, .int .i64 1048576] rfl (by (try simp only [List.map_toArray, List.map_cons, List.map_nil]); first | done | rfl | (simp only [List.length_drop, List.length_take]; rfl)) ?_; (with_reducible refine (laws_szStringS.calls k _ _ l1 1048576 t318 _ ?side1 ?side2 A5.out).mono ?_); (case side1 => repeat (first | exact HR1.out | (with_reducible refine Kd.C_alloc ?_ _) | (with_reducible refine Kd.C_drewN ?_ _) | (with_reducible refine Kd.C_drew ?_))); (case side2 => exact HC1.out); rintro e w' ⟨rfl, ⟨nd, rfl⟩⟩; refine ⟨_, rfl, ?_⟩) | ((with_reducible refine gate_callee (f := 6) rfl ?_); refine goesL_ (some 28) rfl rfl Try.func6 (by kernel_rfl) rfl #[.slice A1 l1.length c1] rfl (by (try simp only [List.map_toArray, List.map_cons, List.map_nil]); first | done | rfl | (simp only [List.length_drop, List.length_take]; rfl)) ?_; (with_reducible refine (laws_toStringS.calls k _ _ l1 t319 _ ?side1 ?side2 A7.out).mono ?_); (case side1 => repeat (first | exact HR1.out | (with_reducible refine Kd.C_alloc ?_ _) | (with_reducible refine Kd.C_drewN ?_ _) | (with_reducible refine Kd.C_drew ?_))); (case side2 => exact HC1.out); rintro e w12 ⟨v320, rfl, ho0, hb⟩; refine ⟨_, rfl, ?_⟩; have n0_ := Aside0.mk (Kd.R_lower ho0 (below_size (uB HB))); have n1_ := Aside0.mk (below_step (uB HB) hb); clear HB; have HO321 := n0_; have HB := n1_; clear n0_ n1_; (try clear hb); (try clear hb2); (try clear hk); (try clear hi); (try clear ho0); obtain ⟨Ao13, co13, eo13⟩ := Kd.R_slice HO321.out; subst eo13) | ((with_reducible refine gate_callee (f := 5) rfl ?_); refine goesL_ (some 31) rfl rfl Try.func5 (by kernel_rfl) rfl #[.int .i64 a0, .slice Ao13 t319.length co13, .int .i64 a2, .int .i64 a3] rfl (by (try simp only [List.map_toArray, List.map_cons, List.map_nil]); first | done | rfl | (simp only [List.length_drop, List.length_take]; rfl)) ?_; (with_reducible refine (spec_BuildDisplaced.calls k a0 _ _ t319 a2 a3 t322 t323 t324 t325 t328 _ ?side1 ?side2 A8.out).mono ?_); (case side1 => exact uD HO321); (case side2 => exact (Kd.R_reads' HO321.out).2.1); rintro e w14 ⟨v326, rfl, ho0, hb⟩; refine ⟨_, rfl, ?_⟩; have n0_ := Aside0.mk (Kd.R_below (uR HO321) hb); have n1_ := Aside0.mk (Kd.R_lower ho0 (below_size (uB HB))); have n2_ := Aside0.mk (below_step (uB HB) hb); clear HO321 HB; have HO321 := n0_; have HO327 := n1_; have HB := n2_; clear n0_ n1_ n2_; (try clear hb); (try clear hb2); (try clear hk); (try clear hi); (try clear ho0)) | ((with_reducible refine gate_dst (N := 10) rfl ?_); refine box_event ?hg (N := 10) ?hd (cs := #[.int .i64 0, .int .i64 0, .int .i64 0, .slice none 0 0]) (t := 26) ?hr ?_; (case hd => rfl); (case hg => rfl); (case hr => first | (go_simp; done) | (go_simp; rfl)); intro gb329 hg w15 hbox hb; have n0_ := Aside0.mk (Kd.R_below (uR HO321) hb); have n1_ := Aside0.mk (Kd.R_below (uR HO327) hb); have n2_ := Aside0.mk (below_step (uB HB) hb); have n3_ := Aside0.mk (hbox); have n4_ := Aside0.mk ((by rw [hg]; exact (below_size (uB HB)) : w.heap.size ≤ gb329)); have n5_ := Aside0.mk ((by rw [hg]; exact (below_size (uB HB)) : w.heap.size ≤ gb329)); clear HO321 HO327 HB; have HO321 := n0_; have HO327 := n1_; have HB := n2_; have BK329 := n3_; have GW329 := n4_; have GE329 := n5_; clear n0_ n1_ n2_ n3_ n4_ n5_ hb hbox hg; have hcz16_0 : w15.cell? ⟨gb329, 0, none⟩ = some (.int .i64 0) := (blk_cell BK329.out 0).trans rfl; have hcz16_1 : w15.cell? ⟨gb329, 1, none⟩ = some (.int .i64 0) := (blk_cell BK329.out 1).trans rfl; have hcz16_2 : w15.cell? ⟨gb329, 2, none⟩ = some (.int .i64 0) := (blk_cell BK329.out 2).trans rfl; have hcz16_3 : w15.cell? ⟨gb329, 3, none⟩ = some (.slice none 0 0) := (blk_cell BK329.out 3).trans rfl; have hfz16_0 := blk_frozen BK329.out 0; have hfz16_1 := blk_frozen BK329.out 1; have hfz16_2 := blk_frozen BK329.out 2; have hfz16_3 := blk_frozen BK329.out 3; obtain ⟨Ao17, co17, eo17⟩ := Kd.R_slice HO327.out; subst eo17) | ((with_reducible refine gate_callee (f := 6) rfl ?_); refine goesL_ (some 35) rfl rfl Try.func6 (by kernel_rfl) rfl #[.slice A1 l1.length c1] rfl (by (try simp only [List.map_toArray, List.map_cons, List.map_nil]); first | done | rfl | (simp only [List.length_drop, List.length_take]; rfl)) ?_; (with_reducible refine (laws_toStringS.calls k _ _ l1 t330 _ ?side1 ?side2 A9.out).mono ?_); (case side1 => exact Kd.C_below HR1.out (by first | exact uB HB | exact uS HB (gC GE329 gN))); (case side2 => exact HC1.out); rintro e w18 ⟨v331, rfl, ho0, hb⟩; refine ⟨_, rfl, ?_⟩; have n0_ := Aside0.mk (Kd.R_elder' (by (with_reducible repeat (first | apply Kd.R_alloc | apply Kd.R_drewN | apply Kd.R_drew)); exact (Kd.R_mono (Kd.R_far (p := ⟨gb329, 3, none⟩) (Kd.R_far (p := ⟨gb329, 2, none⟩) (Kd.R_far (p := ⟨gb329, 1, none⟩) (Kd.R_far (p := ⟨gb329, 0, none⟩) (Kd.R_types HO321.out BK329.out (by decide)) (fun _ hk => hk.2) (.int .i64 t322)) (fun _ hk => hk.2) (.int .i64 t323)) (fun _ hk => hk.2) (.int .i64 t324)) (fun _ hk => hk.2) (.slice Ao17 t325.length co17)) (fun _ h_ => h_.1))) (Kd.R_base ho0) hb); have n1_ := Aside0.mk (Kd.R_below (by (with_reducible repeat (first | apply Kd.R_alloc | apply Kd.R_drewN | apply Kd.R_drew)); exact (Kd.R_mono (Kd.R_far (p := ⟨gb329, 3, none⟩) (Kd.R_far (p := ⟨gb329, 2, none⟩) (Kd.R_far (p := ⟨gb329, 1, none⟩) (Kd.R_far (p := ⟨gb329, 0, none⟩) (Kd.R_types HO327.out BK329.out (by decide)) (fun _ hk => hk.2) (.int .i64 t322)) (fun _ hk => hk.2) (.int .i64 t323)) (fun _ hk => hk.2) (.int .i64 t324)) (fun _ hk => hk.2) (.slice Ao17 t325.length co17)) (fun _ h_ => h_.1))) hb); have n2_ := Aside0.mk (Kd.R_lower (Kd.R_new' ho0 (Kd.R_lt (by (with_reducible repeat (first | apply Kd.R_alloc | apply Kd.R_drewN | apply Kd.R_drew)); exact (Kd.R_mono (Kd.R_far (p := ⟨gb329, 3, none⟩) (Kd.R_far (p := ⟨gb329, 2, none⟩) (Kd.R_far (p := ⟨gb329, 1, none⟩) (Kd.R_far (p := ⟨gb329, 0, none⟩) (Kd.R_types HO321.out BK329.out (by decide)) (fun _ hk => hk.2) (.int .i64 t322)) (fun _ hk => hk.2) (.int .i64 t323)) (fun _ hk => hk.2) (.int .i64 t324)) (fun _ hk => hk.2) (.slice Ao17 t325.length co17)) (fun _ h_ => h_.1))))) (below_size (by first | exact uB HB | exact uS HB (gC GE329 gN)))); have n3_ := Aside0.mk (blk_below (g := gb329) (o := .cells #[.int .i64 t322, .int .i64 t323, .int .i64 t324, .slice Ao17 t325.length co17] 26 (0, 0)) (by refine uW ?_; refine blk_put (cs := #[.int .i64 t322, .int .i64 t323, .int .i64 t324, .slice none 0 0]) ?_ 3 _ rfl; refine uW ?_; refine blk_put (cs := #[.int .i64 t322, .int .i64 t323, .int .i64 0, .slice none 0 0]) ?_ 2 _ rfl; refine uW ?_; refine blk_put (cs := #[.int .i64 t322, .int .i64 0, .int .i64 0, .slice none 0 0]) ?_ 1 _ rfl; refine uW ?_; refine blk_put (cs := #[.int .i64 0, .int .i64 0, .int .i64 0, .slice none 0 0]) ?_ 0 _ rfl; refine uW ?_; exact BK329.out) hb); have n4_ := Aside0.mk (below_step (by first | exact uB HB | exact uS HB (gC GE329 gN)) hb); clear HO321 HO327 BK329 HB; have HO321 := n0_; have HO327 := n1_; have HO332 := n2_; have BK329 := n3_; have HB := n4_; clear n0_ n1_ n2_ n3_ n4_; (try clear hb); (try clear hb2); (try clear hk); (try clear hi); (try clear ho0); obtain ⟨Ao19, co19, eo19⟩ := Kd.R_slice HO332.out; subst eo19) | ((with_reducible refine gate_callee (f := 7) rfl ?_); refine goesL_ (some 41) rfl rfl Try.func7 (by kernel_rfl) rfl #[.int .i64 a0, .slice Ao19 t330.length co19, .int .i64 a2, .int .i64 a3] rfl (by (try simp only [List.map_toArray, List.map_cons, List.map_nil]); first | done | rfl | (simp only [List.length_drop, List.length_take]; rfl)) ?_; (with_reducible refine (impl_BuildDisplaced.calls k a0 _ _ t330 a2 a3 t333 t334 t335 t336 t339 _ ?side1 ?side2 A10.out).mono ?_); (case side1 => exact uD HO332); (case side2 => exact (Kd.R_reads' HO332.out).2.1); rintro e w20 ⟨v337, rfl, ho0, hb⟩; refine ⟨_, rfl, ?_⟩; have n0_ := Aside0.mk (Kd.R_below (uR HO321) hb); have n1_ := Aside0.mk (Kd.R_elder' (uR HO327) (Kd.R_base ho0) hb); have n2_ := Aside0.mk (Kd.R_below (uR HO332) hb); have n3_ := Aside0.mk (Kd.R_lower (Kd.R_new' ho0 (Kd.R_lt (uR HO327))) (below_size (by first | exact uB HB | exact uS HB (gC GE329 gN)))); have n4_ := Aside0.mk (blk_below (g := gb329) (o := .cells #[.int .i64 t322, .int .i64 t323, .int .i64 t324, .slice Ao17 t325.length co17] 26 (0, 0)) (uK BK329) hb); have n5_ := Aside0.mk (below_step (by first | exact uB HB | exact uS HB (gC GE329 gN)) hb); clear HO321 HO327 HO332 BK329 HB; have HO321 := n0_; have HO327 := n1_; have HO332 := n2_; have HO338 := n3_; have BK329 := n4_; have HB := n5_; clear n0_ n1_ n2_ n3_ n4_ n5_; (try clear hb); (try clear hb2); (try clear hk); (try clear hi); (try clear ho0)) | ((with_reducible refine gate_dst (N := 13) rfl ?_); refine box_event ?hg (N := 13) ?hd (cs := #[.int .i64 0, .int .i64 0, .int .i64 0, .slice none 0 0]) (t := 26) ?hr ?_; (case hd => rfl); (case hg => rfl); (case hr => first | (go_simp; done) | (go_simp; rfl)); intro gb340 hg w21 hbox hb; have n0_ := Aside0.mk (Kd.R_below (uR HO321) hb); have n1_ := Aside0.mk (Kd.R_below (uR HO327) hb); have n2_ := Aside0.mk (Kd.R_below (uR HO332) hb); have n3_ := Aside0.mk (Kd.R_below (uR HO338) hb); have n4_ := Aside0.mk (blk_below (g := gb329) (o := .cells #[.int .i64 t322, .int .i64 t323, .int .i64 t324, .slice Ao17 t325.length co17] 26 (0, 0)) (uK BK329) hb); have n5_ := Aside0.mk (below_step (by first | exact uB HB | exact uS HB (gC GE329 gN)) hb); have n6_ := Aside0.mk (hbox); have n7_ := Aside0.mk ((by rw [hg]; exact (below_size (by first | exact uB HB | exact uS HB (gC GE329 gN))) : w.heap.size ≤ gb340)); have n8_ := Aside0.mk ((by rw [hg]; exact (below_size (by first | exact uB HB | exact uS HB (gC GE329 gN))) : w.heap.size ≤ gb340)); have n9_ := Aside0.mk ((by rw [hg]; exact Nat.ne_of_lt (blk_lt (g := gb329) (o := .cells #[.int .i64 t322, .int .i64 t323, .int .i64 t324, .slice Ao17 t325.length co17] 26 (0, 0)) (uK BK329)) : gb329 ≠ gb340)); have n10_ := Aside0.mk ((by rw [hg]; exact Nat.ne_of_gt (blk_lt (g := gb329) (o := .cells #[.int .i64 t322, .int .i64 t323, .int .i64 t324, .slice Ao17 t325.length co17] 26 (0, 0)) (uK BK329)) : gb340 ≠ gb329)); clear HO321 HO327 HO332 HO338 BK329 HB; have HO321 := n0_; have HO327 := n1_; have HO332 := n2_; have HO338 := n3_; have BK329 := n4_; have HB := n5_; have BK340 := n6_; have GW340 := n7_; have GE340 := n8_; have NB329_340 := n9_; have NB340_329 := n10_; clear n0_ n1_ n2_ n3_ n4_ n5_ n6_ n7_ n8_ n9_ n10_ hb hbox hg; have hnb22 := NB340_329.out; have hnc22 := NB329_340.out; have hcz23_0 : w21.cell? ⟨gb340, 0, none⟩ = some (.int .i64 0) := (blk_cell BK340.out 0).trans rfl; have hcz23_1 : w21.cell? ⟨gb340, 1, none⟩ = some (.int .i64 0) := (blk_cell BK340.out 1).trans rfl; have hcz23_2 : w21.cell? ⟨gb340, 2, none⟩ = some (.int .i64 0) := (blk_cell BK340.out 2).trans rfl; have hcz23_3 : w21.cell? ⟨gb340, 3, none⟩ = some (.slice none 0 0) := (blk_cell BK340.out 3).trans rfl; have hfz23_0 := blk_frozen BK340.out 0; have hfz23_1 := blk_frozen BK340.out 1; have hfz23_2 := blk_frozen BK340.out 2; have hfz23_3 := blk_frozen BK340.out 3; obtain ⟨Ao24, co24, eo24⟩ := Kd.R_slice HO338.out; subst eo24))
  (try simp only [Act.put, List.setIfInBounds_toArray, List.set_cons_zero, List.set_cons_succ])
  go_cut [52] (fun v52 wc => ∃ (kq : Nat) (x52_10 : Bool), v52 = .bool x52_10 ∧ Aside0 (laws_FnExactBuildDisplaced.j0 kq a0 l1 a2 a3 t328 t330 t339 x52_10 t322 t323 t324 t325 t333 t334 t335 t336 = some r) ∧ Aside0 (kq ≤ k) ∧ Aside0 (Kd.R Kd.string 9 wc w.heap.size (fun _ => True) (.slice Ao19 t330.length co19) t330) ∧ Aside0 (Kd.R (Kd.int .i64) 3 wc w.heap.size (fun k_ => some k_ ≠ ((.slice Ao24 t336.length co24) : Value).ownBlock) (.slice Ao17 t325.length co17) t325) ∧ Aside0 (Kd.R (Kd.int .i64) 3 wc w.heap.size (fun k_ => some k_ ≠ ((.slice Ao17 t325.length co17) : Value).ownBlock) (.slice Ao24 t336.length co24) t336) ∧ Aside0 (wc.heap[gb329]? = some (.cells #[.int .i64 t322, .int .i64 t323, .int .i64 t324, (.slice Ao17 t325.length co17)] 26 (0, 0))) ∧ Aside0 (wc.heap[gb340]? = some (.cells #[.int .i64 t333, .int .i64 t334, .int .i64 t335, (.slice Ao24 t336.length co24)] 26 (0, 0))) ∧ Aside0 (Below w.heap.size w wc))
  case first =>
   have H := HC11.out
   clear HC11
   replace H := Option.bind_eq_some_iff.mp H
   obtain ⟨t341, A250, H⟩ := H
   replace H : (if t341 = true then (laws_FnExactBuildDisplaced.j0 k a0 l1 a2 a3 t328 t330 t339 (t339 != t328) t322 t323 t324 t325 t333 t334 t335 t336) else (laws_FnExactBuildDisplaced.j0 k a0 l1 a2 a3 t328 t330 t339 true t322 t323 t324 t325 t333 t334 t335 t336)) = some r := H
   have A25 := Aside0.mk A250
   clear A250
   by_cases c26 : t341 = true
   ·
    subst c26
    have H1 : (laws_FnExactBuildDisplaced.j0 k a0 l1 a2 a3 t328 t330 t339 (t339 != t328) t322 t323 t324 t325 t333 t334 t335 t336) = some r := by rw [if_pos rfl] at H; exact H
    clear H
    have H := H1
    clear H1
    have H' := Aside0.mk H
    clear H
    have hnb27 := NB340_329.out
    have hnc27 := NB329_340.out
    have hcz28_0 : w21.cell? ⟨gb340, 0, none⟩ = some (.int .i64 0) := (blk_cell BK340.out 0).trans rfl
    have hcz28_1 : w21.cell? ⟨gb340, 1, none⟩ = some (.int .i64 0) := (blk_cell BK340.out 1).trans rfl
    have hcz28_2 : w21.cell? ⟨gb340, 2, none⟩ = some (.int .i64 0) := (blk_cell BK340.out 2).trans rfl
    have hcz28_3 : w21.cell? ⟨gb340, 3, none⟩ = some (.slice none 0 0) := (blk_cell BK340.out 3).trans rfl
    have hfz28_0 := blk_frozen BK340.out 0
    have hfz28_1 := blk_frozen BK340.out 1
    have hfz28_2 := blk_frozen BK340.out 2
    have hfz28_3 := blk_frozen BK340.out 3
    have hcz29_0 : w21.cell? ⟨gb329, 0, none⟩ = some (.int .i64 t322) := (blk_cell BK329.out 0).trans rfl
    have hcz29_1 : w21.cell? ⟨gb329, 1, none⟩ = some (.int .i64 t323) := (blk_cell BK329.out 1).trans rfl
    have hcz29_2 : w21.cell? ⟨gb329, 2, none⟩ = some (.int .i64 t324) := (blk_cell BK329.out 2).trans rfl
    have hcz29_3 : w21.cell? ⟨gb329, 3, none⟩ = some (.slice Ao17 t325.length co17) := (blk_cell BK329.out 3).trans rfl
    have hfz29_0 := blk_frozen BK329.out 0
    have hfz29_1 := blk_frozen BK329.out 1
    have hfz29_2 := blk_frozen BK329.out 2
    have hfz29_3 := blk_frozen BK329.out 3
    go_wp2_with (first | ((with_reducible refine gate_callee (f := 8) rfl ?_); refine goesL_ (some 46) rfl rfl Try.func8 (by kernel_rfl) rfl #[.agg #[.int .i64 t333, .int .i64 t334, .int .i64 t335, .slice Ao24 t336.length co24], .agg #[.int .i64 t322, .int .i64 t323, .int .i64 t324, .slice Ao17 t325.length co17]] rfl (by (try simp only [List.map_toArray, List.map_cons, List.map_nil]); first | done | rfl | (simp only [List.length_drop, List.length_take]; rfl)) ?_; (with_reducible refine (laws_eqDisplaced.calls k t333 t334 t335 _ _ t336 t322 t323 t324 _ _ t325 true _ ?side1 ?side2 ?side3 ?side4 A25.out).mono ?_); (case side1 => refine (Kd.R_reads' (e := 3) (base := w.heap.size) (ok := fun k_ => (True ∧ some k_ ≠ (.slice Ao17 t325.length co17 : Value).ownBlock)) (n := t336.length) (c := co24) ?_).2.2; exact (by (with_reducible repeat (first | apply Kd.R_alloc | apply Kd.R_drewN | apply Kd.R_drew)); exact (Kd.R_mono (Kd.R_far (p := ⟨gb340, 3, none⟩) (Kd.R_far (p := ⟨gb340, 2, none⟩) (Kd.R_far (p := ⟨gb340, 1, none⟩) (Kd.R_far (p := ⟨gb340, 0, none⟩) (Kd.R_types HO338.out BK340.out (by decide)) (fun _ hk => hk.2) (.int .i64 t333)) (fun _ hk => hk.2) (.int .i64 t334)) (fun _ hk => hk.2) (.int .i64 t335)) (fun _ hk => hk.2) (.slice Ao24 t336.length co24)) (fun _ h_ => h_.1)))); (case side2 => exact (Kd.R_reads' HO338.out).2.1); (case side3 => refine (Kd.R_reads' (e := 3) (base := w.heap.size) (ok := fun k_ => (True ∧ some k_ ≠ (.slice Ao24 t336.length co24 : Value).ownBlock)) (n := t325.length) (c := co17) ?_).2.2; exact (by (with_reducible repeat (first | apply Kd.R_alloc | apply Kd.R_drewN | apply Kd.R_drew)); exact (Kd.R_mono (Kd.R_far (p := ⟨gb340, 3, none⟩) (Kd.R_far (p := ⟨gb340, 2, none⟩) (Kd.R_far (p := ⟨gb340, 1, none⟩) (Kd.R_far (p := ⟨gb340, 0, none⟩) (Kd.R_types HO327.out BK340.out (by decide)) (fun _ hk => hk.2) (.int .i64 t333)) (fun _ hk => hk.2) (.int .i64 t334)) (fun _ hk => hk.2) (.int .i64 t335)) (fun _ hk => hk.2) (.slice Ao24 t336.length co24)) (fun _ h_ => h_.1)))); (case side4 => exact (Kd.R_reads' HO327.out).2.1); rintro e w30 ⟨rfl, hb⟩; refine ⟨_, rfl, ?_⟩; have n0_ := Aside0.mk (Kd.R_below (by (with_reducible repeat (first | apply Kd.R_alloc | apply Kd.R_drewN | apply Kd.R_drew)); exact (Kd.R_mono (Kd.R_far (p := ⟨gb340, 3, none⟩) (Kd.R_far (p := ⟨gb340, 2, none⟩) (Kd.R_far (p := ⟨gb340, 1, none⟩) (Kd.R_far (p := ⟨gb340, 0, none⟩) (Kd.R_types HO321.out BK340.out (by decide)) (fun _ hk => hk.2) (.int .i64 t333)) (fun _ hk => hk.2) (.int .i64 t334)) (fun _ hk => hk.2) (.int .i64 t335)) (fun _ hk => hk.2) (.slice Ao24 t336.length co24)) (fun _ h_ => h_.1))) hb); have n1_ := Aside0.mk (Kd.R_below (by (with_reducible repeat (first | apply Kd.R_alloc | apply Kd.R_drewN | apply Kd.R_drew)); exact (Kd.R_mono (Kd.R_far (p := ⟨gb340, 3, none⟩) (Kd.R_far (p := ⟨gb340, 2, none⟩) (Kd.R_far (p := ⟨gb340, 1, none⟩) (Kd.R_far (p := ⟨gb340, 0, none⟩) (Kd.R_types HO327.out BK340.out (by decide)) (fun _ hk => hk.2) (.int .i64 t333)) (fun _ hk => hk.2) (.int .i64 t334)) (fun _ hk => hk.2) (.int .i64 t335)) (fun _ hk => hk.2) (.slice Ao24 t336.length co24)) (fun _ h_ => h_.1))) hb); have n2_ := Aside0.mk (Kd.R_below (by (with_reducible repeat (first | apply Kd.R_alloc | apply Kd.R_drewN | apply Kd.R_drew)); exact (Kd.R_mono (Kd.R_far (p := ⟨gb340, 3, none⟩) (Kd.R_far (p := ⟨gb340, 2, none⟩) (Kd.R_far (p := ⟨gb340, 1, none⟩) (Kd.R_far (p := ⟨gb340, 0, none⟩) (Kd.R_types HO332.out BK340.out (by decide)) (fun _ hk => hk.2) (.int .i64 t333)) (fun _ hk => hk.2) (.int .i64 t334)) (fun _ hk => hk.2) (.int .i64 t335)) (fun _ hk => hk.2) (.slice Ao24 t336.length co24)) (fun _ h_ => h_.1))) hb); have n3_ := Aside0.mk (Kd.R_below (by (with_reducible repeat (first | apply Kd.R_alloc | apply Kd.R_drewN | apply Kd.R_drew)); exact (Kd.R_mono (Kd.R_far (p := ⟨gb340, 3, none⟩) (Kd.R_far (p := ⟨gb340, 2, none⟩) (Kd.R_far (p := ⟨gb340, 1, none⟩) (Kd.R_far (p := ⟨gb340, 0, none⟩) (Kd.R_types HO338.out BK340.out (by decide)) (fun _ hk => hk.2) (.int .i64 t333)) (fun _ hk => hk.2) (.int .i64 t334)) (fun _ hk => hk.2) (.int .i64 t335)) (fun _ hk => hk.2) (.slice Ao24 t336.length co24)) (fun _ h_ => h_.1))) hb); have n4_ := Aside0.mk (blk_below (g := gb329) (o := .cells #[.int .i64 t322, .int .i64 t323, .int .i64 t324, .slice Ao17 t325.length co17] 26 (0, 0)) (by refine uW ?_; refine blk_far ?_ NB329_340.out _; refine uW ?_; refine blk_far ?_ NB329_340.out _; refine uW ?_; refine blk_far ?_ NB329_340.out _; refine uW ?_; refine blk_far ?_ NB329_340.out _; refine uW ?_; exact BK329.out) hb); have n5_ := Aside0.mk (blk_below (g := gb340) (o := .cells #[.int .i64 t333, .int .i64 t334, .int .i64 t335, .slice Ao24 t336.length co24] 26 (0, 0)) (by refine uW ?_; refine blk_put (cs := #[.int .i64 t333, .int .i64 t334, .int .i64 t335, .slice none 0 0]) ?_ 3 _ rfl; refine uW ?_; refine blk_put (cs := #[.int .i64 t333, .int .i64 t334, .int .i64 0, .slice none 0 0]) ?_ 2 _ rfl; refine uW ?_; refine blk_put (cs := #[.int .i64 t333, .int .i64 0, .int .i64 0, .slice none 0 0]) ?_ 1 _ rfl; refine uW ?_; refine blk_put (cs := #[.int .i64 0, .int .i64 0, .int .i64 0, .slice none 0 0]) ?_ 0 _ rfl; refine uW ?_; exact BK340.out) hb); have n6_ := Aside0.mk (below_step (by first | exact uB HB | exact uS HB (gC GE329 (gC GE340 gN))) hb); clear HO321 HO327 HO332 HO338 BK329 BK340 HB; have HO321 := n0_; have HO327 := n1_; have HO332 := n2_; have HO338 := n3_; have BK329 := n4_; have BK340 := n5_; have HB := n6_; clear n0_ n1_ n2_ n3_ n4_ n5_ n6_; (try clear hb); (try clear hb2); (try clear hk); (try clear hi)))
    go_meet
    case rel => exact ⟨_, ((t339 != t328)), (by first | rfl | (simp; done) | (simp [*]; done)), H', ⟨by first | omega | exact Nat.le_refl _⟩, ⟨by (with_reducible repeat (first | apply Kd.R_alloc | apply Kd.R_drewN | apply Kd.R_drew)); exact Kd.R_mono HO332.out (fun _ hk => trivial)⟩, ⟨by (with_reducible repeat (first | apply Kd.R_alloc | apply Kd.R_drewN | apply Kd.R_drew)); exact Kd.R_mono HO327.out (fun _ hk => hk.2)⟩, ⟨by (with_reducible repeat (first | apply Kd.R_alloc | apply Kd.R_drewN | apply Kd.R_drew)); exact Kd.R_mono HO338.out (fun _ hk => hk.2)⟩, ⟨by refine uW ?_; exact BK329.out⟩, ⟨by refine uW ?_; exact BK340.out⟩, ⟨by first | exact uB HB | exact uS HB (gC GE329 (gC GE340 gN))⟩⟩
   ·
    replace c26 := Bool.eq_false_iff.mpr c26
    subst c26
    have H1 : (laws_FnExactBuildDisplaced.j0 k a0 l1 a2 a3 t328 t330 t339 true t322 t323 t324 t325 t333 t334 t335 t336) = some r := by rw [if_neg (show ¬ (false = true) by decide)] at H; exact H
    clear H
    have H := H1
    clear H1
    have H' := Aside0.mk H
    clear H
    have hnb31 := NB340_329.out
    have hnc31 := NB329_340.out
    have hcz32_0 : w21.cell? ⟨gb340, 0, none⟩ = some (.int .i64 0) := (blk_cell BK340.out 0).trans rfl
    have hcz32_1 : w21.cell? ⟨gb340, 1, none⟩ = some (.int .i64 0) := (blk_cell BK340.out 1).trans rfl
    have hcz32_2 : w21.cell? ⟨gb340, 2, none⟩ = some (.int .i64 0) := (blk_cell BK340.out 2).trans rfl
    have hcz32_3 : w21.cell? ⟨gb340, 3, none⟩ = some (.slice none 0 0) := (blk_cell BK340.out 3).trans rfl
    have hfz32_0 := blk_frozen BK340.out 0
    have hfz32_1 := blk_frozen BK340.out 1
    have hfz32_2 := blk_frozen BK340.out 2
    have hfz32_3 := blk_frozen BK340.out 3
    have hcz33_0 : w21.cell? ⟨gb329, 0, none⟩ = some (.int .i64 t322) := (blk_cell BK329.out 0).trans rfl
    have hcz33_1 : w21.cell? ⟨gb329, 1, none⟩ = some (.int .i64 t323) := (blk_cell BK329.out 1).trans rfl
    have hcz33_2 : w21.cell? ⟨gb329, 2, none⟩ = some (.int .i64 t324) := (blk_cell BK329.out 2).trans rfl
    have hcz33_3 : w21.cell? ⟨gb329, 3, none⟩ = some (.slice Ao17 t325.length co17) := (blk_cell BK329.out 3).trans rfl
    have hfz33_0 := blk_frozen BK329.out 0
    have hfz33_1 := blk_frozen BK329.out 1
    have hfz33_2 := blk_frozen BK329.out 2
    have hfz33_3 := blk_frozen BK329.out 3
    go_wp2_with (first | ((with_reducible refine gate_callee (f := 8) rfl ?_); refine goesL_ (some 46) rfl rfl Try.func8 (by kernel_rfl) rfl #[.agg #[.int .i64 t333, .int .i64 t334, .int .i64 t335, .slice Ao24 t336.length co24], .agg #[.int .i64 t322, .int .i64 t323, .int .i64 t324, .slice Ao17 t325.length co17]] rfl (by (try simp only [List.map_toArray, List.map_cons, List.map_nil]); first | done | rfl | (simp only [List.length_drop, List.length_take]; rfl)) ?_; (with_reducible refine (laws_eqDisplaced.calls k t333 t334 t335 _ _ t336 t322 t323 t324 _ _ t325 false _ ?side1 ?side2 ?side3 ?side4 A25.out).mono ?_); (case side1 => refine (Kd.R_reads' (e := 3) (base := w.heap.size) (ok := fun k_ => (True ∧ some k_ ≠ (.slice Ao17 t325.length co17 : Value).ownBlock)) (n := t336.length) (c := co24) ?_).2.2; exact (by (with_reducible repeat (first | apply Kd.R_alloc | apply Kd.R_drewN | apply Kd.R_drew)); exact (Kd.R_mono (Kd.R_far (p := ⟨gb340, 3, none⟩) (Kd.R_far (p := ⟨gb340, 2, none⟩) (Kd.R_far (p := ⟨gb340, 1, none⟩) (Kd.R_far (p := ⟨gb340, 0, none⟩) (Kd.R_types HO338.out BK340.out (by decide)) (fun _ hk => hk.2) (.int .i64 t333)) (fun _ hk => hk.2) (.int .i64 t334)) (fun _ hk => hk.2) (.int .i64 t335)) (fun _ hk => hk.2) (.slice Ao24 t336.length co24)) (fun _ h_ => h_.1)))); (case side2 => exact (Kd.R_reads' HO338.out).2.1); (case side3 => refine (Kd.R_reads' (e := 3) (base := w.heap.size) (ok := fun k_ => (True ∧ some k_ ≠ (.slice Ao24 t336.length co24 : Value).ownBlock)) (n := t325.length) (c := co17) ?_).2.2; exact (by (with_reducible repeat (first | apply Kd.R_alloc | apply Kd.R_drewN | apply Kd.R_drew)); exact (Kd.R_mono (Kd.R_far (p := ⟨gb340, 3, none⟩) (Kd.R_far (p := ⟨gb340, 2, none⟩) (Kd.R_far (p := ⟨gb340, 1, none⟩) (Kd.R_far (p := ⟨gb340, 0, none⟩) (Kd.R_types HO327.out BK340.out (by decide)) (fun _ hk => hk.2) (.int .i64 t333)) (fun _ hk => hk.2) (.int .i64 t334)) (fun _ hk => hk.2) (.int .i64 t335)) (fun _ hk => hk.2) (.slice Ao24 t336.length co24)) (fun _ h_ => h_.1)))); (case side4 => exact (Kd.R_reads' HO327.out).2.1); rintro e w34 ⟨rfl, hb⟩; refine ⟨_, rfl, ?_⟩; have n0_ := Aside0.mk (Kd.R_below (by (with_reducible repeat (first | apply Kd.R_alloc | apply Kd.R_drewN | apply Kd.R_drew)); exact (Kd.R_mono (Kd.R_far (p := ⟨gb340, 3, none⟩) (Kd.R_far (p := ⟨gb340, 2, none⟩) (Kd.R_far (p := ⟨gb340, 1, none⟩) (Kd.R_far (p := ⟨gb340, 0, none⟩) (Kd.R_types HO321.out BK340.out (by decide)) (fun _ hk => hk.2) (.int .i64 t333)) (fun _ hk => hk.2) (.int .i64 t334)) (fun _ hk => hk.2) (.int .i64 t335)) (fun _ hk => hk.2) (.slice Ao24 t336.length co24)) (fun _ h_ => h_.1))) hb); have n1_ := Aside0.mk (Kd.R_below (by (with_reducible repeat (first | apply Kd.R_alloc | apply Kd.R_drewN | apply Kd.R_drew)); exact (Kd.R_mono (Kd.R_far (p := ⟨gb340, 3, none⟩) (Kd.R_far (p := ⟨gb340, 2, none⟩) (Kd.R_far (p := ⟨gb340, 1, none⟩) (Kd.R_far (p := ⟨gb340, 0, none⟩) (Kd.R_types HO327.out BK340.out (by decide)) (fun _ hk => hk.2) (.int .i64 t333)) (fun _ hk => hk.2) (.int .i64 t334)) (fun _ hk => hk.2) (.int .i64 t335)) (fun _ hk => hk.2) (.slice Ao24 t336.length co24)) (fun _ h_ => h_.1))) hb); have n2_ := Aside0.mk (Kd.R_below (by (with_reducible repeat (first | apply Kd.R_alloc | apply Kd.R_drewN | apply Kd.R_drew)); exact (Kd.R_mono (Kd.R_far (p := ⟨gb340, 3, none⟩) (Kd.R_far (p := ⟨gb340, 2, none⟩) (Kd.R_far (p := ⟨gb340, 1, none⟩) (Kd.R_far (p := ⟨gb340, 0, none⟩) (Kd.R_types HO332.out BK340.out (by decide)) (fun _ hk => hk.2) (.int .i64 t333)) (fun _ hk => hk.2) (.int .i64 t334)) (fun _ hk => hk.2) (.int .i64 t335)) (fun _ hk => hk.2) (.slice Ao24 t336.length co24)) (fun _ h_ => h_.1))) hb); have n3_ := Aside0.mk (Kd.R_below (by (with_reducible repeat (first | apply Kd.R_alloc | apply Kd.R_drewN | apply Kd.R_drew)); exact (Kd.R_mono (Kd.R_far (p := ⟨gb340, 3, none⟩) (Kd.R_far (p := ⟨gb340, 2, none⟩) (Kd.R_far (p := ⟨gb340, 1, none⟩) (Kd.R_far (p := ⟨gb340, 0, none⟩) (Kd.R_types HO338.out BK340.out (by decide)) (fun _ hk => hk.2) (.int .i64 t333)) (fun _ hk => hk.2) (.int .i64 t334)) (fun _ hk => hk.2) (.int .i64 t335)) (fun _ hk => hk.2) (.slice Ao24 t336.length co24)) (fun _ h_ => h_.1))) hb); have n4_ := Aside0.mk (blk_below (g := gb329) (o := .cells #[.int .i64 t322, .int .i64 t323, .int .i64 t324, .slice Ao17 t325.length co17] 26 (0, 0)) (by refine uW ?_; refine blk_far ?_ NB329_340.out _; refine uW ?_; refine blk_far ?_ NB329_340.out _; refine uW ?_; refine blk_far ?_ NB329_340.out _; refine uW ?_; refine blk_far ?_ NB329_340.out _; refine uW ?_; exact BK329.out) hb); have n5_ := Aside0.mk (blk_below (g := gb340) (o := .cells #[.int .i64 t333, .int .i64 t334, .int .i64 t335, .slice Ao24 t336.length co24] 26 (0, 0)) (by refine uW ?_; refine blk_put (cs := #[.int .i64 t333, .int .i64 t334, .int .i64 t335, .slice none 0 0]) ?_ 3 _ rfl; refine uW ?_; refine blk_put (cs := #[.int .i64 t333, .int .i64 t334, .int .i64 0, .slice none 0 0]) ?_ 2 _ rfl; refine uW ?_; refine blk_put (cs := #[.int .i64 t333, .int .i64 0, .int .i64 0, .slice none 0 0]) ?_ 1 _ rfl; refine uW ?_; refine blk_put (cs := #[.int .i64 0, .int .i64 0, .int .i64 0, .slice none 0 0]) ?_ 0 _ rfl; refine uW ?_; exact BK340.out) hb); have n6_ := Aside0.mk (below_step (by first | exact uB HB | exact uS HB (gC GE329 (gC GE340 gN))) hb); clear HO321 HO327 HO332 HO338 BK329 BK340 HB; have HO321 := n0_; have HO327 := n1_; have HO332 := n2_; have HO338 := n3_; have BK329 := n4_; have BK340 := n5_; have HB := n6_; clear n0_ n1_ n2_ n3_ n4_ n5_ n6_; (try clear hb); (try clear hb2); (try clear hk); (try clear hi)))
    go_meet
    case rel => exact ⟨_, (true), (by first | rfl | (simp; done) | (simp [*]; done)), H', ⟨by first | omega | exact Nat.le_refl _⟩, ⟨by (with_reducible repeat (first | apply Kd.R_alloc | apply Kd.R_drewN | apply Kd.R_drew)); exact Kd.R_mono HO332.out (fun _ hk => trivial)⟩, ⟨by (with_reducible repeat (first | apply Kd.R_alloc | apply Kd.R_drewN | apply Kd.R_drew)); exact Kd.R_mono HO327.out (fun _ hk => hk.2)⟩, ⟨by (with_reducible repeat (first | apply Kd.R_alloc | apply Kd.R_drewN | apply Kd.R_drew)); exact Kd.R_mono HO338.out (fun _ hk => hk.2)⟩, ⟨by refine uW ?_; exact BK329.out⟩, ⟨by refine uW ?_; exact BK340.out⟩, ⟨by first | exact uB HB | exact uS HB (gC GE329 (gC GE340 gN))⟩⟩
  case rest =>
   clear HC11
   try clear c1
   try clear c2
   try clear p2
   try clear c3
   try clear c4
   try clear c5
   try clear c6
   try clear c6b0
   try clear c7
   try clear c8
   try clear c22
   try clear c26
   try clear c27
   try clear c31
   try clear hcz16_0
   try clear hcz16_1
   try clear hcz16_2
   try clear hcz16_3
   try clear hcz23_0
   try clear hcz23_1
   try clear hcz23_2
   try clear hcz23_3
   try clear hcz28_0
   try clear hcz28_1
   try clear hcz28_2
   try clear hcz28_3
   try clear hcz29_0
   try clear hcz29_1
   try clear hcz29_2
   try clear hcz29_3
   try clear hcz32_0
   try clear hcz32_1
   try clear hcz32_2
   try clear hcz32_3
   try clear hcz33_0
   try clear hcz33_1
   try clear hcz33_2
   try clear hcz33_3
   try clear hfz16_0
   try clear hfz16_1
   try clear hfz16_2
   try clear hfz16_3
   try clear hfz23_0
   try clear hfz23_1
   try clear hfz23_2
   try clear hfz23_3
   try clear hfz28_0
   try clear hfz28_1
   try clear hfz28_2
   try clear hfz28_3
   try clear hfz29_0
   try clear hfz29_1
   try clear hfz29_2
   try clear hfz29_3
   try clear hfz32_0
   try clear hfz32_1
   try clear hfz32_2
   try clear hfz32_3
   try clear hfz33_0
   try clear hfz33_1
   try clear hfz33_2
   try clear hfz33_3
   obtain ⟨kq, x52_10, rfl, HA, HJ10, HO_12, HO_330003, HO_341003, BK329, BK340, HB⟩ := hcut
   cases kq with
   | zero => exact absurd HA.out (by simp [laws_FnExactBuildDisplaced.j0])
   | succ kj10 =>
    have H := HA.out
    clear HA
    simp only [laws_FnExactBuildDisplaced.j0] at H
    by_cases c35 : x52_10 = true
    ·
     subst c35
     have H1 : (some false) = some r := by rw [if_pos rfl] at H; exact H
     clear H
     have H := H1
     clear H1
     obtain rfl := Option.some.inj H
     go_wp2
     go_ret
     exact ⟨by first | rfl | (simp [errW_none, errW_some] <;> rfl) | (simp [*, errW_none, errW_some] <;> rfl), by first | exact uB HB | exact uS HB (gC GE329 (gC GE340 gN))⟩
    ·
     replace c35 := Bool.eq_false_iff.mpr c35
     subst c35
     have H1 : ((laws_toStringS.f kj10 l1).bind fun t342 => ((laws_eqStringS.f kj10 t330 t342).bind fun t345 => (if t345 = true then ((laws_markStringS.f kj10 t330 1).bind fun bt346 => (if bt346.1 < 0 then (laws_FnExactBuildDisplaced.j1 kj10 a0 l1 a2 a3 t328 true t322 t323 t324 t325 t333 t334 t335 t336) else ((laws_eqDisplaced.f kj10 t333 t334 t335 t336 t322 t323 t324 t325).bind fun t348 => (if t348 = true then (laws_FnExactBuildDisplaced.j1 kj10 a0 l1 a2 a3 t328 (t339 != t328) t322 t323 t324 t325 t333 t334 t335 t336) else (laws_FnExactBuildDisplaced.j1 kj10 a0 l1 a2 a3 t328 true t322 t323 t324 t325 t333 t334 t335 t336))))) else (some false)))) = some r := by rw [if_neg (show ¬ (false = true) by decide)] at H; exact H
     clear H
     have H := H1
     clear H1
     replace H := Option.bind_eq_some_iff.mp H
     obtain ⟨t342, A360, H⟩ := H
     replace H : ((laws_eqStringS.f kj10 t330 t342).bind fun t345 => (if t345 = true then ((laws_markStringS.f kj10 t330 1).bind fun bt346 => (if bt346.1 < 0 then (laws_FnExactBuildDisplaced.j1 kj10 a0 l1 a2 a3 t328 true t322 t323 t324 t325 t333 t334 t335 t336) else ((laws_eqDisplaced.f kj10 t333 t334 t335 t336 t322 t323 t324 t325).bind fun t348 => (if t348 = true then (laws_FnExactBuildDisplaced.j1 kj10 a0 l1 a2 a3 t328 (t339 != t328) t322 t323 t324 t325 t333 t334 t335 t336) else (laws_FnExactBuildDisplaced.j1 kj10 a0 l1 a2 a3 t328 true t322 t323 t324 t325 t333 t334 t335 t336))))) else (some false))) = some r := H
     have A36 := Aside0.mk A360
     clear A360
     replace H := Option.bind_eq_some_iff.mp H
     obtain ⟨t345, A370, H⟩ := H
     replace H : (if t345 = true then ((laws_markStringS.f kj10 t330 1).bind fun bt346 => (if bt346.1 < 0 then (laws_FnExactBuildDisplaced.j1 kj10 a0 l1 a2 a3 t328 true t322 t323 t324 t325 t333 t334 t335 t336) else ((laws_eqDisplaced.f kj10 t333 t334 t335 t336 t322 t323 t324 t325).bind fun t348 => (if t348 = true then (laws_FnExactBuildDisplaced.j1 kj10 a0 l1 a2 a3 t328 (t339 != t328) t322 t323 t324 t325 t333 t334 t335 t336) else (laws_FnExactBuildDisplaced.j1 kj10 a0 l1 a2 a3 t328 true t322 t323 t324 t325 t333 t334 t335 t336))))) else (some false)) = some r := H
     have A37 := Aside0.mk A370
     clear A370
     by_cases c38 : t345 = true
     ·
      subst c38
      have H1 : ((laws_markStringS.f kj10 t330 1).bind fun bt346 => (if bt346.1 < 0 then (laws_FnExactBuildDisplaced.j1 kj10 a0 l1 a2 a3 t328 true t322 t323 t324 t325 t333 t334 t335 t336) else ((laws_eqDisplaced.f kj10 t333 t334 t335 t336 t322 t323 t324 t325).bind fun t348 => (if t348 = true then (laws_FnExactBuildDisplaced.j1 kj10 a0 l1 a2 a3 t328 (t339 != t328) t322 t323 t324 t325 t333 t334 t335 t336) else (laws_FnExactBuildDisplaced.j1 kj10 a0 l1 a2 a3 t328 true t322 t323 t324 t325 t333 t334 t335 t336))))) = some r := by rw [if_pos rfl] at H; exact H
      clear H
      have H := H1
      clear H1
      replace H := Option.bind_eq_some_iff.mp H
      obtain ⟨⟨t346, t347⟩, A390, H⟩ := H
      replace H : (if t346 < 0 then (laws_FnExactBuildDisplaced.j1 kj10 a0 l1 a2 a3 t328 true t322 t323 t324 t325 t333 t334 t335 t336) else ((laws_eqDisplaced.f kj10 t333 t334 t335 t336 t322 t323 t324 t325).bind fun t348 => (if t348 = true then (laws_FnExactBuildDisplaced.j1 kj10 a0 l1 a2 a3 t328 (t339 != t328) t322 t323 t324 t325 t333 t334 t335 t336) else (laws_FnExactBuildDisplaced.j1 kj10 a0 l1 a2 a3 t328 true t322 t323 t324 t325 t333 t334 t335 t336)))) = some r := H
      have A39 := Aside0.mk A390
      clear A390
      have HC40 := Aside0.mk H
      clear H
      go_upto_region 14 with (first | ((with_reducible refine gate_callee (f := 6) rfl ?_); refine goesL_ (some 55) rfl rfl Try.func6 (by kernel_rfl) rfl #[.slice A1 l1.length c1] rfl (by (try simp only [List.map_toArray, List.map_cons, List.map_nil]); first | done | rfl | (simp only [List.length_drop, List.length_take]; rfl)) ?_; (with_reducible refine (laws_toStringS.calls kj10 _ _ l1 t342 _ ?side1 ?side2 A36.out).mono ?_); (case side1 => exact uC HR1 HB); (case side2 => exact HC1.out); rintro e w41 ⟨v343, rfl, ho0, hb⟩; refine ⟨_, rfl, ?_⟩; have n0_ := Aside0.mk (Kd.R_elder' (uR HO_12) (Kd.R_base ho0) hb); have n1_ := Aside0.mk (Kd.R_below (uR HO_330003) hb); have n2_ := Aside0.mk (Kd.R_below (uR HO_341003) hb); have n3_ := Aside0.mk (Kd.R_lower (Kd.R_new' ho0 (Kd.R_lt (uR HO_12))) (below_size (by first | exact uB HB | exact uS HB (gC GE329 (gC GE340 gN))))); have n4_ := Aside0.mk (blk_below (g := gb329) (o := .cells #[.int .i64 t322, .int .i64 t323, .int .i64 t324, .slice Ao17 t325.length co17] 26 (0, 0)) (uK BK329) hb); have n5_ := Aside0.mk (blk_below (g := gb340) (o := .cells #[.int .i64 t333, .int .i64 t334, .int .i64 t335, .slice Ao24 t336.length co24] 26 (0, 0)) (uK BK340) hb); have n6_ := Aside0.mk (below_step (by first | exact uB HB | exact uS HB (gC GE329 (gC GE340 gN))) hb); clear HO_12 HO_330003 HO_341003 BK329 BK340 HB; have HO_12 := n0_; have HO_330003 := n1_; have HO_341003 := n2_; have HO344 := n3_; have BK329 := n4_; have BK340 := n5_; have HB := n6_; clear n0_ n1_ n2_ n3_ n4_ n5_ n6_; (try clear hb); (try clear hb2); (try clear hk); (try clear hi); (try clear ho0); obtain ⟨Ao42, co42, eo42⟩ := Kd.R_slice HO344.out; subst eo42) | ((with_reducible refine gate_callee (f := 9) rfl ?_); refine goesL_ (some 56) rfl rfl Try.func9 (by kernel_rfl) rfl #[.slice Ao19 t330.length co19, .slice Ao42 t342.length co42] rfl (by (try simp only [List.map_toArray, List.map_cons, List.map_nil]); first | done | rfl | (simp only [List.length_drop, List.length_take]; rfl)) ?_; (with_reducible refine (laws_eqStringS.calls kj10 _ _ t330 _ _ t342 true _ ?side1 ?side2 ?side3 ?side4 A37.out).mono ?_); (case side1 => exact uD HO_12); (case side2 => exact (Kd.R_reads' HO_12.out).2.1); (case side3 => exact uD HO344); (case side4 => exact (Kd.R_reads' HO344.out).2.1); rintro e w' ⟨rfl, ⟨nd, rfl⟩⟩; refine ⟨_, rfl, ?_⟩) | ((with_reducible refine gate_callee (f := 10) rfl ?_); refine goesL_ (some 60) rfl rfl Try.func10 (by kernel_rfl) rfl #[.slice Ao19 t330.length co19, .int .i64 1] rfl (by (try simp only [List.map_toArray, List.map_cons, List.map_nil]); first | done | rfl | (simp only [List.length_drop, List.length_take]; rfl)) ?_; (with_reducible refine (laws_markStringS.calls kj10 (fun k_ => some k_ = (.slice Ao19 t330.length co19 : Value).ownBlock) (.slice Ao19 t330.length co19) t330 1 t346 t347 w _ ?side1 ?side2 A39.out).mono ?_); (case side1 => first | exact uB HB | exact uS HB (gC GE329 (gC GE340 gN))); (case side2 => exact Kd.R_tight rfl HO_12.out); rintro e w43 ⟨rfl, hy0, hb, hkp⟩; refine ⟨_, rfl, ?_⟩; have n0_ := Aside0.mk (Kd.R_reok rfl hy0 (fun k_ e_ => HO_12.out.1 k_ e_)); have n1_ := Aside0.mk (Kd.R_mono (ok' := fun k_ => some k_ ≠ (.slice Ao24 t336.length co24 : Value).ownBlock) (Kd.R_keptB ((Kd.R_apart' HO_330003.out (Kd.R_typed HO_12.out) (by decide))) hkp (fun k_ hk_ hs_ => (hk_.2) hs_)) (fun k_ hk_ => hk_.1.1)); have n2_ := Aside0.mk (Kd.R_mono (ok' := fun k_ => some k_ ≠ (.slice Ao17 t325.length co17 : Value).ownBlock) (Kd.R_keptB ((Kd.R_apart' HO_341003.out (Kd.R_typed HO_12.out) (by decide))) hkp (fun k_ hk_ hs_ => (hk_.2) hs_)) (fun k_ hk_ => hk_.1.1)); have n3_ := Aside0.mk (blk_kept (uK BK329) hkp (fun hs_ => (fun e_ => (Kd.R_ne HO_12.out BK329.out (by decide)) e_) hs_)); have n4_ := Aside0.mk (blk_kept (uK BK340) hkp (fun hs_ => (fun e_ => (Kd.R_ne HO_12.out BK340.out (by decide)) e_) hs_)); have n5_ := Aside0.mk (Kd.R_mono (ok' := fun k_ => some k_ ≠ (.slice Ao19 t330.length co19 : Value).ownBlock) (Kd.R_keptB (HO344.out) hkp (fun k_ hk_ hs_ => (hk_.2) hs_)) (fun k_ hk_ => hk_.1.2)); have n6_ := Aside0.mk (hb); clear HO_12 HO_330003 HO_341003 BK329 BK340 HO344 HB; have HO_12 := n0_; have HO_330003 := n1_; have HO_341003 := n2_; have BK329 := n3_; have BK340 := n4_; have HO344 := n5_; have HB := n6_; clear n0_ n1_ n2_ n3_ n4_ n5_ n6_; (try clear hb); (try clear hkp); (try clear hy0)))
      (try simp only [Act.put, List.setIfInBounds_toArray, List.set_cons_zero, List.set_cons_succ])
      go_cut [73] (fun v73 wc => ∃ (kq : Nat) (x73_39 : Bool), v73 = .bool x73_39 ∧ Aside0 (laws_FnExactBuildDisplaced.j1 kq a0 l1 a2 a3 t328 x73_39 t322 t323 t324 t325 t333 t334 t335 t336 = some r) ∧ Aside0 (kq ≤ kj10) ∧ Aside0 (Kd.R (Kd.int .i64) 3 wc w.heap.size (fun k_ => some k_ ≠ ((.slice Ao24 t336.length co24) : Value).ownBlock) (.slice Ao17 t325.length co17) t325) ∧ Aside0 (Kd.R (Kd.int .i64) 3 wc w.heap.size (fun k_ => some k_ ≠ ((.slice Ao17 t325.length co17) : Value).ownBlock) (.slice Ao24 t336.length co24) t336) ∧ Aside0 (wc.heap[gb329]? = some (.cells #[.int .i64 t322, .int .i64 t323, .int .i64 t324, (.slice Ao17 t325.length co17)] 26 (0, 0))) ∧ Aside0 (wc.heap[gb340]? = some (.cells #[.int .i64 t333, .int .i64 t334, .int .i64 t335, (.slice Ao24 t336.length co24)] 26 (0, 0))) ∧ Aside0 (Below w.heap.size w wc))
      case first =>
       have H := HC40.out
       clear HC40
       by_cases c44 : t346 < 0
       ·
        rw [if_pos c44] at H
        have c44b0 : decide (t346 < 0) = true := decide_eq_true c44
        clear c44
        (first | rw [c44b0] | (simp only [i64_w, i32_w]; rw [c44b0]) | skip)
        have H' := Aside0.mk H
        clear H
        go_wp2
        go_meet
        case rel => exact ⟨_, (true), (by first | rfl | (simp; done) | (simp [*]; done)), H', ⟨by have := HJ10.out; first | omega | exact Nat.le_refl _⟩, ⟨by (with_reducible repeat (first | apply Kd.R_alloc | apply Kd.R_drewN | apply Kd.R_drew)); exact HO_330003.out⟩, ⟨by (with_reducible repeat (first | apply Kd.R_alloc | apply Kd.R_drewN | apply Kd.R_drew)); exact HO_341003.out⟩, ⟨by refine uW ?_; exact BK329.out⟩, ⟨by refine uW ?_; exact BK340.out⟩, ⟨by first | exact uB HB | exact uS HB (gC GE329 (gC GE340 gN))⟩⟩
       ·
        rw [if_neg c44] at H
        have c44b0 : decide (t346 < 0) = false := decide_eq_false c44
        clear c44
        (first | rw [c44b0] | (simp only [i64_w, i32_w]; rw [c44b0]) | skip)
        replace H := Option.bind_eq_some_iff.mp H
        obtain ⟨t348, A450, H⟩ := H
        replace H : (if t348 = true then (laws_FnExactBuildDisplaced.j1 kj10 a0 l1 a2 a3 t328 (t339 != t328) t322 t323 t324 t325 t333 t334 t335 t336) else (laws_FnExactBuildDisplaced.j1 kj10 a0 l1 a2 a3 t328 true t322 t323 t324 t325 t333 t334 t335 t336)) = some r := H
        have A45 := Aside0.mk A450
        clear A450
        by_cases c46 : t348 = true
        ·
         subst c46
         have H1 : (laws_FnExactBuildDisplaced.j1 kj10 a0 l1 a2 a3 t328 (t339 != t328) t322 t323 t324 t325 t333 t334 t335 t336) = some r := by rw [if_pos rfl] at H; exact H
         clear H
         have H := H1
         clear H1
         have H' := Aside0.mk H
         clear H
         have hnb47 := NB340_329.out
         have hnc47 := NB329_340.out
         have hcz48_0 : w43.cell? ⟨gb340, 0, none⟩ = some (.int .i64 t333) := (blk_cell BK340.out 0).trans rfl
         have hcz48_1 : w43.cell? ⟨gb340, 1, none⟩ = some (.int .i64 t334) := (blk_cell BK340.out 1).trans rfl
         have hcz48_2 : w43.cell? ⟨gb340, 2, none⟩ = some (.int .i64 t335) := (blk_cell BK340.out 2).trans rfl
         have hcz48_3 : w43.cell? ⟨gb340, 3, none⟩ = some (.slice Ao24 t336.length co24) := (blk_cell BK340.out 3).trans rfl
         have hfz48_0 := blk_frozen BK340.out 0
         have hfz48_1 := blk_frozen BK340.out 1
         have hfz48_2 := blk_frozen BK340.out 2
         have hfz48_3 := blk_frozen BK340.out 3
         have hcz49_0 : w43.cell? ⟨gb329, 0, none⟩ = some (.int .i64 t322) := (blk_cell BK329.out 0).trans rfl
         have hcz49_1 : w43.cell? ⟨gb329, 1, none⟩ = some (.int .i64 t323) := (blk_cell BK329.out 1).trans rfl
         have hcz49_2 : w43.cell? ⟨gb329, 2, none⟩ = some (.int .i64 t324) := (blk_cell BK329.out 2).trans rfl
         have hcz49_3 : w43.cell? ⟨gb329, 3, none⟩ = some (.slice Ao17 t325.length co17) := (blk_cell BK329.out 3).trans rfl
         have hfz49_0 := blk_frozen BK329.out 0
         have hfz49_1 := blk_frozen BK329.out 1
         have hfz49_2 := blk_frozen BK329.out 2
         have hfz49_3 := blk_frozen BK329.out 3
         go_wp2_with (first | (go_at_call 8; (with_reducible refine (laws_eqDisplaced.calls kj10 t333 t334 t335 _ _ t336 t322 t323 t324 _ _ t325 true _ ?side1 ?side2 ?side3 ?side4 A45.out).mono ?_); (case side1 => exact uD HO_341003); (case side2 => exact (Kd.R_reads' HO_341003.out).2.1); (case side3 => exact uD HO_330003); (case side4 => exact (Kd.R_reads' HO_330003.out).2.1); rintro e w50 ⟨rfl, hb⟩; have n0_ := Aside0.mk (Kd.R_below (uR HO_12) hb); have n1_ := Aside0.mk (Kd.R_below (uR HO_330003) hb); have n2_ := Aside0.mk (Kd.R_below (uR HO_341003) hb); have n3_ := Aside0.mk (Kd.R_below (uR HO344) hb); have n4_ := Aside0.mk (blk_below (g := gb329) (o := .cells #[.int .i64 t322, .int .i64 t323, .int .i64 t324, .slice Ao17 t325.length co17] 26 (0, 0)) (uK BK329) hb); have n5_ := Aside0.mk (blk_below (g := gb340) (o := .cells #[.int .i64 t333, .int .i64 t334, .int .i64 t335, .slice Ao24 t336.length co24] 26 (0, 0)) (uK BK340) hb); have n6_ := Aside0.mk (below_step (by first | exact uB HB | exact uS HB (gC GE329 (gC GE340 gN))) hb); clear HO_12 HO_330003 HO_341003 HO344 BK329 BK340 HB; have HO_12 := n0_; have HO_330003 := n1_; have HO_341003 := n2_; have HO344 := n3_; have BK329 := n4_; have BK340 := n5_; have HB := n6_; clear n0_ n1_ n2_ n3_ n4_ n5_ n6_; (try clear hb); (try clear hb2); (try clear hk); (try clear hi)))
         go_meet
         case rel => exact ⟨_, ((t339 != t328)), (by first | rfl | (simp; done) | (simp [*]; done)), H', ⟨by have := HJ10.out; first | omega | exact Nat.le_refl _⟩, ⟨by (with_reducible repeat (first | apply Kd.R_alloc | apply Kd.R_drewN | apply Kd.R_drew)); exact HO_330003.out⟩, ⟨by (with_reducible repeat (first | apply Kd.R_alloc | apply Kd.R_drewN | apply Kd.R_drew)); exact HO_341003.out⟩, ⟨by refine uW ?_; exact BK329.out⟩, ⟨by refine uW ?_; exact BK340.out⟩, ⟨by first | exact uB HB | exact uS HB (gC GE329 (gC GE340 gN))⟩⟩
        ·
         replace c46 := Bool.eq_false_iff.mpr c46
         subst c46
         have H1 : (laws_FnExactBuildDisplaced.j1 kj10 a0 l1 a2 a3 t328 true t322 t323 t324 t325 t333 t334 t335 t336) = some r := by rw [if_neg (show ¬ (false = true) by decide)] at H; exact H
         clear H
         have H := H1
         clear H1
         have H' := Aside0.mk H
         clear H
         have hnb51 := NB340_329.out
         have hnc51 := NB329_340.out
         have hcz52_0 : w43.cell? ⟨gb340, 0, none⟩ = some (.int .i64 t333) := (blk_cell BK340.out 0).trans rfl
         have hcz52_1 : w43.cell? ⟨gb340, 1, none⟩ = some (.int .i64 t334) := (blk_cell BK340.out 1).trans rfl
         have hcz52_2 : w43.cell? ⟨gb340, 2, none⟩ = some (.int .i64 t335) := (blk_cell BK340.out 2).trans rfl
         have hcz52_3 : w43.cell? ⟨gb340, 3, none⟩ = some (.slice Ao24 t336.length co24) := (blk_cell BK340.out 3).trans rfl
         have hfz52_0 := blk_frozen BK340.out 0
         have hfz52_1 := blk_frozen BK340.out 1
         have hfz52_2 := blk_frozen BK340.out 2
         have hfz52_3 := blk_frozen BK340.out 3
         have hcz53_0 : w43.cell? ⟨gb329, 0, none⟩ = some (.int .i64 t322) := (blk_cell BK329.out 0).trans rfl
         have hcz53_1 : w43.cell? ⟨gb329, 1, none⟩ = some (.int .i64 t323) := (blk_cell BK329.out 1).trans rfl
         have hcz53_2 : w43.cell? ⟨gb329, 2, none⟩ = some (.int .i64 t324) := (blk_cell BK329.out 2).trans rfl
         have hcz53_3 : w43.cell? ⟨gb329, 3, none⟩ = some (.slice Ao17 t325.length co17) := (blk_cell BK329.out 3).trans rfl
         have hfz53_0 := blk_frozen BK329.out 0
         have hfz53_1 := blk_frozen BK329.out 1
         have hfz53_2 := blk_frozen BK329.out 2
         have hfz53_3 := blk_frozen BK329.out 3
         go_wp2_with (first | (go_at_call 8; (with_reducible refine (laws_eqDisplaced.calls kj10 t333 t334 t335 _ _ t336 t322 t323 t324 _ _ t325 false _ ?side1 ?side2 ?side3 ?side4 A45.out).mono ?_); (case side1 => exact uD HO_341003); (case side2 => exact (Kd.R_reads' HO_341003.out).2.1); (case side3 => exact uD HO_330003); (case side4 => exact (Kd.R_reads' HO_330003.out).2.1); rintro e w54 ⟨rfl, hb⟩; have n0_ := Aside0.mk (Kd.R_below (uR HO_12) hb); have n1_ := Aside0.mk (Kd.R_below (uR HO_330003) hb); have n2_ := Aside0.mk (Kd.R_below (uR HO_341003) hb); have n3_ := Aside0.mk (Kd.R_below (uR HO344) hb); have n4_ := Aside0.mk (blk_below (g := gb329) (o := .cells #[.int .i64 t322, .int .i64 t323, .int .i64 t324, .slice Ao17 t325.length co17] 26 (0, 0)) (uK BK329) hb); have n5_ := Aside0.mk (blk_below (g := gb340) (o := .cells #[.int .i64 t333, .int .i64 t334, .int .i64 t335, .slice Ao24 t336.length co24] 26 (0, 0)) (uK BK340) hb); have n6_ := Aside0.mk (below_step (by first | exact uB HB | exact uS HB (gC GE329 (gC GE340 gN))) hb); clear HO_12 HO_330003 HO_341003 HO344 BK329 BK340 HB; have HO_12 := n0_; have HO_330003 := n1_; have HO_341003 := n2_; have HO344 := n3_; have BK329 := n4_; have BK340 := n5_; have HB := n6_; clear n0_ n1_ n2_ n3_ n4_ n5_ n6_; (try clear hb); (try clear hb2); (try clear hk); (try clear hi)))
         go_meet
         case rel => exact ⟨_, (true), (by first | rfl | (simp; done) | (simp [*]; done)), H', ⟨by have := HJ10.out; first | omega | exact Nat.le_refl _⟩, ⟨by (with_reducible repeat (first | apply Kd.R_alloc | apply Kd.R_drewN | apply Kd.R_drew)); exact HO_330003.out⟩, ⟨by (with_reducible repeat (first | apply Kd.R_alloc | apply Kd.R_drewN | apply Kd.R_drew)); exact HO_341003.out⟩, ⟨by refine uW ?_; exact BK329.out⟩, ⟨by refine uW ?_; exact BK340.out⟩, ⟨by first | exact uB HB | exact uS HB (gC GE329 (gC GE340 gN))⟩⟩
      case rest =>
       clear HC40
       try clear c1
       try clear c2
       try clear p2
       try clear c3
       try clear c4
       try clear c5
       try clear c6
       try clear c6b0
       try clear c7
       try clear c8
       try clear c9
       try clear c10
       try clear c22
       try clear c26
       try clear c27
       try clear c31
       try clear c35
       try clear c38
       try clear c44
       try clear c44b0
       try clear c46
       try clear c47
       try clear c51
       try clear hcz16_0
       try clear hcz16_1
       try clear hcz16_2
       try clear hcz16_3
       try clear hcz23_0
       try clear hcz23_1
       try clear hcz23_2
       try clear hcz23_3
       try clear hcz28_0
       try clear hcz28_1
       try clear hcz28_2
       try clear hcz28_3
       try clear hcz29_0
       try clear hcz29_1
       try clear hcz29_2
       try clear hcz29_3
       try clear hcz32_0
       try clear hcz32_1
       try clear hcz32_2
       try clear hcz32_3
       try clear hcz33_0
       try clear hcz33_1
       try clear hcz33_2
       try clear hcz33_3
       try clear hcz48_0
       try clear hcz48_1
       try clear hcz48_2
       try clear hcz48_3
       try clear hcz49_0
       try clear hcz49_1
       try clear hcz49_2
       try clear hcz49_3
       try clear hcz52_0
       try clear hcz52_1
       try clear hcz52_2
       try clear hcz52_3
       try clear hcz53_0
       try clear hcz53_1
       try clear hcz53_2
       try clear hcz53_3
       try clear hfz16_0
       try clear hfz16_1
       try clear hfz16_2
       try clear hfz16_3
       try clear hfz23_0
       try clear hfz23_1
       try clear hfz23_2
       try clear hfz23_3
       try clear hfz28_0
       try clear hfz28_1
       try clear hfz28_2
       try clear hfz28_3
       try clear hfz29_0
       try clear hfz29_1
       try clear hfz29_2
       try clear hfz29_3
       try clear hfz32_0
       try clear hfz32_1
       try clear hfz32_2
       try clear hfz32_3
       try clear hfz33_0
       try clear hfz33_1
       try clear hfz33_2
       try clear hfz33_3
       try clear hfz48_0
       try clear hfz48_1
       try clear hfz48_2
       try clear hfz48_3
       try clear hfz49_0
       try clear hfz49_1
       try clear hfz49_2
       try clear hfz49_3
       try clear hfz52_0
       try clear hfz52_1
       try clear hfz52_2
       try clear hfz52_3
       try clear hfz53_0
       try clear hfz53_1
       try clear hfz53_2
       try clear hfz53_3
       try clear p2
       obtain ⟨kq, x73_39, rfl, HA, HJ39, HO_330003, HO_341003, BK329, BK340, HB⟩ := hcut
       cases kq with
       | zero => exact absurd HA.out (by simp [laws_FnExactBuildDisplaced.j1])
       | succ kj39 =>
        have H := HA.out
        clear HA
        simp only [laws_FnExactBuildDisplaced.j1] at H
        by_cases c55 : x73_39 = true
        ·
         subst c55
         have H1 : (some false) = some r := by rw [if_pos rfl] at H; exact H
         clear H
         have H := H1
         clear H1
         obtain rfl := Option.some.inj H
         go_wp2
         go_ret
         exact ⟨by first | rfl | (simp [errW_none, errW_some] <;> rfl) | (simp [*, errW_none, errW_some] <;> rfl), by first | exact uB HB | exact uS HB (gC GE329 (gC GE340 gN))⟩
        ·
         replace c55 := Bool.eq_false_iff.mpr c55
         subst c55
         have H1 : ((laws_markDisplaced.f kj39 t333 t334 t335 t336 1).bind fun bt349 => ((laws_heldDisplaced.f kj39 t333 t334 t335 bt349.2 1).bind fun t351 => (if t351 < 0 then (some false) else (if t351 = bt349.1 then ((laws_toStringS.f kj39 l1).bind fun t352 => ((impl_BuildDisplaced.f kj39 a0 t352 a2 a3).bind fun bt355 => ((laws_eqDisplaced.f kj39 bt355.1 bt355.2.1 bt355.2.2.1 bt355.2.2.2.1 t322 t323 t324 t325).bind fun t363 => (if t363 = true then (laws_FnExactBuildDisplaced.j2 kj39 bt349.1 (bt355.2.2.2.2 != t328) t333 t334 t335 bt349.2) else (laws_FnExactBuildDisplaced.j2 kj39 bt349.1 true t333 t334 t335 bt349.2))))) else (some false))))) = some r := by rw [if_neg (show ¬ (false = true) by decide)] at H; exact H
         clear H
         have H := H1
         clear H1
         replace H := Option.bind_eq_some_iff.mp H
         obtain ⟨⟨t349, t350⟩, A560, H⟩ := H
         replace H : ((laws_heldDisplaced.f kj39 t333 t334 t335 t350 1).bind fun t351 => (if t351 < 0 then (some false) else (if t351 = t349 then ((laws_toStringS.f kj39 l1).bind fun t352 => ((impl_BuildDisplaced.f kj39 a0 t352 a2 a3).bind fun bt355 => ((laws_eqDisplaced.f kj39 bt355.1 bt355.2.1 bt355.2.2.1 bt355.2.2.2.1 t322 t323 t324 t325).bind fun t363 => (if t363 = true then (laws_FnExactBuildDisplaced.j2 kj39 t349 (bt355.2.2.2.2 != t328) t333 t334 t335 t350) else (laws_FnExactBuildDisplaced.j2 kj39 t349 true t333 t334 t335 t350))))) else (some false)))) = some r := H
         have A56 := Aside0.mk A560
         clear A560
         replace H := Option.bind_eq_some_iff.mp H
         obtain ⟨t351, A570, H⟩ := H
         replace H : (if t351 < 0 then (some false) else (if t351 = t349 then ((laws_toStringS.f kj39 l1).bind fun t352 => ((impl_BuildDisplaced.f kj39 a0 t352 a2 a3).bind fun bt355 => ((laws_eqDisplaced.f kj39 bt355.1 bt355.2.1 bt355.2.2.1 bt355.2.2.2.1 t322 t323 t324 t325).bind fun t363 => (if t363 = true then (laws_FnExactBuildDisplaced.j2 kj39 t349 (bt355.2.2.2.2 != t328) t333 t334 t335 t350) else (laws_FnExactBuildDisplaced.j2 kj39 t349 true t333 t334 t335 t350))))) else (some false))) = some r := H
         have A57 := Aside0.mk A570
         clear A570
         by_cases c58 : t351 < 0
         ·
          rw [if_pos c58] at H
          have c58b0 : decide (t351 < 0) = true := decide_eq_true c58
          clear c58
          obtain rfl := Option.some.inj H
          have hnb59 := NB340_329.out
          have hnc59 := NB329_340.out
          have hcz60_0 : wc.cell? ⟨gb340, 0, none⟩ = some (.int .i64 t333) := (blk_cell BK340.out 0).trans rfl
          have hcz60_1 : wc.cell? ⟨gb340, 1, none⟩ = some (.int .i64 t334) := (blk_cell BK340.out 1).trans rfl
          have hcz60_2 : wc.cell? ⟨gb340, 2, none⟩ = some (.int .i64 t335) := (blk_cell BK340.out 2).trans rfl
          have hcz60_3 : wc.cell? ⟨gb340, 3, none⟩ = some (.slice Ao24 t336.length co24) := (blk_cell BK340.out 3).trans rfl
          have hfz60_0 := blk_frozen BK340.out 0
          have hfz60_1 := blk_frozen BK340.out 1
          have hfz60_2 := blk_frozen BK340.out 2
          have hfz60_3 := blk_frozen BK340.out 3
          go_wp2_with (first | ((with_reducible refine gate_callee (f := 11) rfl ?_); refine goesL_ (some 76) rfl rfl Try.func11 (by kernel_rfl) rfl #[.agg #[.int .i64 t333, .int .i64 t334, .int .i64 t335, .slice Ao24 t336.length co24], .int .i64 1] rfl (by (try simp only [List.map_toArray, List.map_cons, List.map_nil]); first | done | rfl | (simp only [List.length_drop, List.length_take]; rfl)) ?_; (with_reducible refine (laws_markDisplaced.calls kj39 t333 t334 t335 (fun k_ => some k_ = (.slice Ao24 t336.length co24 : Value).ownBlock) (.slice Ao24 t336.length co24) t336 1 t349 t350 w _ ?side1 ?side2 A56.out).mono ?_); (case side1 => first | exact uB HB | exact uS HB (gC GE329 (gC GE340 gN))); (case side2 => exact Kd.R_tight rfl HO_341003.out); rintro e w61 ⟨rfl, hy0, hb, hkp⟩; refine ⟨_, rfl, ?_⟩; have n0_ := Aside0.mk (Kd.R_mono (ok' := fun k_ => some k_ ≠ (.slice Ao24 t336.length co24 : Value).ownBlock) (Kd.R_keptB (HO_330003.out) hkp (fun k_ hk_ hs_ => (hk_) hs_)) (fun k_ hk_ => hk_.1)); have n1_ := Aside0.mk (Kd.R_reok rfl hy0 (fun k_ e_ => HO_341003.out.1 k_ e_)); have n2_ := Aside0.mk (blk_kept (uK BK329) hkp (fun hs_ => (fun e_ => (Kd.R_ne HO_341003.out BK329.out (by decide)) e_) hs_)); have n3_ := Aside0.mk (blk_kept (uK BK340) hkp (fun hs_ => (fun e_ => (Kd.R_ne HO_341003.out BK340.out (by decide)) e_) hs_)); have n4_ := Aside0.mk (hb); clear HO_330003 HO_341003 BK329 BK340 HB; have HO_330003 := n0_; have HO_341003 := n1_; have BK329 := n2_; have BK340 := n3_; have HB := n4_; clear n0_ n1_ n2_ n3_ n4_; (try clear hb); (try clear hkp); (try clear hy0); have hcz62_0 : w61.cell? ⟨gb340, 0, none⟩ = some (.int .i64 t333) := (blk_cell BK340.out 0).trans rfl; have hcz62_1 : w61.cell? ⟨gb340, 1, none⟩ = some (.int .i64 t334) := (blk_cell BK340.out 1).trans rfl; have hcz62_2 : w61.cell? ⟨gb340, 2, none⟩ = some (.int .i64 t335) := (blk_cell BK340.out 2).trans rfl; have hcz62_3 : w61.cell? ⟨gb340, 3, none⟩ = some (.slice Ao24 t336.length co24) := (blk_cell BK340.out 3).trans rfl; have hfz62_0 := blk_frozen BK340.out 0; have hfz62_1 := blk_frozen BK340.out 1; have hfz62_2 := blk_frozen BK340.out 2; have hfz62_3 := blk_frozen BK340.out 3) | ((with_reducible refine gate_callee (f := 12) rfl ?_); refine goesL_ (some 79) rfl rfl Try.func12 (by kernel_rfl) rfl #[.agg #[.int .i64 t333, .int .i64 t334, .int .i64 t335, .slice Ao24 t350.length co24], .int .i64 1] rfl (by (try simp only [List.map_toArray, List.map_cons, List.map_nil]); first | done | (rw [show t350.length = t336.length from (Kd.R_reads' HO_341003.out).1.symm] <;> rfl) | rfl | (simp only [List.length_drop, List.length_take]; rfl)) ?_; (with_reducible refine (laws_heldDisplaced.calls kj39 t333 t334 t335 _ _ t350 1 t351 _ ?side1 ?side2 A57.out).mono ?_); (case side1 => exact uD HO_341003); (case side2 => rw [show t350.length = t336.length from (Kd.R_reads' HO_341003.out).1.symm]; exact (Kd.R_reads' HO_341003.out).2.1); rintro e w63 ⟨rfl, hb⟩; refine ⟨_, rfl, ?_⟩; have n0_ := Aside0.mk (Kd.R_below (uR HO_330003) hb); have n1_ := Aside0.mk (Kd.R_below (uR HO_341003) hb); have n2_ := Aside0.mk (blk_below (g := gb329) (o := .cells #[.int .i64 t322, .int .i64 t323, .int .i64 t324, .slice Ao17 t325.length co17] 26 (0, 0)) (uK BK329) hb); have n3_ := Aside0.mk (blk_below (g := gb340) (o := .cells #[.int .i64 t333, .int .i64 t334, .int .i64 t335, .slice Ao24 t336.length co24] 26 (0, 0)) (uK BK340) hb); have n4_ := Aside0.mk (below_step (by first | exact uB HB | exact uS HB (gC GE329 (gC GE340 gN))) hb); clear HO_330003 HO_341003 BK329 BK340 HB; have HO_330003 := n0_; have HO_341003 := n1_; have BK329 := n2_; have BK340 := n3_; have HB := n4_; clear n0_ n1_ n2_ n3_ n4_; (try clear hb); (try clear hb2); (try clear hk); (try clear hi)))
          go_ret
          exact ⟨by first | rfl | (simp [errW_none, errW_some] <;> rfl) | (simp [*, errW_none, errW_some] <;> rfl), by first | exact uB HB | exact uS HB (gC GE329 (gC GE340 gN))⟩
         ·
          rw [if_neg c58] at H
          have c58b0 : decide (t351 < 0) = false := decide_eq_false c58
          clear c58
          by_cases c64 : t351 = t349
          ·
           rw [if_pos c64] at H
           have c64b0 : (t351 == t349) = true := beq_iff_eq.mpr c64
           have c64b1 : (t351 != t349) = false := bne_eq_false_iff_eq.mpr c64
           clear c64
           replace H := Option.bind_eq_some_iff.mp H
           obtain ⟨t352, A650, H⟩ := H
           replace H : ((impl_BuildDisplaced.f kj39 a0 t352 a2 a3).bind fun bt355 => ((laws_eqDisplaced.f kj39 bt355.1 bt355.2.1 bt355.2.2.1 bt355.2.2.2.1 t322 t323 t324 t325).bind fun t363 => (if t363 = true then (laws_FnExactBuildDisplaced.j2 kj39 t349 (bt355.2.2.2.2 != t328) t333 t334 t335 t350) else (laws_FnExactBuildDisplaced.j2 kj39 t349 true t333 t334 t335 t350)))) = some r := H
           have A65 := Aside0.mk A650
           clear A650
           replace H := Option.bind_eq_some_iff.mp H
           obtain ⟨⟨t355, t356, t357, t358, t361⟩, A660, H⟩ := H
           replace H : ((laws_eqDisplaced.f kj39 t355 t356 t357 t358 t322 t323 t324 t325).bind fun t363 => (if t363 = true then (laws_FnExactBuildDisplaced.j2 kj39 t349 (t361 != t328) t333 t334 t335 t350) else (laws_FnExactBuildDisplaced.j2 kj39 t349 true t333 t334 t335 t350))) = some r := H
           have A66 := Aside0.mk A660
           clear A660
           have HC67 := Aside0.mk H
           clear H
           have hnb68 := NB340_329.out
           have hnc68 := NB329_340.out
           have hcz69_0 : wc.cell? ⟨gb340, 0, none⟩ = some (.int .i64 t333) := (blk_cell BK340.out 0).trans rfl
           have hcz69_1 : wc.cell? ⟨gb340, 1, none⟩ = some (.int .i64 t334) := (blk_cell BK340.out 1).trans rfl
           have hcz69_2 : wc.cell? ⟨gb340, 2, none⟩ = some (.int .i64 t335) := (blk_cell BK340.out 2).trans rfl
           have hcz69_3 : wc.cell? ⟨gb340, 3, none⟩ = some (.slice Ao24 t336.length co24) := (blk_cell BK340.out 3).trans rfl
           have hfz69_0 := blk_frozen BK340.out 0
           have hfz69_1 := blk_frozen BK340.out 1
           have hfz69_2 := blk_frozen BK340.out 2
           have hfz69_3 := blk_frozen BK340.out 3
           go_upto_region 25 with (first | ((with_reducible refine gate_callee (f := 11) rfl ?_); refine goesL_ (some 76) rfl rfl Try.func11 (by kernel_rfl) rfl #[.agg #[.int .i64 t333, .int .i64 t334, .int .i64 t335, .slice Ao24 t336.length co24], .int .i64 1] rfl (by (try simp only [List.map_toArray, List.map_cons, List.map_nil]); first | done | rfl | (simp only [List.length_drop, List.length_take]; rfl)) ?_; (with_reducible refine (laws_markDisplaced.calls kj39 t333 t334 t335 (fun k_ => some k_ = (.slice Ao24 t336.length co24 : Value).ownBlock) (.slice Ao24 t336.length co24) t336 1 t349 t350 w _ ?side1 ?side2 A56.out).mono ?_); (case side1 => first | exact uB HB | exact uS HB (gC GE329 (gC GE340 gN))); (case side2 => exact Kd.R_tight rfl HO_341003.out); rintro e w70 ⟨rfl, hy0, hb, hkp⟩; refine ⟨_, rfl, ?_⟩; have n0_ := Aside0.mk (Kd.R_mono (ok' := fun k_ => some k_ ≠ (.slice Ao24 t336.length co24 : Value).ownBlock) (Kd.R_keptB (HO_330003.out) hkp (fun k_ hk_ hs_ => (hk_) hs_)) (fun k_ hk_ => hk_.1)); have n1_ := Aside0.mk (Kd.R_reok rfl hy0 (fun k_ e_ => HO_341003.out.1 k_ e_)); have n2_ := Aside0.mk (blk_kept (uK BK329) hkp (fun hs_ => (fun e_ => (Kd.R_ne HO_341003.out BK329.out (by decide)) e_) hs_)); have n3_ := Aside0.mk (blk_kept (uK BK340) hkp (fun hs_ => (fun e_ => (Kd.R_ne HO_341003.out BK340.out (by decide)) e_) hs_)); have n4_ := Aside0.mk (hb); clear HO_330003 HO_341003 BK329 BK340 HB; have HO_330003 := n0_; have HO_341003 := n1_; have BK329 := n2_; have BK340 := n3_; have HB := n4_; clear n0_ n1_ n2_ n3_ n4_; (try clear hb); (try clear hkp); (try clear hy0); have hcz71_0 : w70.cell? ⟨gb340, 0, none⟩ = some (.int .i64 t333) := (blk_cell BK340.out 0).trans rfl; have hcz71_1 : w70.cell? ⟨gb340, 1, none⟩ = some (.int .i64 t334) := (blk_cell BK340.out 1).trans rfl; have hcz71_2 : w70.cell? ⟨gb340, 2, none⟩ = some (.int .i64 t335) := (blk_cell BK340.out 2).trans rfl; have hcz71_3 : w70.cell? ⟨gb340, 3, none⟩ = some (.slice Ao24 t336.length co24) := (blk_cell BK340.out 3).trans rfl; have hfz71_0 := blk_frozen BK340.out 0; have hfz71_1 := blk_frozen BK340.out 1; have hfz71_2 := blk_frozen BK340.out 2; have hfz71_3 := blk_frozen BK340.out 3) | ((with_reducible refine gate_callee (f := 12) rfl ?_); refine goesL_ (some 79) rfl rfl Try.func12 (by kernel_rfl) rfl #[.agg #[.int .i64 t333, .int .i64 t334, .int .i64 t335, .slice Ao24 t350.length co24], .int .i64 1] rfl (by (try simp only [List.map_toArray, List.map_cons, List.map_nil]); first | done | (rw [show t350.length = t336.length from (Kd.R_reads' HO_341003.out).1.symm] <;> rfl) | rfl | (simp only [List.length_drop, List.length_take]; rfl)) ?_; (with_reducible refine (laws_heldDisplaced.calls kj39 t333 t334 t335 _ _ t350 1 t351 _ ?side1 ?side2 A57.out).mono ?_); (case side1 => exact uD HO_341003); (case side2 => rw [show t350.length = t336.length from (Kd.R_reads' HO_341003.out).1.symm]; exact (Kd.R_reads' HO_341003.out).2.1); rintro e w72 ⟨rfl, hb⟩; refine ⟨_, rfl, ?_⟩; have n0_ := Aside0.mk (Kd.R_below (uR HO_330003) hb); have n1_ := Aside0.mk (Kd.R_below (uR HO_341003) hb); have n2_ := Aside0.mk (blk_below (g := gb329) (o := .cells #[.int .i64 t322, .int .i64 t323, .int .i64 t324, .slice Ao17 t325.length co17] 26 (0, 0)) (uK BK329) hb); have n3_ := Aside0.mk (blk_below (g := gb340) (o := .cells #[.int .i64 t333, .int .i64 t334, .int .i64 t335, .slice Ao24 t336.length co24] 26 (0, 0)) (uK BK340) hb); have n4_ := Aside0.mk (below_step (by first | exact uB HB | exact uS HB (gC GE329 (gC GE340 gN))) hb); clear HO_330003 HO_341003 BK329 BK340 HB; have HO_330003 := n0_; have HO_341003 := n1_; have BK329 := n2_; have BK340 := n3_; have HB := n4_; clear n0_ n1_ n2_ n3_ n4_; (try clear hb); (try clear hb2); (try clear hk); (try clear hi)) | ((with_reducible refine gate_callee (f := 6) rfl ?_); refine goesL_ (some 88) rfl rfl Try.func6 (by kernel_rfl) rfl #[.slice A1 l1.length c1] rfl (by (try simp only [List.map_toArray, List.map_cons, List.map_nil]); first | done | rfl | (simp only [List.length_drop, List.length_take]; rfl)) ?_; (with_reducible refine (laws_toStringS.calls kj39 _ _ l1 t352 _ ?side1 ?side2 A65.out).mono ?_); (case side1 => exact uC HR1 HB); (case side2 => exact HC1.out); rintro e w73 ⟨v353, rfl, ho0, hb⟩; refine ⟨_, rfl, ?_⟩; have n0_ := Aside0.mk (Kd.R_below (uR HO_330003) hb); have n1_ := Aside0.mk (Kd.R_below (uR HO_341003) hb); have n2_ := Aside0.mk (Kd.R_lower ho0 (below_size (by first | exact uB HB | exact uS HB (gC GE329 (gC GE340 gN))))); have n3_ := Aside0.mk (blk_below (g := gb329) (o := .cells #[.int .i64 t322, .int .i64 t323, .int .i64 t324, .slice Ao17 t325.length co17] 26 (0, 0)) (uK BK329) hb); have n4_ := Aside0.mk (blk_below (g := gb340) (o := .cells #[.int .i64 t333, .int .i64 t334, .int .i64 t335, .slice Ao24 t336.length co24] 26 (0, 0)) (uK BK340) hb); have n5_ := Aside0.mk (below_step (by first | exact uB HB | exact uS HB (gC GE329 (gC GE340 gN))) hb); clear HO_330003 HO_341003 BK329 BK340 HB; have HO_330003 := n0_; have HO_341003 := n1_; have HO354 := n2_; have BK329 := n3_; have BK340 := n4_; have HB := n5_; clear n0_ n1_ n2_ n3_ n4_ n5_; (try clear hb); (try clear hb2); (try clear hk); (try clear hi); (try clear ho0); obtain ⟨Ao74, co74, eo74⟩ := Kd.R_slice HO354.out; subst eo74) | ((with_reducible refine gate_callee (f := 7) rfl ?_); refine goesL_ (some 91) rfl rfl Try.func7 (by kernel_rfl) rfl #[.int .i64 a0, .slice Ao74 t352.length co74, .int .i64 a2, .int .i64 a3] rfl (by (try simp only [List.map_toArray, List.map_cons, List.map_nil]); first | done | rfl | (simp only [List.length_drop, List.length_take]; rfl)) ?_; (with_reducible refine (impl_BuildDisplaced.calls kj39 a0 _ _ t352 a2 a3 t355 t356 t357 t358 t361 _ ?side1 ?side2 A66.out).mono ?_); (case side1 => exact uD HO354); (case side2 => exact (Kd.R_reads' HO354.out).2.1); rintro e w75 ⟨v359, rfl, ho0, hb⟩; refine ⟨_, rfl, ?_⟩; have n0_ := Aside0.mk (Kd.R_elder' (uR HO_330003) (Kd.R_base ho0) hb); have n1_ := Aside0.mk (Kd.R_elder' (uR HO_341003) (Kd.R_base ho0) hb); have n2_ := Aside0.mk (Kd.R_below (uR HO354) hb); have n3_ := Aside0.mk (Kd.R_lower (Kd.R_new' (Kd.R_new' ho0 (Kd.R_lt (uR HO_330003))) (Kd.R_lt (uR HO_341003))) (below_size (by first | exact uB HB | exact uS HB (gC GE329 (gC GE340 gN))))); have n4_ := Aside0.mk (blk_below (g := gb329) (o := .cells #[.int .i64 t322, .int .i64 t323, .int .i64 t324, .slice Ao17 t325.length co17] 26 (0, 0)) (uK BK329) hb); have n5_ := Aside0.mk (blk_below (g := gb340) (o := .cells #[.int .i64 t333, .int .i64 t334, .int .i64 t335, .slice Ao24 t336.length co24] 26 (0, 0)) (uK BK340) hb); have n6_ := Aside0.mk (below_step (by first | exact uB HB | exact uS HB (gC GE329 (gC GE340 gN))) hb); clear HO_330003 HO_341003 HO354 BK329 BK340 HB; have HO_330003 := n0_; have HO_341003 := n1_; have HO354 := n2_; have HO360 := n3_; have BK329 := n4_; have BK340 := n5_; have HB := n6_; clear n0_ n1_ n2_ n3_ n4_ n5_ n6_; (try clear hb); (try clear hb2); (try clear hk); (try clear hi); (try clear ho0)) | ((with_reducible refine gate_dst (N := 18) rfl ?_); refine box_event ?hg (N := 18) ?hd (cs := #[.int .i64 0, .int .i64 0, .int .i64 0, .slice none 0 0]) (t := 26) ?hr ?_; (case hd => rfl); (case hg => rfl); (case hr => first | (go_simp; done) | (go_simp; rfl)); intro gb362 hg w76 hbox hb; have n0_ := Aside0.mk (Kd.R_below (uR HO_330003) hb); have n1_ := Aside0.mk (Kd.R_below (uR HO_341003) hb); have n2_ := Aside0.mk (Kd.R_below (uR HO354) hb); have n3_ := Aside0.mk (Kd.R_below (uR HO360) hb); have n4_ := Aside0.mk (blk_below (g := gb329) (o := .cells #[.int .i64 t322, .int .i64 t323, .int .i64 t324, .slice Ao17 t325.length co17] 26 (0, 0)) (uK BK329) hb); have n5_ := Aside0.mk (blk_below (g := gb340) (o := .cells #[.int .i64 t333, .int .i64 t334, .int .i64 t335, .slice Ao24 t336.length co24] 26 (0, 0)) (uK BK340) hb); have n6_ := Aside0.mk (below_step (by first | exact uB HB | exact uS HB (gC GE329 (gC GE340 gN))) hb); have n7_ := Aside0.mk (hbox); have n8_ := Aside0.mk ((by rw [hg]; exact (below_size (by first | exact uB HB | exact uS HB (gC GE329 (gC GE340 gN)))) : w.heap.size ≤ gb362)); have n9_ := Aside0.mk ((by rw [hg]; exact (below_size (by first | exact uB HB | exact uS HB (gC GE329 (gC GE340 gN)))) : w.heap.size ≤ gb362)); have n10_ := Aside0.mk ((by rw [hg]; exact Nat.ne_of_lt (blk_lt (g := gb329) (o := .cells #[.int .i64 t322, .int .i64 t323, .int .i64 t324, .slice Ao17 t325.length co17] 26 (0, 0)) (uK BK329)) : gb329 ≠ gb362)); have n11_ := Aside0.mk ((by rw [hg]; exact Nat.ne_of_gt (blk_lt (g := gb329) (o := .cells #[.int .i64 t322, .int .i64 t323, .int .i64 t324, .slice Ao17 t325.length co17] 26 (0, 0)) (uK BK329)) : gb362 ≠ gb329)); have n12_ := Aside0.mk ((by rw [hg]; exact Nat.ne_of_lt (blk_lt (g := gb340) (o := .cells #[.int .i64 t333, .int .i64 t334, .int .i64 t335, .slice Ao24 t336.length co24] 26 (0, 0)) (uK BK340)) : gb340 ≠ gb362)); have n13_ := Aside0.mk ((by rw [hg]; exact Nat.ne_of_gt (blk_lt (g := gb340) (o := .cells #[.int .i64 t333, .int .i64 t334, .int .i64 t335, .slice Ao24 t336.length co24] 26 (0, 0)) (uK BK340)) : gb362 ≠ gb340)); clear HO_330003 HO_341003 HO354 HO360 BK329 BK340 HB; have HO_330003 := n0_; have HO_341003 := n1_; have HO354 := n2_; have HO360 := n3_; have BK329 := n4_; have BK340 := n5_; have HB := n6_; have BK362 := n7_; have GW362 := n8_; have GE362 := n9_; have NB329_362 := n10_; have NB362_329 := n11_; have NB340_362 := n12_; have NB362_340 := n13_; clear n0_ n1_ n2_ n3_ n4_ n5_ n6_ n7_ n8_ n9_ n10_ n11_ n12_ n13_ hb hbox hg; have hnb77 := NB362_329.out; have hnc77 := NB329_362.out; have hnb78 := NB362_340.out; have hnc78 := NB340_362.out; have hcz79_0 : w76.cell? ⟨gb362, 0, none⟩ = some (.int .i64 0) := (blk_cell BK362.out 0).trans rfl; have hcz79_1 : w76.cell? ⟨gb362, 1, none⟩ = some (.int .i64 0) := (blk_cell BK362.out 1).trans rfl; have hcz79_2 : w76.cell? ⟨gb362, 2, none⟩ = some (.int .i64 0) := (blk_cell BK362.out 2).trans rfl; have hcz79_3 : w76.cell? ⟨gb362, 3, none⟩ = some (.slice none 0 0) := (blk_cell BK362.out 3).trans rfl; have hfz79_0 := blk_frozen BK362.out 0; have hfz79_1 := blk_frozen BK362.out 1; have hfz79_2 := blk_frozen BK362.out 2; have hfz79_3 := blk_frozen BK362.out 3; obtain ⟨Ao80, co80, eo80⟩ := Kd.R_slice HO360.out; subst eo80))
           (try simp only [Act.put, List.setIfInBounds_toArray, List.set_cons_zero, List.set_cons_succ])
           go_cut [102] (fun v102 wc => ∃ (kq : Nat) (x102_66 : Bool), v102 = .bool x102_66 ∧ Aside0 (laws_FnExactBuildDisplaced.j2 kq t349 x102_66 t333 t334 t335 t350 = some r) ∧ Aside0 (kq ≤ kj39) ∧ Aside0 (Kd.R (Kd.int .i64) 3 wc w.heap.size (fun k_ => some k_ ≠ ((.slice Ao24 t336.length co24) : Value).ownBlock ∧ some k_ ≠ ((.slice Ao80 t358.length co80) : Value).ownBlock) (.slice Ao17 t325.length co17) t325) ∧ Aside0 (Kd.R (Kd.int .i64) 3 wc w.heap.size (fun k_ => some k_ ≠ ((.slice Ao17 t325.length co17) : Value).ownBlock ∧ some k_ ≠ ((.slice Ao80 t358.length co80) : Value).ownBlock) (.slice Ao24 t336.length co24) t350) ∧ Aside0 (Kd.R (Kd.int .i64) 3 wc w.heap.size (fun k_ => some k_ ≠ ((.slice Ao17 t325.length co17) : Value).ownBlock ∧ some k_ ≠ ((.slice Ao24 t336.length co24) : Value).ownBlock) (.slice Ao80 t358.length co80) t358) ∧ Aside0 (wc.heap[gb329]? = some (.cells #[.int .i64 t322, .int .i64 t323, .int .i64 t324, (.slice Ao17 t325.length co17)] 26 (0, 0))) ∧ Aside0 (wc.heap[gb340]? = some (.cells #[.int .i64 t333, .int .i64 t334, .int .i64 t335, (.slice Ao24 t336.length co24)] 26 (0, 0))) ∧ Aside0 (wc.heap[gb362]? = some (.cells #[.int .i64 t355, .int .i64 t356, .int .i64 t357, (.slice Ao80 t358.length co80)] 26 (0, 0))) ∧ Aside0 (Below w.heap.size w wc))
           case first =>
            have H := HC67.out
            clear HC67
            replace H := Option.bind_eq_some_iff.mp H
            obtain ⟨t363, A810, H⟩ := H
            replace H : (if t363 = true then (laws_FnExactBuildDisplaced.j2 kj39 t349 (t361 != t328) t333 t334 t335 t350) else (laws_FnExactBuildDisplaced.j2 kj39 t349 true t333 t334 t335 t350)) = some r := H
            have A81 := Aside0.mk A810
            clear A810
            by_cases c82 : t363 = true
            ·
             subst c82
             have H1 : (laws_FnExactBuildDisplaced.j2 kj39 t349 (t361 != t328) t333 t334 t335 t350) = some r := by rw [if_pos rfl] at H; exact H
             clear H
             have H := H1
             clear H1
             have H' := Aside0.mk H
             clear H
             have hnb83 := NB362_329.out
             have hnc83 := NB329_362.out
             have hnb84 := NB362_340.out
             have hnc84 := NB340_362.out
             have hcz85_0 : w76.cell? ⟨gb362, 0, none⟩ = some (.int .i64 0) := (blk_cell BK362.out 0).trans rfl
             have hcz85_1 : w76.cell? ⟨gb362, 1, none⟩ = some (.int .i64 0) := (blk_cell BK362.out 1).trans rfl
             have hcz85_2 : w76.cell? ⟨gb362, 2, none⟩ = some (.int .i64 0) := (blk_cell BK362.out 2).trans rfl
             have hcz85_3 : w76.cell? ⟨gb362, 3, none⟩ = some (.slice none 0 0) := (blk_cell BK362.out 3).trans rfl
             have hfz85_0 := blk_frozen BK362.out 0
             have hfz85_1 := blk_frozen BK362.out 1
             have hfz85_2 := blk_frozen BK362.out 2
             have hfz85_3 := blk_frozen BK362.out 3
             have hnb86 := NB329_340.out
             have hnc86 := NB340_329.out
             have hcz87_0 : w76.cell? ⟨gb329, 0, none⟩ = some (.int .i64 t322) := (blk_cell BK329.out 0).trans rfl
             have hcz87_1 : w76.cell? ⟨gb329, 1, none⟩ = some (.int .i64 t323) := (blk_cell BK329.out 1).trans rfl
             have hcz87_2 : w76.cell? ⟨gb329, 2, none⟩ = some (.int .i64 t324) := (blk_cell BK329.out 2).trans rfl
             have hcz87_3 : w76.cell? ⟨gb329, 3, none⟩ = some (.slice Ao17 t325.length co17) := (blk_cell BK329.out 3).trans rfl
             have hfz87_0 := blk_frozen BK329.out 0
             have hfz87_1 := blk_frozen BK329.out 1
             have hfz87_2 := blk_frozen BK329.out 2
             have hfz87_3 := blk_frozen BK329.out 3
             go_wp2_with (first | ((with_reducible refine gate_callee (f := 8) rfl ?_); refine goesL_ (some 96) rfl rfl Try.func8 (by kernel_rfl) rfl #[.agg #[.int .i64 t355, .int .i64 t356, .int .i64 t357, .slice Ao80 t358.length co80], .agg #[.int .i64 t322, .int .i64 t323, .int .i64 t324, .slice Ao17 t325.length co17]] rfl (by (try simp only [List.map_toArray, List.map_cons, List.map_nil]); first | done | rfl | (simp only [List.length_drop, List.length_take]; rfl)) ?_; (with_reducible refine (laws_eqDisplaced.calls kj39 t355 t356 t357 _ _ t358 t322 t323 t324 _ _ t325 true _ ?side1 ?side2 ?side3 ?side4 A81.out).mono ?_); (case side1 => refine (Kd.R_reads' (e := 3) (base := w.heap.size) (ok := fun k_ => ((True ∧ some k_ ≠ (.slice Ao17 t325.length co17 : Value).ownBlock) ∧ some k_ ≠ (.slice Ao24 t336.length co24 : Value).ownBlock)) (n := t358.length) (c := co80) ?_).2.2; exact (by (with_reducible repeat (first | apply Kd.R_alloc | apply Kd.R_drewN | apply Kd.R_drew)); exact (Kd.R_mono (Kd.R_far (p := ⟨gb362, 3, none⟩) (Kd.R_far (p := ⟨gb362, 2, none⟩) (Kd.R_far (p := ⟨gb362, 1, none⟩) (Kd.R_far (p := ⟨gb362, 0, none⟩) (Kd.R_types HO360.out BK362.out (by decide)) (fun _ hk => hk.2) (.int .i64 t355)) (fun _ hk => hk.2) (.int .i64 t356)) (fun _ hk => hk.2) (.int .i64 t357)) (fun _ hk => hk.2) (.slice Ao80 t358.length co80)) (fun _ h_ => h_.1)))); (case side2 => exact (Kd.R_reads' HO360.out).2.1); (case side3 => refine (Kd.R_reads' (e := 3) (base := w.heap.size) (ok := fun k_ => (some k_ ≠ (.slice Ao24 t336.length co24 : Value).ownBlock ∧ some k_ ≠ (.slice Ao80 t358.length co80 : Value).ownBlock)) (n := t325.length) (c := co17) ?_).2.2; exact (by (with_reducible repeat (first | apply Kd.R_alloc | apply Kd.R_drewN | apply Kd.R_drew)); exact (Kd.R_mono (Kd.R_far (p := ⟨gb362, 3, none⟩) (Kd.R_far (p := ⟨gb362, 2, none⟩) (Kd.R_far (p := ⟨gb362, 1, none⟩) (Kd.R_far (p := ⟨gb362, 0, none⟩) (Kd.R_types HO_330003.out BK362.out (by decide)) (fun _ hk => hk.2) (.int .i64 t355)) (fun _ hk => hk.2) (.int .i64 t356)) (fun _ hk => hk.2) (.int .i64 t357)) (fun _ hk => hk.2) (.slice Ao80 t358.length co80)) (fun _ h_ => h_.1)))); (case side4 => exact (Kd.R_reads' HO_330003.out).2.1); rintro e w88 ⟨rfl, hb⟩; refine ⟨_, rfl, ?_⟩; have n0_ := Aside0.mk (Kd.R_below (by (with_reducible repeat (first | apply Kd.R_alloc | apply Kd.R_drewN | apply Kd.R_drew)); exact (Kd.R_mono (Kd.R_far (p := ⟨gb362, 3, none⟩) (Kd.R_far (p := ⟨gb362, 2, none⟩) (Kd.R_far (p := ⟨gb362, 1, none⟩) (Kd.R_far (p := ⟨gb362, 0, none⟩) (Kd.R_types HO_330003.out BK362.out (by decide)) (fun _ hk => hk.2) (.int .i64 t355)) (fun _ hk => hk.2) (.int .i64 t356)) (fun _ hk => hk.2) (.int .i64 t357)) (fun _ hk => hk.2) (.slice Ao80 t358.length co80)) (fun _ h_ => h_.1))) hb); have n1_ := Aside0.mk (Kd.R_below (by (with_reducible repeat (first | apply Kd.R_alloc | apply Kd.R_drewN | apply Kd.R_drew)); exact (Kd.R_mono (Kd.R_far (p := ⟨gb362, 3, none⟩) (Kd.R_far (p := ⟨gb362, 2, none⟩) (Kd.R_far (p := ⟨gb362, 1, none⟩) (Kd.R_far (p := ⟨gb362, 0, none⟩) (Kd.R_types HO_341003.out BK362.out (by decide)) (fun _ hk => hk.2) (.int .i64 t355)) (fun _ hk => hk.2) (.int .i64 t356)) (fun _ hk => hk.2) (.int .i64 t357)) (fun _ hk => hk.2) (.slice Ao80 t358.length co80)) (fun _ h_ => h_.1))) hb); have n2_ := Aside0.mk (Kd.R_below (by (with_reducible repeat (first | apply Kd.R_alloc | apply Kd.R_drewN | apply Kd.R_drew)); exact (Kd.R_mono (Kd.R_far (p := ⟨gb362, 3, none⟩) (Kd.R_far (p := ⟨gb362, 2, none⟩) (Kd.R_far (p := ⟨gb362, 1, none⟩) (Kd.R_far (p := ⟨gb362, 0, none⟩) (Kd.R_types HO354.out BK362.out (by decide)) (fun _ hk => hk.2) (.int .i64 t355)) (fun _ hk => hk.2) (.int .i64 t356)) (fun _ hk => hk.2) (.int .i64 t357)) (fun _ hk => hk.2) (.slice Ao80 t358.length co80)) (fun _ h_ => h_.1))) hb); have n3_ := Aside0.mk (Kd.R_below (by (with_reducible repeat (first | apply Kd.R_alloc | apply Kd.R_drewN | apply Kd.R_drew)); exact (Kd.R_mono (Kd.R_far (p := ⟨gb362, 3, none⟩) (Kd.R_far (p := ⟨gb362, 2, none⟩) (Kd.R_far (p := ⟨gb362, 1, none⟩) (Kd.R_far (p := ⟨gb362, 0, none⟩) (Kd.R_types HO360.out BK362.out (by decide)) (fun _ hk => hk.2) (.int .i64 t355)) (fun _ hk => hk.2) (.int .i64 t356)) (fun _ hk => hk.2) (.int .i64 t357)) (fun _ hk => hk.2) (.slice Ao80 t358.length co80)) (fun _ h_ => h_.1))) hb); have n4_ := Aside0.mk (blk_below (g := gb329) (o := .cells #[.int .i64 t322, .int .i64 t323, .int .i64 t324, .slice Ao17 t325.length co17] 26 (0, 0)) (by refine uW ?_; refine blk_far ?_ NB329_362.out _; refine uW ?_; refine blk_far ?_ NB329_362.out _; refine uW ?_; refine blk_far ?_ NB329_362.out _; refine uW ?_; refine blk_far ?_ NB329_362.out _; refine uW ?_; exact BK329.out) hb); have n5_ := Aside0.mk (blk_below (g := gb340) (o := .cells #[.int .i64 t333, .int .i64 t334, .int .i64 t335, .slice Ao24 t336.length co24] 26 (0, 0)) (by refine uW ?_; refine blk_far ?_ NB340_362.out _; refine uW ?_; refine blk_far ?_ NB340_362.out _; refine uW ?_; refine blk_far ?_ NB340_362.out _; refine uW ?_; refine blk_far ?_ NB340_362.out _; refine uW ?_; exact BK340.out) hb); have n6_ := Aside0.mk (blk_below (g := gb362) (o := .cells #[.int .i64 t355, .int .i64 t356, .int .i64 t357, .slice Ao80 t358.length co80] 26 (0, 0)) (by refine uW ?_; refine blk_put (cs := #[.int .i64 t355, .int .i64 t356, .int .i64 t357, .slice none 0 0]) ?_ 3 _ rfl; refine uW ?_; refine blk_put (cs := #[.int .i64 t355, .int .i64 t356, .int .i64 0, .slice none 0 0]) ?_ 2 _ rfl; refine uW ?_; refine blk_put (cs := #[.int .i64 t355, .int .i64 0, .int .i64 0, .slice none 0 0]) ?_ 1 _ rfl; refine uW ?_; refine blk_put (cs := #[.int .i64 0, .int .i64 0, .int .i64 0, .slice none 0 0]) ?_ 0 _ rfl; refine uW ?_; exact BK362.out) hb); have n7_ := Aside0.mk (below_step (by first | exact uB HB | exact uS HB (gC GE329 (gC GE340 (gC GE362 gN)))) hb); clear HO_330003 HO_341003 HO354 HO360 BK329 BK340 BK362 HB; have HO_330003 := n0_; have HO_341003 := n1_; have HO354 := n2_; have HO360 := n3_; have BK329 := n4_; have BK340 := n5_; have BK362 := n6_; have HB := n7_; clear n0_ n1_ n2_ n3_ n4_ n5_ n6_ n7_; (try clear hb); (try clear hb2); (try clear hk); (try clear hi)))
             go_meet
             case rel => exact ⟨_, ((t361 != t328)), (by first | rfl | (simp; done) | (simp [*]; done)), H', ⟨by have := HJ10.out; have := HJ39.out; first | omega | exact Nat.le_refl _⟩, ⟨by (with_reducible repeat (first | apply Kd.R_alloc | apply Kd.R_drewN | apply Kd.R_drew)); exact HO_330003.out⟩, ⟨by (with_reducible repeat (first | apply Kd.R_alloc | apply Kd.R_drewN | apply Kd.R_drew)); exact HO_341003.out⟩, ⟨by (with_reducible repeat (first | apply Kd.R_alloc | apply Kd.R_drewN | apply Kd.R_drew)); exact Kd.R_mono HO360.out (fun _ hk => ⟨hk.1.2, hk.2⟩)⟩, ⟨by refine uW ?_; exact BK329.out⟩, ⟨by refine uW ?_; exact BK340.out⟩, ⟨by refine uW ?_; exact BK362.out⟩, ⟨by first | exact uB HB | exact uS HB (gC GE329 (gC GE340 (gC GE362 gN)))⟩⟩
            ·
             replace c82 := Bool.eq_false_iff.mpr c82
             subst c82
             have H1 : (laws_FnExactBuildDisplaced.j2 kj39 t349 true t333 t334 t335 t350) = some r := by rw [if_neg (show ¬ (false = true) by decide)] at H; exact H
             clear H
             have H := H1
             clear H1
             have H' := Aside0.mk H
             clear H
             have hnb89 := NB362_329.out
             have hnc89 := NB329_362.out
             have hnb90 := NB362_340.out
             have hnc90 := NB340_362.out
             have hcz91_0 : w76.cell? ⟨gb362, 0, none⟩ = some (.int .i64 0) := (blk_cell BK362.out 0).trans rfl
             have hcz91_1 : w76.cell? ⟨gb362, 1, none⟩ = some (.int .i64 0) := (blk_cell BK362.out 1).trans rfl
             have hcz91_2 : w76.cell? ⟨gb362, 2, none⟩ = some (.int .i64 0) := (blk_cell BK362.out 2).trans rfl
             have hcz91_3 : w76.cell? ⟨gb362, 3, none⟩ = some (.slice none 0 0) := (blk_cell BK362.out 3).trans rfl
             have hfz91_0 := blk_frozen BK362.out 0
             have hfz91_1 := blk_frozen BK362.out 1
             have hfz91_2 := blk_frozen BK362.out 2
             have hfz91_3 := blk_frozen BK362.out 3
             have hnb92 := NB329_340.out
             have hnc92 := NB340_329.out
             have hcz93_0 : w76.cell? ⟨gb329, 0, none⟩ = some (.int .i64 t322) := (blk_cell BK329.out 0).trans rfl
             have hcz93_1 : w76.cell? ⟨gb329, 1, none⟩ = some (.int .i64 t323) := (blk_cell BK329.out 1).trans rfl
             have hcz93_2 : w76.cell? ⟨gb329, 2, none⟩ = some (.int .i64 t324) := (blk_cell BK329.out 2).trans rfl
             have hcz93_3 : w76.cell? ⟨gb329, 3, none⟩ = some (.slice Ao17 t325.length co17) := (blk_cell BK329.out 3).trans rfl
             have hfz93_0 := blk_frozen BK329.out 0
             have hfz93_1 := blk_frozen BK329.out 1
             have hfz93_2 := blk_frozen BK329.out 2
             have hfz93_3 := blk_frozen BK329.out 3
             go_wp2_with (first | ((with_reducible refine gate_callee (f := 8) rfl ?_); refine goesL_ (some 96) rfl rfl Try.func8 (by kernel_rfl) rfl #[.agg #[.int .i64 t355, .int .i64 t356, .int .i64 t357, .slice Ao80 t358.length co80], .agg #[.int .i64 t322, .int .i64 t323, .int .i64 t324, .slice Ao17 t325.length co17]] rfl (by (try simp only [List.map_toArray, List.map_cons, List.map_nil]); first | done | rfl | (simp only [List.length_drop, List.length_take]; rfl)) ?_; (with_reducible refine (laws_eqDisplaced.calls kj39 t355 t356 t357 _ _ t358 t322 t323 t324 _ _ t325 false _ ?side1 ?side2 ?side3 ?side4 A81.out).mono ?_); (case side1 => refine (Kd.R_reads' (e := 3) (base := w.heap.size) (ok := fun k_ => ((True ∧ some k_ ≠ (.slice Ao17 t325.length co17 : Value).ownBlock) ∧ some k_ ≠ (.slice Ao24 t336.length co24 : Value).ownBlock)) (n := t358.length) (c := co80) ?_).2.2; exact (by (with_reducible repeat (first | apply Kd.R_alloc | apply Kd.R_drewN | apply Kd.R_drew)); exact (Kd.R_mono (Kd.R_far (p := ⟨gb362, 3, none⟩) (Kd.R_far (p := ⟨gb362, 2, none⟩) (Kd.R_far (p := ⟨gb362, 1, none⟩) (Kd.R_far (p := ⟨gb362, 0, none⟩) (Kd.R_types HO360.out BK362.out (by decide)) (fun _ hk => hk.2) (.int .i64 t355)) (fun _ hk => hk.2) (.int .i64 t356)) (fun _ hk => hk.2) (.int .i64 t357)) (fun _ hk => hk.2) (.slice Ao80 t358.length co80)) (fun _ h_ => h_.1)))); (case side2 => exact (Kd.R_reads' HO360.out).2.1); (case side3 => refine (Kd.R_reads' (e := 3) (base := w.heap.size) (ok := fun k_ => (some k_ ≠ (.slice Ao24 t336.length co24 : Value).ownBlock ∧ some k_ ≠ (.slice Ao80 t358.length co80 : Value).ownBlock)) (n := t325.length) (c := co17) ?_).2.2; exact (by (with_reducible repeat (first | apply Kd.R_alloc | apply Kd.R_drewN | apply Kd.R_drew)); exact (Kd.R_mono (Kd.R_far (p := ⟨gb362, 3, none⟩) (Kd.R_far (p := ⟨gb362, 2, none⟩) (Kd.R_far (p := ⟨gb362, 1, none⟩) (Kd.R_far (p := ⟨gb362, 0, none⟩) (Kd.R_types HO_330003.out BK362.out (by decide)) (fun _ hk => hk.2) (.int .i64 t355)) (fun _ hk => hk.2) (.int .i64 t356)) (fun _ hk => hk.2) (.int .i64 t357)) (fun _ hk => hk.2) (.slice Ao80 t358.length co80)) (fun _ h_ => h_.1)))); (case side4 => exact (Kd.R_reads' HO_330003.out).2.1); rintro e w94 ⟨rfl, hb⟩; refine ⟨_, rfl, ?_⟩; have n0_ := Aside0.mk (Kd.R_below (by (with_reducible repeat (first | apply Kd.R_alloc | apply Kd.R_drewN | apply Kd.R_drew)); exact (Kd.R_mono (Kd.R_far (p := ⟨gb362, 3, none⟩) (Kd.R_far (p := ⟨gb362, 2, none⟩) (Kd.R_far (p := ⟨gb362, 1, none⟩) (Kd.R_far (p := ⟨gb362, 0, none⟩) (Kd.R_types HO_330003.out BK362.out (by decide)) (fun _ hk => hk.2) (.int .i64 t355)) (fun _ hk => hk.2) (.int .i64 t356)) (fun _ hk => hk.2) (.int .i64 t357)) (fun _ hk => hk.2) (.slice Ao80 t358.length co80)) (fun _ h_ => h_.1))) hb); have n1_ := Aside0.mk (Kd.R_below (by (with_reducible repeat (first | apply Kd.R_alloc | apply Kd.R_drewN | apply Kd.R_drew)); exact (Kd.R_mono (Kd.R_far (p := ⟨gb362, 3, none⟩) (Kd.R_far (p := ⟨gb362, 2, none⟩) (Kd.R_far (p := ⟨gb362, 1, none⟩) (Kd.R_far (p := ⟨gb362, 0, none⟩) (Kd.R_types HO_341003.out BK362.out (by decide)) (fun _ hk => hk.2) (.int .i64 t355)) (fun _ hk => hk.2) (.int .i64 t356)) (fun _ hk => hk.2) (.int .i64 t357)) (fun _ hk => hk.2) (.slice Ao80 t358.length co80)) (fun _ h_ => h_.1))) hb); have n2_ := Aside0.mk (Kd.R_below (by (with_reducible repeat (first | apply Kd.R_alloc | apply Kd.R_drewN | apply Kd.R_drew)); exact (Kd.R_mono (Kd.R_far (p := ⟨gb362, 3, none⟩) (Kd.R_far (p := ⟨gb362, 2, none⟩) (Kd.R_far (p := ⟨gb362, 1, none⟩) (Kd.R_far (p := ⟨gb362, 0, none⟩) (Kd.R_types HO354.out BK362.out (by decide)) (fun _ hk => hk.2) (.int .i64 t355)) (fun _ hk => hk.2) (.int .i64 t356)) (fun _ hk => hk.2) (.int .i64 t357)) (fun _ hk => hk.2) (.slice Ao80 t358.length co80)) (fun _ h_ => h_.1))) hb); have n3_ := Aside0.mk (Kd.R_below (by (with_reducible repeat (first | apply Kd.R_alloc | apply Kd.R_drewN | apply Kd.R_drew)); exact (Kd.R_mono (Kd.R_far (p := ⟨gb362, 3, none⟩) (Kd.R_far (p := ⟨gb362, 2, none⟩) (Kd.R_far (p := ⟨gb362, 1, none⟩) (Kd.R_far (p := ⟨gb362, 0, none⟩) (Kd.R_types HO360.out BK362.out (by decide)) (fun _ hk => hk.2) (.int .i64 t355)) (fun _ hk => hk.2) (.int .i64 t356)) (fun _ hk => hk.2) (.int .i64 t357)) (fun _ hk => hk.2) (.slice Ao80 t358.length co80)) (fun _ h_ => h_.1))) hb); have n4_ := Aside0.mk (blk_below (g := gb329) (o := .cells #[.int .i64 t322, .int .i64 t323, .int .i64 t324, .slice Ao17 t325.length co17] 26 (0, 0)) (by refine uW ?_; refine blk_far ?_ NB329_362.out _; refine uW ?_; refine blk_far ?_ NB329_362.out _; refine uW ?_; refine blk_far ?_ NB329_362.out _; refine uW ?_; refine blk_far ?_ NB329_362.out _; refine uW ?_; exact BK329.out) hb); have n5_ := Aside0.mk (blk_below (g := gb340) (o := .cells #[.int .i64 t333, .int .i64 t334, .int .i64 t335, .slice Ao24 t336.length co24] 26 (0, 0)) (by refine uW ?_; refine blk_far ?_ NB340_362.out _; refine uW ?_; refine blk_far ?_ NB340_362.out _; refine uW ?_; refine blk_far ?_ NB340_362.out _; refine uW ?_; refine blk_far ?_ NB340_362.out _; refine uW ?_; exact BK340.out) hb); have n6_ := Aside0.mk (blk_below (g := gb362) (o := .cells #[.int .i64 t355, .int .i64 t356, .int .i64 t357, .slice Ao80 t358.length co80] 26 (0, 0)) (by refine uW ?_; refine blk_put (cs := #[.int .i64 t355, .int .i64 t356, .int .i64 t357, .slice none 0 0]) ?_ 3 _ rfl; refine uW ?_; refine blk_put (cs := #[.int .i64 t355, .int .i64 t356, .int .i64 0, .slice none 0 0]) ?_ 2 _ rfl; refine uW ?_; refine blk_put (cs := #[.int .i64 t355, .int .i64 0, .int .i64 0, .slice none 0 0]) ?_ 1 _ rfl; refine uW ?_; refine blk_put (cs := #[.int .i64 0, .int .i64 0, .int .i64 0, .slice none 0 0]) ?_ 0 _ rfl; refine uW ?_; exact BK362.out) hb); have n7_ := Aside0.mk (below_step (by first | exact uB HB | exact uS HB (gC GE329 (gC GE340 (gC GE362 gN)))) hb); clear HO_330003 HO_341003 HO354 HO360 BK329 BK340 BK362 HB; have HO_330003 := n0_; have HO_341003 := n1_; have HO354 := n2_; have HO360 := n3_; have BK329 := n4_; have BK340 := n5_; have BK362 := n6_; have HB := n7_; clear n0_ n1_ n2_ n3_ n4_ n5_ n6_ n7_; (try clear hb); (try clear hb2); (try clear hk); (try clear hi)))
             go_meet
             case rel => exact ⟨_, (true), (by first | rfl | (simp; done) | (simp [*]; done)), H', ⟨by have := HJ10.out; have := HJ39.out; first | omega | exact Nat.le_refl _⟩, ⟨by (with_reducible repeat (first | apply Kd.R_alloc | apply Kd.R_drewN | apply Kd.R_drew)); exact HO_330003.out⟩, ⟨by (with_reducible repeat (first | apply Kd.R_alloc | apply Kd.R_drewN | apply Kd.R_drew)); exact HO_341003.out⟩, ⟨by (with_reducible repeat (first | apply Kd.R_alloc | apply Kd.R_drewN | apply Kd.R_drew)); exact Kd.R_mono HO360.out (fun _ hk => ⟨hk.1.2, hk.2⟩)⟩, ⟨by refine uW ?_; exact BK329.out⟩, ⟨by refine uW ?_; exact BK340.out⟩, ⟨by refine uW ?_; exact BK362.out⟩, ⟨by first | exact uB HB | exact uS HB (gC GE329 (gC GE340 (gC GE362 gN)))⟩⟩
           case rest =>
            clear HC67
            try clear c1
            try clear c2
            try clear p2
            try clear c3
            try clear c4
            try clear c5
            try clear c6
            try clear c6b0
            try clear c7
            try clear c8
            try clear c9
            try clear c10
            try clear c11
            try clear c12
            try clear c22
            try clear c26
            try clear c27
            try clear c31
            try clear c35
            try clear c38
            try clear c44
            try clear c44b0
            try clear c46
            try clear c47
            try clear c51
            try clear c55
            try clear c58
            try clear c58b0
            try clear c59
            try clear c64
            try clear c64b0
            try clear c64b1
            try clear c68
            try clear c77
            try clear c78
            try clear c82
            try clear c83
            try clear c84
            try clear c86
            try clear c89
            try clear c90
            try clear c92
            try clear hcz16_0
            try clear hcz16_1
            try clear hcz16_2
            try clear hcz16_3
            try clear hcz23_0
            try clear hcz23_1
            try clear hcz23_2
            try clear hcz23_3
            try clear hcz28_0
            try clear hcz28_1
            try clear hcz28_2
            try clear hcz28_3
            try clear hcz29_0
            try clear hcz29_1
            try clear hcz29_2
            try clear hcz29_3
            try clear hcz32_0
            try clear hcz32_1
            try clear hcz32_2
            try clear hcz32_3
            try clear hcz33_0
            try clear hcz33_1
            try clear hcz33_2
            try clear hcz33_3
            try clear hcz48_0
            try clear hcz48_1
            try clear hcz48_2
            try clear hcz48_3
            try clear hcz49_0
            try clear hcz49_1
            try clear hcz49_2
            try clear hcz49_3
            try clear hcz52_0
            try clear hcz52_1
            try clear hcz52_2
            try clear hcz52_3
            try clear hcz53_0
            try clear hcz53_1
            try clear hcz53_2
            try clear hcz53_3
            try clear hcz60_0
            try clear hcz60_1
            try clear hcz60_2
            try clear hcz60_3
            try clear hcz62_0
            try clear hcz62_1
            try clear hcz62_2
            try clear hcz62_3
            try clear hcz69_0
            try clear hcz69_1
            try clear hcz69_2
            try clear hcz69_3
            try clear hcz71_0
            try clear hcz71_1
            try clear hcz71_2
            try clear hcz71_3
            try clear hcz79_0
            try clear hcz79_1
            try clear hcz79_2
            try clear hcz79_3
            try clear hcz85_0
            try clear hcz85_1
            try clear hcz85_2
            try clear hcz85_3
            try clear hcz87_0
            try clear hcz87_1
            try clear hcz87_2
            try clear hcz87_3
            try clear hcz91_0
            try clear hcz91_1
            try clear hcz91_2
            try clear hcz91_3
            try clear hcz93_0
            try clear hcz93_1
            try clear hcz93_2
            try clear hcz93_3
            try clear hfz16_0
            try clear hfz16_1
            try clear hfz16_2
            try clear hfz16_3
            try clear hfz23_0
            try clear hfz23_1
            try clear hfz23_2
            try clear hfz23_3
            try clear hfz28_0
            try clear hfz28_1
            try clear hfz28_2
            try clear hfz28_3
            try clear hfz29_0
            try clear hfz29_1
            try clear hfz29_2
            try clear hfz29_3
            try clear hfz32_0
            try clear hfz32_1
            try clear hfz32_2
            try clear hfz32_3
            try clear hfz33_0
            try clear hfz33_1
            try clear hfz33_2
            try clear hfz33_3
            try clear hfz48_0
            try clear hfz48_1
            try clear hfz48_2
            try clear hfz48_3
            try clear hfz49_0
            try clear hfz49_1
            try clear hfz49_2
            try clear hfz49_3
            try clear hfz52_0
            try clear hfz52_1
            try clear hfz52_2
            try clear hfz52_3
            try clear hfz53_0
            try clear hfz53_1
            try clear hfz53_2
            try clear hfz53_3
            try clear hfz60_0
            try clear hfz60_1
            try clear hfz60_2
            try clear hfz60_3
            try clear hfz62_0
            try clear hfz62_1
            try clear hfz62_2
            try clear hfz62_3
            try clear hfz69_0
            try clear hfz69_1
            try clear hfz69_2
            try clear hfz69_3
            try clear hfz71_0
            try clear hfz71_1
            try clear hfz71_2
            try clear hfz71_3
            try clear hfz79_0
            try clear hfz79_1
            try clear hfz79_2
            try clear hfz79_3
            try clear hfz85_0
            try clear hfz85_1
            try clear hfz85_2
            try clear hfz85_3
            try clear hfz87_0
            try clear hfz87_1
            try clear hfz87_2
            try clear hfz87_3
            try clear hfz91_0
            try clear hfz91_1
            try clear hfz91_2
            try clear hfz91_3
            try clear hfz93_0
            try clear hfz93_1
            try clear hfz93_2
            try clear hfz93_3
            try clear p2
            obtain ⟨kq, x102_66, rfl, HA, HJ66, HO_330003, HO_341003, HO_363003, BK329, BK340, BK362, HB⟩ := hcut
            have hl341003_66 := (Kd.R_reads' HO_341003.out).1
            rw [hl341003_66] at HO_341003
            (try simp only [hl341003_66])
            (try simp only [hl341003_66] at BK329)
            (try simp only [hl341003_66] at BK340)
            (try simp only [hl341003_66] at BK362)
            (try simp only [hl341003_66] at HO_330003)
            (try simp only [hl341003_66] at HO_363003)
            cases kq with
            | zero => exact absurd HA.out (by simp [laws_FnExactBuildDisplaced.j2])
            | succ kj66 =>
             have H := HA.out
             clear HA
             simp only [laws_FnExactBuildDisplaced.j2] at H
             by_cases c95 : x102_66 = true
             ·
              subst c95
              have H1 : (some false) = some r := by rw [if_pos rfl] at H; exact H
              clear H
              have H := H1
              clear H1
              obtain rfl := Option.some.inj H
              go_wp2
              go_ret
              exact ⟨by first | rfl | (simp [errW_none, errW_some] <;> rfl) | (simp [*, errW_none, errW_some] <;> rfl), by first | exact uB HB | exact uS HB (gC GE329 (gC GE340 (gC GE362 gN)))⟩
             ·
              replace c95 := Bool.eq_false_iff.mpr c95
              subst c95
              have H1 : ((laws_heldDisplaced.f kj66 t333 t334 t335 t350 1).bind fun t364 => (if t364 < 0 then (some false) else (if t364 = t349 then (some true) else (some false)))) = some r := by rw [if_neg (show ¬ (false = true) by decide)] at H; exact H
              clear H
              have H := H1
              clear H1
              replace H := Option.bind_eq_some_iff.mp H
              obtain ⟨t364, A960, H⟩ := H
              replace H : (if t364 < 0 then (some false) else (if t364 = t349 then (some true) else (some false))) = some r := H
              have A96 := Aside0.mk A960
              clear A960
              by_cases c97 : t364 < 0
              ·
               rw [if_pos c97] at H
               have c97b0 : decide (t364 < 0) = true := decide_eq_true c97
               clear c97
               obtain rfl := Option.some.inj H
               have hnb98 := NB340_329.out
               have hnc98 := NB329_340.out
               have hnb99 := NB340_362.out
               have hnc99 := NB362_340.out
               have hcz100_0 : wc.cell? ⟨gb340, 0, none⟩ = some (.int .i64 t333) := (blk_cell BK340.out 0).trans rfl
               have hcz100_1 : wc.cell? ⟨gb340, 1, none⟩ = some (.int .i64 t334) := (blk_cell BK340.out 1).trans rfl
               have hcz100_2 : wc.cell? ⟨gb340, 2, none⟩ = some (.int .i64 t335) := (blk_cell BK340.out 2).trans rfl
               have hcz100_3 : wc.cell? ⟨gb340, 3, none⟩ = some (.slice Ao24 t350.length co24) := (blk_cell BK340.out 3).trans rfl
               have hfz100_0 := blk_frozen BK340.out 0
               have hfz100_1 := blk_frozen BK340.out 1
               have hfz100_2 := blk_frozen BK340.out 2
               have hfz100_3 := blk_frozen BK340.out 3
               go_wp2_with (first | ((with_reducible refine gate_callee (f := 12) rfl ?_); refine goesL_ (some 105) rfl rfl Try.func12 (by kernel_rfl) rfl #[.agg #[.int .i64 t333, .int .i64 t334, .int .i64 t335, .slice Ao24 t350.length co24], .int .i64 1] rfl (by (try simp only [List.map_toArray, List.map_cons, List.map_nil]); first | done | rfl | (simp only [List.length_drop, List.length_take]; rfl)) ?_; (with_reducible refine (laws_heldDisplaced.calls kj66 t333 t334 t335 _ _ t350 1 t364 _ ?side1 ?side2 A96.out).mono ?_); (case side1 => exact uD HO_341003); (case side2 => exact (Kd.R_reads' HO_341003.out).2.1); rintro e w101 ⟨rfl, hb⟩; refine ⟨_, rfl, ?_⟩; have n0_ := Aside0.mk (Kd.R_below (uR HO_330003) hb); have n1_ := Aside0.mk (Kd.R_below (uR HO_341003) hb); have n2_ := Aside0.mk (Kd.R_below (uR HO_363003) hb); have n3_ := Aside0.mk (blk_below (g := gb329) (o := .cells #[.int .i64 t322, .int .i64 t323, .int .i64 t324, .slice Ao17 t325.length co17] 26 (0, 0)) (uK BK329) hb); have n4_ := Aside0.mk (blk_below (g := gb340) (o := .cells #[.int .i64 t333, .int .i64 t334, .int .i64 t335, .slice Ao24 t350.length co24] 26 (0, 0)) (uK BK340) hb); have n5_ := Aside0.mk (blk_below (g := gb362) (o := .cells #[.int .i64 t355, .int .i64 t356, .int .i64 t357, .slice Ao80 t358.length co80] 26 (0, 0)) (uK BK362) hb); have n6_ := Aside0.mk (below_step (by first | exact uB HB | exact uS HB (gC GE329 (gC GE340 (gC GE362 gN)))) hb); clear HO_330003 HO_341003 HO_363003 BK329 BK340 BK362 HB; have HO_330003 := n0_; have HO_341003 := n1_; have HO_363003 := n2_; have BK329 := n3_; have BK340 := n4_; have BK362 := n5_; have HB := n6_; clear n0_ n1_ n2_ n3_ n4_ n5_ n6_; (try clear hb); (try clear hb2); (try clear hk); (try clear hi)))
               go_ret
               exact ⟨by first | rfl | (simp [errW_none, errW_some] <;> rfl) | (simp [*, errW_none, errW_some] <;> rfl), by first | exact uB HB | exact uS HB (gC GE329 (gC GE340 (gC GE362 gN)))⟩
              ·
               rw [if_neg c97] at H
               have c97b0 : decide (t364 < 0) = false := decide_eq_false c97
               clear c97
               by_cases c102 : t364 = t349
               ·
                rw [if_pos c102] at H
                have c102b0 : (t364 == t349) = true := beq_iff_eq.mpr c102
                have c102b1 : (t364 != t349) = false := bne_eq_false_iff_eq.mpr c102
                clear c102
                obtain rfl := Option.some.inj H
                have hnb103 := NB340_329.out
                have hnc103 := NB329_340.out
                have hnb104 := NB340_362.out
                have hnc104 := NB362_340.out
                have hcz105_0 : wc.cell? ⟨gb340, 0, none⟩ = some (.int .i64 t333) := (blk_cell BK340.out 0).trans rfl
                have hcz105_1 : wc.cell? ⟨gb340, 1, none⟩ = some (.int .i64 t334) := (blk_cell BK340.out 1).trans rfl
                have hcz105_2 : wc.cell? ⟨gb340, 2, none⟩ = some (.int .i64 t335) := (blk_cell BK340.out 2).trans rfl
                have hcz105_3 : wc.cell? ⟨gb340, 3, none⟩ = some (.slice Ao24 t350.length co24) := (blk_cell BK340.out 3).trans rfl
                have hfz105_0 := blk_frozen BK340.out 0
                have hfz105_1 := blk_frozen BK340.out 1
                have hfz105_2 := blk_frozen BK340.out 2
                have hfz105_3 := blk_frozen BK340.out 3
                go_wp2_with (first | ((with_reducible refine gate_callee (f := 12) rfl ?_); refine goesL_ (some 105) rfl rfl Try.func12 (by kernel_rfl) rfl #[.agg #[.int .i64 t333, .int .i64 t334, .int .i64 t335, .slice Ao24 t350.length co24], .int .i64 1] rfl (by (try simp only [List.map_toArray, List.map_cons, List.map_nil]); first | done | rfl | (simp only [List.length_drop, List.length_take]; rfl)) ?_; (with_reducible refine (laws_heldDisplaced.calls kj66 t333 t334 t335 _ _ t350 1 t364 _ ?side1 ?side2 A96.out).mono ?_); (case side1 => exact uD HO_341003); (case side2 => exact (Kd.R_reads' HO_341003.out).2.1); rintro e w106 ⟨rfl, hb⟩; refine ⟨_, rfl, ?_⟩; have n0_ := Aside0.mk (Kd.R_below (uR HO_330003) hb); have n1_ := Aside0.mk (Kd.R_below (uR HO_341003) hb); have n2_ := Aside0.mk (Kd.R_below (uR HO_363003) hb); have n3_ := Aside0.mk (blk_below (g := gb329) (o := .cells #[.int .i64 t322, .int .i64 t323, .int .i64 t324, .slice Ao17 t325.length co17] 26 (0, 0)) (uK BK329) hb); have n4_ := Aside0.mk (blk_below (g := gb340) (o := .cells #[.int .i64 t333, .int .i64 t334, .int .i64 t335, .slice Ao24 t350.length co24] 26 (0, 0)) (uK BK340) hb); have n5_ := Aside0.mk (blk_below (g := gb362) (o := .cells #[.int .i64 t355, .int .i64 t356, .int .i64 t357, .slice Ao80 t358.length co80] 26 (0, 0)) (uK BK362) hb); have n6_ := Aside0.mk (below_step (by first | exact uB HB | exact uS HB (gC GE329 (gC GE340 (gC GE362 gN)))) hb); clear HO_330003 HO_341003 HO_363003 BK329 BK340 BK362 HB; have HO_330003 := n0_; have HO_341003 := n1_; have HO_363003 := n2_; have BK329 := n3_; have BK340 := n4_; have BK362 := n5_; have HB := n6_; clear n0_ n1_ n2_ n3_ n4_ n5_ n6_; (try clear hb); (try clear hb2); (try clear hk); (try clear hi)))
                go_ret
                exact ⟨by first | rfl | (simp [errW_none, errW_some] <;> rfl) | (simp [*, errW_none, errW_some] <;> rfl), by first | exact uB HB | exact uS HB (gC GE329 (gC GE340 (gC GE362 gN)))⟩
               ·
                rw [if_neg c102] at H
                have c102b0 : (t364 == t349) = false := beq_eq_false_iff_ne.mpr c102
                have c102b1 : (t364 != t349) = true := bne_iff_ne.mpr c102
                obtain rfl := Option.some.inj H
                have hnb107 := NB340_329.out
                have hnc107 := NB329_340.out
                have hnb108 := NB340_362.out
                have hnc108 := NB362_340.out
                have hcz109_0 : wc.cell? ⟨gb340, 0, none⟩ = some (.int .i64 t333) := (blk_cell BK340.out 0).trans rfl
                have hcz109_1 : wc.cell? ⟨gb340, 1, none⟩ = some (.int .i64 t334) := (blk_cell BK340.out 1).trans rfl
                have hcz109_2 : wc.cell? ⟨gb340, 2, none⟩ = some (.int .i64 t335) := (blk_cell BK340.out 2).trans rfl
                have hcz109_3 : wc.cell? ⟨gb340, 3, none⟩ = some (.slice Ao24 t350.length co24) := (blk_cell BK340.out 3).trans rfl
                have hfz109_0 := blk_frozen BK340.out 0
                have hfz109_1 := blk_frozen BK340.out 1
                have hfz109_2 := blk_frozen BK340.out 2
                have hfz109_3 := blk_frozen BK340.out 3
                go_wp2_with (first | ((with_reducible refine gate_callee (f := 12) rfl ?_); refine goesL_ (some 105) rfl rfl Try.func12 (by kernel_rfl) rfl #[.agg #[.int .i64 t333, .int .i64 t334, .int .i64 t335, .slice Ao24 t350.length co24], .int .i64 1] rfl (by (try simp only [List.map_toArray, List.map_cons, List.map_nil]); first | done | rfl | (simp only [List.length_drop, List.length_take]; rfl)) ?_; (with_reducible refine (laws_heldDisplaced.calls kj66 t333 t334 t335 _ _ t350 1 t364 _ ?side1 ?side2 A96.out).mono ?_); (case side1 => exact uD HO_341003); (case side2 => exact (Kd.R_reads' HO_341003.out).2.1); rintro e w110 ⟨rfl, hb⟩; refine ⟨_, rfl, ?_⟩; have n0_ := Aside0.mk (Kd.R_below (uR HO_330003) hb); have n1_ := Aside0.mk (Kd.R_below (uR HO_341003) hb); have n2_ := Aside0.mk (Kd.R_below (uR HO_363003) hb); have n3_ := Aside0.mk (blk_below (g := gb329) (o := .cells #[.int .i64 t322, .int .i64 t323, .int .i64 t324, .slice Ao17 t325.length co17] 26 (0, 0)) (uK BK329) hb); have n4_ := Aside0.mk (blk_below (g := gb340) (o := .cells #[.int .i64 t333, .int .i64 t334, .int .i64 t335, .slice Ao24 t350.length co24] 26 (0, 0)) (uK BK340) hb); have n5_ := Aside0.mk (blk_below (g := gb362) (o := .cells #[.int .i64 t355, .int .i64 t356, .int .i64 t357, .slice Ao80 t358.length co80] 26 (0, 0)) (uK BK362) hb); have n6_ := Aside0.mk (below_step (by first | exact uB HB | exact uS HB (gC GE329 (gC GE340 (gC GE362 gN)))) hb); clear HO_330003 HO_341003 HO_363003 BK329 BK340 BK362 HB; have HO_330003 := n0_; have HO_341003 := n1_; have HO_363003 := n2_; have BK329 := n3_; have BK340 := n4_; have BK362 := n5_; have HB := n6_; clear n0_ n1_ n2_ n3_ n4_ n5_ n6_; (try clear hb); (try clear hb2); (try clear hk); (try clear hi)))
                go_ret
                exact ⟨by first | rfl | (simp [errW_none, errW_some] <;> rfl) | (simp [*, errW_none, errW_some] <;> rfl), by first | exact uB HB | exact uS HB (gC GE329 (gC GE340 (gC GE362 gN)))⟩
          ·
           rw [if_neg c64] at H
           have c64b0 : (t351 == t349) = false := beq_eq_false_iff_ne.mpr c64
           have c64b1 : (t351 != t349) = true := bne_iff_ne.mpr c64
           obtain rfl := Option.some.inj H
           have hnb111 := NB340_329.out
           have hnc111 := NB329_340.out
           have hcz112_0 : wc.cell? ⟨gb340, 0, none⟩ = some (.int .i64 t333) := (blk_cell BK340.out 0).trans rfl
           have hcz112_1 : wc.cell? ⟨gb340, 1, none⟩ = some (.int .i64 t334) := (blk_cell BK340.out 1).trans rfl
           have hcz112_2 : wc.cell? ⟨gb340, 2, none⟩ = some (.int .i64 t335) := (blk_cell BK340.out 2).trans rfl
           have hcz112_3 : wc.cell? ⟨gb340, 3, none⟩ = some (.slice Ao24 t336.length co24) := (blk_cell BK340.out 3).trans rfl
           have hfz112_0 := blk_frozen BK340.out 0
           have hfz112_1 := blk_frozen BK340.out 1
           have hfz112_2 := blk_frozen BK340.out 2
           have hfz112_3 := blk_frozen BK340.out 3
           go_wp2_with (first | ((with_reducible refine gate_callee (f := 11) rfl ?_); refine goesL_ (some 76) rfl rfl Try.func11 (by kernel_rfl) rfl #[.agg #[.int .i64 t333, .int .i64 t334, .int .i64 t335, .slice Ao24 t336.length co24], .int .i64 1] rfl (by (try simp only [List.map_toArray, List.map_cons, List.map_nil]); first | done | rfl | (simp only [List.length_drop, List.length_take]; rfl)) ?_; (with_reducible refine (laws_markDisplaced.calls kj39 t333 t334 t335 (fun k_ => some k_ = (.slice Ao24 t336.length co24 : Value).ownBlock) (.slice Ao24 t336.length co24) t336 1 t349 t350 w _ ?side1 ?side2 A56.out).mono ?_); (case side1 => first | exact uB HB | exact uS HB (gC GE329 (gC GE340 gN))); (case side2 => exact Kd.R_tight rfl HO_341003.out); rintro e w113 ⟨rfl, hy0, hb, hkp⟩; refine ⟨_, rfl, ?_⟩; have n0_ := Aside0.mk (Kd.R_mono (ok' := fun k_ => some k_ ≠ (.slice Ao24 t336.length co24 : Value).ownBlock) (Kd.R_keptB (HO_330003.out) hkp (fun k_ hk_ hs_ => (hk_) hs_)) (fun k_ hk_ => hk_.1)); have n1_ := Aside0.mk (Kd.R_reok rfl hy0 (fun k_ e_ => HO_341003.out.1 k_ e_)); have n2_ := Aside0.mk (blk_kept (uK BK329) hkp (fun hs_ => (fun e_ => (Kd.R_ne HO_341003.out BK329.out (by decide)) e_) hs_)); have n3_ := Aside0.mk (blk_kept (uK BK340) hkp (fun hs_ => (fun e_ => (Kd.R_ne HO_341003.out BK340.out (by decide)) e_) hs_)); have n4_ := Aside0.mk (hb); clear HO_330003 HO_341003 BK329 BK340 HB; have HO_330003 := n0_; have HO_341003 := n1_; have BK329 := n2_; have BK340 := n3_; have HB := n4_; clear n0_ n1_ n2_ n3_ n4_; (try clear hb); (try clear hkp); (try clear hy0); have hcz114_0 : w113.cell? ⟨gb340, 0, none⟩ = some (.int .i64 t333) := (blk_cell BK340.out 0).trans rfl; have hcz114_1 : w113.cell? ⟨gb340, 1, none⟩ = some (.int .i64 t334) := (blk_cell BK340.out 1).trans rfl; have hcz114_2 : w113.cell? ⟨gb340, 2, none⟩ = some (.int .i64 t335) := (blk_cell BK340.out 2).trans rfl; have hcz114_3 : w113.cell? ⟨gb340, 3, none⟩ = some (.slice Ao24 t336.length co24) := (blk_cell BK340.out 3).trans rfl; have hfz114_0 := blk_frozen BK340.out 0; have hfz114_1 := blk_frozen BK340.out 1; have hfz114_2 := blk_frozen BK340.out 2; have hfz114_3 := blk_frozen BK340.out 3) | ((with_reducible refine gate_callee (f := 12) rfl ?_); refine goesL_ (some 79) rfl rfl Try.func12 (by kernel_rfl) rfl #[.agg #[.int .i64 t333, .int .i64 t334, .int .i64 t335, .slice Ao24 t350.length co24], .int .i64 1] rfl (by (try simp only [List.map_toArray, List.map_cons, List.map_nil]); first | done | (rw [show t350.length = t336.length from (Kd.R_reads' HO_341003.out).1.symm] <;> rfl) | rfl | (simp only [List.length_drop, List.length_take]; rfl)) ?_; (with_reducible refine (laws_heldDisplaced.calls kj39 t333 t334 t335 _ _ t350 1 t351 _ ?side1 ?side2 A57.out).mono ?_); (case side1 => exact uD HO_341003); (case side2 => rw [show t350.length = t336.length from (Kd.R_reads' HO_341003.out).1.symm]; exact (Kd.R_reads' HO_341003.out).2.1); rintro e w115 ⟨rfl, hb⟩; refine ⟨_, rfl, ?_⟩; have n0_ := Aside0.mk (Kd.R_below (uR HO_330003) hb); have n1_ := Aside0.mk (Kd.R_below (uR HO_341003) hb); have n2_ := Aside0.mk (blk_below (g := gb329) (o := .cells #[.int .i64 t322, .int .i64 t323, .int .i64 t324, .slice Ao17 t325.length co17] 26 (0, 0)) (uK BK329) hb); have n3_ := Aside0.mk (blk_below (g := gb340) (o := .cells #[.int .i64 t333, .int .i64 t334, .int .i64 t335, .slice Ao24 t336.length co24] 26 (0, 0)) (uK BK340) hb); have n4_ := Aside0.mk (below_step (by first | exact uB HB | exact uS HB (gC GE329 (gC GE340 gN))) hb); clear HO_330003 HO_341003 BK329 BK340 HB; have HO_330003 := n0_; have HO_341003 := n1_; have BK329 := n2_; have BK340 := n3_; have HB := n4_; clear n0_ n1_ n2_ n3_ n4_; (try clear hb); (try clear hb2); (try clear hk); (try clear hi)))
           go_ret
           exact ⟨by first | rfl | (simp [errW_none, errW_some] <;> rfl) | (simp [*, errW_none, errW_some] <;> rfl), by first | exact uB HB | exact uS HB (gC GE329 (gC GE340 gN))⟩
     ·
      replace c38 := Bool.eq_false_iff.mpr c38
      subst c38
      have H1 : (some false) = some r := by rw [if_neg (show ¬ (false = true) by decide)] at H; exact H
      clear H
      have H := H1
      clear H1
      obtain rfl := Option.some.inj H
      go_wp2_with (first | ((with_reducible refine gate_callee (f := 6) rfl ?_); refine goesL_ (some 55) rfl rfl Try.func6 (by kernel_rfl) rfl #[.slice A1 l1.length c1] rfl (by (try simp only [List.map_toArray, List.map_cons, List.map_nil]); first | done | rfl | (simp only [List.length_drop, List.length_take]; rfl)) ?_; (with_reducible refine (laws_toStringS.calls kj10 _ _ l1 t342 _ ?side1 ?side2 A36.out).mono ?_); (case side1 => exact uC HR1 HB); (case side2 => exact HC1.out); rintro e w116 ⟨v343, rfl, ho0, hb⟩; refine ⟨_, rfl, ?_⟩; have n0_ := Aside0.mk (Kd.R_elder' (uR HO_12) (Kd.R_base ho0) hb); have n1_ := Aside0.mk (Kd.R_below (uR HO_330003) hb); have n2_ := Aside0.mk (Kd.R_below (uR HO_341003) hb); have n3_ := Aside0.mk (Kd.R_lower (Kd.R_new' ho0 (Kd.R_lt (uR HO_12))) (below_size (by first | exact uB HB | exact uS HB (gC GE329 (gC GE340 gN))))); have n4_ := Aside0.mk (blk_below (g := gb329) (o := .cells #[.int .i64 t322, .int .i64 t323, .int .i64 t324, .slice Ao17 t325.length co17] 26 (0, 0)) (uK BK329) hb); have n5_ := Aside0.mk (blk_below (g := gb340) (o := .cells #[.int .i64 t333, .int .i64 t334, .int .i64 t335, .slice Ao24 t336.length co24] 26 (0, 0)) (uK BK340) hb); have n6_ := Aside0.mk (below_step (by first | exact uB HB | exact uS HB (gC GE329 (gC GE340 gN))) hb); clear HO_12 HO_330003 HO_341003 BK329 BK340 HB; have HO_12 := n0_; have HO_330003 := n1_; have HO_341003 := n2_; have HO344 := n3_; have BK329 := n4_; have BK340 := n5_; have HB := n6_; clear n0_ n1_ n2_ n3_ n4_ n5_ n6_; (try clear hb); (try clear hb2); (try clear hk); (try clear hi); (try clear ho0); obtain ⟨Ao117, co117, eo117⟩ := Kd.R_slice HO344.out; subst eo117) | ((with_reducible refine gate_callee (f := 9) rfl ?_); refine goesL_ (some 56) rfl rfl Try.func9 (by kernel_rfl) rfl #[.slice Ao19 t330.length co19, .slice Ao117 t342.length co117] rfl (by (try simp only [List.map_toArray, List.map_cons, List.map_nil]); first | done | rfl | (simp only [List.length_drop, List.length_take]; rfl)) ?_; (with_reducible refine (laws_eqStringS.calls kj10 _ _ t330 _ _ t342 false _ ?side1 ?side2 ?side3 ?side4 A37.out).mono ?_); (case side1 => exact uD HO_12); (case side2 => exact (Kd.R_reads' HO_12.out).2.1); (case side3 => exact uD HO344); (case side4 => exact (Kd.R_reads' HO344.out).2.1); rintro e w' ⟨rfl, ⟨nd, rfl⟩⟩; refine ⟨_, rfl, ?_⟩))
      go_ret
      exact ⟨by first | rfl | (simp [errW_none, errW_some] <;> rfl) | (simp [*, errW_none, errW_some] <;> rfl), by first | exact uB HB | exact uS HB (gC GE329 (gC GE340 gN))⟩

end Go.Proofs.Ytohfcpekgdbobaa.PFnExactBuildDisplaced
