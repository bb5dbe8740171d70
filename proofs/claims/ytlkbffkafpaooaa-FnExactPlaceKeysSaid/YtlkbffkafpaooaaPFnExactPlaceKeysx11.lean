-- made by wip/tools/myprint.py over the kit's print, for this claim
import Derived.Test.YtlkbffkafpaooaaPFnExactPlaceKeysx0
import Derived.Test.YtlkbffkafpaooaaPFnExactPlaceKeysx1
import Derived.Test.YtlkbffkafpaooaaPFnExactPlaceKeysx2
import Derived.Test.YtlkbffkafpaooaaPFnExactPlaceKeysx6
import Derived.Test.YtlkbffkafpaooaaPFnExactPlaceKeysx10
namespace Go.Proofs.Ytlkbffkafpaooaa.PFnExactPlaceKeys
open Go.RowKit Go.Proofs.YtlkbffkafpaooaaW.PrintWords Go.Proofs.YtlkbffkafpaooaaW.PrintLast Go.Proofs.YtlkbffkafpaooaaW.PrintMore
attribute [local go_sem] max2_int min2_int max_two min_two max_three min_three max_four min_four   -- for this text's walks alone
set_option linter.unusedVariables false
set_option linter.unusedSimpArgs false

/-! ### laws_FnExactPlaceKeys: function 9 -/
mutual
def laws_FnExactPlaceKeys.j0 : Nat → Int → List ByteArray → Int → List Int → Bool → List ByteArray → List Int → Bool → Bool → Option (Bool)
 | 0, _, _, _, _, _, _, _, _, _ => none
 | k + 1, x0, x1, x2, x8, x9, x10, x11, x12, x48 => if x48 = true then (some false) else ((laws_toStringS.f k x1).bind fun t301 => ((laws_eqStringS.f k x10 t301).bind fun t304 => (if t304 = true then ((laws_markStringS.f k x10 1).bind fun bt305 => (if bt305.1 < 0 then (laws_FnExactPlaceKeys.j1 k x0 x1 x2 x8 x9 x11 true) else ((laws_eqIntS.f k x11 x8).bind fun t307 => (if t307 = true then (laws_FnExactPlaceKeys.j1 k x0 x1 x2 x8 x9 x11 (x12 != x9)) else (laws_FnExactPlaceKeys.j1 k x0 x1 x2 x8 x9 x11 true))))) else (some false))))
def laws_FnExactPlaceKeys.j1 : Nat → Int → List ByteArray → Int → List Int → Bool → List Int → Bool → Option (Bool)
 | 0, _, _, _, _, _, _, _ => none
 | k + 1, x0, x1, x2, x8, x9, x11, x69 => if x69 = true then (some false) else ((laws_markIntS.f k x11 1).bind fun bt308 => ((laws_heldIntS.f k bt308.2 1).bind fun t310 => (if t310 < 0 then (some false) else (if t310 = bt308.1 then ((laws_toStringS.f k x1).bind fun t311 => ((impl_PlaceKeys.f k x0 t311 x2).bind fun bt314 => ((laws_eqIntS.f k bt314.1 x8).bind fun t318 => (if t318 = true then (laws_FnExactPlaceKeys.j2 k bt308.2 bt308.1 (bt314.2 != x9)) else (laws_FnExactPlaceKeys.j2 k bt308.2 bt308.1 true))))) else (some false)))))
def laws_FnExactPlaceKeys.j2 : Nat → List Int → Int → Bool → Option (Bool)
 | 0, _, _, _ => none
 | k + 1, x11, x14, x97 => if x97 = true then (some false) else ((laws_heldIntS.f k x11 1).bind fun t319 => (if t319 < 0 then (some false) else (if t319 = x14 then (some true) else (some false))))
end
def laws_FnExactPlaceKeys.f (k : Nat) (a0 : Int) (l1 : List ByteArray) (a2 : Int) : Option (Bool) := (laws_szStringS.f k l1 1048576).bind fun t285 => (if t285 < 0 then (some true) else ((laws_toStringS.f k l1).bind fun t286 => ((spec_PlaceKeys.f k a0 t286 a2).bind fun bt289 => ((laws_toStringS.f k l1).bind fun t293 => ((impl_PlaceKeys.f k a0 t293 a2).bind fun bt296 => ((laws_eqIntS.f k bt296.1 bt289.1).bind fun t300 => (if t300 = true then (laws_FnExactPlaceKeys.j0 k a0 l1 a2 bt289.1 bt289.2 t293 bt296.1 bt296.2 (bt296.2 != bt289.2)) else (laws_FnExactPlaceKeys.j0 k a0 l1 a2 bt289.1 bt289.2 t293 bt296.1 bt296.2 true))))))))
theorem laws_FnExactPlaceKeys.mono_l : ∀ k, (∀ y0 y1 y2 y3 y4 y5 y6 y7 y8, LeO (laws_FnExactPlaceKeys.j0 k y0 y1 y2 y3 y4 y5 y6 y7 y8) (laws_FnExactPlaceKeys.j0 (k + 1) y0 y1 y2 y3 y4 y5 y6 y7 y8)) ∧ (∀ y0 y1 y2 y3 y4 y5 y6, LeO (laws_FnExactPlaceKeys.j1 k y0 y1 y2 y3 y4 y5 y6) (laws_FnExactPlaceKeys.j1 (k + 1) y0 y1 y2 y3 y4 y5 y6)) ∧ (∀ y0 y1 y2, LeO (laws_FnExactPlaceKeys.j2 k y0 y1 y2) (laws_FnExactPlaceKeys.j2 (k + 1) y0 y1 y2))
 | 0 => ⟨fun _ _ _ _ _ _ _ _ _ r h => by simp [laws_FnExactPlaceKeys.j0] at h, fun _ _ _ _ _ _ _ r h => by simp [laws_FnExactPlaceKeys.j1] at h, fun _ _ _ r h => by simp [laws_FnExactPlaceKeys.j2] at h⟩
 | k + 1 => by
  obtain ⟨ih0, ih1, ih2⟩ := laws_FnExactPlaceKeys.mono_l k
  refine ⟨?_, ?_, ?_⟩
  ·
   intro y0 y1 y2 y3 y4 y5 y6 y7 y8
   unfold laws_FnExactPlaceKeys.j0
   repeat' first
   | (with_reducible exact ih0 _ _ _ _ _ _ _ _ _)
   | (with_reducible exact ih1 _ _ _ _ _ _ _)
   | (with_reducible exact ih2 _ _ _)
   | (with_reducible exact impl_PlaceKeys.mono _ _ _ _)
   | (with_reducible exact laws_eqIntS.mono _ _ _)
   | (with_reducible exact laws_eqStringS.mono _ _ _)
   | (with_reducible exact laws_heldIntS.mono _ _ _)
   | (with_reducible exact laws_markIntS.mono _ _ _)
   | (with_reducible exact laws_markStringS.mono _ _ _)
   | (with_reducible exact laws_szStringS.mono _ _ _)
   | (with_reducible exact laws_toStringS.mono _ _)
   | (with_reducible exact spec_PlaceKeys.mono _ _ _ _)
   | (with_reducible exact LeO.refl _)
   | (with_reducible exact LeO.none _)
   | (with_reducible refine LeO.ite ?_ ?_)
   | (with_reducible refine LeO.bind ?_ (fun _ => ?_))
   | exact ih0 _ _ _ _ _ _ _ _ _
   | exact ih1 _ _ _ _ _ _ _
   | exact ih2 _ _ _
   | exact impl_PlaceKeys.mono _ _ _ _
   | exact laws_eqIntS.mono _ _ _
   | exact laws_eqStringS.mono _ _ _
   | exact laws_heldIntS.mono _ _ _
   | exact laws_markIntS.mono _ _ _
   | exact laws_markStringS.mono _ _ _
   | exact laws_szStringS.mono _ _ _
   | exact laws_toStringS.mono _ _
   | exact spec_PlaceKeys.mono _ _ _ _
   | exact LeO.none _
   | refine LeO.ite ?_ ?_
   | refine LeO.bind ?_ (fun _ => ?_)
  ·
   intro y0 y1 y2 y3 y4 y5 y6
   unfold laws_FnExactPlaceKeys.j1
   repeat' first
   | (with_reducible exact ih0 _ _ _ _ _ _ _ _ _)
   | (with_reducible exact ih1 _ _ _ _ _ _ _)
   | (with_reducible exact ih2 _ _ _)
   | (with_reducible exact impl_PlaceKeys.mono _ _ _ _)
   | (with_reducible exact laws_eqIntS.mono _ _ _)
   | (with_reducible exact laws_eqStringS.mono _ _ _)
   | (with_reducible exact laws_heldIntS.mono _ _ _)
   | (with_reducible exact laws_markIntS.mono _ _ _)
   | (with_reducible exact laws_markStringS.mono _ _ _)
   | (with_reducible exact laws_szStringS.mono _ _ _)
   | (with_reducible exact laws_toStringS.mono _ _)
   | (with_reducible exact spec_PlaceKeys.mono _ _ _ _)
   | (with_reducible exact LeO.refl _)
   | (with_reducible exact LeO.none _)
   | (with_reducible refine LeO.ite ?_ ?_)
   | (with_reducible refine LeO.bind ?_ (fun _ => ?_))
   | exact ih0 _ _ _ _ _ _ _ _ _
   | exact ih1 _ _ _ _ _ _ _
   | exact ih2 _ _ _
   | exact impl_PlaceKeys.mono _ _ _ _
   | exact laws_eqIntS.mono _ _ _
   | exact laws_eqStringS.mono _ _ _
   | exact laws_heldIntS.mono _ _ _
   | exact laws_markIntS.mono _ _ _
   | exact laws_markStringS.mono _ _ _
   | exact laws_szStringS.mono _ _ _
   | exact laws_toStringS.mono _ _
   | exact spec_PlaceKeys.mono _ _ _ _
   | exact LeO.none _
   | refine LeO.ite ?_ ?_
   | refine LeO.bind ?_ (fun _ => ?_)
  ·
   intro y0 y1 y2
   unfold laws_FnExactPlaceKeys.j2
   repeat' first
   | (with_reducible exact ih0 _ _ _ _ _ _ _ _ _)
   | (with_reducible exact ih1 _ _ _ _ _ _ _)
   | (with_reducible exact ih2 _ _ _)
   | (with_reducible exact impl_PlaceKeys.mono _ _ _ _)
   | (with_reducible exact laws_eqIntS.mono _ _ _)
   | (with_reducible exact laws_eqStringS.mono _ _ _)
   | (with_reducible exact laws_heldIntS.mono _ _ _)
   | (with_reducible exact laws_markIntS.mono _ _ _)
   | (with_reducible exact laws_markStringS.mono _ _ _)
   | (with_reducible exact laws_szStringS.mono _ _ _)
   | (with_reducible exact laws_toStringS.mono _ _)
   | (with_reducible exact spec_PlaceKeys.mono _ _ _ _)
   | (with_reducible exact LeO.refl _)
   | (with_reducible exact LeO.none _)
   | (with_reducible refine LeO.ite ?_ ?_)
   | (with_reducible refine LeO.bind ?_ (fun _ => ?_))
   | exact ih0 _ _ _ _ _ _ _ _ _
   | exact ih1 _ _ _ _ _ _ _
   | exact ih2 _ _ _
   | exact impl_PlaceKeys.mono _ _ _ _
   | exact laws_eqIntS.mono _ _ _
   | exact laws_eqStringS.mono _ _ _
   | exact laws_heldIntS.mono _ _ _
   | exact laws_markIntS.mono _ _ _
   | exact laws_markStringS.mono _ _ _
   | exact laws_szStringS.mono _ _ _
   | exact laws_toStringS.mono _ _
   | exact spec_PlaceKeys.mono _ _ _ _
   | exact LeO.none _
   | refine LeO.ite ?_ ?_
   | refine LeO.bind ?_ (fun _ => ?_)
theorem laws_FnExactPlaceKeys.mono : ∀ a0 a1 a2 k, LeO (laws_FnExactPlaceKeys.f k a0 a1 a2) (laws_FnExactPlaceKeys.f (k + 1) a0 a1 a2) := by
 intro a0 a1 a2 k
 obtain ⟨ih0, ih1, ih2⟩ := laws_FnExactPlaceKeys.mono_l k
 unfold laws_FnExactPlaceKeys.f
 repeat' first
   | (with_reducible exact ih0 _ _ _ _ _ _ _ _ _)
   | (with_reducible exact ih1 _ _ _ _ _ _ _)
   | (with_reducible exact ih2 _ _ _)
   | (with_reducible exact impl_PlaceKeys.mono _ _ _ _)
   | (with_reducible exact laws_eqIntS.mono _ _ _)
   | (with_reducible exact laws_eqStringS.mono _ _ _)
   | (with_reducible exact laws_heldIntS.mono _ _ _)
   | (with_reducible exact laws_markIntS.mono _ _ _)
   | (with_reducible exact laws_markStringS.mono _ _ _)
   | (with_reducible exact laws_szStringS.mono _ _ _)
   | (with_reducible exact laws_toStringS.mono _ _)
   | (with_reducible exact spec_PlaceKeys.mono _ _ _ _)
   | (with_reducible exact LeO.refl _)
   | (with_reducible exact LeO.none _)
   | (with_reducible refine LeO.ite ?_ ?_)
   | (with_reducible refine LeO.bind ?_ (fun _ => ?_))
   | exact ih0 _ _ _ _ _ _ _ _ _
   | exact ih1 _ _ _ _ _ _ _
   | exact ih2 _ _ _
   | exact impl_PlaceKeys.mono _ _ _ _
   | exact laws_eqIntS.mono _ _ _
   | exact laws_eqStringS.mono _ _ _
   | exact laws_heldIntS.mono _ _ _
   | exact laws_markIntS.mono _ _ _
   | exact laws_markStringS.mono _ _ _
   | exact laws_szStringS.mono _ _ _
   | exact laws_toStringS.mono _ _
   | exact spec_PlaceKeys.mono _ _ _ _
   | exact LeO.none _
   | refine LeO.ite ?_ ?_
   | refine LeO.bind ?_ (fun _ => ?_)
set_option maxHeartbeats 8000000 in
set_option maxRecDepth 100000 in
theorem laws_FnExactPlaceKeys.calls (k : Nat) (a0 : Int) (A1 : Option Addr) (c1 : Nat) (l1 : List ByteArray) (a2 : Int) (r : Bool) (w : World) (hr1 : Kd.C Kd.string w A1 l1.length l1) (hc1 : l1.length ≤ c1) (h : laws_FnExactPlaceKeys.f k a0 l1 a2 = some r) :
  Calls Try.prog 9 #[.int .i64 a0, .slice A1 l1.length c1, .int .i64 a2] w fun e w' => e = .returned (.bool r) ∧ Below w.heap.size w w' := by
 have HR1 := Aside0.mk hr1
 have HC1 := Aside0.mk hc1
 clear hr1 hc1
 have HB := Aside0.mk (Below.refl w.heap.size w)
 have H : ((laws_szStringS.f k l1 1048576).bind fun t285 => (if t285 < 0 then (some true) else ((laws_toStringS.f k l1).bind fun t286 => ((spec_PlaceKeys.f k a0 t286 a2).bind fun bt289 => ((laws_toStringS.f k l1).bind fun t293 => ((impl_PlaceKeys.f k a0 t293 a2).bind fun bt296 => ((laws_eqIntS.f k bt296.1 bt289.1).bind fun t300 => (if t300 = true then (laws_FnExactPlaceKeys.j0 k a0 l1 a2 bt289.1 bt289.2 t293 bt296.1 bt296.2 (bt296.2 != bt289.2)) else (laws_FnExactPlaceKeys.j0 k a0 l1 a2 bt289.1 bt289.2 t293 bt296.1 bt296.2 true))))))))) = some r := h
 clear h
 replace H := Option.bind_eq_some_iff.mp H
 obtain ⟨t285, A40, H⟩ := H
 replace H : (if t285 < 0 then (some true) else ((laws_toStringS.f k l1).bind fun t286 => ((spec_PlaceKeys.f k a0 t286 a2).bind fun bt289 => ((laws_toStringS.f k l1).bind fun t293 => ((impl_PlaceKeys.f k a0 t293 a2).bind fun bt296 => ((laws_eqIntS.f k bt296.1 bt289.1).bind fun t300 => (if t300 = true then (laws_FnExactPlaceKeys.j0 k a0 l1 a2 bt289.1 bt289.2 t293 bt296.1 bt296.2 (bt296.2 != bt289.2)) else (laws_FnExactPlaceKeys.j0 k a0 l1 a2 bt289.1 bt289.2 t293 bt296.1 bt296.2 true)))))))) = some r := H
 have A4 := Aside0.mk A40
 clear A40
 by_cases c5 : t285 < 0
 ·
  rw [if_pos c5] at H
  have c5b0 : decide (t285 < 0) = true := decide_eq_true c5
  clear c5
  obtain rfl := Option.some.inj H
  go_enter Try.func9, Try.ntmps9
  go_wp2_with (first | ((with_reducible refine gate_callee (f := 10) rfl ?_); refine goesL_ (some 20) rfl rfl Try.func10 (by kernel_rfl) rfl #[.slice A1 l1.length c1, .int .i64 1048576] rfl (by (try simp only [List.map_toArray, List.map_cons, List.map_nil]); first | done | rfl | (simp only [List.length_drop, List.length_take]; rfl)) ?_; (with_reducible refine (laws_szStringS.calls k _ _ l1 1048576 t285 _ ?side1 ?side2 A4.out).mono ?_); (case side1 => repeat (first | exact HR1.out | (with_reducible refine Kd.C_alloc ?_ _) | (with_reducible refine Kd.C_drewN ?_ _) | (with_reducible refine Kd.C_drew ?_))); (case side2 => exact HC1.out); rintro e w' ⟨rfl, ⟨nd, rfl⟩⟩; refine ⟨_, rfl, ?_⟩))
  go_ret
  exact ⟨by first | rfl | (simp [errW_none, errW_some] <;> rfl) | (simp [*, errW_none, errW_some] <;> rfl), uB HB⟩
 ·
  rw [if_neg c5] at H
  have c5b0 : decide (t285 < 0) = false := decide_eq_false c5
  clear c5
  replace H := Option.bind_eq_some_iff.mp H
  obtain ⟨t286, A60, H⟩ := H
  replace H : ((spec_PlaceKeys.f k a0 t286 a2).bind fun bt289 => ((laws_toStringS.f k l1).bind fun t293 => ((impl_PlaceKeys.f k a0 t293 a2).bind fun bt296 => ((laws_eqIntS.f k bt296.1 bt289.1).bind fun t300 => (if t300 = true then (laws_FnExactPlaceKeys.j0 k a0 l1 a2 bt289.1 bt289.2 t293 bt296.1 bt296.2 (bt296.2 != bt289.2)) else (laws_FnExactPlaceKeys.j0 k a0 l1 a2 bt289.1 bt289.2 t293 bt296.1 bt296.2 true)))))) = some r := H
  have A6 := Aside0.mk A60
  clear A60
  replace H := Option.bind_eq_some_iff.mp H
  obtain ⟨⟨t289, t290⟩, A70, H⟩ := H
  replace H : ((laws_toStringS.f k l1).bind fun t293 => ((impl_PlaceKeys.f k a0 t293 a2).bind fun bt296 => ((laws_eqIntS.f k bt296.1 t289).bind fun t300 => (if t300 = true then (laws_FnExactPlaceKeys.j0 k a0 l1 a2 t289 t290 t293 bt296.1 bt296.2 (bt296.2 != t290)) else (laws_FnExactPlaceKeys.j0 k a0 l1 a2 t289 t290 t293 bt296.1 bt296.2 true))))) = some r := H
  have A7 := Aside0.mk A70
  clear A70
  replace H := Option.bind_eq_some_iff.mp H
  obtain ⟨t293, A80, H⟩ := H
  replace H : ((impl_PlaceKeys.f k a0 t293 a2).bind fun bt296 => ((laws_eqIntS.f k bt296.1 t289).bind fun t300 => (if t300 = true then (laws_FnExactPlaceKeys.j0 k a0 l1 a2 t289 t290 t293 bt296.1 bt296.2 (bt296.2 != t290)) else (laws_FnExactPlaceKeys.j0 k a0 l1 a2 t289 t290 t293 bt296.1 bt296.2 true)))) = some r := H
  have A8 := Aside0.mk A80
  clear A80
  replace H := Option.bind_eq_some_iff.mp H
  obtain ⟨⟨t296, t297⟩, A90, H⟩ := H
  replace H : ((laws_eqIntS.f k t296 t289).bind fun t300 => (if t300 = true then (laws_FnExactPlaceKeys.j0 k a0 l1 a2 t289 t290 t293 t296 t297 (t297 != t290)) else (laws_FnExactPlaceKeys.j0 k a0 l1 a2 t289 t290 t293 t296 t297 true))) = some r := H
  have A9 := Aside0.mk A90
  clear A90
  have HC10 := Aside0.mk H
  clear H
  go_enter Try.func9, Try.ntmps9
  go_upto_region 8 with (first | ((with_reducible refine gate_callee (f := 10) rfl ?_); refine goesL_ (some 20) rfl rfl Try.func10 (by kernel_rfl) rfl #[.slice A1 l1.length c1, .int .i64 1048576] rfl (by (try simp only [List.map_toArray, List.map_cons, List.map_nil]); first | done | rfl | (simp only [List.length_drop, List.length_take]; rfl)) ?_; (with_reducible refine (laws_szStringS.calls k _ _ l1 1048576 t285 _ ?side1 ?side2 A4.out).mono ?_); (case side1 => repeat (first | exact HR1.out | (with_reducible refine Kd.C_alloc ?_ _) | (with_reducible refine Kd.C_drewN ?_ _) | (with_reducible refine Kd.C_drew ?_))); (case side2 => exact HC1.out); rintro e w' ⟨rfl, ⟨nd, rfl⟩⟩; refine ⟨_, rfl, ?_⟩) | ((with_reducible refine gate_callee (f := 12) rfl ?_); refine goesL_ (some 26) rfl rfl Try.func12 (by kernel_rfl) rfl #[.slice A1 l1.length c1] rfl (by (try simp only [List.map_toArray, List.map_cons, List.map_nil]); first | done | rfl | (simp only [List.length_drop, List.length_take]; rfl)) ?_; (with_reducible refine (laws_toStringS.calls k _ _ l1 t286 _ ?side1 ?side2 A6.out).mono ?_); (case side1 => repeat (first | exact HR1.out | (with_reducible refine Kd.C_alloc ?_ _) | (with_reducible refine Kd.C_drewN ?_ _) | (with_reducible refine Kd.C_drew ?_))); (case side2 => exact HC1.out); rintro e w11 ⟨v287, rfl, ho0, hb⟩; refine ⟨_, rfl, ?_⟩; have n0_ := Aside0.mk (Kd.R_lower ho0 (below_size (uB HB))); have n1_ := Aside0.mk (below_step (uB HB) hb); clear HB; have HO288 := n0_; have HB := n1_; clear n0_ n1_; (try clear hb); (try clear hb2); (try clear hk); (try clear hi); (try clear ho0); obtain ⟨Ao12, co12, eo12⟩ := Kd.R_slice HO288.out; subst eo12) | ((with_reducible refine gate_callee (f := 33) rfl ?_); refine goesL_ (some 28) rfl rfl Try.func33 (by kernel_rfl) rfl #[.int .i64 a0, .slice Ao12 t286.length co12, .int .i64 a2] rfl (by (try simp only [List.map_toArray, List.map_cons, List.map_nil]); first | done | rfl | (simp only [List.length_drop, List.length_take]; rfl)) ?_; (with_reducible refine (spec_PlaceKeys.calls k a0 _ _ t286 a2 t289 t290 _ ?side1 ?side2 A7.out).mono ?_); (case side1 => exact uD HO288); (case side2 => exact (Kd.R_reads' HO288.out).2.1); rintro e w13 ⟨v291, rfl, ho0, hb⟩; refine ⟨_, rfl, ?_⟩; have n0_ := Aside0.mk (Kd.R_below (uR HO288) hb); have n1_ := Aside0.mk (Kd.R_lower ho0 (below_size (uB HB))); have n2_ := Aside0.mk (below_step (uB HB) hb); clear HO288 HB; have HO288 := n0_; have HO292 := n1_; have HB := n2_; clear n0_ n1_ n2_; (try clear hb); (try clear hb2); (try clear hk); (try clear hi); (try clear ho0)) | ((with_reducible refine gate_callee (f := 12) rfl ?_); refine goesL_ (some 32) rfl rfl Try.func12 (by kernel_rfl) rfl #[.slice A1 l1.length c1] rfl (by (try simp only [List.map_toArray, List.map_cons, List.map_nil]); first | done | rfl | (simp only [List.length_drop, List.length_take]; rfl)) ?_; (with_reducible refine (laws_toStringS.calls k _ _ l1 t293 _ ?side1 ?side2 A8.out).mono ?_); (case side1 => exact uC HR1 HB); (case side2 => exact HC1.out); rintro e w14 ⟨v294, rfl, ho0, hb⟩; refine ⟨_, rfl, ?_⟩; have n0_ := Aside0.mk (Kd.R_elder' (uR HO288) (Kd.R_base ho0) hb); have n1_ := Aside0.mk (Kd.R_below (uR HO292) hb); have n2_ := Aside0.mk (Kd.R_lower (Kd.R_new' ho0 (Kd.R_lt (uR HO288))) (below_size (uB HB))); have n3_ := Aside0.mk (below_step (uB HB) hb); clear HO288 HO292 HB; have HO288 := n0_; have HO292 := n1_; have HO295 := n2_; have HB := n3_; clear n0_ n1_ n2_ n3_; (try clear hb); (try clear hb2); (try clear hk); (try clear hi); (try clear ho0); obtain ⟨Ao15, co15, eo15⟩ := Kd.R_slice HO295.out; subst eo15) | ((with_reducible refine gate_callee (f := 34) rfl ?_); refine goesL_ (some 37) rfl rfl Try.func34 (by kernel_rfl) rfl #[.int .i64 a0, .slice Ao15 t293.length co15, .int .i64 a2] rfl (by (try simp only [List.map_toArray, List.map_cons, List.map_nil]); first | done | rfl | (simp only [List.length_drop, List.length_take]; rfl)) ?_; (with_reducible refine (impl_PlaceKeys.calls k a0 _ _ t293 a2 t296 t297 _ ?side1 ?side2 A9.out).mono ?_); (case side1 => exact uD HO295); (case side2 => exact (Kd.R_reads' HO295.out).2.1); rintro e w16 ⟨v298, rfl, ho0, hb⟩; refine ⟨_, rfl, ?_⟩; have n0_ := Aside0.mk (Kd.R_below (uR HO288) hb); have n1_ := Aside0.mk (Kd.R_elder' (uR HO292) (Kd.R_base ho0) hb); have n2_ := Aside0.mk (Kd.R_below (uR HO295) hb); have n3_ := Aside0.mk (Kd.R_lower (Kd.R_new' ho0 (Kd.R_lt (uR HO292))) (below_size (uB HB))); have n4_ := Aside0.mk (below_step (uB HB) hb); clear HO288 HO292 HO295 HB; have HO288 := n0_; have HO292 := n1_; have HO295 := n2_; have HO299 := n3_; have HB := n4_; clear n0_ n1_ n2_ n3_ n4_; (try clear hb); (try clear hb2); (try clear hk); (try clear hi); (try clear ho0)))
  (try simp only [Act.put, List.setIfInBounds_toArray, List.set_cons_zero, List.set_cons_succ])
  go_cut [48] (fun v48 wc => ∃ (kq : Nat) (x48_9 : Bool), v48 = .bool x48_9 ∧ Aside0 (laws_FnExactPlaceKeys.j0 kq a0 l1 a2 t289 t290 t293 t296 t297 x48_9 = some r) ∧ Aside0 (kq ≤ k) ∧ Aside0 (Kd.R (Kd.int .i64) 3 wc w.heap.size (fun k_ => some k_ ≠ (v298 : Value).ownBlock) v291 t289) ∧ Aside0 (Kd.R Kd.string 9 wc w.heap.size (fun _ => True) (.slice Ao15 t293.length co15) t293) ∧ Aside0 (Kd.R (Kd.int .i64) 3 wc w.heap.size (fun k_ => some k_ ≠ (v291 : Value).ownBlock) v298 t296) ∧ Aside0 (Below w.heap.size w wc))
  case first =>
   have H := HC10.out
   clear HC10
   replace H := Option.bind_eq_some_iff.mp H
   obtain ⟨t300, A170, H⟩ := H
   replace H : (if t300 = true then (laws_FnExactPlaceKeys.j0 k a0 l1 a2 t289 t290 t293 t296 t297 (t297 != t290)) else (laws_FnExactPlaceKeys.j0 k a0 l1 a2 t289 t290 t293 t296 t297 true)) = some r := H
   have A17 := Aside0.mk A170
   clear A170
   by_cases c18 : t300 = true
   ·
    subst c18
    have H1 : (laws_FnExactPlaceKeys.j0 k a0 l1 a2 t289 t290 t293 t296 t297 (t297 != t290)) = some r := by rw [if_pos rfl] at H; exact H
    clear H
    have H := H1
    clear H1
    have H' := Aside0.mk H
    clear H
    obtain ⟨Ao19, co19, eo19⟩ := Kd.R_slice HO299.out
    subst eo19
    obtain ⟨Ao20, co20, eo20⟩ := Kd.R_slice HO292.out
    subst eo20
    go_wp2_with (first | ((with_reducible refine gate_callee (f := 16) rfl ?_); refine goesL_ (some 42) rfl rfl Try.func16 (by kernel_rfl) rfl #[.slice Ao19 t296.length co19, .slice Ao20 t289.length co20] rfl (by (try simp only [List.map_toArray, List.map_cons, List.map_nil]); first | done | rfl | (simp only [List.length_drop, List.length_take]; rfl)) ?_; (with_reducible refine (laws_eqIntS.calls k _ _ t296 _ _ t289 true _ ?side1 ?side2 ?side3 ?side4 A17.out).mono ?_); (case side1 => exact uD HO299); (case side2 => exact (Kd.R_reads' HO299.out).2.1); (case side3 => exact uD HO292); (case side4 => exact (Kd.R_reads' HO292.out).2.1); rintro e w' ⟨rfl, ⟨nd, rfl⟩⟩; refine ⟨_, rfl, ?_⟩))
    go_meet
    case rel => exact ⟨_, ((t297 != t290)), (by first | rfl | (simp; done) | (simp [*]; done)), H', ⟨by first | omega | exact Nat.le_refl _⟩, ⟨by (with_reducible repeat (first | apply Kd.R_alloc | apply Kd.R_drewN | apply Kd.R_drew)); exact Kd.R_mono HO292.out (fun _ hk => hk.2)⟩, ⟨by (with_reducible repeat (first | apply Kd.R_alloc | apply Kd.R_drewN | apply Kd.R_drew)); exact Kd.R_mono HO295.out (fun _ hk => trivial)⟩, ⟨by (with_reducible repeat (first | apply Kd.R_alloc | apply Kd.R_drewN | apply Kd.R_drew)); exact Kd.R_mono HO299.out (fun _ hk => hk.2)⟩, ⟨uB HB⟩⟩
   ·
    replace c18 := Bool.eq_false_iff.mpr c18
    subst c18
    have H1 : (laws_FnExactPlaceKeys.j0 k a0 l1 a2 t289 t290 t293 t296 t297 true) = some r := by rw [if_neg (show ¬ (false = true) by decide)] at H; exact H
    clear H
    have H := H1
    clear H1
    have H' := Aside0.mk H
    clear H
    obtain ⟨Ao21, co21, eo21⟩ := Kd.R_slice HO299.out
    subst eo21
    obtain ⟨Ao22, co22, eo22⟩ := Kd.R_slice HO292.out
    subst eo22
    go_wp2_with (first | ((with_reducible refine gate_callee (f := 16) rfl ?_); refine goesL_ (some 42) rfl rfl Try.func16 (by kernel_rfl) rfl #[.slice Ao21 t296.length co21, .slice Ao22 t289.length co22] rfl (by (try simp only [List.map_toArray, List.map_cons, List.map_nil]); first | done | rfl | (simp only [List.length_drop, List.length_take]; rfl)) ?_; (with_reducible refine (laws_eqIntS.calls k _ _ t296 _ _ t289 false _ ?side1 ?side2 ?side3 ?side4 A17.out).mono ?_); (case side1 => exact uD HO299); (case side2 => exact (Kd.R_reads' HO299.out).2.1); (case side3 => exact uD HO292); (case side4 => exact (Kd.R_reads' HO292.out).2.1); rintro e w' ⟨rfl, ⟨nd, rfl⟩⟩; refine ⟨_, rfl, ?_⟩))
    go_meet
    case rel => exact ⟨_, (true), (by first | rfl | (simp; done) | (simp [*]; done)), H', ⟨by first | omega | exact Nat.le_refl _⟩, ⟨by (with_reducible repeat (first | apply Kd.R_alloc | apply Kd.R_drewN | apply Kd.R_drew)); exact Kd.R_mono HO292.out (fun _ hk => hk.2)⟩, ⟨by (with_reducible repeat (first | apply Kd.R_alloc | apply Kd.R_drewN | apply Kd.R_drew)); exact Kd.R_mono HO295.out (fun _ hk => trivial)⟩, ⟨by (with_reducible repeat (first | apply Kd.R_alloc | apply Kd.R_drewN | apply Kd.R_drew)); exact Kd.R_mono HO299.out (fun _ hk => hk.2)⟩, ⟨uB HB⟩⟩
  case rest =>
   clear HC10
   try clear c1
   try clear p2
   try clear c3
   try clear c5
   try clear c5b0
   try clear c9
   try clear c10
   try clear c12
   try clear c16
   try clear c18
   obtain ⟨kq, x48_9, rfl, HA, HJ9, HO_8, HO_10, HO_11, HB⟩ := hcut
   cases kq with
   | zero => exact absurd HA.out (by simp [laws_FnExactPlaceKeys.j0])
   | succ kj9 =>
    have H := HA.out
    clear HA
    simp only [laws_FnExactPlaceKeys.j0] at H
    by_cases c23 : x48_9 = true
    ·
     subst c23
     have H1 : (some false) = some r := by rw [if_pos rfl] at H; exact H
     clear H
     have H := H1
     clear H1
     obtain rfl := Option.some.inj H
     go_wp2
     go_ret
     exact ⟨by first | rfl | (simp [errW_none, errW_some] <;> rfl) | (simp [*, errW_none, errW_some] <;> rfl), uB HB⟩
    ·
     replace c23 := Bool.eq_false_iff.mpr c23
     subst c23
     have H1 : ((laws_toStringS.f kj9 l1).bind fun t301 => ((laws_eqStringS.f kj9 t293 t301).bind fun t304 => (if t304 = true then ((laws_markStringS.f kj9 t293 1).bind fun bt305 => (if bt305.1 < 0 then (laws_FnExactPlaceKeys.j1 kj9 a0 l1 a2 t289 t290 t296 true) else ((laws_eqIntS.f kj9 t296 t289).bind fun t307 => (if t307 = true then (laws_FnExactPlaceKeys.j1 kj9 a0 l1 a2 t289 t290 t296 (t297 != t290)) else (laws_FnExactPlaceKeys.j1 kj9 a0 l1 a2 t289 t290 t296 true))))) else (some false)))) = some r := by rw [if_neg (show ¬ (false = true) by decide)] at H; exact H
     clear H
     have H := H1
     clear H1
     replace H := Option.bind_eq_some_iff.mp H
     obtain ⟨t301, A240, H⟩ := H
     replace H : ((laws_eqStringS.f kj9 t293 t301).bind fun t304 => (if t304 = true then ((laws_markStringS.f kj9 t293 1).bind fun bt305 => (if bt305.1 < 0 then (laws_FnExactPlaceKeys.j1 kj9 a0 l1 a2 t289 t290 t296 true) else ((laws_eqIntS.f kj9 t296 t289).bind fun t307 => (if t307 = true then (laws_FnExactPlaceKeys.j1 kj9 a0 l1 a2 t289 t290 t296 (t297 != t290)) else (laws_FnExactPlaceKeys.j1 kj9 a0 l1 a2 t289 t290 t296 true))))) else (some false))) = some r := H
     have A24 := Aside0.mk A240
     clear A240
     replace H := Option.bind_eq_some_iff.mp H
     obtain ⟨t304, A250, H⟩ := H
     replace H : (if t304 = true then ((laws_markStringS.f kj9 t293 1).bind fun bt305 => (if bt305.1 < 0 then (laws_FnExactPlaceKeys.j1 kj9 a0 l1 a2 t289 t290 t296 true) else ((laws_eqIntS.f kj9 t296 t289).bind fun t307 => (if t307 = true then (laws_FnExactPlaceKeys.j1 kj9 a0 l1 a2 t289 t290 t296 (t297 != t290)) else (laws_FnExactPlaceKeys.j1 kj9 a0 l1 a2 t289 t290 t296 true))))) else (some false)) = some r := H
     have A25 := Aside0.mk A250
     clear A250
     by_cases c26 : t304 = true
     ·
      subst c26
      have H1 : ((laws_markStringS.f kj9 t293 1).bind fun bt305 => (if bt305.1 < 0 then (laws_FnExactPlaceKeys.j1 kj9 a0 l1 a2 t289 t290 t296 true) else ((laws_eqIntS.f kj9 t296 t289).bind fun t307 => (if t307 = true then (laws_FnExactPlaceKeys.j1 kj9 a0 l1 a2 t289 t290 t296 (t297 != t290)) else (laws_FnExactPlaceKeys.j1 kj9 a0 l1 a2 t289 t290 t296 true))))) = some r := by rw [if_pos rfl] at H; exact H
      clear H
      have H := H1
      clear H1
      replace H := Option.bind_eq_some_iff.mp H
      obtain ⟨⟨t305, t306⟩, A270, H⟩ := H
      replace H : (if t305 < 0 then (laws_FnExactPlaceKeys.j1 kj9 a0 l1 a2 t289 t290 t296 true) else ((laws_eqIntS.f kj9 t296 t289).bind fun t307 => (if t307 = true then (laws_FnExactPlaceKeys.j1 kj9 a0 l1 a2 t289 t290 t296 (t297 != t290)) else (laws_FnExactPlaceKeys.j1 kj9 a0 l1 a2 t289 t290 t296 true)))) = some r := H
      have A27 := Aside0.mk A270
      clear A270
      have HC28 := Aside0.mk H
      clear H
      go_upto_region 14 with (first | ((with_reducible refine gate_callee (f := 12) rfl ?_); refine goesL_ (some 51) rfl rfl Try.func12 (by kernel_rfl) rfl #[.slice A1 l1.length c1] rfl (by (try simp only [List.map_toArray, List.map_cons, List.map_nil]); first | done | rfl | (simp only [List.length_drop, List.length_take]; rfl)) ?_; (with_reducible refine (laws_toStringS.calls kj9 _ _ l1 t301 _ ?side1 ?side2 A24.out).mono ?_); (case side1 => exact uC HR1 HB); (case side2 => exact HC1.out); rintro e w29 ⟨v302, rfl, ho0, hb⟩; refine ⟨_, rfl, ?_⟩; have n0_ := Aside0.mk (Kd.R_below (uR HO_8) hb); have n1_ := Aside0.mk (Kd.R_elder' (uR HO_10) (Kd.R_base ho0) hb); have n2_ := Aside0.mk (Kd.R_below (uR HO_11) hb); have n3_ := Aside0.mk (Kd.R_lower (Kd.R_new' ho0 (Kd.R_lt (uR HO_10))) (below_size (uB HB))); have n4_ := Aside0.mk (below_step (uB HB) hb); clear HO_8 HO_10 HO_11 HB; have HO_8 := n0_; have HO_10 := n1_; have HO_11 := n2_; have HO303 := n3_; have HB := n4_; clear n0_ n1_ n2_ n3_ n4_; (try clear hb); (try clear hb2); (try clear hk); (try clear hi); (try clear ho0); obtain ⟨Ao30, co30, eo30⟩ := Kd.R_slice HO303.out; subst eo30) | ((with_reducible refine gate_callee (f := 15) rfl ?_); refine goesL_ (some 52) rfl rfl Try.func15 (by kernel_rfl) rfl #[.slice Ao15 t293.length co15, .slice Ao30 t301.length co30] rfl (by (try simp only [List.map_toArray, List.map_cons, List.map_nil]); first | done | rfl | (simp only [List.length_drop, List.length_take]; rfl)) ?_; (with_reducible refine (laws_eqStringS.calls kj9 _ _ t293 _ _ t301 true _ ?side1 ?side2 ?side3 ?side4 A25.out).mono ?_); (case side1 => exact uD HO_10); (case side2 => exact (Kd.R_reads' HO_10.out).2.1); (case side3 => exact uD HO303); (case side4 => exact (Kd.R_reads' HO303.out).2.1); rintro e w' ⟨rfl, ⟨nd, rfl⟩⟩; refine ⟨_, rfl, ?_⟩) | ((with_reducible refine gate_callee (f := 25) rfl ?_); refine goesL_ (some 56) rfl rfl Try.func25 (by kernel_rfl) rfl #[.slice Ao15 t293.length co15, .int .i64 1] rfl (by (try simp only [List.map_toArray, List.map_cons, List.map_nil]); first | done | rfl | (simp only [List.length_drop, List.length_take]; rfl)) ?_; (with_reducible refine (laws_markStringS.calls kj9 (fun k_ => some k_ = (.slice Ao15 t293.length co15 : Value).ownBlock) (.slice Ao15 t293.length co15) t293 1 t305 t306 w _ ?side1 ?side2 A27.out).mono ?_); (case side1 => exact uB HB); (case side2 => exact Kd.R_tight rfl HO_10.out); rintro e w31 ⟨rfl, hy0, hb, hkp⟩; refine ⟨_, rfl, ?_⟩; have n0_ := Aside0.mk (Kd.R_mono (ok' := fun k_ => some k_ ≠ (v298 : Value).ownBlock) (Kd.R_keptB ((Kd.R_apart' HO_8.out (Kd.R_typed HO_10.out) (by decide))) hkp (fun k_ hk_ hs_ => (hk_.2) hs_)) (fun k_ hk_ => hk_.1.1)); have n1_ := Aside0.mk (Kd.R_reok rfl hy0 (fun k_ e_ => HO_10.out.1 k_ e_)); have n2_ := Aside0.mk (Kd.R_mono (ok' := fun k_ => some k_ ≠ (v291 : Value).ownBlock) (Kd.R_keptB ((Kd.R_apart' HO_11.out (Kd.R_typed HO_10.out) (by decide))) hkp (fun k_ hk_ hs_ => (hk_.2) hs_)) (fun k_ hk_ => hk_.1.1)); have n3_ := Aside0.mk (Kd.R_mono (ok' := fun k_ => some k_ ≠ (.slice Ao15 t293.length co15 : Value).ownBlock) (Kd.R_keptB (HO303.out) hkp (fun k_ hk_ hs_ => (hk_.2) hs_)) (fun k_ hk_ => hk_.1.2)); have n4_ := Aside0.mk (hb); clear HO_8 HO_10 HO_11 HO303 HB; have HO_8 := n0_; have HO_10 := n1_; have HO_11 := n2_; have HO303 := n3_; have HB := n4_; clear n0_ n1_ n2_ n3_ n4_; (try clear hb); (try clear hkp); (try clear hy0)))
      (try simp only [Act.put, List.setIfInBounds_toArray, List.set_cons_zero, List.set_cons_succ])
      go_cut [69] (fun v69 wc => ∃ (kq : Nat) (x69_27 : Bool), v69 = .bool x69_27 ∧ Aside0 (laws_FnExactPlaceKeys.j1 kq a0 l1 a2 t289 t290 t296 x69_27 = some r) ∧ Aside0 (kq ≤ kj9) ∧ Aside0 (Kd.R (Kd.int .i64) 3 wc w.heap.size (fun k_ => some k_ ≠ (v298 : Value).ownBlock) v291 t289) ∧ Aside0 (Kd.R (Kd.int .i64) 3 wc w.heap.size (fun k_ => some k_ ≠ (v291 : Value).ownBlock) v298 t296) ∧ Aside0 (Below w.heap.size w wc))
      case first =>
       have H := HC28.out
       clear HC28
       by_cases c32 : t305 < 0
       ·
        rw [if_pos c32] at H
        have c32b0 : decide (t305 < 0) = true := decide_eq_true c32
        clear c32
        (first | rw [c32b0] | (simp only [i64_w, i32_w]; rw [c32b0]) | skip)
        have H' := Aside0.mk H
        clear H
        go_wp2
        go_meet
        case rel => exact ⟨_, (true), (by first | rfl | (simp; done) | (simp [*]; done)), H', ⟨by have := HJ9.out; first | omega | exact Nat.le_refl _⟩, ⟨by (with_reducible repeat (first | apply Kd.R_alloc | apply Kd.R_drewN | apply Kd.R_drew)); exact HO_8.out⟩, ⟨by (with_reducible repeat (first | apply Kd.R_alloc | apply Kd.R_drewN | apply Kd.R_drew)); exact HO_11.out⟩, ⟨uB HB⟩⟩
       ·
        rw [if_neg c32] at H
        have c32b0 : decide (t305 < 0) = false := decide_eq_false c32
        clear c32
        (first | rw [c32b0] | (simp only [i64_w, i32_w]; rw [c32b0]) | skip)
        replace H := Option.bind_eq_some_iff.mp H
        obtain ⟨t307, A330, H⟩ := H
        replace H : (if t307 = true then (laws_FnExactPlaceKeys.j1 kj9 a0 l1 a2 t289 t290 t296 (t297 != t290)) else (laws_FnExactPlaceKeys.j1 kj9 a0 l1 a2 t289 t290 t296 true)) = some r := H
        have A33 := Aside0.mk A330
        clear A330
        by_cases c34 : t307 = true
        ·
         subst c34
         have H1 : (laws_FnExactPlaceKeys.j1 kj9 a0 l1 a2 t289 t290 t296 (t297 != t290)) = some r := by rw [if_pos rfl] at H; exact H
         clear H
         have H := H1
         clear H1
         have H' := Aside0.mk H
         clear H
         obtain ⟨Ao35, co35, eo35⟩ := Kd.R_slice HO_11.out
         subst eo35
         obtain ⟨Ao36, co36, eo36⟩ := Kd.R_slice HO_8.out
         subst eo36
         go_wp2_with (first | (go_at_call 16; (with_reducible refine (laws_eqIntS.calls kj9 _ _ t296 _ _ t289 true _ ?side1 ?side2 ?side3 ?side4 A33.out).mono ?_); (case side1 => exact uD HO_11); (case side2 => exact (Kd.R_reads' HO_11.out).2.1); (case side3 => exact uD HO_8); (case side4 => exact (Kd.R_reads' HO_8.out).2.1); rintro e w' ⟨rfl, ⟨nd, rfl⟩⟩))
         go_meet
         case rel => exact ⟨_, ((t297 != t290)), (by first | rfl | (simp; done) | (simp [*]; done)), H', ⟨by have := HJ9.out; first | omega | exact Nat.le_refl _⟩, ⟨by (with_reducible repeat (first | apply Kd.R_alloc | apply Kd.R_drewN | apply Kd.R_drew)); exact HO_8.out⟩, ⟨by (with_reducible repeat (first | apply Kd.R_alloc | apply Kd.R_drewN | apply Kd.R_drew)); exact HO_11.out⟩, ⟨uB HB⟩⟩
        ·
         replace c34 := Bool.eq_false_iff.mpr c34
         subst c34
         have H1 : (laws_FnExactPlaceKeys.j1 kj9 a0 l1 a2 t289 t290 t296 true) = some r := by rw [if_neg (show ¬ (false = true) by decide)] at H; exact H
         clear H
         have H := H1
         clear H1
         have H' := Aside0.mk H
         clear H
         obtain ⟨Ao37, co37, eo37⟩ := Kd.R_slice HO_11.out
         subst eo37
         obtain ⟨Ao38, co38, eo38⟩ := Kd.R_slice HO_8.out
         subst eo38
         go_wp2_with (first | (go_at_call 16; (with_reducible refine (laws_eqIntS.calls kj9 _ _ t296 _ _ t289 false _ ?side1 ?side2 ?side3 ?side4 A33.out).mono ?_); (case side1 => exact uD HO_11); (case side2 => exact (Kd.R_reads' HO_11.out).2.1); (case side3 => exact uD HO_8); (case side4 => exact (Kd.R_reads' HO_8.out).2.1); rintro e w' ⟨rfl, ⟨nd, rfl⟩⟩))
         go_meet
         case rel => exact ⟨_, (true), (by first | rfl | (simp; done) | (simp [*]; done)), H', ⟨by have := HJ9.out; first | omega | exact Nat.le_refl _⟩, ⟨by (with_reducible repeat (first | apply Kd.R_alloc | apply Kd.R_drewN | apply Kd.R_drew)); exact HO_8.out⟩, ⟨by (with_reducible repeat (first | apply Kd.R_alloc | apply Kd.R_drewN | apply Kd.R_drew)); exact HO_11.out⟩, ⟨uB HB⟩⟩
      case rest =>
       clear HC28
       try clear c1
       try clear c2
       try clear p2
       try clear c3
       try clear c5
       try clear c5b0
       try clear c9
       try clear c10
       try clear c12
       try clear c15
       try clear c16
       try clear c18
       try clear c23
       try clear c25
       try clear c26
       try clear c32
       try clear c32b0
       try clear c33
       try clear c34
       try clear p2
       obtain ⟨kq, x69_27, rfl, HA, HJ27, HO_8, HO_11, HB⟩ := hcut
       cases kq with
       | zero => exact absurd HA.out (by simp [laws_FnExactPlaceKeys.j1])
       | succ kj27 =>
        have H := HA.out
        clear HA
        simp only [laws_FnExactPlaceKeys.j1] at H
        by_cases c39 : x69_27 = true
        ·
         subst c39
         have H1 : (some false) = some r := by rw [if_pos rfl] at H; exact H
         clear H
         have H := H1
         clear H1
         obtain rfl := Option.some.inj H
         go_wp2
         go_ret
         exact ⟨by first | rfl | (simp [errW_none, errW_some] <;> rfl) | (simp [*, errW_none, errW_some] <;> rfl), uB HB⟩
        ·
         replace c39 := Bool.eq_false_iff.mpr c39
         subst c39
         have H1 : ((laws_markIntS.f kj27 t296 1).bind fun bt308 => ((laws_heldIntS.f kj27 bt308.2 1).bind fun t310 => (if t310 < 0 then (some false) else (if t310 = bt308.1 then ((laws_toStringS.f kj27 l1).bind fun t311 => ((impl_PlaceKeys.f kj27 a0 t311 a2).bind fun bt314 => ((laws_eqIntS.f kj27 bt314.1 t289).bind fun t318 => (if t318 = true then (laws_FnExactPlaceKeys.j2 kj27 bt308.2 bt308.1 (bt314.2 != t290)) else (laws_FnExactPlaceKeys.j2 kj27 bt308.2 bt308.1 true))))) else (some false))))) = some r := by rw [if_neg (show ¬ (false = true) by decide)] at H; exact H
         clear H
         have H := H1
         clear H1
         replace H := Option.bind_eq_some_iff.mp H
         obtain ⟨⟨t308, t309⟩, A400, H⟩ := H
         replace H : ((laws_heldIntS.f kj27 t309 1).bind fun t310 => (if t310 < 0 then (some false) else (if t310 = t308 then ((laws_toStringS.f kj27 l1).bind fun t311 => ((impl_PlaceKeys.f kj27 a0 t311 a2).bind fun bt314 => ((laws_eqIntS.f kj27 bt314.1 t289).bind fun t318 => (if t318 = true then (laws_FnExactPlaceKeys.j2 kj27 t309 t308 (bt314.2 != t290)) else (laws_FnExactPlaceKeys.j2 kj27 t309 t308 true))))) else (some false)))) = some r := H
         have A40 := Aside0.mk A400
         clear A400
         replace H := Option.bind_eq_some_iff.mp H
         obtain ⟨t310, A410, H⟩ := H
         replace H : (if t310 < 0 then (some false) else (if t310 = t308 then ((laws_toStringS.f kj27 l1).bind fun t311 => ((impl_PlaceKeys.f kj27 a0 t311 a2).bind fun bt314 => ((laws_eqIntS.f kj27 bt314.1 t289).bind fun t318 => (if t318 = true then (laws_FnExactPlaceKeys.j2 kj27 t309 t308 (bt314.2 != t290)) else (laws_FnExactPlaceKeys.j2 kj27 t309 t308 true))))) else (some false))) = some r := H
         have A41 := Aside0.mk A410
         clear A410
         by_cases c42 : t310 < 0
         ·
          rw [if_pos c42] at H
          have c42b0 : decide (t310 < 0) = true := decide_eq_true c42
          clear c42
          obtain rfl := Option.some.inj H
          obtain ⟨Ao43, co43, eo43⟩ := Kd.R_slice HO_11.out
          subst eo43
          go_wp2_with (first | ((with_reducible refine gate_callee (f := 26) rfl ?_); refine goesL_ (some 72) rfl rfl Try.func26 (by kernel_rfl) rfl #[.slice Ao43 t296.length co43, .int .i64 1] rfl (by (try simp only [List.map_toArray, List.map_cons, List.map_nil]); first | done | rfl | (simp only [List.length_drop, List.length_take]; rfl)) ?_; (with_reducible refine (laws_markIntS.calls kj27 (fun k_ => some k_ = (.slice Ao43 t296.length co43 : Value).ownBlock) (.slice Ao43 t296.length co43) t296 1 t308 t309 w _ ?side1 ?side2 A40.out).mono ?_); (case side1 => exact uB HB); (case side2 => exact Kd.R_tight rfl HO_11.out); rintro e w44 ⟨rfl, hy0, hb, hkp⟩; refine ⟨_, rfl, ?_⟩; have n0_ := Aside0.mk (Kd.R_mono (ok' := fun k_ => some k_ ≠ (.slice Ao43 t296.length co43 : Value).ownBlock) (Kd.R_keptB (HO_8.out) hkp (fun k_ hk_ hs_ => (hk_) hs_)) (fun k_ hk_ => hk_.1)); have n1_ := Aside0.mk (Kd.R_reok rfl hy0 (fun k_ e_ => HO_11.out.1 k_ e_)); have n2_ := Aside0.mk (hb); clear HO_8 HO_11 HB; have HO_8 := n0_; have HO_11 := n1_; have HB := n2_; clear n0_ n1_ n2_; (try clear hb); (try clear hkp); (try clear hy0)) | ((with_reducible refine gate_callee (f := 27) rfl ?_); refine goesL_ (some 75) rfl rfl Try.func27 (by kernel_rfl) rfl #[.slice Ao43 t309.length co43, .int .i64 1] rfl (by (try simp only [List.map_toArray, List.map_cons, List.map_nil]); first | done | (rw [show t309.length = t296.length from (Kd.R_reads' HO_11.out).1.symm] <;> rfl) | rfl | (simp only [List.length_drop, List.length_take]; rfl)) ?_; (with_reducible refine (laws_heldIntS.calls kj27 _ _ t309 1 t310 _ ?side1 ?side2 A41.out).mono ?_); (case side1 => exact uD HO_11); (case side2 => rw [show t309.length = t296.length from (Kd.R_reads' HO_11.out).1.symm]; exact (Kd.R_reads' HO_11.out).2.1); rintro e w' ⟨rfl, ⟨nd, rfl⟩⟩; refine ⟨_, rfl, ?_⟩))
          go_ret
          exact ⟨by first | rfl | (simp [errW_none, errW_some] <;> rfl) | (simp [*, errW_none, errW_some] <;> rfl), uB HB⟩
         ·
          rw [if_neg c42] at H
          have c42b0 : decide (t310 < 0) = false := decide_eq_false c42
          clear c42
          by_cases c45 : t310 = t308
          ·
           rw [if_pos c45] at H
           have c45b0 : (t310 == t308) = true := beq_iff_eq.mpr c45
           have c45b1 : (t310 != t308) = false := bne_eq_false_iff_eq.mpr c45
           clear c45
           replace H := Option.bind_eq_some_iff.mp H
           obtain ⟨t311, A460, H⟩ := H
           replace H : ((impl_PlaceKeys.f kj27 a0 t311 a2).bind fun bt314 => ((laws_eqIntS.f kj27 bt314.1 t289).bind fun t318 => (if t318 = true then (laws_FnExactPlaceKeys.j2 kj27 t309 t308 (bt314.2 != t290)) else (laws_FnExactPlaceKeys.j2 kj27 t309 t308 true)))) = some r := H
           have A46 := Aside0.mk A460
           clear A460
           replace H := Option.bind_eq_some_iff.mp H
           obtain ⟨⟨t314, t315⟩, A470, H⟩ := H
           replace H : ((laws_eqIntS.f kj27 t314 t289).bind fun t318 => (if t318 = true then (laws_FnExactPlaceKeys.j2 kj27 t309 t308 (t315 != t290)) else (laws_FnExactPlaceKeys.j2 kj27 t309 t308 true))) = some r := H
           have A47 := Aside0.mk A470
           clear A470
           have HC48 := Aside0.mk H
           clear H
           obtain ⟨Ao49, co49, eo49⟩ := Kd.R_slice HO_11.out
           subst eo49
           go_upto_region 25 with (first | ((with_reducible refine gate_callee (f := 26) rfl ?_); refine goesL_ (some 72) rfl rfl Try.func26 (by kernel_rfl) rfl #[.slice Ao49 t296.length co49, .int .i64 1] rfl (by (try simp only [List.map_toArray, List.map_cons, List.map_nil]); first | done | rfl | (simp only [List.length_drop, List.length_take]; rfl)) ?_; (with_reducible refine (laws_markIntS.calls kj27 (fun k_ => some k_ = (.slice Ao49 t296.length co49 : Value).ownBlock) (.slice Ao49 t296.length co49) t296 1 t308 t309 w _ ?side1 ?side2 A40.out).mono ?_); (case side1 => exact uB HB); (case side2 => exact Kd.R_tight rfl HO_11.out); rintro e w50 ⟨rfl, hy0, hb, hkp⟩; refine ⟨_, rfl, ?_⟩; have n0_ := Aside0.mk (Kd.R_mono (ok' := fun k_ => some k_ ≠ (.slice Ao49 t296.length co49 : Value).ownBlock) (Kd.R_keptB (HO_8.out) hkp (fun k_ hk_ hs_ => (hk_) hs_)) (fun k_ hk_ => hk_.1)); have n1_ := Aside0.mk (Kd.R_reok rfl hy0 (fun k_ e_ => HO_11.out.1 k_ e_)); have n2_ := Aside0.mk (hb); clear HO_8 HO_11 HB; have HO_8 := n0_; have HO_11 := n1_; have HB := n2_; clear n0_ n1_ n2_; (try clear hb); (try clear hkp); (try clear hy0)) | ((with_reducible refine gate_callee (f := 27) rfl ?_); refine goesL_ (some 75) rfl rfl Try.func27 (by kernel_rfl) rfl #[.slice Ao49 t309.length co49, .int .i64 1] rfl (by (try simp only [List.map_toArray, List.map_cons, List.map_nil]); first | done | (rw [show t309.length = t296.length from (Kd.R_reads' HO_11.out).1.symm] <;> rfl) | rfl | (simp only [List.length_drop, List.length_take]; rfl)) ?_; (with_reducible refine (laws_heldIntS.calls kj27 _ _ t309 1 t310 _ ?side1 ?side2 A41.out).mono ?_); (case side1 => exact uD HO_11); (case side2 => rw [show t309.length = t296.length from (Kd.R_reads' HO_11.out).1.symm]; exact (Kd.R_reads' HO_11.out).2.1); rintro e w' ⟨rfl, ⟨nd, rfl⟩⟩; refine ⟨_, rfl, ?_⟩) | ((with_reducible refine gate_callee (f := 12) rfl ?_); refine goesL_ (some 84) rfl rfl Try.func12 (by kernel_rfl) rfl #[.slice A1 l1.length c1] rfl (by (try simp only [List.map_toArray, List.map_cons, List.map_nil]); first | done | rfl | (simp only [List.length_drop, List.length_take]; rfl)) ?_; (with_reducible refine (laws_toStringS.calls kj27 _ _ l1 t311 _ ?side1 ?side2 A46.out).mono ?_); (case side1 => repeat (first | exact (Kd.C_below HR1.out (uB HB)) | (with_reducible refine Kd.C_alloc ?_ _) | (with_reducible refine Kd.C_drewN ?_ _) | (with_reducible refine Kd.C_drew ?_))); (case side2 => exact HC1.out); rintro e w51 ⟨v312, rfl, ho0, hb⟩; refine ⟨_, rfl, ?_⟩; have n0_ := Aside0.mk (Kd.R_below (uR HO_8) hb); have n1_ := Aside0.mk (Kd.R_below (uR HO_11) hb); have n2_ := Aside0.mk (Kd.R_lower ho0 (below_size (uB HB))); have n3_ := Aside0.mk (below_step (uB HB) hb); clear HO_8 HO_11 HB; have HO_8 := n0_; have HO_11 := n1_; have HO313 := n2_; have HB := n3_; clear n0_ n1_ n2_ n3_; (try clear hb); (try clear hb2); (try clear hk); (try clear hi); (try clear ho0); obtain ⟨Ao52, co52, eo52⟩ := Kd.R_slice HO313.out; subst eo52) | ((with_reducible refine gate_callee (f := 34) rfl ?_); refine goesL_ (some 86) rfl rfl Try.func34 (by kernel_rfl) rfl #[.int .i64 a0, .slice Ao52 t311.length co52, .int .i64 a2] rfl (by (try simp only [List.map_toArray, List.map_cons, List.map_nil]); first | done | rfl | (simp only [List.length_drop, List.length_take]; rfl)) ?_; (with_reducible refine (impl_PlaceKeys.calls kj27 a0 _ _ t311 a2 t314 t315 _ ?side1 ?side2 A47.out).mono ?_); (case side1 => exact uD HO313); (case side2 => exact (Kd.R_reads' HO313.out).2.1); rintro e w53 ⟨v316, rfl, ho0, hb⟩; refine ⟨_, rfl, ?_⟩; have n0_ := Aside0.mk (Kd.R_elder' (uR HO_8) (Kd.R_base ho0) hb); have n1_ := Aside0.mk (Kd.R_elder' (uR HO_11) (Kd.R_base ho0) hb); have n2_ := Aside0.mk (Kd.R_below (uR HO313) hb); have n3_ := Aside0.mk (Kd.R_lower (Kd.R_new' (Kd.R_new' ho0 (Kd.R_lt (uR HO_8))) (Kd.R_lt (uR HO_11))) (below_size (uB HB))); have n4_ := Aside0.mk (below_step (uB HB) hb); clear HO_8 HO_11 HO313 HB; have HO_8 := n0_; have HO_11 := n1_; have HO313 := n2_; have HO317 := n3_; have HB := n4_; clear n0_ n1_ n2_ n3_ n4_; (try clear hb); (try clear hb2); (try clear hk); (try clear hi); (try clear ho0)))
           (try simp only [Act.put, List.setIfInBounds_toArray, List.set_cons_zero, List.set_cons_succ])
           go_cut [97] (fun v97 wc => ∃ (kq : Nat) (x97_47 : Bool), v97 = .bool x97_47 ∧ Aside0 (laws_FnExactPlaceKeys.j2 kq t309 t308 x97_47 = some r) ∧ Aside0 (kq ≤ kj27) ∧ Aside0 (Kd.R (Kd.int .i64) 3 wc w.heap.size (fun _ => True) (.slice Ao49 t296.length co49) t309) ∧ Aside0 (Below w.heap.size w wc))
           case first =>
            have H := HC48.out
            clear HC48
            replace H := Option.bind_eq_some_iff.mp H
            obtain ⟨t318, A540, H⟩ := H
            replace H : (if t318 = true then (laws_FnExactPlaceKeys.j2 kj27 t309 t308 (t315 != t290)) else (laws_FnExactPlaceKeys.j2 kj27 t309 t308 true)) = some r := H
            have A54 := Aside0.mk A540
            clear A540
            by_cases c55 : t318 = true
            ·
             subst c55
             have H1 : (laws_FnExactPlaceKeys.j2 kj27 t309 t308 (t315 != t290)) = some r := by rw [if_pos rfl] at H; exact H
             clear H
             have H := H1
             clear H1
             have H' := Aside0.mk H
             clear H
             obtain ⟨Ao56, co56, eo56⟩ := Kd.R_slice HO317.out
             subst eo56
             obtain ⟨Ao57, co57, eo57⟩ := Kd.R_slice HO_8.out
             subst eo57
             go_wp2_with (first | ((with_reducible refine gate_callee (f := 16) rfl ?_); refine goesL_ (some 91) rfl rfl Try.func16 (by kernel_rfl) rfl #[.slice Ao56 t314.length co56, .slice Ao57 t289.length co57] rfl (by (try simp only [List.map_toArray, List.map_cons, List.map_nil]); first | done | rfl | (simp only [List.length_drop, List.length_take]; rfl)) ?_; (with_reducible refine (laws_eqIntS.calls kj27 _ _ t314 _ _ t289 true _ ?side1 ?side2 ?side3 ?side4 A54.out).mono ?_); (case side1 => exact uD HO317); (case side2 => exact (Kd.R_reads' HO317.out).2.1); (case side3 => exact uD HO_8); (case side4 => exact (Kd.R_reads' HO_8.out).2.1); rintro e w' ⟨rfl, ⟨nd, rfl⟩⟩; refine ⟨_, rfl, ?_⟩))
             go_meet
             case rel => exact ⟨_, ((t315 != t290)), (by first | rfl | (simp; done) | (simp [*]; done)), H', ⟨by have := HJ9.out; have := HJ27.out; first | omega | exact Nat.le_refl _⟩, ⟨by (with_reducible repeat (first | apply Kd.R_alloc | apply Kd.R_drewN | apply Kd.R_drew)); exact Kd.R_mono HO_11.out (fun _ hk => trivial)⟩, ⟨uB HB⟩⟩
            ·
             replace c55 := Bool.eq_false_iff.mpr c55
             subst c55
             have H1 : (laws_FnExactPlaceKeys.j2 kj27 t309 t308 true) = some r := by rw [if_neg (show ¬ (false = true) by decide)] at H; exact H
             clear H
             have H := H1
             clear H1
             have H' := Aside0.mk H
             clear H
             obtain ⟨Ao58, co58, eo58⟩ := Kd.R_slice HO317.out
             subst eo58
             obtain ⟨Ao59, co59, eo59⟩ := Kd.R_slice HO_8.out
             subst eo59
             go_wp2_with (first | ((with_reducible refine gate_callee (f := 16) rfl ?_); refine goesL_ (some 91) rfl rfl Try.func16 (by kernel_rfl) rfl #[.slice Ao58 t314.length co58, .slice Ao59 t289.length co59] rfl (by (try simp only [List.map_toArray, List.map_cons, List.map_nil]); first | done | rfl | (simp only [List.length_drop, List.length_take]; rfl)) ?_; (with_reducible refine (laws_eqIntS.calls kj27 _ _ t314 _ _ t289 false _ ?side1 ?side2 ?side3 ?side4 A54.out).mono ?_); (case side1 => exact uD HO317); (case side2 => exact (Kd.R_reads' HO317.out).2.1); (case side3 => exact uD HO_8); (case side4 => exact (Kd.R_reads' HO_8.out).2.1); rintro e w' ⟨rfl, ⟨nd, rfl⟩⟩; refine ⟨_, rfl, ?_⟩))
             go_meet
             case rel => exact ⟨_, (true), (by first | rfl | (simp; done) | (simp [*]; done)), H', ⟨by have := HJ9.out; have := HJ27.out; first | omega | exact Nat.le_refl _⟩, ⟨by (with_reducible repeat (first | apply Kd.R_alloc | apply Kd.R_drewN | apply Kd.R_drew)); exact Kd.R_mono HO_11.out (fun _ hk => trivial)⟩, ⟨uB HB⟩⟩
           case rest =>
            clear HC48
            try clear c1
            try clear c2
            try clear p2
            try clear c3
            try clear c4
            try clear c5
            try clear c5b0
            try clear c9
            try clear c10
            try clear c12
            try clear c15
            try clear c16
            try clear c18
            try clear c23
            try clear c25
            try clear c26
            try clear c27
            try clear c32
            try clear c32b0
            try clear c33
            try clear c34
            try clear c39
            try clear c42
            try clear c42b0
            try clear c45
            try clear c45b0
            try clear c45b1
            try clear c55
            try clear p2
            obtain ⟨kq, x97_47, rfl, HA, HJ47, HO_11, HB⟩ := hcut
            have hl11_47 := (Kd.R_reads' HO_11.out).1
            rw [hl11_47] at HO_11
            (try simp only [hl11_47])
            cases kq with
            | zero => exact absurd HA.out (by simp [laws_FnExactPlaceKeys.j2])
            | succ kj47 =>
             have H := HA.out
             clear HA
             simp only [laws_FnExactPlaceKeys.j2] at H
             by_cases c60 : x97_47 = true
             ·
              subst c60
              have H1 : (some false) = some r := by rw [if_pos rfl] at H; exact H
              clear H
              have H := H1
              clear H1
              obtain rfl := Option.some.inj H
              go_wp2
              go_ret
              exact ⟨by first | rfl | (simp [errW_none, errW_some] <;> rfl) | (simp [*, errW_none, errW_some] <;> rfl), uB HB⟩
             ·
              replace c60 := Bool.eq_false_iff.mpr c60
              subst c60
              have H1 : ((laws_heldIntS.f kj47 t309 1).bind fun t319 => (if t319 < 0 then (some false) else (if t319 = t308 then (some true) else (some false)))) = some r := by rw [if_neg (show ¬ (false = true) by decide)] at H; exact H
              clear H
              have H := H1
              clear H1
              replace H := Option.bind_eq_some_iff.mp H
              obtain ⟨t319, A610, H⟩ := H
              replace H : (if t319 < 0 then (some false) else (if t319 = t308 then (some true) else (some false))) = some r := H
              have A61 := Aside0.mk A610
              clear A610
              by_cases c62 : t319 < 0
              ·
               rw [if_pos c62] at H
               have c62b0 : decide (t319 < 0) = true := decide_eq_true c62
               clear c62
               obtain rfl := Option.some.inj H
               go_wp2_with (first | ((with_reducible refine gate_callee (f := 27) rfl ?_); refine goesL_ (some 100) rfl rfl Try.func27 (by kernel_rfl) rfl #[.slice Ao49 t309.length co49, .int .i64 1] rfl (by (try simp only [List.map_toArray, List.map_cons, List.map_nil]); first | done | rfl | (simp only [List.length_drop, List.length_take]; rfl)) ?_; (with_reducible refine (laws_heldIntS.calls kj47 _ _ t309 1 t319 _ ?side1 ?side2 A61.out).mono ?_); (case side1 => exact uD HO_11); (case side2 => exact (Kd.R_reads' HO_11.out).2.1); rintro e w' ⟨rfl, ⟨nd, rfl⟩⟩; refine ⟨_, rfl, ?_⟩))
               go_ret
               exact ⟨by first | rfl | (simp [errW_none, errW_some] <;> rfl) | (simp [*, errW_none, errW_some] <;> rfl), uB HB⟩
              ·
               rw [if_neg c62] at H
               have c62b0 : decide (t319 < 0) = false := decide_eq_false c62
               clear c62
               by_cases c63 : t319 = t308
               ·
                rw [if_pos c63] at H
                have c63b0 : (t319 == t308) = true := beq_iff_eq.mpr c63
                have c63b1 : (t319 != t308) = false := bne_eq_false_iff_eq.mpr c63
                clear c63
                obtain rfl := Option.some.inj H
                go_wp2_with (first | ((with_reducible refine gate_callee (f := 27) rfl ?_); refine goesL_ (some 100) rfl rfl Try.func27 (by kernel_rfl) rfl #[.slice Ao49 t309.length co49, .int .i64 1] rfl (by (try simp only [List.map_toArray, List.map_cons, List.map_nil]); first | done | rfl | (simp only [List.length_drop, List.length_take]; rfl)) ?_; (with_reducible refine (laws_heldIntS.calls kj47 _ _ t309 1 t319 _ ?side1 ?side2 A61.out).mono ?_); (case side1 => exact uD HO_11); (case side2 => exact (Kd.R_reads' HO_11.out).2.1); rintro e w' ⟨rfl, ⟨nd, rfl⟩⟩; refine ⟨_, rfl, ?_⟩))
                go_ret
                exact ⟨by first | rfl | (simp [errW_none, errW_some] <;> rfl) | (simp [*, errW_none, errW_some] <;> rfl), uB HB⟩
               ·
                rw [if_neg c63] at H
                have c63b0 : (t319 == t308) = false := beq_eq_false_iff_ne.mpr c63
                have c63b1 : (t319 != t308) = true := bne_iff_ne.mpr c63
                obtain rfl := Option.some.inj H
                go_wp2_with (first | ((with_reducible refine gate_callee (f := 27) rfl ?_); refine goesL_ (some 100) rfl rfl Try.func27 (by kernel_rfl) rfl #[.slice Ao49 t309.length co49, .int .i64 1] rfl (by (try simp only [List.map_toArray, List.map_cons, List.map_nil]); first | done | rfl | (simp only [List.length_drop, List.length_take]; rfl)) ?_; (with_reducible refine (laws_heldIntS.calls kj47 _ _ t309 1 t319 _ ?side1 ?side2 A61.out).mono ?_); (case side1 => exact uD HO_11); (case side2 => exact (Kd.R_reads' HO_11.out).2.1); rintro e w' ⟨rfl, ⟨nd, rfl⟩⟩; refine ⟨_, rfl, ?_⟩))
                go_ret
                exact ⟨by first | rfl | (simp [errW_none, errW_some] <;> rfl) | (simp [*, errW_none, errW_some] <;> rfl), uB HB⟩
          ·
           rw [if_neg c45] at H
           have c45b0 : (t310 == t308) = false := beq_eq_false_iff_ne.mpr c45
           have c45b1 : (t310 != t308) = true := bne_iff_ne.mpr c45
           obtain rfl := Option.some.inj H
           obtain ⟨Ao64, co64, eo64⟩ := Kd.R_slice HO_11.out
           subst eo64
           go_wp2_with (first | ((with_reducible refine gate_callee (f := 26) rfl ?_); refine goesL_ (some 72) rfl rfl Try.func26 (by kernel_rfl) rfl #[.slice Ao64 t296.length co64, .int .i64 1] rfl (by (try simp only [List.map_toArray, List.map_cons, List.map_nil]); first | done | rfl | (simp only [List.length_drop, List.length_take]; rfl)) ?_; (with_reducible refine (laws_markIntS.calls kj27 (fun k_ => some k_ = (.slice Ao64 t296.length co64 : Value).ownBlock) (.slice Ao64 t296.length co64) t296 1 t308 t309 w _ ?side1 ?side2 A40.out).mono ?_); (case side1 => exact uB HB); (case side2 => exact Kd.R_tight rfl HO_11.out); rintro e w65 ⟨rfl, hy0, hb, hkp⟩; refine ⟨_, rfl, ?_⟩; have n0_ := Aside0.mk (Kd.R_mono (ok' := fun k_ => some k_ ≠ (.slice Ao64 t296.length co64 : Value).ownBlock) (Kd.R_keptB (HO_8.out) hkp (fun k_ hk_ hs_ => (hk_) hs_)) (fun k_ hk_ => hk_.1)); have n1_ := Aside0.mk (Kd.R_reok rfl hy0 (fun k_ e_ => HO_11.out.1 k_ e_)); have n2_ := Aside0.mk (hb); clear HO_8 HO_11 HB; have HO_8 := n0_; have HO_11 := n1_; have HB := n2_; clear n0_ n1_ n2_; (try clear hb); (try clear hkp); (try clear hy0)) | ((with_reducible refine gate_callee (f := 27) rfl ?_); refine goesL_ (some 75) rfl rfl Try.func27 (by kernel_rfl) rfl #[.slice Ao64 t309.length co64, .int .i64 1] rfl (by (try simp only [List.map_toArray, List.map_cons, List.map_nil]); first | done | (rw [show t309.length = t296.length from (Kd.R_reads' HO_11.out).1.symm] <;> rfl) | rfl | (simp only [List.length_drop, List.length_take]; rfl)) ?_; (with_reducible refine (laws_heldIntS.calls kj27 _ _ t309 1 t310 _ ?side1 ?side2 A41.out).mono ?_); (case side1 => exact uD HO_11); (case side2 => rw [show t309.length = t296.length from (Kd.R_reads' HO_11.out).1.symm]; exact (Kd.R_reads' HO_11.out).2.1); rintro e w' ⟨rfl, ⟨nd, rfl⟩⟩; refine ⟨_, rfl, ?_⟩))
           go_ret
           exact ⟨by first | rfl | (simp [errW_none, errW_some] <;> rfl) | (simp [*, errW_none, errW_some] <;> rfl), uB HB⟩
     ·
      replace c26 := Bool.eq_false_iff.mpr c26
      subst c26
      have H1 : (some false) = some r := by rw [if_neg (show ¬ (false = true) by decide)] at H; exact H
      clear H
      have H := H1
      clear H1
      obtain rfl := Option.some.inj H
      go_wp2_with (first | ((with_reducible refine gate_callee (f := 12) rfl ?_); refine goesL_ (some 51) rfl rfl Try.func12 (by kernel_rfl) rfl #[.slice A1 l1.length c1] rfl (by (try simp only [List.map_toArray, List.map_cons, List.map_nil]); first | done | rfl | (simp only [List.length_drop, List.length_take]; rfl)) ?_; (with_reducible refine (laws_toStringS.calls kj9 _ _ l1 t301 _ ?side1 ?side2 A24.out).mono ?_); (case side1 => exact uC HR1 HB); (case side2 => exact HC1.out); rintro e w66 ⟨v302, rfl, ho0, hb⟩; refine ⟨_, rfl, ?_⟩; have n0_ := Aside0.mk (Kd.R_below (uR HO_8) hb); have n1_ := Aside0.mk (Kd.R_elder' (uR HO_10) (Kd.R_base ho0) hb); have n2_ := Aside0.mk (Kd.R_below (uR HO_11) hb); have n3_ := Aside0.mk (Kd.R_lower (Kd.R_new' ho0 (Kd.R_lt (uR HO_10))) (below_size (uB HB))); have n4_ := Aside0.mk (below_step (uB HB) hb); clear HO_8 HO_10 HO_11 HB; have HO_8 := n0_; have HO_10 := n1_; have HO_11 := n2_; have HO303 := n3_; have HB := n4_; clear n0_ n1_ n2_ n3_ n4_; (try clear hb); (try clear hb2); (try clear hk); (try clear hi); (try clear ho0); obtain ⟨Ao67, co67, eo67⟩ := Kd.R_slice HO303.out; subst eo67) | ((with_reducible refine gate_callee (f := 15) rfl ?_); refine goesL_ (some 52) rfl rfl Try.func15 (by kernel_rfl) rfl #[.slice Ao15 t293.length co15, .slice Ao67 t301.length co67] rfl (by (try simp only [List.map_toArray, List.map_cons, List.map_nil]); first | done | rfl | (simp only [List.length_drop, List.length_take]; rfl)) ?_; (with_reducible refine (laws_eqStringS.calls kj9 _ _ t293 _ _ t301 false _ ?side1 ?side2 ?side3 ?side4 A25.out).mono ?_); (case side1 => exact uD HO_10); (case side2 => exact (Kd.R_reads' HO_10.out).2.1); (case side3 => exact uD HO303); (case side4 => exact (Kd.R_reads' HO303.out).2.1); rintro e w' ⟨rfl, ⟨nd, rfl⟩⟩; refine ⟨_, rfl, ?_⟩))
      go_ret
      exact ⟨by first | rfl | (simp [errW_none, errW_some] <;> rfl) | (simp [*, errW_none, errW_some] <;> rfl), uB HB⟩

end Go.Proofs.Ytlkbffkafpaooaa.PFnExactPlaceKeys
