-- made by wip/tools/myprint.py over the kit's print, for this claim
import Derived.Test.YthaicmebdgeamaaPFnExactCuckooOfx0
import Derived.Test.YthaicmebdgeamaaPFnExactCuckooOfx1
import Derived.Test.YthaicmebdgeamaaPFnExactCuckooOfx2
import Derived.Test.YthaicmebdgeamaaPFnExactCuckooOfx4
import Derived.Test.YthaicmebdgeamaaPFnExactCuckooOfx9
namespace Go.Proofs.Ythaicmebdgeamaa.PFnExactCuckooOf
open Go.RowKit Go.Proofs.YthaicmebdgeamaaW.PrintWords Go.Proofs.YthaicmebdgeamaaW.PrintLast Go.Proofs.YthaicmebdgeamaaW.PrintMore
attribute [local go_sem] max2_int min2_int max_two min_two max_three min_three max_four min_four   -- for this text's walks alone
set_option linter.unusedVariables false
set_option linter.unusedSimpArgs false

/-! ### laws_FnExactCuckooOf: function 5 -/
mutual
def laws_FnExactCuckooOf.j0 : Nat → Int → List ByteArray → Int → Int → Bool → List ByteArray → Bool → Bool → Int → List ByteArray → List ByteArray → Int → List ByteArray → List ByteArray → Option (Bool)
 | 0, _, _, _, _, _, _, _, _, _, _, _, _, _, _ => none
 | k + 1, x0, x1, x2, x3, x11, x12, x14, x52, x333000, x333001, x333002, x345000, x345001, x345002 => if x52 = true then (some false) else ((laws_toStringS.f k x1).bind fun t346 => ((laws_eqStringS.f k x12 t346).bind fun t349 => (if t349 = true then ((laws_markStringS.f k x12 1).bind fun bt350 => (if bt350.1 < 0 then (laws_FnExactCuckooOf.j1 k x0 x1 x2 x3 x11 true x333000 x333001 x333002 x345000 x345001 x345002) else ((laws_eqCuckoo.f k x345000 x345001 x345002 x333000 x333001 x333002).bind fun t352 => (if t352 = true then (laws_FnExactCuckooOf.j1 k x0 x1 x2 x3 x11 (x14 != x11) x333000 x333001 x333002 x345000 x345001 x345002) else (laws_FnExactCuckooOf.j1 k x0 x1 x2 x3 x11 true x333000 x333001 x333002 x345000 x345001 x345002))))) else (some false))))
def laws_FnExactCuckooOf.j1 : Nat → Int → List ByteArray → Int → Int → Bool → Bool → Int → List ByteArray → List ByteArray → Int → List ByteArray → List ByteArray → Option (Bool)
 | 0, _, _, _, _, _, _, _, _, _, _, _, _ => none
 | k + 1, x0, x1, x2, x3, x11, x73, x333000, x333001, x333002, x345000, x345001, x345002 => if x73 = true then (some false) else ((laws_markCuckoo.f k x345000 x345001 x345002 1).bind fun bt353 => ((laws_heldCuckoo.f k x345000 bt353.2.1 bt353.2.2 1).bind fun t356 => (if t356 < 0 then (some false) else (if t356 = bt353.1 then ((laws_toStringS.f k x1).bind fun t357 => ((impl_CuckooOf.f k x0 t357 x2 x3).bind fun bt360 => ((laws_eqCuckoo.f k bt360.1 bt360.2.1 bt360.2.2.1 x333000 x333001 x333002).bind fun t369 => (if t369 = true then (laws_FnExactCuckooOf.j2 k bt353.1 (bt360.2.2.2 != x11) x345000 bt353.2.1 bt353.2.2) else (laws_FnExactCuckooOf.j2 k bt353.1 true x345000 bt353.2.1 bt353.2.2))))) else (some false)))))
def laws_FnExactCuckooOf.j2 : Nat → Int → Bool → Int → List ByteArray → List ByteArray → Option (Bool)
 | 0, _, _, _, _, _ => none
 | k + 1, x16, x102, x345000, x345001, x345002 => if x102 = true then (some false) else ((laws_heldCuckoo.f k x345000 x345001 x345002 1).bind fun t370 => (if t370 < 0 then (some false) else (if t370 = x16 then (some true) else (some false))))
end
def laws_FnExactCuckooOf.f (k : Nat) (a0 : Int) (l1 : List ByteArray) (a2 : Int) (a3 : Int) : Option (Bool) := (laws_szStringS.f k l1 1048576).bind fun t320 => (if t320 < 0 then (some true) else ((laws_toStringS.f k l1).bind fun t321 => ((spec_CuckooOf.f k a0 t321 a2 a3).bind fun bt324 => ((laws_toStringS.f k l1).bind fun t333 => ((impl_CuckooOf.f k a0 t333 a2 a3).bind fun bt336 => ((laws_eqCuckoo.f k bt336.1 bt336.2.1 bt336.2.2.1 bt324.1 bt324.2.1 bt324.2.2.1).bind fun t345 => (if t345 = true then (laws_FnExactCuckooOf.j0 k a0 l1 a2 a3 bt324.2.2.2 t333 bt336.2.2.2 (bt336.2.2.2 != bt324.2.2.2) bt324.1 bt324.2.1 bt324.2.2.1 bt336.1 bt336.2.1 bt336.2.2.1) else (laws_FnExactCuckooOf.j0 k a0 l1 a2 a3 bt324.2.2.2 t333 bt336.2.2.2 true bt324.1 bt324.2.1 bt324.2.2.1 bt336.1 bt336.2.1 bt336.2.2.1))))))))
theorem laws_FnExactCuckooOf.mono_l : ∀ k, (∀ y0 y1 y2 y3 y4 y5 y6 y7 y8 y9 y10 y11 y12 y13, LeO (laws_FnExactCuckooOf.j0 k y0 y1 y2 y3 y4 y5 y6 y7 y8 y9 y10 y11 y12 y13) (laws_FnExactCuckooOf.j0 (k + 1) y0 y1 y2 y3 y4 y5 y6 y7 y8 y9 y10 y11 y12 y13)) ∧ (∀ y0 y1 y2 y3 y4 y5 y6 y7 y8 y9 y10 y11, LeO (laws_FnExactCuckooOf.j1 k y0 y1 y2 y3 y4 y5 y6 y7 y8 y9 y10 y11) (laws_FnExactCuckooOf.j1 (k + 1) y0 y1 y2 y3 y4 y5 y6 y7 y8 y9 y10 y11)) ∧ (∀ y0 y1 y2 y3 y4, LeO (laws_FnExactCuckooOf.j2 k y0 y1 y2 y3 y4) (laws_FnExactCuckooOf.j2 (k + 1) y0 y1 y2 y3 y4))
 | 0 => ⟨fun _ _ _ _ _ _ _ _ _ _ _ _ _ _ r h => by simp [laws_FnExactCuckooOf.j0] at h, fun _ _ _ _ _ _ _ _ _ _ _ _ r h => by simp [laws_FnExactCuckooOf.j1] at h, fun _ _ _ _ _ r h => by simp [laws_FnExactCuckooOf.j2] at h⟩
 | k + 1 => by
  obtain ⟨ih0, ih1, ih2⟩ := laws_FnExactCuckooOf.mono_l k
  refine ⟨?_, ?_, ?_⟩
  ·
   intro y0 y1 y2 y3 y4 y5 y6 y7 y8 y9 y10 y11 y12 y13
   unfold laws_FnExactCuckooOf.j0
   repeat' first
   | (with_reducible exact ih0 _ _ _ _ _ _ _ _ _ _ _ _ _ _)
   | (with_reducible exact ih1 _ _ _ _ _ _ _ _ _ _ _ _)
   | (with_reducible exact ih2 _ _ _ _ _)
   | (with_reducible exact impl_CuckooOf.mono _ _ _ _ _)
   | (with_reducible exact laws_eqCuckoo.mono _ _ _ _ _ _ _)
   | (with_reducible exact laws_eqStringS.mono _ _ _)
   | (with_reducible exact laws_heldCuckoo.mono _ _ _ _ _)
   | (with_reducible exact laws_markCuckoo.mono _ _ _ _ _)
   | (with_reducible exact laws_markStringS.mono _ _ _)
   | (with_reducible exact laws_szStringS.mono _ _ _)
   | (with_reducible exact laws_toStringS.mono _ _)
   | (with_reducible exact spec_CuckooOf.mono _ _ _ _ _)
   | (with_reducible exact LeO.refl _)
   | (with_reducible exact LeO.none _)
   | (with_reducible refine LeO.ite ?_ ?_)
   | (with_reducible refine LeO.bind ?_ (fun _ => ?_))
   | exact ih0 _ _ _ _ _ _ _ _ _ _ _ _ _ _
   | exact ih1 _ _ _ _ _ _ _ _ _ _ _ _
   | exact ih2 _ _ _ _ _
   | exact impl_CuckooOf.mono _ _ _ _ _
   | exact laws_eqCuckoo.mono _ _ _ _ _ _ _
   | exact laws_eqStringS.mono _ _ _
   | exact laws_heldCuckoo.mono _ _ _ _ _
   | exact laws_markCuckoo.mono _ _ _ _ _
   | exact laws_markStringS.mono _ _ _
   | exact laws_szStringS.mono _ _ _
   | exact laws_toStringS.mono _ _
   | exact spec_CuckooOf.mono _ _ _ _ _
   | exact LeO.none _
   | refine LeO.ite ?_ ?_
   | refine LeO.bind ?_ (fun _ => ?_)
  ·
   intro y0 y1 y2 y3 y4 y5 y6 y7 y8 y9 y10 y11
   unfold laws_FnExactCuckooOf.j1
   repeat' first
   | (with_reducible exact ih0 _ _ _ _ _ _ _ _ _ _ _ _ _ _)
   | (with_reducible exact ih1 _ _ _ _ _ _ _ _ _ _ _ _)
   | (with_reducible exact ih2 _ _ _ _ _)
   | (with_reducible exact impl_CuckooOf.mono _ _ _ _ _)
   | (with_reducible exact laws_eqCuckoo.mono _ _ _ _ _ _ _)
   | (with_reducible exact laws_eqStringS.mono _ _ _)
   | (with_reducible exact laws_heldCuckoo.mono _ _ _ _ _)
   | (with_reducible exact laws_markCuckoo.mono _ _ _ _ _)
   | (with_reducible exact laws_markStringS.mono _ _ _)
   | (with_reducible exact laws_szStringS.mono _ _ _)
   | (with_reducible exact laws_toStringS.mono _ _)
   | (with_reducible exact spec_CuckooOf.mono _ _ _ _ _)
   | (with_reducible exact LeO.refl _)
   | (with_reducible exact LeO.none _)
   | (with_reducible refine LeO.ite ?_ ?_)
   | (with_reducible refine LeO.bind ?_ (fun _ => ?_))
   | exact ih0 _ _ _ _ _ _ _ _ _ _ _ _ _ _
   | exact ih1 _ _ _ _ _ _ _ _ _ _ _ _
   | exact ih2 _ _ _ _ _
   | exact impl_CuckooOf.mono _ _ _ _ _
   | exact laws_eqCuckoo.mono _ _ _ _ _ _ _
   | exact laws_eqStringS.mono _ _ _
   | exact laws_heldCuckoo.mono _ _ _ _ _
   | exact laws_markCuckoo.mono _ _ _ _ _
   | exact laws_markStringS.mono _ _ _
   | exact laws_szStringS.mono _ _ _
   | exact laws_toStringS.mono _ _
   | exact spec_CuckooOf.mono _ _ _ _ _
   | exact LeO.none _
   | refine LeO.ite ?_ ?_
   | refine LeO.bind ?_ (fun _ => ?_)
  ·
   intro y0 y1 y2 y3 y4
   unfold laws_FnExactCuckooOf.j2
   repeat' first
   | (with_reducible exact ih0 _ _ _ _ _ _ _ _ _ _ _ _ _ _)
   | (with_reducible exact ih1 _ _ _ _ _ _ _ _ _ _ _ _)
   | (with_reducible exact ih2 _ _ _ _ _)
   | (with_reducible exact impl_CuckooOf.mono _ _ _ _ _)
   | (with_reducible exact laws_eqCuckoo.mono _ _ _ _ _ _ _)
   | (with_reducible exact laws_eqStringS.mono _ _ _)
   | (with_reducible exact laws_heldCuckoo.mono _ _ _ _ _)
   | (with_reducible exact laws_markCuckoo.mono _ _ _ _ _)
   | (with_reducible exact laws_markStringS.mono _ _ _)
   | (with_reducible exact laws_szStringS.mono _ _ _)
   | (with_reducible exact laws_toStringS.mono _ _)
   | (with_reducible exact spec_CuckooOf.mono _ _ _ _ _)
   | (with_reducible exact LeO.refl _)
   | (with_reducible exact LeO.none _)
   | (with_reducible refine LeO.ite ?_ ?_)
   | (with_reducible refine LeO.bind ?_ (fun _ => ?_))
   | exact ih0 _ _ _ _ _ _ _ _ _ _ _ _ _ _
   | exact ih1 _ _ _ _ _ _ _ _ _ _ _ _
   | exact ih2 _ _ _ _ _
   | exact impl_CuckooOf.mono _ _ _ _ _
   | exact laws_eqCuckoo.mono _ _ _ _ _ _ _
   | exact laws_eqStringS.mono _ _ _
   | exact laws_heldCuckoo.mono _ _ _ _ _
   | exact laws_markCuckoo.mono _ _ _ _ _
   | exact laws_markStringS.mono _ _ _
   | exact laws_szStringS.mono _ _ _
   | exact laws_toStringS.mono _ _
   | exact spec_CuckooOf.mono _ _ _ _ _
   | exact LeO.none _
   | refine LeO.ite ?_ ?_
   | refine LeO.bind ?_ (fun _ => ?_)
theorem laws_FnExactCuckooOf.mono : ∀ a0 a1 a2 a3 k, LeO (laws_FnExactCuckooOf.f k a0 a1 a2 a3) (laws_FnExactCuckooOf.f (k + 1) a0 a1 a2 a3) := by
 intro a0 a1 a2 a3 k
 obtain ⟨ih0, ih1, ih2⟩ := laws_FnExactCuckooOf.mono_l k
 unfold laws_FnExactCuckooOf.f
 repeat' first
   | (with_reducible exact ih0 _ _ _ _ _ _ _ _ _ _ _ _ _ _)
   | (with_reducible exact ih1 _ _ _ _ _ _ _ _ _ _ _ _)
   | (with_reducible exact ih2 _ _ _ _ _)
   | (with_reducible exact impl_CuckooOf.mono _ _ _ _ _)
   | (with_reducible exact laws_eqCuckoo.mono _ _ _ _ _ _ _)
   | (with_reducible exact laws_eqStringS.mono _ _ _)
   | (with_reducible exact laws_heldCuckoo.mono _ _ _ _ _)
   | (with_reducible exact laws_markCuckoo.mono _ _ _ _ _)
   | (with_reducible exact laws_markStringS.mono _ _ _)
   | (with_reducible exact laws_szStringS.mono _ _ _)
   | (with_reducible exact laws_toStringS.mono _ _)
   | (with_reducible exact spec_CuckooOf.mono _ _ _ _ _)
   | (with_reducible exact LeO.refl _)
   | (with_reducible exact LeO.none _)
   | (with_reducible refine LeO.ite ?_ ?_)
   | (with_reducible refine LeO.bind ?_ (fun _ => ?_))
   | exact ih0 _ _ _ _ _ _ _ _ _ _ _ _ _ _
   | exact ih1 _ _ _ _ _ _ _ _ _ _ _ _
   | exact ih2 _ _ _ _ _
   | exact impl_CuckooOf.mono _ _ _ _ _
   | exact laws_eqCuckoo.mono _ _ _ _ _ _ _
   | exact laws_eqStringS.mono _ _ _
   | exact laws_heldCuckoo.mono _ _ _ _ _
   | exact laws_markCuckoo.mono _ _ _ _ _
   | exact laws_markStringS.mono _ _ _
   | exact laws_szStringS.mono _ _ _
   | exact laws_toStringS.mono _ _
   | exact spec_CuckooOf.mono _ _ _ _ _
   | exact LeO.none _
   | refine LeO.ite ?_ ?_
   | refine LeO.bind ?_ (fun _ => ?_)
set_option maxHeartbeats 8000000 in
set_option maxRecDepth 100000 in
theorem laws_FnExactCuckooOf.calls (k : Nat) (a0 : Int) (A1 : Option Addr) (c1 : Nat) (l1 : List ByteArray) (a2 : Int) (a3 : Int) (r : Bool) (w : World) (hr1 : Kd.C Kd.string w A1 l1.length l1) (hc1 : l1.length ≤ c1) (h : laws_FnExactCuckooOf.f k a0 l1 a2 a3 = some r) :
  Calls Try.prog 5 #[.int .i64 a0, .slice A1 l1.length c1, .int .i64 a2, .int .i64 a3] w fun e w' => e = .returned (.bool r) ∧ Below w.heap.size w w' := by
 have hu26 := Try.underlying26
 have HR1 := Aside0.mk hr1
 have HC1 := Aside0.mk hc1
 clear hr1 hc1
 have HB := Aside0.mk (Below.refl w.heap.size w)
 have H : ((laws_szStringS.f k l1 1048576).bind fun t320 => (if t320 < 0 then (some true) else ((laws_toStringS.f k l1).bind fun t321 => ((spec_CuckooOf.f k a0 t321 a2 a3).bind fun bt324 => ((laws_toStringS.f k l1).bind fun t333 => ((impl_CuckooOf.f k a0 t333 a2 a3).bind fun bt336 => ((laws_eqCuckoo.f k bt336.1 bt336.2.1 bt336.2.2.1 bt324.1 bt324.2.1 bt324.2.2.1).bind fun t345 => (if t345 = true then (laws_FnExactCuckooOf.j0 k a0 l1 a2 a3 bt324.2.2.2 t333 bt336.2.2.2 (bt336.2.2.2 != bt324.2.2.2) bt324.1 bt324.2.1 bt324.2.2.1 bt336.1 bt336.2.1 bt336.2.2.1) else (laws_FnExactCuckooOf.j0 k a0 l1 a2 a3 bt324.2.2.2 t333 bt336.2.2.2 true bt324.1 bt324.2.1 bt324.2.2.1 bt336.1 bt336.2.1 bt336.2.2.1))))))))) = some r := h
 clear h
 replace H := Option.bind_eq_some_iff.mp H
 obtain ⟨t320, A50, H⟩ := H
 replace H : (if t320 < 0 then (some true) else ((laws_toStringS.f k l1).bind fun t321 => ((spec_CuckooOf.f k a0 t321 a2 a3).bind fun bt324 => ((laws_toStringS.f k l1).bind fun t333 => ((impl_CuckooOf.f k a0 t333 a2 a3).bind fun bt336 => ((laws_eqCuckoo.f k bt336.1 bt336.2.1 bt336.2.2.1 bt324.1 bt324.2.1 bt324.2.2.1).bind fun t345 => (if t345 = true then (laws_FnExactCuckooOf.j0 k a0 l1 a2 a3 bt324.2.2.2 t333 bt336.2.2.2 (bt336.2.2.2 != bt324.2.2.2) bt324.1 bt324.2.1 bt324.2.2.1 bt336.1 bt336.2.1 bt336.2.2.1) else (laws_FnExactCuckooOf.j0 k a0 l1 a2 a3 bt324.2.2.2 t333 bt336.2.2.2 true bt324.1 bt324.2.1 bt324.2.2.1 bt336.1 bt336.2.1 bt336.2.2.1)))))))) = some r := H
 have A5 := Aside0.mk A50
 clear A50
 by_cases c6 : t320 < 0
 ·
  rw [if_pos c6] at H
  have c6b0 : decide (t320 < 0) = true := decide_eq_true c6
  clear c6
  obtain rfl := Option.some.inj H
  go_enter Try.func5, Try.ntmps5
  go_wp2_with (first | ((with_reducible refine gate_callee (f := 15) rfl ?_); refine goesL_ (some 22) rfl rfl Try.func15 (by kernel_rfl) rfl #[.slice A1 l1.length c1, .int .i64 1048576] rfl (by (try simp only [List.map_toArray, List.map_cons, List.map_nil]); first | done | rfl | (simp only [List.length_drop, List.length_take]; rfl)) ?_; (with_reducible refine (laws_szStringS.calls k _ _ l1 1048576 t320 _ ?side1 ?side2 A5.out).mono ?_); (case side1 => repeat (first | exact HR1.out | (with_reducible refine Kd.C_alloc ?_ _) | (with_reducible refine Kd.C_drewN ?_ _) | (with_reducible refine Kd.C_drew ?_))); (case side2 => exact HC1.out); rintro e w' ⟨rfl, ⟨nd, rfl⟩⟩; refine ⟨_, rfl, ?_⟩))
  go_ret
  exact ⟨by first | rfl | (simp [errW_none, errW_some] <;> rfl) | (simp [*, errW_none, errW_some] <;> rfl), uB HB⟩
 ·
  rw [if_neg c6] at H
  have c6b0 : decide (t320 < 0) = false := decide_eq_false c6
  clear c6
  replace H := Option.bind_eq_some_iff.mp H
  obtain ⟨t321, A70, H⟩ := H
  replace H : ((spec_CuckooOf.f k a0 t321 a2 a3).bind fun bt324 => ((laws_toStringS.f k l1).bind fun t333 => ((impl_CuckooOf.f k a0 t333 a2 a3).bind fun bt336 => ((laws_eqCuckoo.f k bt336.1 bt336.2.1 bt336.2.2.1 bt324.1 bt324.2.1 bt324.2.2.1).bind fun t345 => (if t345 = true then (laws_FnExactCuckooOf.j0 k a0 l1 a2 a3 bt324.2.2.2 t333 bt336.2.2.2 (bt336.2.2.2 != bt324.2.2.2) bt324.1 bt324.2.1 bt324.2.2.1 bt336.1 bt336.2.1 bt336.2.2.1) else (laws_FnExactCuckooOf.j0 k a0 l1 a2 a3 bt324.2.2.2 t333 bt336.2.2.2 true bt324.1 bt324.2.1 bt324.2.2.1 bt336.1 bt336.2.1 bt336.2.2.1)))))) = some r := H
  have A7 := Aside0.mk A70
  clear A70
  replace H := Option.bind_eq_some_iff.mp H
  obtain ⟨⟨t324, t325, t328, t331⟩, A80, H⟩ := H
  replace H : ((laws_toStringS.f k l1).bind fun t333 => ((impl_CuckooOf.f k a0 t333 a2 a3).bind fun bt336 => ((laws_eqCuckoo.f k bt336.1 bt336.2.1 bt336.2.2.1 t324 t325 t328).bind fun t345 => (if t345 = true then (laws_FnExactCuckooOf.j0 k a0 l1 a2 a3 t331 t333 bt336.2.2.2 (bt336.2.2.2 != t331) t324 t325 t328 bt336.1 bt336.2.1 bt336.2.2.1) else (laws_FnExactCuckooOf.j0 k a0 l1 a2 a3 t331 t333 bt336.2.2.2 true t324 t325 t328 bt336.1 bt336.2.1 bt336.2.2.1))))) = some r := H
  have A8 := Aside0.mk A80
  clear A80
  replace H := Option.bind_eq_some_iff.mp H
  obtain ⟨t333, A90, H⟩ := H
  replace H : ((impl_CuckooOf.f k a0 t333 a2 a3).bind fun bt336 => ((laws_eqCuckoo.f k bt336.1 bt336.2.1 bt336.2.2.1 t324 t325 t328).bind fun t345 => (if t345 = true then (laws_FnExactCuckooOf.j0 k a0 l1 a2 a3 t331 t333 bt336.2.2.2 (bt336.2.2.2 != t331) t324 t325 t328 bt336.1 bt336.2.1 bt336.2.2.1) else (laws_FnExactCuckooOf.j0 k a0 l1 a2 a3 t331 t333 bt336.2.2.2 true t324 t325 t328 bt336.1 bt336.2.1 bt336.2.2.1)))) = some r := H
  have A9 := Aside0.mk A90
  clear A90
  replace H := Option.bind_eq_some_iff.mp H
  obtain ⟨⟨t336, t337, t340, t343⟩, A100, H⟩ := H
  replace H : ((laws_eqCuckoo.f k t336 t337 t340 t324 t325 t328).bind fun t345 => (if t345 = true then (laws_FnExactCuckooOf.j0 k a0 l1 a2 a3 t331 t333 t343 (t343 != t331) t324 t325 t328 t336 t337 t340) else (laws_FnExactCuckooOf.j0 k a0 l1 a2 a3 t331 t333 t343 true t324 t325 t328 t336 t337 t340))) = some r := H
  have A10 := Aside0.mk A100
  clear A100
  have HC11 := Aside0.mk H
  clear H
  go_enter Try.func5, Try.ntmps5
  go_upto_region 8 with (first | ((with_reducible refine gate_callee (f := 15) rfl ?_); refine goesL_ (some 22) rfl rfl Try.func15 (by kernel_rfl) rfl #[.slice A1 l1.length c1, .int .i64 1048576] rfl (by (try simp only [List.map_toArray, List.map_cons, List.map_nil]); first | done | rfl | (simp only [List.length_drop, List.length_take]; rfl)) ?_; (with_reducible refine (laws_szStringS.calls k _ _ l1 1048576 t320 _ ?side1 ?side2 A5.out).mono ?_); (case side1 => repeat (first | exact HR1.out | (with_reducible refine Kd.C_alloc ?_ _) | (with_reducible refine Kd.C_drewN ?_ _) | (with_reducible refine Kd.C_drew ?_))); (case side2 => exact HC1.out); rintro e w' ⟨rfl, ⟨nd, rfl⟩⟩; refine ⟨_, rfl, ?_⟩) | ((with_reducible refine gate_callee (f := 17) rfl ?_); refine goesL_ (some 28) rfl rfl Try.func17 (by kernel_rfl) rfl #[.slice A1 l1.length c1] rfl (by (try simp only [List.map_toArray, List.map_cons, List.map_nil]); first | done | rfl | (simp only [List.length_drop, List.length_take]; rfl)) ?_; (with_reducible refine (laws_toStringS.calls k _ _ l1 t321 _ ?side1 ?side2 A7.out).mono ?_); (case side1 => repeat (first | exact HR1.out | (with_reducible refine Kd.C_alloc ?_ _) | (with_reducible refine Kd.C_drewN ?_ _) | (with_reducible refine Kd.C_drew ?_))); (case side2 => exact HC1.out); rintro e w12 ⟨v322, rfl, ho0, hb⟩; refine ⟨_, rfl, ?_⟩; have n0_ := Aside0.mk (Kd.R_lower ho0 (below_size (uB HB))); have n1_ := Aside0.mk (below_step (uB HB) hb); clear HB; have HO323 := n0_; have HB := n1_; clear n0_ n1_; (try clear hb); (try clear hb2); (try clear hk); (try clear hi); (try clear ho0); obtain ⟨Ao13, co13, eo13⟩ := Kd.R_slice HO323.out; subst eo13) | ((with_reducible refine gate_callee (f := 16) rfl ?_); refine goesL_ (some 31) rfl rfl Try.func16 (by kernel_rfl) rfl #[.int .i64 a0, .slice Ao13 t321.length co13, .int .i64 a2, .int .i64 a3] rfl (by (try simp only [List.map_toArray, List.map_cons, List.map_nil]); first | done | rfl | (simp only [List.length_drop, List.length_take]; rfl)) ?_; (with_reducible refine (spec_CuckooOf.calls k a0 _ _ t321 a2 a3 t324 t325 t328 t331 _ ?side1 ?side2 A8.out).mono ?_); (case side1 => exact uD HO323); (case side2 => exact (Kd.R_reads' HO323.out).2.1); rintro e w14 ⟨v326, v329, rfl, ho0, ho1, hb⟩; refine ⟨_, rfl, ?_⟩; have n0_ := Aside0.mk (Kd.R_elder' (uR HO323) (Kd.R_base ho0) hb); have n1_ := Aside0.mk (Kd.R_lower (Kd.R_new' (Kd.R_mono (ok' := fun k_ => True) ho0 (fun _ hk_ => trivial)) (Kd.R_lt (uR HO323))) (below_size (uB HB))); have n2_ := Aside0.mk (Kd.V_lower (Kd.V_mono (ok' := fun k_ => some k_ ≠ (v326 : Value).ownBlock ∧ some k_ ≠ (.slice Ao13 t321.length co13 : Value).ownBlock) ho1 (fun k_ hk_ => ⟨hk_.2, (Kd.fresh' (Kd.R_lt (uR HO323)) k_ hk_.1)⟩)) (below_size (uB HB))); have n3_ := Aside0.mk (below_step (uB HB) hb); clear HO323 HB; have HO323 := n0_; have HO327 := n1_; have HO330 := n2_; have HB := n3_; clear n0_ n1_ n2_ n3_; (try clear hb); (try clear hb2); (try clear hk); (try clear hi); (try clear ho0); (try clear ho1)) | ((with_reducible refine gate_dst (N := 10) rfl ?_); refine box_event ?hg (N := 10) ?hd (cs := #[.int .i64 0, .slice none 0 0, .slice none 0 0]) (t := 26) ?hr ?_; (case hd => rfl); (case hg => rfl); (case hr => first | (go_simp; done) | (go_simp; rfl)); intro gb332 hg w15 hbox hb; have n0_ := Aside0.mk (Kd.R_below (uR HO323) hb); have n1_ := Aside0.mk (Kd.R_below (uR HO327) hb); have n2_ := Aside0.mk (Kd.V_below (Kd.V_elderB (by (with_reducible repeat (first | apply Kd.V_alloc | apply Kd.V_drewN | apply Kd.V_drew)); exact HO330.out) gb332 (Nat.le_of_eq hg.symm)) hb); have n3_ := Aside0.mk (below_step (uB HB) hb); have n4_ := Aside0.mk (hbox); have n5_ := Aside0.mk ((by rw [hg]; exact (below_size (uB HB)) : w.heap.size ≤ gb332)); have n6_ := Aside0.mk ((by rw [hg]; exact (below_size (uB HB)) : w.heap.size ≤ gb332)); clear HO323 HO327 HO330 HB; have HO323 := n0_; have HO327 := n1_; have HO330 := n2_; have HB := n3_; have BK332 := n4_; have GW332 := n5_; have GE332 := n6_; clear n0_ n1_ n2_ n3_ n4_ n5_ n6_ hb hbox hg; have hcz16_0 : w15.cell? ⟨gb332, 0, none⟩ = some (.int .i64 0) := (blk_cell BK332.out 0).trans rfl; have hcz16_1 : w15.cell? ⟨gb332, 1, none⟩ = some (.slice none 0 0) := (blk_cell BK332.out 1).trans rfl; have hcz16_2 : w15.cell? ⟨gb332, 2, none⟩ = some (.slice none 0 0) := (blk_cell BK332.out 2).trans rfl; have hfz16_0 := blk_frozen BK332.out 0; have hfz16_1 := blk_frozen BK332.out 1; have hfz16_2 := blk_frozen BK332.out 2; obtain ⟨Ao17, co17, eo17⟩ := Kd.R_slice HO327.out; subst eo17; obtain ⟨Ao18, co18, eo18⟩ := Kd.V_slice HO330.out; subst eo18) | ((with_reducible refine gate_callee (f := 17) rfl ?_); refine goesL_ (some 35) rfl rfl Try.func17 (by kernel_rfl) rfl #[.slice A1 l1.length c1] rfl (by (try simp only [List.map_toArray, List.map_cons, List.map_nil]); first | done | rfl | (simp only [List.length_drop, List.length_take]; rfl)) ?_; (with_reducible refine (laws_toStringS.calls k _ _ l1 t333 _ ?side1 ?side2 A9.out).mono ?_); (case side1 => exact Kd.C_below HR1.out (by first | exact uB HB | exact uS HB (gC GE332 gN))); (case side2 => exact HC1.out); rintro e w19 ⟨v334, rfl, ho0, hb⟩; refine ⟨_, rfl, ?_⟩; have n0_ := Aside0.mk (Kd.R_elder' (by (with_reducible repeat (first | apply Kd.R_alloc | apply Kd.R_drewN | apply Kd.R_drew)); exact (Kd.R_mono (Kd.R_far (p := ⟨gb332, 2, none⟩) (Kd.R_far (p := ⟨gb332, 1, none⟩) (Kd.R_far (p := ⟨gb332, 0, none⟩) (Kd.R_types HO323.out BK332.out (by decide)) (fun _ hk => hk.2) (.int .i64 t324)) (fun _ hk => hk.2) (.slice Ao17 t325.length co17)) (fun _ hk => hk.2) (.slice Ao18 t328.length co18)) (fun _ h_ => h_.1))) (Kd.R_base ho0) hb); have n1_ := Aside0.mk (Kd.R_elder' (by (with_reducible repeat (first | apply Kd.R_alloc | apply Kd.R_drewN | apply Kd.R_drew)); exact (Kd.R_mono (Kd.R_far (p := ⟨gb332, 2, none⟩) (Kd.R_far (p := ⟨gb332, 1, none⟩) (Kd.R_far (p := ⟨gb332, 0, none⟩) (Kd.R_types HO327.out BK332.out (by decide)) (fun _ hk => hk.2) (.int .i64 t324)) (fun _ hk => hk.2) (.slice Ao17 t325.length co17)) (fun _ hk => hk.2) (.slice Ao18 t328.length co18)) (fun _ h_ => h_.1))) (Kd.R_base ho0) hb); have n2_ := Aside0.mk (Kd.V_elder' (by (with_reducible repeat (first | apply Kd.V_alloc | apply Kd.V_drewN | apply Kd.V_drew)); exact (Kd.V_mono (Kd.V_far (p := ⟨gb332, 2, none⟩) (Kd.V_far (p := ⟨gb332, 1, none⟩) (Kd.V_far (p := ⟨gb332, 0, none⟩) (Kd.V_mono HO330.out (fun k_ hk => (⟨hk, hk.2⟩ : _ ∧ k_ ≠ gb332))) (fun _ hk => hk.2) (.int .i64 t324)) (fun _ hk => hk.2) (.slice Ao17 t325.length co17)) (fun _ hk => hk.2) (.slice Ao18 t328.length co18)) (fun _ h_ => h_.1))) (Kd.R_base ho0) hb); have n3_ := Aside0.mk (Kd.R_lower (Kd.R_new' (Kd.R_new' ho0 (Kd.R_lt (by (with_reducible repeat (first | apply Kd.R_alloc | apply Kd.R_drewN | apply Kd.R_drew)); exact (Kd.R_mono (Kd.R_far (p := ⟨gb332, 2, none⟩) (Kd.R_far (p := ⟨gb332, 1, none⟩) (Kd.R_far (p := ⟨gb332, 0, none⟩) (Kd.R_types HO323.out BK332.out (by decide)) (fun _ hk => hk.2) (.int .i64 t324)) (fun _ hk => hk.2) (.slice Ao17 t325.length co17)) (fun _ hk => hk.2) (.slice Ao18 t328.length co18)) (fun _ h_ => h_.1))))) (Kd.R_lt (by (with_reducible repeat (first | apply Kd.R_alloc | apply Kd.R_drewN | apply Kd.R_drew)); exact (Kd.R_mono (Kd.R_far (p := ⟨gb332, 2, none⟩) (Kd.R_far (p := ⟨gb332, 1, none⟩) (Kd.R_far (p := ⟨gb332, 0, none⟩) (Kd.R_types HO327.out BK332.out (by decide)) (fun _ hk => hk.2) (.int .i64 t324)) (fun _ hk => hk.2) (.slice Ao17 t325.length co17)) (fun _ hk => hk.2) (.slice Ao18 t328.length co18)) (fun _ h_ => h_.1))))) (below_size (by first | exact uB HB | exact uS HB (gC GE332 gN)))); have n4_ := Aside0.mk (blk_below (g := gb332) (o := .cells #[.int .i64 t324, .slice Ao17 t325.length co17, .slice Ao18 t328.length co18] 26 (0, 0)) (by refine uW ?_; refine blk_put (cs := #[.int .i64 t324, .slice Ao17 t325.length co17, .slice none 0 0]) ?_ 2 _ rfl; refine uW ?_; refine blk_put (cs := #[.int .i64 t324, .slice none 0 0, .slice none 0 0]) ?_ 1 _ rfl; refine uW ?_; refine blk_put (cs := #[.int .i64 0, .slice none 0 0, .slice none 0 0]) ?_ 0 _ rfl; refine uW ?_; exact BK332.out) hb); have n5_ := Aside0.mk (below_step (by first | exact uB HB | exact uS HB (gC GE332 gN)) hb); clear HO323 HO327 HO330 BK332 HB; have HO323 := n0_; have HO327 := n1_; have HO330 := n2_; have HO335 := n3_; have BK332 := n4_; have HB := n5_; clear n0_ n1_ n2_ n3_ n4_ n5_; (try clear hb); (try clear hb2); (try clear hk); (try clear hi); (try clear ho0); obtain ⟨Ao20, co20, eo20⟩ := Kd.R_slice HO335.out; subst eo20) | ((with_reducible refine gate_callee (f := 18) rfl ?_); refine goesL_ (some 41) rfl rfl Try.func18 (by kernel_rfl) rfl #[.int .i64 a0, .slice Ao20 t333.length co20, .int .i64 a2, .int .i64 a3] rfl (by (try simp only [List.map_toArray, List.map_cons, List.map_nil]); first | done | rfl | (simp only [List.length_drop, List.length_take]; rfl)) ?_; (with_reducible refine (impl_CuckooOf.calls k a0 _ _ t333 a2 a3 t336 t337 t340 t343 _ ?side1 ?side2 A10.out).mono ?_); (case side1 => exact uD HO335); (case side2 => exact (Kd.R_reads' HO335.out).2.1); rintro e w21 ⟨v338, v341, rfl, ho0, ho1, hb⟩; refine ⟨_, rfl, ?_⟩; have n0_ := Aside0.mk (Kd.R_mono (Kd.R_told (Kd.R_told (Kd.R_old (uR HO323) hb) (Kd.R_base ho0)) (Kd.R_base ho1)) (fun _ h_ => h_.1)); have n1_ := Aside0.mk (Kd.R_mono (Kd.R_told (Kd.R_told (Kd.R_old (uR HO327) hb) (Kd.R_base ho0)) (Kd.R_base ho1)) (fun _ h_ => h_.1)); have n2_ := Aside0.mk (Kd.V_mono (Kd.V_told (Kd.V_told (Kd.V_old (by (with_reducible repeat (first | apply Kd.V_alloc | apply Kd.V_drewN | apply Kd.V_drew)); exact HO330.out) hb) (Kd.R_base ho0)) (Kd.R_base ho1)) (fun _ h_ => h_.1)); have n3_ := Aside0.mk (Kd.R_mono (Kd.R_told (Kd.R_told (Kd.R_old (uR HO335) hb) (Kd.R_base ho0)) (Kd.R_base ho1)) (fun _ h_ => h_.1)); have n4_ := Aside0.mk (Kd.R_lower (Kd.R_new' (Kd.R_new' (Kd.R_new' ho0 (Kd.R_lt (uR HO323))) (Kd.R_lt (uR HO327))) (Kd.R_lt (uR HO335))) (below_size (by first | exact uB HB | exact uS HB (gC GE332 gN)))); have n5_ := Aside0.mk (Kd.R_lower (Kd.R_new' (Kd.R_new' (Kd.R_new' ho1 (Kd.R_lt (uR HO323))) (Kd.R_lt (uR HO327))) (Kd.R_lt (uR HO335))) (below_size (by first | exact uB HB | exact uS HB (gC GE332 gN)))); have n6_ := Aside0.mk (blk_below (g := gb332) (o := .cells #[.int .i64 t324, .slice Ao17 t325.length co17, .slice Ao18 t328.length co18] 26 (0, 0)) (uK BK332) hb); have n7_ := Aside0.mk (below_step (by first | exact uB HB | exact uS HB (gC GE332 gN)) hb); clear HO323 HO327 HO330 HO335 BK332 HB; have HO323 := n0_; have HO327 := n1_; have HO330 := n2_; have HO335 := n3_; have HO339 := n4_; have HO342 := n5_; have BK332 := n6_; have HB := n7_; clear n0_ n1_ n2_ n3_ n4_ n5_ n6_ n7_; (try clear hb); (try clear hb2); (try clear hk); (try clear hi); (try clear ho0); (try clear ho1)) | ((with_reducible refine gate_dst (N := 13) rfl ?_); refine box_event ?hg (N := 13) ?hd (cs := #[.int .i64 0, .slice none 0 0, .slice none 0 0]) (t := 26) ?hr ?_; (case hd => rfl); (case hg => rfl); (case hr => first | (go_simp; done) | (go_simp; rfl)); intro gb344 hg w22 hbox hb; have n0_ := Aside0.mk (Kd.R_below (uR HO323) hb); have n1_ := Aside0.mk (Kd.R_below (uR HO327) hb); have n2_ := Aside0.mk (Kd.V_below (Kd.V_elderB (by (with_reducible repeat (first | apply Kd.V_alloc | apply Kd.V_drewN | apply Kd.V_drew)); exact HO330.out) gb344 (Nat.le_of_eq hg.symm)) hb); have n3_ := Aside0.mk (Kd.R_below (uR HO335) hb); have n4_ := Aside0.mk (Kd.R_below (uR HO339) hb); have n5_ := Aside0.mk (Kd.R_below (uR HO342) hb); have n6_ := Aside0.mk (blk_below (g := gb332) (o := .cells #[.int .i64 t324, .slice Ao17 t325.length co17, .slice Ao18 t328.length co18] 26 (0, 0)) (uK BK332) hb); have n7_ := Aside0.mk (below_step (by first | exact uB HB | exact uS HB (gC GE332 gN)) hb); have n8_ := Aside0.mk (hbox); have n9_ := Aside0.mk ((by rw [hg]; exact (below_size (by first | exact uB HB | exact uS HB (gC GE332 gN))) : w.heap.size ≤ gb344)); have n10_ := Aside0.mk ((by rw [hg]; exact (below_size (by first | exact uB HB | exact uS HB (gC GE332 gN))) : w.heap.size ≤ gb344)); have n11_ := Aside0.mk ((by rw [hg]; exact Nat.ne_of_lt (blk_lt (g := gb332) (o := .cells #[.int .i64 t324, .slice Ao17 t325.length co17, .slice Ao18 t328.length co18] 26 (0, 0)) (uK BK332)) : gb332 ≠ gb344)); have n12_ := Aside0.mk ((by rw [hg]; exact Nat.ne_of_gt (blk_lt (g := gb332) (o := .cells #[.int .i64 t324, .slice Ao17 t325.length co17, .slice Ao18 t328.length co18] 26 (0, 0)) (uK BK332)) : gb344 ≠ gb332)); clear HO323 HO327 HO330 HO335 HO339 HO342 BK332 HB; have HO323 := n0_; have HO327 := n1_; have HO330 := n2_; have HO335 := n3_; have HO339 := n4_; have HO342 := n5_; have BK332 := n6_; have HB := n7_; have BK344 := n8_; have GW344 := n9_; have GE344 := n10_; have NB332_344 := n11_; have NB344_332 := n12_; clear n0_ n1_ n2_ n3_ n4_ n5_ n6_ n7_ n8_ n9_ n10_ n11_ n12_ hb hbox hg; have hnb23 := NB344_332.out; have hnc23 := NB332_344.out; have hcz24_0 : w22.cell? ⟨gb344, 0, none⟩ = some (.int .i64 0) := (blk_cell BK344.out 0).trans rfl; have hcz24_1 : w22.cell? ⟨gb344, 1, none⟩ = some (.slice none 0 0) := (blk_cell BK344.out 1).trans rfl; have hcz24_2 : w22.cell? ⟨gb344, 2, none⟩ = some (.slice none 0 0) := (blk_cell BK344.out 2).trans rfl; have hfz24_0 := blk_frozen BK344.out 0; have hfz24_1 := blk_frozen BK344.out 1; have hfz24_2 := blk_frozen BK344.out 2; obtain ⟨Ao25, co25, eo25⟩ := Kd.R_slice HO339.out; subst eo25; obtain ⟨Ao26, co26, eo26⟩ := Kd.R_slice HO342.out; subst eo26))
  (try simp only [Act.put, List.setIfInBounds_toArray, List.set_cons_zero, List.set_cons_succ])
  go_cut [52] (fun v52 wc => ∃ (kq : Nat) (x52_10 : Bool), v52 = .bool x52_10 ∧ Aside0 (laws_FnExactCuckooOf.j0 kq a0 l1 a2 a3 t331 t333 t343 x52_10 t324 t325 t328 t336 t337 t340 = some r) ∧ Aside0 (kq ≤ k) ∧ Aside0 (Kd.R Kd.string 9 wc w.heap.size (fun k_ => some k_ ≠ ((.slice Ao17 t325.length co17) : Value).ownBlock ∧ some k_ ≠ ((.slice Ao25 t337.length co25) : Value).ownBlock ∧ some k_ ≠ ((.slice Ao26 t340.length co26) : Value).ownBlock) (.slice Ao20 t333.length co20) t333) ∧ Aside0 (Kd.R Kd.string 9 wc w.heap.size (fun k_ => some k_ ≠ ((.slice Ao20 t333.length co20) : Value).ownBlock ∧ some k_ ≠ ((.slice Ao25 t337.length co25) : Value).ownBlock ∧ some k_ ≠ ((.slice Ao26 t340.length co26) : Value).ownBlock) (.slice Ao17 t325.length co17) t325) ∧ Aside0 (Kd.V Kd.string 9 wc w.heap.size (fun k_ => some k_ ≠ ((.slice Ao20 t333.length co20) : Value).ownBlock ∧ some k_ ≠ ((.slice Ao17 t325.length co17) : Value).ownBlock ∧ some k_ ≠ ((.slice Ao25 t337.length co25) : Value).ownBlock ∧ some k_ ≠ ((.slice Ao26 t340.length co26) : Value).ownBlock ∧ k_ ≠ gb332 ∧ k_ ≠ gb344) (.slice Ao18 t328.length co18) t328) ∧ Aside0 (Kd.R Kd.string 9 wc w.heap.size (fun k_ => some k_ ≠ ((.slice Ao20 t333.length co20) : Value).ownBlock ∧ some k_ ≠ ((.slice Ao17 t325.length co17) : Value).ownBlock ∧ some k_ ≠ ((.slice Ao26 t340.length co26) : Value).ownBlock) (.slice Ao25 t337.length co25) t337) ∧ Aside0 (Kd.R Kd.string 9 wc w.heap.size (fun k_ => some k_ ≠ ((.slice Ao20 t333.length co20) : Value).ownBlock ∧ some k_ ≠ ((.slice Ao17 t325.length co17) : Value).ownBlock ∧ some k_ ≠ ((.slice Ao25 t337.length co25) : Value).ownBlock) (.slice Ao26 t340.length co26) t340) ∧ Aside0 (wc.heap[gb332]? = some (.cells #[.int .i64 t324, (.slice Ao17 t325.length co17), (.slice Ao18 t328.length co18)] 26 (0, 0))) ∧ Aside0 (wc.heap[gb344]? = some (.cells #[.int .i64 t336, (.slice Ao25 t337.length co25), (.slice Ao26 t340.length co26)] 26 (0, 0))) ∧ Aside0 (Below w.heap.size w wc))
  case first =>
   have H := HC11.out
   clear HC11
   replace H := Option.bind_eq_some_iff.mp H
   obtain ⟨t345, A270, H⟩ := H
   replace H : (if t345 = true then (laws_FnExactCuckooOf.j0 k a0 l1 a2 a3 t331 t333 t343 (t343 != t331) t324 t325 t328 t336 t337 t340) else (laws_FnExactCuckooOf.j0 k a0 l1 a2 a3 t331 t333 t343 true t324 t325 t328 t336 t337 t340)) = some r := H
   have A27 := Aside0.mk A270
   clear A270
   by_cases c28 : t345 = true
   ·
    subst c28
    have H1 : (laws_FnExactCuckooOf.j0 k a0 l1 a2 a3 t331 t333 t343 (t343 != t331) t324 t325 t328 t336 t337 t340) = some r := by rw [if_pos rfl] at H; exact H
    clear H
    have H := H1
    clear H1
    have H' := Aside0.mk H
    clear H
    have hnb29 := NB344_332.out
    have hnc29 := NB332_344.out
    have hcz30_0 : w22.cell? ⟨gb344, 0, none⟩ = some (.int .i64 0) := (blk_cell BK344.out 0).trans rfl
    have hcz30_1 : w22.cell? ⟨gb344, 1, none⟩ = some (.slice none 0 0) := (blk_cell BK344.out 1).trans rfl
    have hcz30_2 : w22.cell? ⟨gb344, 2, none⟩ = some (.slice none 0 0) := (blk_cell BK344.out 2).trans rfl
    have hfz30_0 := blk_frozen BK344.out 0
    have hfz30_1 := blk_frozen BK344.out 1
    have hfz30_2 := blk_frozen BK344.out 2
    have hcz31_0 : w22.cell? ⟨gb332, 0, none⟩ = some (.int .i64 t324) := (blk_cell BK332.out 0).trans rfl
    have hcz31_1 : w22.cell? ⟨gb332, 1, none⟩ = some (.slice Ao17 t325.length co17) := (blk_cell BK332.out 1).trans rfl
    have hcz31_2 : w22.cell? ⟨gb332, 2, none⟩ = some (.slice Ao18 t328.length co18) := (blk_cell BK332.out 2).trans rfl
    have hfz31_0 := blk_frozen BK332.out 0
    have hfz31_1 := blk_frozen BK332.out 1
    have hfz31_2 := blk_frozen BK332.out 2
    go_wp2_with (first | ((with_reducible refine gate_callee (f := 10) rfl ?_); refine goesL_ (some 46) rfl rfl Try.func10 (by kernel_rfl) rfl #[.agg #[.int .i64 t336, .slice Ao25 t337.length co25, .slice Ao26 t340.length co26], .agg #[.int .i64 t324, .slice Ao17 t325.length co17, .slice Ao18 t328.length co18]] rfl (by (try simp only [List.map_toArray, List.map_cons, List.map_nil]); first | done | rfl | (simp only [List.length_drop, List.length_take]; rfl)) ?_; (with_reducible refine (laws_eqCuckoo.calls k t336 _ _ t337 _ _ t340 t324 _ _ t325 _ _ t328 true _ ?side1 ?side2 ?side3 ?side4 ?side5 ?side6 ?side7 ?side8 A27.out).mono ?_); (case side1 => refine (Kd.R_reads' (e := 9) (base := w.heap.size) (ok := fun k_ => (((some k_ ≠ (.slice Ao26 t340.length co26 : Value).ownBlock ∧ some k_ ≠ (.slice Ao13 t321.length co13 : Value).ownBlock) ∧ some k_ ≠ (.slice Ao17 t325.length co17 : Value).ownBlock) ∧ some k_ ≠ (.slice Ao20 t333.length co20 : Value).ownBlock)) (n := t337.length) (c := co25) ?_).2.2; exact (by (with_reducible repeat (first | apply Kd.R_alloc | apply Kd.R_drewN | apply Kd.R_drew)); exact (Kd.R_mono (Kd.R_far (p := ⟨gb344, 2, none⟩) (Kd.R_far (p := ⟨gb344, 1, none⟩) (Kd.R_far (p := ⟨gb344, 0, none⟩) (Kd.R_types HO339.out BK344.out (by decide)) (fun _ hk => hk.2) (.int .i64 t336)) (fun _ hk => hk.2) (.slice Ao25 t337.length co25)) (fun _ hk => hk.2) (.slice Ao26 t340.length co26)) (fun _ h_ => h_.1)))); (case side2 => exact (Kd.R_reads' HO339.out).2.1); (case side3 => refine (Kd.R_reads' (e := 9) (base := w.heap.size) (ok := fun k_ => (((some k_ ≠ (.slice Ao25 t337.length co25 : Value).ownBlock ∧ some k_ ≠ (.slice Ao13 t321.length co13 : Value).ownBlock) ∧ some k_ ≠ (.slice Ao17 t325.length co17 : Value).ownBlock) ∧ some k_ ≠ (.slice Ao20 t333.length co20 : Value).ownBlock)) (n := t340.length) (c := co26) ?_).2.2; exact (by (with_reducible repeat (first | apply Kd.R_alloc | apply Kd.R_drewN | apply Kd.R_drew)); exact (Kd.R_mono (Kd.R_far (p := ⟨gb344, 2, none⟩) (Kd.R_far (p := ⟨gb344, 1, none⟩) (Kd.R_far (p := ⟨gb344, 0, none⟩) (Kd.R_types HO342.out BK344.out (by decide)) (fun _ hk => hk.2) (.int .i64 t336)) (fun _ hk => hk.2) (.slice Ao25 t337.length co25)) (fun _ hk => hk.2) (.slice Ao26 t340.length co26)) (fun _ h_ => h_.1)))); (case side4 => exact (Kd.R_reads' HO342.out).2.1); (case side5 => refine (Kd.R_reads' (e := 9) (base := w.heap.size) (ok := fun k_ => ((((True ∧ some k_ ≠ (.slice Ao13 t321.length co13 : Value).ownBlock) ∧ some k_ ≠ (.slice Ao20 t333.length co20 : Value).ownBlock) ∧ some k_ ≠ (.slice Ao25 t337.length co25 : Value).ownBlock) ∧ some k_ ≠ (.slice Ao26 t340.length co26 : Value).ownBlock)) (n := t325.length) (c := co17) ?_).2.2; exact (by (with_reducible repeat (first | apply Kd.R_alloc | apply Kd.R_drewN | apply Kd.R_drew)); exact (Kd.R_mono (Kd.R_far (p := ⟨gb344, 2, none⟩) (Kd.R_far (p := ⟨gb344, 1, none⟩) (Kd.R_far (p := ⟨gb344, 0, none⟩) (Kd.R_types HO327.out BK344.out (by decide)) (fun _ hk => hk.2) (.int .i64 t336)) (fun _ hk => hk.2) (.slice Ao25 t337.length co25)) (fun _ hk => hk.2) (.slice Ao26 t340.length co26)) (fun _ h_ => h_.1)))); (case side6 => exact (Kd.R_reads' HO327.out).2.1); (case side7 => refine (Kd.V_reads' (e := 9) (base := w.heap.size) (ok := fun k_ => ((((((some k_ ≠ (.slice Ao17 t325.length co17 : Value).ownBlock ∧ some k_ ≠ (.slice Ao13 t321.length co13 : Value).ownBlock) ∧ k_ ≠ gb332) ∧ some k_ ≠ (.slice Ao20 t333.length co20 : Value).ownBlock) ∧ some k_ ≠ (.slice Ao25 t337.length co25 : Value).ownBlock) ∧ some k_ ≠ (.slice Ao26 t340.length co26 : Value).ownBlock) ∧ k_ ≠ gb344)) (n := t328.length) (c := co18) ?_).2.2; exact (by (with_reducible repeat (first | apply Kd.V_alloc | apply Kd.V_drewN | apply Kd.V_drew)); exact (Kd.V_mono (Kd.V_far (p := ⟨gb344, 2, none⟩) (Kd.V_far (p := ⟨gb344, 1, none⟩) (Kd.V_far (p := ⟨gb344, 0, none⟩) (Kd.V_mono HO330.out (fun k_ hk => (⟨hk, hk.2⟩ : _ ∧ k_ ≠ gb344))) (fun _ hk => hk.2) (.int .i64 t336)) (fun _ hk => hk.2) (.slice Ao25 t337.length co25)) (fun _ hk => hk.2) (.slice Ao26 t340.length co26)) (fun _ h_ => h_.1)))); (case side8 => exact (Kd.V_reads' HO330.out).2.1); rintro e w32 ⟨rfl, hb⟩; refine ⟨_, rfl, ?_⟩; have n0_ := Aside0.mk (Kd.R_below (by (with_reducible repeat (first | apply Kd.R_alloc | apply Kd.R_drewN | apply Kd.R_drew)); exact (Kd.R_mono (Kd.R_far (p := ⟨gb344, 2, none⟩) (Kd.R_far (p := ⟨gb344, 1, none⟩) (Kd.R_far (p := ⟨gb344, 0, none⟩) (Kd.R_types HO323.out BK344.out (by decide)) (fun _ hk => hk.2) (.int .i64 t336)) (fun _ hk => hk.2) (.slice Ao25 t337.length co25)) (fun _ hk => hk.2) (.slice Ao26 t340.length co26)) (fun _ h_ => h_.1))) hb); have n1_ := Aside0.mk (Kd.R_below (by (with_reducible repeat (first | apply Kd.R_alloc | apply Kd.R_drewN | apply Kd.R_drew)); exact (Kd.R_mono (Kd.R_far (p := ⟨gb344, 2, none⟩) (Kd.R_far (p := ⟨gb344, 1, none⟩) (Kd.R_far (p := ⟨gb344, 0, none⟩) (Kd.R_types HO327.out BK344.out (by decide)) (fun _ hk => hk.2) (.int .i64 t336)) (fun _ hk => hk.2) (.slice Ao25 t337.length co25)) (fun _ hk => hk.2) (.slice Ao26 t340.length co26)) (fun _ h_ => h_.1))) hb); have n2_ := Aside0.mk (Kd.V_below (by (with_reducible repeat (first | apply Kd.V_alloc | apply Kd.V_drewN | apply Kd.V_drew)); exact (Kd.V_mono (Kd.V_far (p := ⟨gb344, 2, none⟩) (Kd.V_far (p := ⟨gb344, 1, none⟩) (Kd.V_far (p := ⟨gb344, 0, none⟩) (Kd.V_mono HO330.out (fun k_ hk => (⟨hk, hk.2⟩ : _ ∧ k_ ≠ gb344))) (fun _ hk => hk.2) (.int .i64 t336)) (fun _ hk => hk.2) (.slice Ao25 t337.length co25)) (fun _ hk => hk.2) (.slice Ao26 t340.length co26)) (fun _ h_ => h_.1))) hb); have n3_ := Aside0.mk (Kd.R_below (by (with_reducible repeat (first | apply Kd.R_alloc | apply Kd.R_drewN | apply Kd.R_drew)); exact (Kd.R_mono (Kd.R_far (p := ⟨gb344, 2, none⟩) (Kd.R_far (p := ⟨gb344, 1, none⟩) (Kd.R_far (p := ⟨gb344, 0, none⟩) (Kd.R_types HO335.out BK344.out (by decide)) (fun _ hk => hk.2) (.int .i64 t336)) (fun _ hk => hk.2) (.slice Ao25 t337.length co25)) (fun _ hk => hk.2) (.slice Ao26 t340.length co26)) (fun _ h_ => h_.1))) hb); have n4_ := Aside0.mk (Kd.R_below (by (with_reducible repeat (first | apply Kd.R_alloc | apply Kd.R_drewN | apply Kd.R_drew)); exact (Kd.R_mono (Kd.R_far (p := ⟨gb344, 2, none⟩) (Kd.R_far (p := ⟨gb344, 1, none⟩) (Kd.R_far (p := ⟨gb344, 0, none⟩) (Kd.R_types HO339.out BK344.out (by decide)) (fun _ hk => hk.2) (.int .i64 t336)) (fun _ hk => hk.2) (.slice Ao25 t337.length co25)) (fun _ hk => hk.2) (.slice Ao26 t340.length co26)) (fun _ h_ => h_.1))) hb); have n5_ := Aside0.mk (Kd.R_below (by (with_reducible repeat (first | apply Kd.R_alloc | apply Kd.R_drewN | apply Kd.R_drew)); exact (Kd.R_mono (Kd.R_far (p := ⟨gb344, 2, none⟩) (Kd.R_far (p := ⟨gb344, 1, none⟩) (Kd.R_far (p := ⟨gb344, 0, none⟩) (Kd.R_types HO342.out BK344.out (by decide)) (fun _ hk => hk.2) (.int .i64 t336)) (fun _ hk => hk.2) (.slice Ao25 t337.length co25)) (fun _ hk => hk.2) (.slice Ao26 t340.length co26)) (fun _ h_ => h_.1))) hb); have n6_ := Aside0.mk (blk_below (g := gb332) (o := .cells #[.int .i64 t324, .slice Ao17 t325.length co17, .slice Ao18 t328.length co18] 26 (0, 0)) (by refine uW ?_; refine blk_far ?_ NB332_344.out _; refine uW ?_; refine blk_far ?_ NB332_344.out _; refine uW ?_; refine blk_far ?_ NB332_344.out _; refine uW ?_; exact BK332.out) hb); have n7_ := Aside0.mk (blk_below (g := gb344) (o := .cells #[.int .i64 t336, .slice Ao25 t337.length co25, .slice Ao26 t340.length co26] 26 (0, 0)) (by refine uW ?_; refine blk_put (cs := #[.int .i64 t336, .slice Ao25 t337.length co25, .slice none 0 0]) ?_ 2 _ rfl; refine uW ?_; refine blk_put (cs := #[.int .i64 t336, .slice none 0 0, .slice none 0 0]) ?_ 1 _ rfl; refine uW ?_; refine blk_put (cs := #[.int .i64 0, .slice none 0 0, .slice none 0 0]) ?_ 0 _ rfl; refine uW ?_; exact BK344.out) hb); have n8_ := Aside0.mk (below_step (by first | exact uB HB | exact uS HB (gC GE332 (gC GE344 gN))) hb); clear HO323 HO327 HO330 HO335 HO339 HO342 BK332 BK344 HB; have HO323 := n0_; have HO327 := n1_; have HO330 := n2_; have HO335 := n3_; have HO339 := n4_; have HO342 := n5_; have BK332 := n6_; have BK344 := n7_; have HB := n8_; clear n0_ n1_ n2_ n3_ n4_ n5_ n6_ n7_ n8_; (try clear hb); (try clear hb2); (try clear hk); (try clear hi)))
    go_meet
    case rel => exact ⟨_, ((t343 != t331)), (by first | rfl | (simp; done) | (simp [*]; done)), H', ⟨by first | omega | exact Nat.le_refl _⟩, ⟨by (with_reducible repeat (first | apply Kd.R_alloc | apply Kd.R_drewN | apply Kd.R_drew)); exact Kd.R_mono HO335.out (fun _ hk => ⟨hk.1.1.2, ⟨hk.1.2, hk.2⟩⟩)⟩, ⟨by (with_reducible repeat (first | apply Kd.R_alloc | apply Kd.R_drewN | apply Kd.R_drew)); exact Kd.R_mono HO327.out (fun _ hk => ⟨hk.1.1.2, ⟨hk.1.2, hk.2⟩⟩)⟩, ⟨by (with_reducible repeat (first | apply Kd.V_alloc | apply Kd.V_drewN | apply Kd.V_drew)); exact Kd.V_mono HO330.out (fun _ hk => ⟨hk.1.1.1.2, ⟨hk.1.1.1.1.1.1, ⟨hk.1.1.2, ⟨hk.1.2, ⟨hk.1.1.1.1.2, hk.2⟩⟩⟩⟩⟩)⟩, ⟨by (with_reducible repeat (first | apply Kd.R_alloc | apply Kd.R_drewN | apply Kd.R_drew)); exact Kd.R_mono HO339.out (fun _ hk => ⟨hk.2, ⟨hk.1.2, hk.1.1.1⟩⟩)⟩, ⟨by (with_reducible repeat (first | apply Kd.R_alloc | apply Kd.R_drewN | apply Kd.R_drew)); exact Kd.R_mono HO342.out (fun _ hk => ⟨hk.2, ⟨hk.1.2, hk.1.1.1⟩⟩)⟩, ⟨by refine uW ?_; exact BK332.out⟩, ⟨by refine uW ?_; exact BK344.out⟩, ⟨by first | exact uB HB | exact uS HB (gC GE332 (gC GE344 gN))⟩⟩
   ·
    replace c28 := Bool.eq_false_iff.mpr c28
    subst c28
    have H1 : (laws_FnExactCuckooOf.j0 k a0 l1 a2 a3 t331 t333 t343 true t324 t325 t328 t336 t337 t340) = some r := by rw [if_neg (show ¬ (false = true) by decide)] at H; exact H
    clear H
    have H := H1
    clear H1
    have H' := Aside0.mk H
    clear H
    have hnb33 := NB344_332.out
    have hnc33 := NB332_344.out
    have hcz34_0 : w22.cell? ⟨gb344, 0, none⟩ = some (.int .i64 0) := (blk_cell BK344.out 0).trans rfl
    have hcz34_1 : w22.cell? ⟨gb344, 1, none⟩ = some (.slice none 0 0) := (blk_cell BK344.out 1).trans rfl
    have hcz34_2 : w22.cell? ⟨gb344, 2, none⟩ = some (.slice none 0 0) := (blk_cell BK344.out 2).trans rfl
    have hfz34_0 := blk_frozen BK344.out 0
    have hfz34_1 := blk_frozen BK344.out 1
    have hfz34_2 := blk_frozen BK344.out 2
    have hcz35_0 : w22.cell? ⟨gb332, 0, none⟩ = some (.int .i64 t324) := (blk_cell BK332.out 0).trans rfl
    have hcz35_1 : w22.cell? ⟨gb332, 1, none⟩ = some (.slice Ao17 t325.length co17) := (blk_cell BK332.out 1).trans rfl
    have hcz35_2 : w22.cell? ⟨gb332, 2, none⟩ = some (.slice Ao18 t328.length co18) := (blk_cell BK332.out 2).trans rfl
    have hfz35_0 := blk_frozen BK332.out 0
    have hfz35_1 := blk_frozen BK332.out 1
    have hfz35_2 := blk_frozen BK332.out 2
    go_wp2_with (first | ((with_reducible refine gate_callee (f := 10) rfl ?_); refine goesL_ (some 46) rfl rfl Try.func10 (by kernel_rfl) rfl #[.agg #[.int .i64 t336, .slice Ao25 t337.length co25, .slice Ao26 t340.length co26], .agg #[.int .i64 t324, .slice Ao17 t325.length co17, .slice Ao18 t328.length co18]] rfl (by (try simp only [List.map_toArray, List.map_cons, List.map_nil]); first | done | rfl | (simp only [List.length_drop, List.length_take]; rfl)) ?_; (with_reducible refine (laws_eqCuckoo.calls k t336 _ _ t337 _ _ t340 t324 _ _ t325 _ _ t328 false _ ?side1 ?side2 ?side3 ?side4 ?side5 ?side6 ?side7 ?side8 A27.out).mono ?_); (case side1 => refine (Kd.R_reads' (e := 9) (base := w.heap.size) (ok := fun k_ => (((some k_ ≠ (.slice Ao26 t340.length co26 : Value).ownBlock ∧ some k_ ≠ (.slice Ao13 t321.length co13 : Value).ownBlock) ∧ some k_ ≠ (.slice Ao17 t325.length co17 : Value).ownBlock) ∧ some k_ ≠ (.slice Ao20 t333.length co20 : Value).ownBlock)) (n := t337.length) (c := co25) ?_).2.2; exact (by (with_reducible repeat (first | apply Kd.R_alloc | apply Kd.R_drewN | apply Kd.R_drew)); exact (Kd.R_mono (Kd.R_far (p := ⟨gb344, 2, none⟩) (Kd.R_far (p := ⟨gb344, 1, none⟩) (Kd.R_far (p := ⟨gb344, 0, none⟩) (Kd.R_types HO339.out BK344.out (by decide)) (fun _ hk => hk.2) (.int .i64 t336)) (fun _ hk => hk.2) (.slice Ao25 t337.length co25)) (fun _ hk => hk.2) (.slice Ao26 t340.length co26)) (fun _ h_ => h_.1)))); (case side2 => exact (Kd.R_reads' HO339.out).2.1); (case side3 => refine (Kd.R_reads' (e := 9) (base := w.heap.size) (ok := fun k_ => (((some k_ ≠ (.slice Ao25 t337.length co25 : Value).ownBlock ∧ some k_ ≠ (.slice Ao13 t321.length co13 : Value).ownBlock) ∧ some k_ ≠ (.slice Ao17 t325.length co17 : Value).ownBlock) ∧ some k_ ≠ (.slice Ao20 t333.length co20 : Value).ownBlock)) (n := t340.length) (c := co26) ?_).2.2; exact (by (with_reducible repeat (first | apply Kd.R_alloc | apply Kd.R_drewN | apply Kd.R_drew)); exact (Kd.R_mono (Kd.R_far (p := ⟨gb344, 2, none⟩) (Kd.R_far (p := ⟨gb344, 1, none⟩) (Kd.R_far (p := ⟨gb344, 0, none⟩) (Kd.R_types HO342.out BK344.out (by decide)) (fun _ hk => hk.2) (.int .i64 t336)) (fun _ hk => hk.2) (.slice Ao25 t337.length co25)) (fun _ hk => hk.2) (.slice Ao26 t340.length co26)) (fun _ h_ => h_.1)))); (case side4 => exact (Kd.R_reads' HO342.out).2.1); (case side5 => refine (Kd.R_reads' (e := 9) (base := w.heap.size) (ok := fun k_ => ((((True ∧ some k_ ≠ (.slice Ao13 t321.length co13 : Value).ownBlock) ∧ some k_ ≠ (.slice Ao20 t333.length co20 : Value).ownBlock) ∧ some k_ ≠ (.slice Ao25 t337.length co25 : Value).ownBlock) ∧ some k_ ≠ (.slice Ao26 t340.length co26 : Value).ownBlock)) (n := t325.length) (c := co17) ?_).2.2; exact (by (with_reducible repeat (first | apply Kd.R_alloc | apply Kd.R_drewN | apply Kd.R_drew)); exact (Kd.R_mono (Kd.R_far (p := ⟨gb344, 2, none⟩) (Kd.R_far (p := ⟨gb344, 1, none⟩) (Kd.R_far (p := ⟨gb344, 0, none⟩) (Kd.R_types HO327.out BK344.out (by decide)) (fun _ hk => hk.2) (.int .i64 t336)) (fun _ hk => hk.2) (.slice Ao25 t337.length co25)) (fun _ hk => hk.2) (.slice Ao26 t340.length co26)) (fun _ h_ => h_.1)))); (case side6 => exact (Kd.R_reads' HO327.out).2.1); (case side7 => refine (Kd.V_reads' (e := 9) (base := w.heap.size) (ok := fun k_ => ((((((some k_ ≠ (.slice Ao17 t325.length co17 : Value).ownBlock ∧ some k_ ≠ (.slice Ao13 t321.length co13 : Value).ownBlock) ∧ k_ ≠ gb332) ∧ some k_ ≠ (.slice Ao20 t333.length co20 : Value).ownBlock) ∧ some k_ ≠ (.slice Ao25 t337.length co25 : Value).ownBlock) ∧ some k_ ≠ (.slice Ao26 t340.length co26 : Value).ownBlock) ∧ k_ ≠ gb344)) (n := t328.length) (c := co18) ?_).2.2; exact (by (with_reducible repeat (first | apply Kd.V_alloc | apply Kd.V_drewN | apply Kd.V_drew)); exact (Kd.V_mono (Kd.V_far (p := ⟨gb344, 2, none⟩) (Kd.V_far (p := ⟨gb344, 1, none⟩) (Kd.V_far (p := ⟨gb344, 0, none⟩) (Kd.V_mono HO330.out (fun k_ hk => (⟨hk, hk.2⟩ : _ ∧ k_ ≠ gb344))) (fun _ hk => hk.2) (.int .i64 t336)) (fun _ hk => hk.2) (.slice Ao25 t337.length co25)) (fun _ hk => hk.2) (.slice Ao26 t340.length co26)) (fun _ h_ => h_.1)))); (case side8 => exact (Kd.V_reads' HO330.out).2.1); rintro e w36 ⟨rfl, hb⟩; refine ⟨_, rfl, ?_⟩; have n0_ := Aside0.mk (Kd.R_below (by (with_reducible repeat (first | apply Kd.R_alloc | apply Kd.R_drewN | apply Kd.R_drew)); exact (Kd.R_mono (Kd.R_far (p := ⟨gb344, 2, none⟩) (Kd.R_far (p := ⟨gb344, 1, none⟩) (Kd.R_far (p := ⟨gb344, 0, none⟩) (Kd.R_types HO323.out BK344.out (by decide)) (fun _ hk => hk.2) (.int .i64 t336)) (fun _ hk => hk.2) (.slice Ao25 t337.length co25)) (fun _ hk => hk.2) (.slice Ao26 t340.length co26)) (fun _ h_ => h_.1))) hb); have n1_ := Aside0.mk (Kd.R_below (by (with_reducible repeat (first | apply Kd.R_alloc | apply Kd.R_drewN | apply Kd.R_drew)); exact (Kd.R_mono (Kd.R_far (p := ⟨gb344, 2, none⟩) (Kd.R_far (p := ⟨gb344, 1, none⟩) (Kd.R_far (p := ⟨gb344, 0, none⟩) (Kd.R_types HO327.out BK344.out (by decide)) (fun _ hk => hk.2) (.int .i64 t336)) (fun _ hk => hk.2) (.slice Ao25 t337.length co25)) (fun _ hk => hk.2) (.slice Ao26 t340.length co26)) (fun _ h_ => h_.1))) hb); have n2_ := Aside0.mk (Kd.V_below (by (with_reducible repeat (first | apply Kd.V_alloc | apply Kd.V_drewN | apply Kd.V_drew)); exact (Kd.V_mono (Kd.V_far (p := ⟨gb344, 2, none⟩) (Kd.V_far (p := ⟨gb344, 1, none⟩) (Kd.V_far (p := ⟨gb344, 0, none⟩) (Kd.V_mono HO330.out (fun k_ hk => (⟨hk, hk.2⟩ : _ ∧ k_ ≠ gb344))) (fun _ hk => hk.2) (.int .i64 t336)) (fun _ hk => hk.2) (.slice Ao25 t337.length co25)) (fun _ hk => hk.2) (.slice Ao26 t340.length co26)) (fun _ h_ => h_.1))) hb); have n3_ := Aside0.mk (Kd.R_below (by (with_reducible repeat (first | apply Kd.R_alloc | apply Kd.R_drewN | apply Kd.R_drew)); exact (Kd.R_mono (Kd.R_far (p := ⟨gb344, 2, none⟩) (Kd.R_far (p := ⟨gb344, 1, none⟩) (Kd.R_far (p := ⟨gb344, 0, none⟩) (Kd.R_types HO335.out BK344.out (by decide)) (fun _ hk => hk.2) (.int .i64 t336)) (fun _ hk => hk.2) (.slice Ao25 t337.length co25)) (fun _ hk => hk.2) (.slice Ao26 t340.length co26)) (fun _ h_ => h_.1))) hb); have n4_ := Aside0.mk (Kd.R_below (by (with_reducible repeat (first | apply Kd.R_alloc | apply Kd.R_drewN | apply Kd.R_drew)); exact (Kd.R_mono (Kd.R_far (p := ⟨gb344, 2, none⟩) (Kd.R_far (p := ⟨gb344, 1, none⟩) (Kd.R_far (p := ⟨gb344, 0, none⟩) (Kd.R_types HO339.out BK344.out (by decide)) (fun _ hk => hk.2) (.int .i64 t336)) (fun _ hk => hk.2) (.slice Ao25 t337.length co25)) (fun _ hk => hk.2) (.slice Ao26 t340.length co26)) (fun _ h_ => h_.1))) hb); have n5_ := Aside0.mk (Kd.R_below (by (with_reducible repeat (first | apply Kd.R_alloc | apply Kd.R_drewN | apply Kd.R_drew)); exact (Kd.R_mono (Kd.R_far (p := ⟨gb344, 2, none⟩) (Kd.R_far (p := ⟨gb344, 1, none⟩) (Kd.R_far (p := ⟨gb344, 0, none⟩) (Kd.R_types HO342.out BK344.out (by decide)) (fun _ hk => hk.2) (.int .i64 t336)) (fun _ hk => hk.2) (.slice Ao25 t337.length co25)) (fun _ hk => hk.2) (.slice Ao26 t340.length co26)) (fun _ h_ => h_.1))) hb); have n6_ := Aside0.mk (blk_below (g := gb332) (o := .cells #[.int .i64 t324, .slice Ao17 t325.length co17, .slice Ao18 t328.length co18] 26 (0, 0)) (by refine uW ?_; refine blk_far ?_ NB332_344.out _; refine uW ?_; refine blk_far ?_ NB332_344.out _; refine uW ?_; refine blk_far ?_ NB332_344.out _; refine uW ?_; exact BK332.out) hb); have n7_ := Aside0.mk (blk_below (g := gb344) (o := .cells #[.int .i64 t336, .slice Ao25 t337.length co25, .slice Ao26 t340.length co26] 26 (0, 0)) (by refine uW ?_; refine blk_put (cs := #[.int .i64 t336, .slice Ao25 t337.length co25, .slice none 0 0]) ?_ 2 _ rfl; refine uW ?_; refine blk_put (cs := #[.int .i64 t336, .slice none 0 0, .slice none 0 0]) ?_ 1 _ rfl; refine uW ?_; refine blk_put (cs := #[.int .i64 0, .slice none 0 0, .slice none 0 0]) ?_ 0 _ rfl; refine uW ?_; exact BK344.out) hb); have n8_ := Aside0.mk (below_step (by first | exact uB HB | exact uS HB (gC GE332 (gC GE344 gN))) hb); clear HO323 HO327 HO330 HO335 HO339 HO342 BK332 BK344 HB; have HO323 := n0_; have HO327 := n1_; have HO330 := n2_; have HO335 := n3_; have HO339 := n4_; have HO342 := n5_; have BK332 := n6_; have BK344 := n7_; have HB := n8_; clear n0_ n1_ n2_ n3_ n4_ n5_ n6_ n7_ n8_; (try clear hb); (try clear hb2); (try clear hk); (try clear hi)))
    go_meet
    case rel => exact ⟨_, (true), (by first | rfl | (simp; done) | (simp [*]; done)), H', ⟨by first | omega | exact Nat.le_refl _⟩, ⟨by (with_reducible repeat (first | apply Kd.R_alloc | apply Kd.R_drewN | apply Kd.R_drew)); exact Kd.R_mono HO335.out (fun _ hk => ⟨hk.1.1.2, ⟨hk.1.2, hk.2⟩⟩)⟩, ⟨by (with_reducible repeat (first | apply Kd.R_alloc | apply Kd.R_drewN | apply Kd.R_drew)); exact Kd.R_mono HO327.out (fun _ hk => ⟨hk.1.1.2, ⟨hk.1.2, hk.2⟩⟩)⟩, ⟨by (with_reducible repeat (first | apply Kd.V_alloc | apply Kd.V_drewN | apply Kd.V_drew)); exact Kd.V_mono HO330.out (fun _ hk => ⟨hk.1.1.1.2, ⟨hk.1.1.1.1.1.1, ⟨hk.1.1.2, ⟨hk.1.2, ⟨hk.1.1.1.1.2, hk.2⟩⟩⟩⟩⟩)⟩, ⟨by (with_reducible repeat (first | apply Kd.R_alloc | apply Kd.R_drewN | apply Kd.R_drew)); exact Kd.R_mono HO339.out (fun _ hk => ⟨hk.2, ⟨hk.1.2, hk.1.1.1⟩⟩)⟩, ⟨by (with_reducible repeat (first | apply Kd.R_alloc | apply Kd.R_drewN | apply Kd.R_drew)); exact Kd.R_mono HO342.out (fun _ hk => ⟨hk.2, ⟨hk.1.2, hk.1.1.1⟩⟩)⟩, ⟨by refine uW ?_; exact BK332.out⟩, ⟨by refine uW ?_; exact BK344.out⟩, ⟨by first | exact uB HB | exact uS HB (gC GE332 (gC GE344 gN))⟩⟩
  case rest =>
   clear HC11
   try clear c1
   try clear c2
   try clear p2
   try clear c3
   try clear c5
   try clear c6
   try clear c6b0
   try clear c10
   try clear c15
   try clear c16
   try clear c17
   try clear c18
   try clear c23
   try clear c28
   try clear c29
   try clear c33
   try clear hcz16_0
   try clear hcz16_1
   try clear hcz16_2
   try clear hcz24_0
   try clear hcz24_1
   try clear hcz24_2
   try clear hcz30_0
   try clear hcz30_1
   try clear hcz30_2
   try clear hcz31_0
   try clear hcz31_1
   try clear hcz31_2
   try clear hcz34_0
   try clear hcz34_1
   try clear hcz34_2
   try clear hcz35_0
   try clear hcz35_1
   try clear hcz35_2
   try clear hfz16_0
   try clear hfz16_1
   try clear hfz16_2
   try clear hfz24_0
   try clear hfz24_1
   try clear hfz24_2
   try clear hfz30_0
   try clear hfz30_1
   try clear hfz30_2
   try clear hfz31_0
   try clear hfz31_1
   try clear hfz31_2
   try clear hfz34_0
   try clear hfz34_1
   try clear hfz34_2
   try clear hfz35_0
   try clear hfz35_1
   try clear hfz35_2
   obtain ⟨kq, x52_10, rfl, HA, HJ10, HO_12, HO_333001, HO_333002, HO_345001, HO_345002, BK332, BK344, HB⟩ := hcut
   cases kq with
   | zero => exact absurd HA.out (by simp [laws_FnExactCuckooOf.j0])
   | succ kj10 =>
    have H := HA.out
    clear HA
    simp only [laws_FnExactCuckooOf.j0] at H
    by_cases c37 : x52_10 = true
    ·
     subst c37
     have H1 : (some false) = some r := by rw [if_pos rfl] at H; exact H
     clear H
     have H := H1
     clear H1
     obtain rfl := Option.some.inj H
     go_wp2
     go_ret
     exact ⟨by first | rfl | (simp [errW_none, errW_some] <;> rfl) | (simp [*, errW_none, errW_some] <;> rfl), by first | exact uB HB | exact uS HB (gC GE332 (gC GE344 gN))⟩
    ·
     replace c37 := Bool.eq_false_iff.mpr c37
     subst c37
     have H1 : ((laws_toStringS.f kj10 l1).bind fun t346 => ((laws_eqStringS.f kj10 t333 t346).bind fun t349 => (if t349 = true then ((laws_markStringS.f kj10 t333 1).bind fun bt350 => (if bt350.1 < 0 then (laws_FnExactCuckooOf.j1 kj10 a0 l1 a2 a3 t331 true t324 t325 t328 t336 t337 t340) else ((laws_eqCuckoo.f kj10 t336 t337 t340 t324 t325 t328).bind fun t352 => (if t352 = true then (laws_FnExactCuckooOf.j1 kj10 a0 l1 a2 a3 t331 (t343 != t331) t324 t325 t328 t336 t337 t340) else (laws_FnExactCuckooOf.j1 kj10 a0 l1 a2 a3 t331 true t324 t325 t328 t336 t337 t340))))) else (some false)))) = some r := by rw [if_neg (show ¬ (false = true) by decide)] at H; exact H
     clear H
     have H := H1
     clear H1
     replace H := Option.bind_eq_some_iff.mp H
     obtain ⟨t346, A380, H⟩ := H
     replace H : ((laws_eqStringS.f kj10 t333 t346).bind fun t349 => (if t349 = true then ((laws_markStringS.f kj10 t333 1).bind fun bt350 => (if bt350.1 < 0 then (laws_FnExactCuckooOf.j1 kj10 a0 l1 a2 a3 t331 true t324 t325 t328 t336 t337 t340) else ((laws_eqCuckoo.f kj10 t336 t337 t340 t324 t325 t328).bind fun t352 => (if t352 = true then (laws_FnExactCuckooOf.j1 kj10 a0 l1 a2 a3 t331 (t343 != t331) t324 t325 t328 t336 t337 t340) else (laws_FnExactCuckooOf.j1 kj10 a0 l1 a2 a3 t331 true t324 t325 t328 t336 t337 t340))))) else (some false))) = some r := H
     have A38 := Aside0.mk A380
     clear A380
     replace H := Option.bind_eq_some_iff.mp H
     obtain ⟨t349, A390, H⟩ := H
     replace H : (if t349 = true then ((laws_markStringS.f kj10 t333 1).bind fun bt350 => (if bt350.1 < 0 then (laws_FnExactCuckooOf.j1 kj10 a0 l1 a2 a3 t331 true t324 t325 t328 t336 t337 t340) else ((laws_eqCuckoo.f kj10 t336 t337 t340 t324 t325 t328).bind fun t352 => (if t352 = true then (laws_FnExactCuckooOf.j1 kj10 a0 l1 a2 a3 t331 (t343 != t331) t324 t325 t328 t336 t337 t340) else (laws_FnExactCuckooOf.j1 kj10 a0 l1 a2 a3 t331 true t324 t325 t328 t336 t337 t340))))) else (some false)) = some r := H
     have A39 := Aside0.mk A390
     clear A390
     by_cases c40 : t349 = true
     ·
      subst c40
      have H1 : ((laws_markStringS.f kj10 t333 1).bind fun bt350 => (if bt350.1 < 0 then (laws_FnExactCuckooOf.j1 kj10 a0 l1 a2 a3 t331 true t324 t325 t328 t336 t337 t340) else ((laws_eqCuckoo.f kj10 t336 t337 t340 t324 t325 t328).bind fun t352 => (if t352 = true then (laws_FnExactCuckooOf.j1 kj10 a0 l1 a2 a3 t331 (t343 != t331) t324 t325 t328 t336 t337 t340) else (laws_FnExactCuckooOf.j1 kj10 a0 l1 a2 a3 t331 true t324 t325 t328 t336 t337 t340))))) = some r := by rw [if_pos rfl] at H; exact H
      clear H
      have H := H1
      clear H1
      replace H := Option.bind_eq_some_iff.mp H
      obtain ⟨⟨t350, t351⟩, A410, H⟩ := H
      replace H : (if t350 < 0 then (laws_FnExactCuckooOf.j1 kj10 a0 l1 a2 a3 t331 true t324 t325 t328 t336 t337 t340) else ((laws_eqCuckoo.f kj10 t336 t337 t340 t324 t325 t328).bind fun t352 => (if t352 = true then (laws_FnExactCuckooOf.j1 kj10 a0 l1 a2 a3 t331 (t343 != t331) t324 t325 t328 t336 t337 t340) else (laws_FnExactCuckooOf.j1 kj10 a0 l1 a2 a3 t331 true t324 t325 t328 t336 t337 t340)))) = some r := H
      have A41 := Aside0.mk A410
      clear A410
      have HC42 := Aside0.mk H
      clear H
      go_upto_region 14 with (first | ((with_reducible refine gate_callee (f := 17) rfl ?_); refine goesL_ (some 55) rfl rfl Try.func17 (by kernel_rfl) rfl #[.slice A1 l1.length c1] rfl (by (try simp only [List.map_toArray, List.map_cons, List.map_nil]); first | done | rfl | (simp only [List.length_drop, List.length_take]; rfl)) ?_; (with_reducible refine (laws_toStringS.calls kj10 _ _ l1 t346 _ ?side1 ?side2 A38.out).mono ?_); (case side1 => exact uC HR1 HB); (case side2 => exact HC1.out); rintro e w43 ⟨v347, rfl, ho0, hb⟩; refine ⟨_, rfl, ?_⟩; have n0_ := Aside0.mk (Kd.R_elder' (uR HO_12) (Kd.R_base ho0) hb); have n1_ := Aside0.mk (Kd.R_elder' (uR HO_333001) (Kd.R_base ho0) hb); have n2_ := Aside0.mk (Kd.V_elder' (by (with_reducible repeat (first | apply Kd.V_alloc | apply Kd.V_drewN | apply Kd.V_drew)); exact HO_333002.out) (Kd.R_base ho0) hb); have n3_ := Aside0.mk (Kd.R_elder' (uR HO_345001) (Kd.R_base ho0) hb); have n4_ := Aside0.mk (Kd.R_elder' (uR HO_345002) (Kd.R_base ho0) hb); have n5_ := Aside0.mk (Kd.R_lower (Kd.R_new' (Kd.R_new' (Kd.R_new' (Kd.R_new' ho0 (Kd.R_lt (uR HO_12))) (Kd.R_lt (uR HO_333001))) (Kd.R_lt (uR HO_345001))) (Kd.R_lt (uR HO_345002))) (below_size (by first | exact uB HB | exact uS HB (gC GE332 (gC GE344 gN))))); have n6_ := Aside0.mk (blk_below (g := gb332) (o := .cells #[.int .i64 t324, .slice Ao17 t325.length co17, .slice Ao18 t328.length co18] 26 (0, 0)) (uK BK332) hb); have n7_ := Aside0.mk (blk_below (g := gb344) (o := .cells #[.int .i64 t336, .slice Ao25 t337.length co25, .slice Ao26 t340.length co26] 26 (0, 0)) (uK BK344) hb); have n8_ := Aside0.mk (below_step (by first | exact uB HB | exact uS HB (gC GE332 (gC GE344 gN))) hb); clear HO_12 HO_333001 HO_333002 HO_345001 HO_345002 BK332 BK344 HB; have HO_12 := n0_; have HO_333001 := n1_; have HO_333002 := n2_; have HO_345001 := n3_; have HO_345002 := n4_; have HO348 := n5_; have BK332 := n6_; have BK344 := n7_; have HB := n8_; clear n0_ n1_ n2_ n3_ n4_ n5_ n6_ n7_ n8_; (try clear hb); (try clear hb2); (try clear hk); (try clear hi); (try clear ho0); obtain ⟨Ao44, co44, eo44⟩ := Kd.R_slice HO348.out; subst eo44) | ((with_reducible refine gate_callee (f := 19) rfl ?_); refine goesL_ (some 56) rfl rfl Try.func19 (by kernel_rfl) rfl #[.slice Ao20 t333.length co20, .slice Ao44 t346.length co44] rfl (by (try simp only [List.map_toArray, List.map_cons, List.map_nil]); first | done | rfl | (simp only [List.length_drop, List.length_take]; rfl)) ?_; (with_reducible refine (laws_eqStringS.calls kj10 _ _ t333 _ _ t346 true _ ?side1 ?side2 ?side3 ?side4 A39.out).mono ?_); (case side1 => exact uD HO_12); (case side2 => exact (Kd.R_reads' HO_12.out).2.1); (case side3 => exact uD HO348); (case side4 => exact (Kd.R_reads' HO348.out).2.1); rintro e w' ⟨rfl, ⟨nd, rfl⟩⟩; refine ⟨_, rfl, ?_⟩) | ((with_reducible refine gate_callee (f := 20) rfl ?_); refine goesL_ (some 60) rfl rfl Try.func20 (by kernel_rfl) rfl #[.slice Ao20 t333.length co20, .int .i64 1] rfl (by (try simp only [List.map_toArray, List.map_cons, List.map_nil]); first | done | rfl | (simp only [List.length_drop, List.length_take]; rfl)) ?_; (with_reducible refine (laws_markStringS.calls kj10 (fun k_ => some k_ = (.slice Ao20 t333.length co20 : Value).ownBlock) (.slice Ao20 t333.length co20) t333 1 t350 t351 w _ ?side1 ?side2 A41.out).mono ?_); (case side1 => first | exact uB HB | exact uS HB (gC GE332 (gC GE344 gN))); (case side2 => exact Kd.R_tight rfl HO_12.out); rintro e w45 ⟨rfl, hy0, hb, hkp⟩; refine ⟨_, rfl, ?_⟩; have n0_ := Aside0.mk (Kd.R_reok rfl hy0 (fun k_ e_ => HO_12.out.1 k_ e_)); have n1_ := Aside0.mk (Kd.R_mono (ok' := fun k_ => some k_ ≠ (.slice Ao20 t333.length co20 : Value).ownBlock ∧ some k_ ≠ (.slice Ao25 t337.length co25 : Value).ownBlock ∧ some k_ ≠ (.slice Ao26 t340.length co26 : Value).ownBlock ∧ some k_ ≠ (.slice Ao44 t346.length co44 : Value).ownBlock) (Kd.R_keptB (HO_333001.out) hkp (fun k_ hk_ hs_ => (hk_.1.1) hs_)) (fun k_ hk_ => ⟨hk_.1.1.1, hk_.1.1.2.1, hk_.1.1.2.2, hk_.1.2⟩)); have n2_ := Aside0.mk (Kd.V_mono (ok' := fun k_ => some k_ ≠ (.slice Ao20 t333.length co20 : Value).ownBlock ∧ some k_ ≠ (.slice Ao17 t325.length co17 : Value).ownBlock ∧ some k_ ≠ (.slice Ao25 t337.length co25 : Value).ownBlock ∧ some k_ ≠ (.slice Ao26 t340.length co26 : Value).ownBlock ∧ some k_ ≠ (.slice Ao44 t346.length co44 : Value).ownBlock ∧ k_ ≠ gb332 ∧ k_ ≠ gb344) (Kd.V_keptB (HO_333002.out) hkp (fun k_ hk_ hs_ => (hk_.1.1) hs_)) (fun k_ hk_ => ⟨hk_.1.1.1, hk_.1.1.2.1, hk_.1.1.2.2.1, hk_.1.1.2.2.2.1, hk_.1.2, hk_.1.1.2.2.2.2.1, hk_.1.1.2.2.2.2.2⟩)); have n3_ := Aside0.mk (Kd.R_mono (ok' := fun k_ => some k_ ≠ (.slice Ao20 t333.length co20 : Value).ownBlock ∧ some k_ ≠ (.slice Ao17 t325.length co17 : Value).ownBlock ∧ some k_ ≠ (.slice Ao26 t340.length co26 : Value).ownBlock ∧ some k_ ≠ (.slice Ao44 t346.length co44 : Value).ownBlock) (Kd.R_keptB (HO_345001.out) hkp (fun k_ hk_ hs_ => (hk_.1.1) hs_)) (fun k_ hk_ => ⟨hk_.1.1.1, hk_.1.1.2.1, hk_.1.1.2.2, hk_.1.2⟩)); have n4_ := Aside0.mk (Kd.R_mono (ok' := fun k_ => some k_ ≠ (.slice Ao20 t333.length co20 : Value).ownBlock ∧ some k_ ≠ (.slice Ao17 t325.length co17 : Value).ownBlock ∧ some k_ ≠ (.slice Ao25 t337.length co25 : Value).ownBlock ∧ some k_ ≠ (.slice Ao44 t346.length co44 : Value).ownBlock) (Kd.R_keptB (HO_345002.out) hkp (fun k_ hk_ hs_ => (hk_.1.1) hs_)) (fun k_ hk_ => ⟨hk_.1.1.1, hk_.1.1.2.1, hk_.1.1.2.2, hk_.1.2⟩)); have n5_ := Aside0.mk (blk_kept (uK BK332) hkp (fun hs_ => (fun e_ => (Kd.R_ne HO_12.out BK332.out (by decide)) e_) hs_)); have n6_ := Aside0.mk (blk_kept (uK BK344) hkp (fun hs_ => (fun e_ => (Kd.R_ne HO_12.out BK344.out (by decide)) e_) hs_)); have n7_ := Aside0.mk (Kd.R_mono (ok' := fun k_ => some k_ ≠ (.slice Ao20 t333.length co20 : Value).ownBlock ∧ some k_ ≠ (.slice Ao17 t325.length co17 : Value).ownBlock ∧ some k_ ≠ (.slice Ao25 t337.length co25 : Value).ownBlock ∧ some k_ ≠ (.slice Ao26 t340.length co26 : Value).ownBlock) (Kd.R_keptB (HO348.out) hkp (fun k_ hk_ hs_ => (hk_.1.1.1.2) hs_)) (fun k_ hk_ => ⟨hk_.1.1.1.1.2, hk_.1.1.1.2, hk_.1.1.2, hk_.1.2⟩)); have n8_ := Aside0.mk (hb); clear HO_12 HO_333001 HO_333002 HO_345001 HO_345002 BK332 BK344 HO348 HB; have HO_12 := n0_; have HO_333001 := n1_; have HO_333002 := n2_; have HO_345001 := n3_; have HO_345002 := n4_; have BK332 := n5_; have BK344 := n6_; have HO348 := n7_; have HB := n8_; clear n0_ n1_ n2_ n3_ n4_ n5_ n6_ n7_ n8_; (try clear hb); (try clear hkp); (try clear hy0)))
      (try simp only [Act.put, List.setIfInBounds_toArray, List.set_cons_zero, List.set_cons_succ])
      go_cut [73] (fun v73 wc => ∃ (kq : Nat) (x73_41 : Bool), v73 = .bool x73_41 ∧ Aside0 (laws_FnExactCuckooOf.j1 kq a0 l1 a2 a3 t331 x73_41 t324 t325 t328 t336 t337 t340 = some r) ∧ Aside0 (kq ≤ kj10) ∧ Aside0 (Kd.R Kd.string 9 wc w.heap.size (fun k_ => some k_ ≠ ((.slice Ao25 t337.length co25) : Value).ownBlock ∧ some k_ ≠ ((.slice Ao26 t340.length co26) : Value).ownBlock) (.slice Ao17 t325.length co17) t325) ∧ Aside0 (Kd.V Kd.string 9 wc w.heap.size (fun k_ => some k_ ≠ ((.slice Ao17 t325.length co17) : Value).ownBlock ∧ some k_ ≠ ((.slice Ao25 t337.length co25) : Value).ownBlock ∧ some k_ ≠ ((.slice Ao26 t340.length co26) : Value).ownBlock ∧ k_ ≠ gb332 ∧ k_ ≠ gb344) (.slice Ao18 t328.length co18) t328) ∧ Aside0 (Kd.R Kd.string 9 wc w.heap.size (fun k_ => some k_ ≠ ((.slice Ao17 t325.length co17) : Value).ownBlock ∧ some k_ ≠ ((.slice Ao26 t340.length co26) : Value).ownBlock) (.slice Ao25 t337.length co25) t337) ∧ Aside0 (Kd.R Kd.string 9 wc w.heap.size (fun k_ => some k_ ≠ ((.slice Ao17 t325.length co17) : Value).ownBlock ∧ some k_ ≠ ((.slice Ao25 t337.length co25) : Value).ownBlock) (.slice Ao26 t340.length co26) t340) ∧ Aside0 (wc.heap[gb332]? = some (.cells #[.int .i64 t324, (.slice Ao17 t325.length co17), (.slice Ao18 t328.length co18)] 26 (0, 0))) ∧ Aside0 (wc.heap[gb344]? = some (.cells #[.int .i64 t336, (.slice Ao25 t337.length co25), (.slice Ao26 t340.length co26)] 26 (0, 0))) ∧ Aside0 (Below w.heap.size w wc))
      case first =>
       have H := HC42.out
       clear HC42
       by_cases c46 : t350 < 0
       ·
        rw [if_pos c46] at H
        have c46b0 : decide (t350 < 0) = true := decide_eq_true c46
        clear c46
        (first | rw [c46b0] | (simp only [i64_w, i32_w]; rw [c46b0]) | skip)
        have H' := Aside0.mk H
        clear H
        go_wp2
        go_meet
        case rel => exact ⟨_, (true), (by first | rfl | (simp; done) | (simp [*]; done)), H', ⟨by have := HJ10.out; first | omega | exact Nat.le_refl _⟩, ⟨by (with_reducible repeat (first | apply Kd.R_alloc | apply Kd.R_drewN | apply Kd.R_drew)); exact Kd.R_mono HO_333001.out (fun _ hk => ⟨hk.2.1, hk.2.2.1⟩)⟩, ⟨by (with_reducible repeat (first | apply Kd.V_alloc | apply Kd.V_drewN | apply Kd.V_drew)); exact Kd.V_mono HO_333002.out (fun _ hk => ⟨hk.2.1, ⟨hk.2.2.1, ⟨hk.2.2.2.1, ⟨hk.2.2.2.2.2.1, hk.2.2.2.2.2.2⟩⟩⟩⟩)⟩, ⟨by (with_reducible repeat (first | apply Kd.R_alloc | apply Kd.R_drewN | apply Kd.R_drew)); exact Kd.R_mono HO_345001.out (fun _ hk => ⟨hk.2.1, hk.2.2.1⟩)⟩, ⟨by (with_reducible repeat (first | apply Kd.R_alloc | apply Kd.R_drewN | apply Kd.R_drew)); exact Kd.R_mono HO_345002.out (fun _ hk => ⟨hk.2.1, hk.2.2.1⟩)⟩, ⟨by refine uW ?_; exact BK332.out⟩, ⟨by refine uW ?_; exact BK344.out⟩, ⟨by first | exact uB HB | exact uS HB (gC GE332 (gC GE344 gN))⟩⟩
       ·
        rw [if_neg c46] at H
        have c46b0 : decide (t350 < 0) = false := decide_eq_false c46
        clear c46
        (first | rw [c46b0] | (simp only [i64_w, i32_w]; rw [c46b0]) | skip)
        replace H := Option.bind_eq_some_iff.mp H
        obtain ⟨t352, A470, H⟩ := H
        replace H : (if t352 = true then (laws_FnExactCuckooOf.j1 kj10 a0 l1 a2 a3 t331 (t343 != t331) t324 t325 t328 t336 t337 t340) else (laws_FnExactCuckooOf.j1 kj10 a0 l1 a2 a3 t331 true t324 t325 t328 t336 t337 t340)) = some r := H
        have A47 := Aside0.mk A470
        clear A470
        by_cases c48 : t352 = true
        ·
         subst c48
         have H1 : (laws_FnExactCuckooOf.j1 kj10 a0 l1 a2 a3 t331 (t343 != t331) t324 t325 t328 t336 t337 t340) = some r := by rw [if_pos rfl] at H; exact H
         clear H
         have H := H1
         clear H1
         have H' := Aside0.mk H
         clear H
         have hnb49 := NB344_332.out
         have hnc49 := NB332_344.out
         have hcz50_0 : w45.cell? ⟨gb344, 0, none⟩ = some (.int .i64 t336) := (blk_cell BK344.out 0).trans rfl
         have hcz50_1 : w45.cell? ⟨gb344, 1, none⟩ = some (.slice Ao25 t337.length co25) := (blk_cell BK344.out 1).trans rfl
         have hcz50_2 : w45.cell? ⟨gb344, 2, none⟩ = some (.slice Ao26 t340.length co26) := (blk_cell BK344.out 2).trans rfl
         have hfz50_0 := blk_frozen BK344.out 0
         have hfz50_1 := blk_frozen BK344.out 1
         have hfz50_2 := blk_frozen BK344.out 2
         have hcz51_0 : w45.cell? ⟨gb332, 0, none⟩ = some (.int .i64 t324) := (blk_cell BK332.out 0).trans rfl
         have hcz51_1 : w45.cell? ⟨gb332, 1, none⟩ = some (.slice Ao17 t325.length co17) := (blk_cell BK332.out 1).trans rfl
         have hcz51_2 : w45.cell? ⟨gb332, 2, none⟩ = some (.slice Ao18 t328.length co18) := (blk_cell BK332.out 2).trans rfl
         have hfz51_0 := blk_frozen BK332.out 0
         have hfz51_1 := blk_frozen BK332.out 1
         have hfz51_2 := blk_frozen BK332.out 2
         go_wp2_with (first | (go_at_call 10; (with_reducible refine (laws_eqCuckoo.calls kj10 t336 _ _ t337 _ _ t340 t324 _ _ t325 _ _ t328 true _ ?side1 ?side2 ?side3 ?side4 ?side5 ?side6 ?side7 ?side8 A47.out).mono ?_); (case side1 => exact uD HO_345001); (case side2 => exact (Kd.R_reads' HO_345001.out).2.1); (case side3 => exact uD HO_345002); (case side4 => exact (Kd.R_reads' HO_345002.out).2.1); (case side5 => exact uD HO_333001); (case side6 => exact (Kd.R_reads' HO_333001.out).2.1); (case side7 => repeat (first | exact (Kd.V_reads' HO_333002.out).2.2 | (with_reducible refine Kd.C_alloc ?_ _) | (with_reducible refine Kd.C_drewN ?_ _) | (with_reducible refine Kd.C_drew ?_))); (case side8 => exact (Kd.V_reads' HO_333002.out).2.1); rintro e w52 ⟨rfl, hb⟩; have n0_ := Aside0.mk (Kd.R_below (uR HO_12) hb); have n1_ := Aside0.mk (Kd.R_below (uR HO_333001) hb); have n2_ := Aside0.mk (Kd.V_below (by (with_reducible repeat (first | apply Kd.V_alloc | apply Kd.V_drewN | apply Kd.V_drew)); exact HO_333002.out) hb); have n3_ := Aside0.mk (Kd.R_below (uR HO_345001) hb); have n4_ := Aside0.mk (Kd.R_below (uR HO_345002) hb); have n5_ := Aside0.mk (Kd.R_below (uR HO348) hb); have n6_ := Aside0.mk (blk_below (g := gb332) (o := .cells #[.int .i64 t324, .slice Ao17 t325.length co17, .slice Ao18 t328.length co18] 26 (0, 0)) (uK BK332) hb); have n7_ := Aside0.mk (blk_below (g := gb344) (o := .cells #[.int .i64 t336, .slice Ao25 t337.length co25, .slice Ao26 t340.length co26] 26 (0, 0)) (uK BK344) hb); have n8_ := Aside0.mk (below_step (by first | exact uB HB | exact uS HB (gC GE332 (gC GE344 gN))) hb); clear HO_12 HO_333001 HO_333002 HO_345001 HO_345002 HO348 BK332 BK344 HB; have HO_12 := n0_; have HO_333001 := n1_; have HO_333002 := n2_; have HO_345001 := n3_; have HO_345002 := n4_; have HO348 := n5_; have BK332 := n6_; have BK344 := n7_; have HB := n8_; clear n0_ n1_ n2_ n3_ n4_ n5_ n6_ n7_ n8_; (try clear hb); (try clear hb2); (try clear hk); (try clear hi)))
         go_meet
         case rel => exact ⟨_, ((t343 != t331)), (by first | rfl | (simp; done) | (simp [*]; done)), H', ⟨by have := HJ10.out; first | omega | exact Nat.le_refl _⟩, ⟨by (with_reducible repeat (first | apply Kd.R_alloc | apply Kd.R_drewN | apply Kd.R_drew)); exact Kd.R_mono HO_333001.out (fun _ hk => ⟨hk.2.1, hk.2.2.1⟩)⟩, ⟨by (with_reducible repeat (first | apply Kd.V_alloc | apply Kd.V_drewN | apply Kd.V_drew)); exact Kd.V_mono HO_333002.out (fun _ hk => ⟨hk.2.1, ⟨hk.2.2.1, ⟨hk.2.2.2.1, ⟨hk.2.2.2.2.2.1, hk.2.2.2.2.2.2⟩⟩⟩⟩)⟩, ⟨by (with_reducible repeat (first | apply Kd.R_alloc | apply Kd.R_drewN | apply Kd.R_drew)); exact Kd.R_mono HO_345001.out (fun _ hk => ⟨hk.2.1, hk.2.2.1⟩)⟩, ⟨by (with_reducible repeat (first | apply Kd.R_alloc | apply Kd.R_drewN | apply Kd.R_drew)); exact Kd.R_mono HO_345002.out (fun _ hk => ⟨hk.2.1, hk.2.2.1⟩)⟩, ⟨by refine uW ?_; exact BK332.out⟩, ⟨by refine uW ?_; exact BK344.out⟩, ⟨by first | exact uB HB | exact uS HB (gC GE332 (gC GE344 gN))⟩⟩
        ·
         replace c48 := Bool.eq_false_iff.mpr c48
         subst c48
         have H1 : (laws_FnExactCuckooOf.j1 kj10 a0 l1 a2 a3 t331 true t324 t325 t328 t336 t337 t340) = some r := by rw [if_neg (show ¬ (false = true) by decide)] at H; exact H
         clear H
         have H := H1
         clear H1
         have H' := Aside0.mk H
         clear H
         have hnb53 := NB344_332.out
         have hnc53 := NB332_344.out
         have hcz54_0 : w45.cell? ⟨gb344, 0, none⟩ = some (.int .i64 t336) := (blk_cell BK344.out 0).trans rfl
         have hcz54_1 : w45.cell? ⟨gb344, 1, none⟩ = some (.slice Ao25 t337.length co25) := (blk_cell BK344.out 1).trans rfl
         have hcz54_2 : w45.cell? ⟨gb344, 2, none⟩ = some (.slice Ao26 t340.length co26) := (blk_cell BK344.out 2).trans rfl
         have hfz54_0 := blk_frozen BK344.out 0
         have hfz54_1 := blk_frozen BK344.out 1
         have hfz54_2 := blk_frozen BK344.out 2
         have hcz55_0 : w45.cell? ⟨gb332, 0, none⟩ = some (.int .i64 t324) := (blk_cell BK332.out 0).trans rfl
         have hcz55_1 : w45.cell? ⟨gb332, 1, none⟩ = some (.slice Ao17 t325.length co17) := (blk_cell BK332.out 1).trans rfl
         have hcz55_2 : w45.cell? ⟨gb332, 2, none⟩ = some (.slice Ao18 t328.length co18) := (blk_cell BK332.out 2).trans rfl
         have hfz55_0 := blk_frozen BK332.out 0
         have hfz55_1 := blk_frozen BK332.out 1
         have hfz55_2 := blk_frozen BK332.out 2
         go_wp2_with (first | (go_at_call 10; (with_reducible refine (laws_eqCuckoo.calls kj10 t336 _ _ t337 _ _ t340 t324 _ _ t325 _ _ t328 false _ ?side1 ?side2 ?side3 ?side4 ?side5 ?side6 ?side7 ?side8 A47.out).mono ?_); (case side1 => exact uD HO_345001); (case side2 => exact (Kd.R_reads' HO_345001.out).2.1); (case side3 => exact uD HO_345002); (case side4 => exact (Kd.R_reads' HO_345002.out).2.1); (case side5 => exact uD HO_333001); (case side6 => exact (Kd.R_reads' HO_333001.out).2.1); (case side7 => repeat (first | exact (Kd.V_reads' HO_333002.out).2.2 | (with_reducible refine Kd.C_alloc ?_ _) | (with_reducible refine Kd.C_drewN ?_ _) | (with_reducible refine Kd.C_drew ?_))); (case side8 => exact (Kd.V_reads' HO_333002.out).2.1); rintro e w56 ⟨rfl, hb⟩; have n0_ := Aside0.mk (Kd.R_below (uR HO_12) hb); have n1_ := Aside0.mk (Kd.R_below (uR HO_333001) hb); have n2_ := Aside0.mk (Kd.V_below (by (with_reducible repeat (first | apply Kd.V_alloc | apply Kd.V_drewN | apply Kd.V_drew)); exact HO_333002.out) hb); have n3_ := Aside0.mk (Kd.R_below (uR HO_345001) hb); have n4_ := Aside0.mk (Kd.R_below (uR HO_345002) hb); have n5_ := Aside0.mk (Kd.R_below (uR HO348) hb); have n6_ := Aside0.mk (blk_below (g := gb332) (o := .cells #[.int .i64 t324, .slice Ao17 t325.length co17, .slice Ao18 t328.length co18] 26 (0, 0)) (uK BK332) hb); have n7_ := Aside0.mk (blk_below (g := gb344) (o := .cells #[.int .i64 t336, .slice Ao25 t337.length co25, .slice Ao26 t340.length co26] 26 (0, 0)) (uK BK344) hb); have n8_ := Aside0.mk (below_step (by first | exact uB HB | exact uS HB (gC GE332 (gC GE344 gN))) hb); clear HO_12 HO_333001 HO_333002 HO_345001 HO_345002 HO348 BK332 BK344 HB; have HO_12 := n0_; have HO_333001 := n1_; have HO_333002 := n2_; have HO_345001 := n3_; have HO_345002 := n4_; have HO348 := n5_; have BK332 := n6_; have BK344 := n7_; have HB := n8_; clear n0_ n1_ n2_ n3_ n4_ n5_ n6_ n7_ n8_; (try clear hb); (try clear hb2); (try clear hk); (try clear hi)))
         go_meet
         case rel => exact ⟨_, (true), (by first | rfl | (simp; done) | (simp [*]; done)), H', ⟨by have := HJ10.out; first | omega | exact Nat.le_refl _⟩, ⟨by (with_reducible repeat (first | apply Kd.R_alloc | apply Kd.R_drewN | apply Kd.R_drew)); exact Kd.R_mono HO_333001.out (fun _ hk => ⟨hk.2.1, hk.2.2.1⟩)⟩, ⟨by (with_reducible repeat (first | apply Kd.V_alloc | apply Kd.V_drewN | apply Kd.V_drew)); exact Kd.V_mono HO_333002.out (fun _ hk => ⟨hk.2.1, ⟨hk.2.2.1, ⟨hk.2.2.2.1, ⟨hk.2.2.2.2.2.1, hk.2.2.2.2.2.2⟩⟩⟩⟩)⟩, ⟨by (with_reducible repeat (first | apply Kd.R_alloc | apply Kd.R_drewN | apply Kd.R_drew)); exact Kd.R_mono HO_345001.out (fun _ hk => ⟨hk.2.1, hk.2.2.1⟩)⟩, ⟨by (with_reducible repeat (first | apply Kd.R_alloc | apply Kd.R_drewN | apply Kd.R_drew)); exact Kd.R_mono HO_345002.out (fun _ hk => ⟨hk.2.1, hk.2.2.1⟩)⟩, ⟨by refine uW ?_; exact BK332.out⟩, ⟨by refine uW ?_; exact BK344.out⟩, ⟨by first | exact uB HB | exact uS HB (gC GE332 (gC GE344 gN))⟩⟩
      case rest =>
       clear HC42
       try clear c1
       try clear c2
       try clear p2
       try clear c3
       try clear c4
       try clear c5
       try clear c6
       try clear c6b0
       try clear c10
       try clear c15
       try clear c16
       try clear c17
       try clear c18
       try clear c19
       try clear c20
       try clear c23
       try clear c28
       try clear c29
       try clear c33
       try clear c37
       try clear c40
       try clear c46
       try clear c46b0
       try clear c48
       try clear c49
       try clear c53
       try clear hcz16_0
       try clear hcz16_1
       try clear hcz16_2
       try clear hcz24_0
       try clear hcz24_1
       try clear hcz24_2
       try clear hcz30_0
       try clear hcz30_1
       try clear hcz30_2
       try clear hcz31_0
       try clear hcz31_1
       try clear hcz31_2
       try clear hcz34_0
       try clear hcz34_1
       try clear hcz34_2
       try clear hcz35_0
       try clear hcz35_1
       try clear hcz35_2
       try clear hcz50_0
       try clear hcz50_1
       try clear hcz50_2
       try clear hcz51_0
       try clear hcz51_1
       try clear hcz51_2
       try clear hcz54_0
       try clear hcz54_1
       try clear hcz54_2
       try clear hcz55_0
       try clear hcz55_1
       try clear hcz55_2
       try clear hfz16_0
       try clear hfz16_1
       try clear hfz16_2
       try clear hfz24_0
       try clear hfz24_1
       try clear hfz24_2
       try clear hfz30_0
       try clear hfz30_1
       try clear hfz30_2
       try clear hfz31_0
       try clear hfz31_1
       try clear hfz31_2
       try clear hfz34_0
       try clear hfz34_1
       try clear hfz34_2
       try clear hfz35_0
       try clear hfz35_1
       try clear hfz35_2
       try clear hfz50_0
       try clear hfz50_1
       try clear hfz50_2
       try clear hfz51_0
       try clear hfz51_1
       try clear hfz51_2
       try clear hfz54_0
       try clear hfz54_1
       try clear hfz54_2
       try clear hfz55_0
       try clear hfz55_1
       try clear hfz55_2
       try clear p2
       obtain ⟨kq, x73_41, rfl, HA, HJ41, HO_333001, HO_333002, HO_345001, HO_345002, BK332, BK344, HB⟩ := hcut
       cases kq with
       | zero => exact absurd HA.out (by simp [laws_FnExactCuckooOf.j1])
       | succ kj41 =>
        have H := HA.out
        clear HA
        simp only [laws_FnExactCuckooOf.j1] at H
        by_cases c57 : x73_41 = true
        ·
         subst c57
         have H1 : (some false) = some r := by rw [if_pos rfl] at H; exact H
         clear H
         have H := H1
         clear H1
         obtain rfl := Option.some.inj H
         go_wp2
         go_ret
         exact ⟨by first | rfl | (simp [errW_none, errW_some] <;> rfl) | (simp [*, errW_none, errW_some] <;> rfl), by first | exact uB HB | exact uS HB (gC GE332 (gC GE344 gN))⟩
        ·
         replace c57 := Bool.eq_false_iff.mpr c57
         subst c57
         have H1 : ((laws_markCuckoo.f kj41 t336 t337 t340 1).bind fun bt353 => ((laws_heldCuckoo.f kj41 t336 bt353.2.1 bt353.2.2 1).bind fun t356 => (if t356 < 0 then (some false) else (if t356 = bt353.1 then ((laws_toStringS.f kj41 l1).bind fun t357 => ((impl_CuckooOf.f kj41 a0 t357 a2 a3).bind fun bt360 => ((laws_eqCuckoo.f kj41 bt360.1 bt360.2.1 bt360.2.2.1 t324 t325 t328).bind fun t369 => (if t369 = true then (laws_FnExactCuckooOf.j2 kj41 bt353.1 (bt360.2.2.2 != t331) t336 bt353.2.1 bt353.2.2) else (laws_FnExactCuckooOf.j2 kj41 bt353.1 true t336 bt353.2.1 bt353.2.2))))) else (some false))))) = some r := by rw [if_neg (show ¬ (false = true) by decide)] at H; exact H
         clear H
         have H := H1
         clear H1
         replace H := Option.bind_eq_some_iff.mp H
         obtain ⟨⟨t353, t354, t355⟩, A580, H⟩ := H
         replace H : ((laws_heldCuckoo.f kj41 t336 t354 t355 1).bind fun t356 => (if t356 < 0 then (some false) else (if t356 = t353 then ((laws_toStringS.f kj41 l1).bind fun t357 => ((impl_CuckooOf.f kj41 a0 t357 a2 a3).bind fun bt360 => ((laws_eqCuckoo.f kj41 bt360.1 bt360.2.1 bt360.2.2.1 t324 t325 t328).bind fun t369 => (if t369 = true then (laws_FnExactCuckooOf.j2 kj41 t353 (bt360.2.2.2 != t331) t336 t354 t355) else (laws_FnExactCuckooOf.j2 kj41 t353 true t336 t354 t355))))) else (some false)))) = some r := H
         have A58 := Aside0.mk A580
         clear A580
         replace H := Option.bind_eq_some_iff.mp H
         obtain ⟨t356, A590, H⟩ := H
         replace H : (if t356 < 0 then (some false) else (if t356 = t353 then ((laws_toStringS.f kj41 l1).bind fun t357 => ((impl_CuckooOf.f kj41 a0 t357 a2 a3).bind fun bt360 => ((laws_eqCuckoo.f kj41 bt360.1 bt360.2.1 bt360.2.2.1 t324 t325 t328).bind fun t369 => (if t369 = true then (laws_FnExactCuckooOf.j2 kj41 t353 (bt360.2.2.2 != t331) t336 t354 t355) else (laws_FnExactCuckooOf.j2 kj41 t353 true t336 t354 t355))))) else (some false))) = some r := H
         have A59 := Aside0.mk A590
         clear A590
         by_cases c60 : t356 < 0
         ·
          rw [if_pos c60] at H
          have c60b0 : decide (t356 < 0) = true := decide_eq_true c60
          clear c60
          obtain rfl := Option.some.inj H
          have hnb61 := NB344_332.out
          have hnc61 := NB332_344.out
          have hcz62_0 : wc.cell? ⟨gb344, 0, none⟩ = some (.int .i64 t336) := (blk_cell BK344.out 0).trans rfl
          have hcz62_1 : wc.cell? ⟨gb344, 1, none⟩ = some (.slice Ao25 t337.length co25) := (blk_cell BK344.out 1).trans rfl
          have hcz62_2 : wc.cell? ⟨gb344, 2, none⟩ = some (.slice Ao26 t340.length co26) := (blk_cell BK344.out 2).trans rfl
          have hfz62_0 := blk_frozen BK344.out 0
          have hfz62_1 := blk_frozen BK344.out 1
          have hfz62_2 := blk_frozen BK344.out 2
          go_wp2_with (first | ((with_reducible refine gate_callee (f := 11) rfl ?_); refine goesL_ (some 76) rfl rfl Try.func11 (by kernel_rfl) rfl #[.agg #[.int .i64 t336, .slice Ao25 t337.length co25, .slice Ao26 t340.length co26], .int .i64 1] rfl (by (try simp only [List.map_toArray, List.map_cons, List.map_nil]); first | done | rfl | (simp only [List.length_drop, List.length_take]; rfl)) ?_; (with_reducible refine (laws_markCuckoo.calls kj41 t336 (fun k_ => some k_ = (.slice Ao25 t337.length co25 : Value).ownBlock) (.slice Ao25 t337.length co25) t337 (fun k_ => some k_ = (.slice Ao26 t340.length co26 : Value).ownBlock) (.slice Ao26 t340.length co26) t340 1 t353 t354 t355 w _ ?side1 ?side2 ?side3 ?side4 ?side5 A58.out).mono ?_); (case side1 => first | exact uB HB | exact uS HB (gC GE332 (gC GE344 gN))); (case side2 => exact Kd.R_tight rfl HO_345001.out); (case side3 => exact fun k_ e_ => (HO_345001.out.1 k_ e_.symm).2); (case side4 => exact Kd.R_tight rfl HO_345002.out); (case side5 => exact fun k_ e_ => (HO_345002.out.1 k_ e_.symm).2); rintro e w63 ⟨rfl, hy0, hy1, hb, hkp⟩; refine ⟨_, rfl, ?_⟩; have n0_ := Aside0.mk (Kd.R_mono (ok' := fun k_ => some k_ ≠ (.slice Ao25 t337.length co25 : Value).ownBlock ∧ some k_ ≠ (.slice Ao26 t340.length co26 : Value).ownBlock) (Kd.R_keptB (HO_333001.out) hkp (fun k_ hk_ hs_ => Or.elim hs_ (fun e_ => (hk_.1) e_) (fun e_ => (hk_.2) e_))) (fun k_ hk_ => ⟨hk_.1.1, hk_.1.2⟩)); have n1_ := Aside0.mk (Kd.V_mono (ok' := fun k_ => some k_ ≠ (.slice Ao17 t325.length co17 : Value).ownBlock ∧ some k_ ≠ (.slice Ao25 t337.length co25 : Value).ownBlock ∧ some k_ ≠ (.slice Ao26 t340.length co26 : Value).ownBlock ∧ k_ ≠ gb332 ∧ k_ ≠ gb344) (Kd.V_keptB (HO_333002.out) hkp (fun k_ hk_ hs_ => Or.elim hs_ (fun e_ => (hk_.2.1) e_) (fun e_ => (hk_.2.2.1) e_))) (fun k_ hk_ => ⟨hk_.1.1, hk_.1.2.1, hk_.1.2.2.1, hk_.1.2.2.2.1, hk_.1.2.2.2.2⟩)); have n2_ := Aside0.mk (Kd.R_reok rfl hy0 (fun k_ e_ => HO_345001.out.1 k_ e_)); have n3_ := Aside0.mk (Kd.R_reok rfl hy1 (fun k_ e_ => HO_345002.out.1 k_ e_)); have n4_ := Aside0.mk (blk_kept (uK BK332) hkp (fun hs_ => Or.elim hs_ (fun e_ => (fun e_ => (Kd.R_ne HO_345001.out BK332.out (by decide)) e_) e_) (fun e_ => (fun e_ => (Kd.R_ne HO_345002.out BK332.out (by decide)) e_) e_))); have n5_ := Aside0.mk (blk_kept (uK BK344) hkp (fun hs_ => Or.elim hs_ (fun e_ => (fun e_ => (Kd.R_ne HO_345001.out BK344.out (by decide)) e_) e_) (fun e_ => (fun e_ => (Kd.R_ne HO_345002.out BK344.out (by decide)) e_) e_))); have n6_ := Aside0.mk (hb); clear HO_333001 HO_333002 HO_345001 HO_345002 BK332 BK344 HB; have HO_333001 := n0_; have HO_333002 := n1_; have HO_345001 := n2_; have HO_345002 := n3_; have BK332 := n4_; have BK344 := n5_; have HB := n6_; clear n0_ n1_ n2_ n3_ n4_ n5_ n6_; (try clear hb); (try clear hkp); (try clear hy0); (try clear hy1); have hcz64_0 : w63.cell? ⟨gb344, 0, none⟩ = some (.int .i64 t336) := (blk_cell BK344.out 0).trans rfl; have hcz64_1 : w63.cell? ⟨gb344, 1, none⟩ = some (.slice Ao25 t337.length co25) := (blk_cell BK344.out 1).trans rfl; have hcz64_2 : w63.cell? ⟨gb344, 2, none⟩ = some (.slice Ao26 t340.length co26) := (blk_cell BK344.out 2).trans rfl; have hfz64_0 := blk_frozen BK344.out 0; have hfz64_1 := blk_frozen BK344.out 1; have hfz64_2 := blk_frozen BK344.out 2) | ((with_reducible refine gate_callee (f := 12) rfl ?_); refine goesL_ (some 79) rfl rfl Try.func12 (by kernel_rfl) rfl #[.agg #[.int .i64 t336, .slice Ao25 t354.length co25, .slice Ao26 t355.length co26], .int .i64 1] rfl (by (try simp only [List.map_toArray, List.map_cons, List.map_nil]); first | done | (rw [show t354.length = t337.length from (Kd.R_reads' HO_345001.out).1.symm, show t355.length = t340.length from (Kd.R_reads' HO_345002.out).1.symm] <;> rfl) | rfl | (simp only [List.length_drop, List.length_take]; rfl)) ?_; (with_reducible refine (laws_heldCuckoo.calls kj41 t336 _ _ t354 _ _ t355 1 t356 _ ?side1 ?side2 ?side3 ?side4 A59.out).mono ?_); (case side1 => exact uD HO_345001); (case side2 => rw [show t354.length = t337.length from (Kd.R_reads' HO_345001.out).1.symm]; exact (Kd.R_reads' HO_345001.out).2.1); (case side3 => exact uD HO_345002); (case side4 => rw [show t355.length = t340.length from (Kd.R_reads' HO_345002.out).1.symm]; exact (Kd.R_reads' HO_345002.out).2.1); rintro e w65 ⟨rfl, hb⟩; refine ⟨_, rfl, ?_⟩; have n0_ := Aside0.mk (Kd.R_below (uR HO_333001) hb); have n1_ := Aside0.mk (Kd.V_below (by (with_reducible repeat (first | apply Kd.V_alloc | apply Kd.V_drewN | apply Kd.V_drew)); exact HO_333002.out) hb); have n2_ := Aside0.mk (Kd.R_below (uR HO_345001) hb); have n3_ := Aside0.mk (Kd.R_below (uR HO_345002) hb); have n4_ := Aside0.mk (blk_below (g := gb332) (o := .cells #[.int .i64 t324, .slice Ao17 t325.length co17, .slice Ao18 t328.length co18] 26 (0, 0)) (uK BK332) hb); have n5_ := Aside0.mk (blk_below (g := gb344) (o := .cells #[.int .i64 t336, .slice Ao25 t337.length co25, .slice Ao26 t340.length co26] 26 (0, 0)) (uK BK344) hb); have n6_ := Aside0.mk (below_step (by first | exact uB HB | exact uS HB (gC GE332 (gC GE344 gN))) hb); clear HO_333001 HO_333002 HO_345001 HO_345002 BK332 BK344 HB; have HO_333001 := n0_; have HO_333002 := n1_; have HO_345001 := n2_; have HO_345002 := n3_; have BK332 := n4_; have BK344 := n5_; have HB := n6_; clear n0_ n1_ n2_ n3_ n4_ n5_ n6_; (try clear hb); (try clear hb2); (try clear hk); (try clear hi)))
          go_ret
          exact ⟨by first | rfl | (simp [errW_none, errW_some] <;> rfl) | (simp [*, errW_none, errW_some] <;> rfl), by first | exact uB HB | exact uS HB (gC GE332 (gC GE344 gN))⟩
         ·
          rw [if_neg c60] at H
          have c60b0 : decide (t356 < 0) = false := decide_eq_false c60
          clear c60
          by_cases c66 : t356 = t353
          ·
           rw [if_pos c66] at H
           have c66b0 : (t356 == t353) = true := beq_iff_eq.mpr c66
           have c66b1 : (t356 != t353) = false := bne_eq_false_iff_eq.mpr c66
           clear c66
           replace H := Option.bind_eq_some_iff.mp H
           obtain ⟨t357, A670, H⟩ := H
           replace H : ((impl_CuckooOf.f kj41 a0 t357 a2 a3).bind fun bt360 => ((laws_eqCuckoo.f kj41 bt360.1 bt360.2.1 bt360.2.2.1 t324 t325 t328).bind fun t369 => (if t369 = true then (laws_FnExactCuckooOf.j2 kj41 t353 (bt360.2.2.2 != t331) t336 t354 t355) else (laws_FnExactCuckooOf.j2 kj41 t353 true t336 t354 t355)))) = some r := H
           have A67 := Aside0.mk A670
           clear A670
           replace H := Option.bind_eq_some_iff.mp H
           obtain ⟨⟨t360, t361, t364, t367⟩, A680, H⟩ := H
           replace H : ((laws_eqCuckoo.f kj41 t360 t361 t364 t324 t325 t328).bind fun t369 => (if t369 = true then (laws_FnExactCuckooOf.j2 kj41 t353 (t367 != t331) t336 t354 t355) else (laws_FnExactCuckooOf.j2 kj41 t353 true t336 t354 t355))) = some r := H
           have A68 := Aside0.mk A680
           clear A680
           have HC69 := Aside0.mk H
           clear H
           have hnb70 := NB344_332.out
           have hnc70 := NB332_344.out
           have hcz71_0 : wc.cell? ⟨gb344, 0, none⟩ = some (.int .i64 t336) := (blk_cell BK344.out 0).trans rfl
           have hcz71_1 : wc.cell? ⟨gb344, 1, none⟩ = some (.slice Ao25 t337.length co25) := (blk_cell BK344.out 1).trans rfl
           have hcz71_2 : wc.cell? ⟨gb344, 2, none⟩ = some (.slice Ao26 t340.length co26) := (blk_cell BK344.out 2).trans rfl
           have hfz71_0 := blk_frozen BK344.out 0
           have hfz71_1 := blk_frozen BK344.out 1
           have hfz71_2 := blk_frozen BK344.out 2
           go_upto_region 25 with (first | ((with_reducible refine gate_callee (f := 11) rfl ?_); refine goesL_ (some 76) rfl rfl Try.func11 (by kernel_rfl) rfl #[.agg #[.int .i64 t336, .slice Ao25 t337.length co25, .slice Ao26 t340.length co26], .int .i64 1] rfl (by (try simp only [List.map_toArray, List.map_cons, List.map_nil]); first | done | rfl | (simp only [List.length_drop, List.length_take]; rfl)) ?_; (with_reducible refine (laws_markCuckoo.calls kj41 t336 (fun k_ => some k_ = (.slice Ao25 t337.length co25 : Value).ownBlock) (.slice Ao25 t337.length co25) t337 (fun k_ => some k_ = (.slice Ao26 t340.length co26 : Value).ownBlock) (.slice Ao26 t340.length co26) t340 1 t353 t354 t355 w _ ?side1 ?side2 ?side3 ?side4 ?side5 A58.out).mono ?_); (case side1 => first | exact uB HB | exact uS HB (gC GE332 (gC GE344 gN))); (case side2 => exact Kd.R_tight rfl HO_345001.out); (case side3 => exact fun k_ e_ => (HO_345001.out.1 k_ e_.symm).2); (case side4 => exact Kd.R_tight rfl HO_345002.out); (case side5 => exact fun k_ e_ => (HO_345002.out.1 k_ e_.symm).2); rintro e w72 ⟨rfl, hy0, hy1, hb, hkp⟩; refine ⟨_, rfl, ?_⟩; have n0_ := Aside0.mk (Kd.R_mono (ok' := fun k_ => some k_ ≠ (.slice Ao25 t337.length co25 : Value).ownBlock ∧ some k_ ≠ (.slice Ao26 t340.length co26 : Value).ownBlock) (Kd.R_keptB (HO_333001.out) hkp (fun k_ hk_ hs_ => Or.elim hs_ (fun e_ => (hk_.1) e_) (fun e_ => (hk_.2) e_))) (fun k_ hk_ => ⟨hk_.1.1, hk_.1.2⟩)); have n1_ := Aside0.mk (Kd.V_mono (ok' := fun k_ => some k_ ≠ (.slice Ao17 t325.length co17 : Value).ownBlock ∧ some k_ ≠ (.slice Ao25 t337.length co25 : Value).ownBlock ∧ some k_ ≠ (.slice Ao26 t340.length co26 : Value).ownBlock ∧ k_ ≠ gb332 ∧ k_ ≠ gb344) (Kd.V_keptB (HO_333002.out) hkp (fun k_ hk_ hs_ => Or.elim hs_ (fun e_ => (hk_.2.1) e_) (fun e_ => (hk_.2.2.1) e_))) (fun k_ hk_ => ⟨hk_.1.1, hk_.1.2.1, hk_.1.2.2.1, hk_.1.2.2.2.1, hk_.1.2.2.2.2⟩)); have n2_ := Aside0.mk (Kd.R_reok rfl hy0 (fun k_ e_ => HO_345001.out.1 k_ e_)); have n3_ := Aside0.mk (Kd.R_reok rfl hy1 (fun k_ e_ => HO_345002.out.1 k_ e_)); have n4_ := Aside0.mk (blk_kept (uK BK332) hkp (fun hs_ => Or.elim hs_ (fun e_ => (fun e_ => (Kd.R_ne HO_345001.out BK332.out (by decide)) e_) e_) (fun e_ => (fun e_ => (Kd.R_ne HO_345002.out BK332.out (by decide)) e_) e_))); have n5_ := Aside0.mk (blk_kept (uK BK344) hkp (fun hs_ => Or.elim hs_ (fun e_ => (fun e_ => (Kd.R_ne HO_345001.out BK344.out (by decide)) e_) e_) (fun e_ => (fun e_ => (Kd.R_ne HO_345002.out BK344.out (by decide)) e_) e_))); have n6_ := Aside0.mk (hb); clear HO_333001 HO_333002 HO_345001 HO_345002 BK332 BK344 HB; have HO_333001 := n0_; have HO_333002 := n1_; have HO_345001 := n2_; have HO_345002 := n3_; have BK332 := n4_; have BK344 := n5_; have HB := n6_; clear n0_ n1_ n2_ n3_ n4_ n5_ n6_; (try clear hb); (try clear hkp); (try clear hy0); (try clear hy1); have hcz73_0 : w72.cell? ⟨gb344, 0, none⟩ = some (.int .i64 t336) := (blk_cell BK344.out 0).trans rfl; have hcz73_1 : w72.cell? ⟨gb344, 1, none⟩ = some (.slice Ao25 t337.length co25) := (blk_cell BK344.out 1).trans rfl; have hcz73_2 : w72.cell? ⟨gb344, 2, none⟩ = some (.slice Ao26 t340.length co26) := (blk_cell BK344.out 2).trans rfl; have hfz73_0 := blk_frozen BK344.out 0; have hfz73_1 := blk_frozen BK344.out 1; have hfz73_2 := blk_frozen BK344.out 2) | ((with_reducible refine gate_callee (f := 12) rfl ?_); refine goesL_ (some 79) rfl rfl Try.func12 (by kernel_rfl) rfl #[.agg #[.int .i64 t336, .slice Ao25 t354.length co25, .slice Ao26 t355.length co26], .int .i64 1] rfl (by (try simp only [List.map_toArray, List.map_cons, List.map_nil]); first | done | (rw [show t354.length = t337.length from (Kd.R_reads' HO_345001.out).1.symm, show t355.length = t340.length from (Kd.R_reads' HO_345002.out).1.symm] <;> rfl) | rfl | (simp only [List.length_drop, List.length_take]; rfl)) ?_; (with_reducible refine (laws_heldCuckoo.calls kj41 t336 _ _ t354 _ _ t355 1 t356 _ ?side1 ?side2 ?side3 ?side4 A59.out).mono ?_); (case side1 => exact uD HO_345001); (case side2 => rw [show t354.length = t337.length from (Kd.R_reads' HO_345001.out).1.symm]; exact (Kd.R_reads' HO_345001.out).2.1); (case side3 => exact uD HO_345002); (case side4 => rw [show t355.length = t340.length from (Kd.R_reads' HO_345002.out).1.symm]; exact (Kd.R_reads' HO_345002.out).2.1); rintro e w74 ⟨rfl, hb⟩; refine ⟨_, rfl, ?_⟩; have n0_ := Aside0.mk (Kd.R_below (uR HO_333001) hb); have n1_ := Aside0.mk (Kd.V_below (by (with_reducible repeat (first | apply Kd.V_alloc | apply Kd.V_drewN | apply Kd.V_drew)); exact HO_333002.out) hb); have n2_ := Aside0.mk (Kd.R_below (uR HO_345001) hb); have n3_ := Aside0.mk (Kd.R_below (uR HO_345002) hb); have n4_ := Aside0.mk (blk_below (g := gb332) (o := .cells #[.int .i64 t324, .slice Ao17 t325.length co17, .slice Ao18 t328.length co18] 26 (0, 0)) (uK BK332) hb); have n5_ := Aside0.mk (blk_below (g := gb344) (o := .cells #[.int .i64 t336, .slice Ao25 t337.length co25, .slice Ao26 t340.length co26] 26 (0, 0)) (uK BK344) hb); have n6_ := Aside0.mk (below_step (by first | exact uB HB | exact uS HB (gC GE332 (gC GE344 gN))) hb); clear HO_333001 HO_333002 HO_345001 HO_345002 BK332 BK344 HB; have HO_333001 := n0_; have HO_333002 := n1_; have HO_345001 := n2_; have HO_345002 := n3_; have BK332 := n4_; have BK344 := n5_; have HB := n6_; clear n0_ n1_ n2_ n3_ n4_ n5_ n6_; (try clear hb); (try clear hb2); (try clear hk); (try clear hi)) | ((with_reducible refine gate_callee (f := 17) rfl ?_); refine goesL_ (some 88) rfl rfl Try.func17 (by kernel_rfl) rfl #[.slice A1 l1.length c1] rfl (by (try simp only [List.map_toArray, List.map_cons, List.map_nil]); first | done | rfl | (simp only [List.length_drop, List.length_take]; rfl)) ?_; (with_reducible refine (laws_toStringS.calls kj41 _ _ l1 t357 _ ?side1 ?side2 A67.out).mono ?_); (case side1 => exact uC HR1 HB); (case side2 => exact HC1.out); rintro e w75 ⟨v358, rfl, ho0, hb⟩; refine ⟨_, rfl, ?_⟩; have n0_ := Aside0.mk (Kd.R_elder' (uR HO_333001) (Kd.R_base ho0) hb); have n1_ := Aside0.mk (Kd.V_elder' (by (with_reducible repeat (first | apply Kd.V_alloc | apply Kd.V_drewN | apply Kd.V_drew)); exact HO_333002.out) (Kd.R_base ho0) hb); have n2_ := Aside0.mk (Kd.R_elder' (uR HO_345001) (Kd.R_base ho0) hb); have n3_ := Aside0.mk (Kd.R_elder' (uR HO_345002) (Kd.R_base ho0) hb); have n4_ := Aside0.mk (Kd.R_lower (Kd.R_new' (Kd.R_new' (Kd.R_new' ho0 (Kd.R_lt (uR HO_333001))) (Kd.R_lt (uR HO_345001))) (Kd.R_lt (uR HO_345002))) (below_size (by first | exact uB HB | exact uS HB (gC GE332 (gC GE344 gN))))); have n5_ := Aside0.mk (blk_below (g := gb332) (o := .cells #[.int .i64 t324, .slice Ao17 t325.length co17, .slice Ao18 t328.length co18] 26 (0, 0)) (uK BK332) hb); have n6_ := Aside0.mk (blk_below (g := gb344) (o := .cells #[.int .i64 t336, .slice Ao25 t337.length co25, .slice Ao26 t340.length co26] 26 (0, 0)) (uK BK344) hb); have n7_ := Aside0.mk (below_step (by first | exact uB HB | exact uS HB (gC GE332 (gC GE344 gN))) hb); clear HO_333001 HO_333002 HO_345001 HO_345002 BK332 BK344 HB; have HO_333001 := n0_; have HO_333002 := n1_; have HO_345001 := n2_; have HO_345002 := n3_; have HO359 := n4_; have BK332 := n5_; have BK344 := n6_; have HB := n7_; clear n0_ n1_ n2_ n3_ n4_ n5_ n6_ n7_; (try clear hb); (try clear hb2); (try clear hk); (try clear hi); (try clear ho0); obtain ⟨Ao76, co76, eo76⟩ := Kd.R_slice HO359.out; subst eo76) | ((with_reducible refine gate_callee (f := 18) rfl ?_); refine goesL_ (some 91) rfl rfl Try.func18 (by kernel_rfl) rfl #[.int .i64 a0, .slice Ao76 t357.length co76, .int .i64 a2, .int .i64 a3] rfl (by (try simp only [List.map_toArray, List.map_cons, List.map_nil]); first | done | rfl | (simp only [List.length_drop, List.length_take]; rfl)) ?_; (with_reducible refine (impl_CuckooOf.calls kj41 a0 _ _ t357 a2 a3 t360 t361 t364 t367 _ ?side1 ?side2 A68.out).mono ?_); (case side1 => exact uD HO359); (case side2 => exact (Kd.R_reads' HO359.out).2.1); rintro e w77 ⟨v362, v365, rfl, ho0, ho1, hb⟩; refine ⟨_, rfl, ?_⟩; have n0_ := Aside0.mk (Kd.R_mono (Kd.R_told (Kd.R_told (Kd.R_old (uR HO_333001) hb) (Kd.R_base ho0)) (Kd.R_base ho1)) (fun _ h_ => h_.1)); have n1_ := Aside0.mk (Kd.V_mono (Kd.V_told (Kd.V_told (Kd.V_old (by (with_reducible repeat (first | apply Kd.V_alloc | apply Kd.V_drewN | apply Kd.V_drew)); exact HO_333002.out) hb) (Kd.R_base ho0)) (Kd.R_base ho1)) (fun _ h_ => h_.1)); have n2_ := Aside0.mk (Kd.R_mono (Kd.R_told (Kd.R_told (Kd.R_old (uR HO_345001) hb) (Kd.R_base ho0)) (Kd.R_base ho1)) (fun _ h_ => h_.1)); have n3_ := Aside0.mk (Kd.R_mono (Kd.R_told (Kd.R_told (Kd.R_old (uR HO_345002) hb) (Kd.R_base ho0)) (Kd.R_base ho1)) (fun _ h_ => h_.1)); have n4_ := Aside0.mk (Kd.R_mono (Kd.R_told (Kd.R_told (Kd.R_old (uR HO359) hb) (Kd.R_base ho0)) (Kd.R_base ho1)) (fun _ h_ => h_.1)); have n5_ := Aside0.mk (Kd.R_lower (Kd.R_new' (Kd.R_new' (Kd.R_new' (Kd.R_new' ho0 (Kd.R_lt (uR HO_333001))) (Kd.R_lt (uR HO_345001))) (Kd.R_lt (uR HO_345002))) (Kd.R_lt (uR HO359))) (below_size (by first | exact uB HB | exact uS HB (gC GE332 (gC GE344 gN))))); have n6_ := Aside0.mk (Kd.R_lower (Kd.R_new' (Kd.R_new' (Kd.R_new' (Kd.R_new' ho1 (Kd.R_lt (uR HO_333001))) (Kd.R_lt (uR HO_345001))) (Kd.R_lt (uR HO_345002))) (Kd.R_lt (uR HO359))) (below_size (by first | exact uB HB | exact uS HB (gC GE332 (gC GE344 gN))))); have n7_ := Aside0.mk (blk_below (g := gb332) (o := .cells #[.int .i64 t324, .slice Ao17 t325.length co17, .slice Ao18 t328.length co18] 26 (0, 0)) (uK BK332) hb); have n8_ := Aside0.mk (blk_below (g := gb344) (o := .cells #[.int .i64 t336, .slice Ao25 t337.length co25, .slice Ao26 t340.length co26] 26 (0, 0)) (uK BK344) hb); have n9_ := Aside0.mk (below_step (by first | exact uB HB | exact uS HB (gC GE332 (gC GE344 gN))) hb); clear HO_333001 HO_333002 HO_345001 HO_345002 HO359 BK332 BK344 HB; have HO_333001 := n0_; have HO_333002 := n1_; have HO_345001 := n2_; have HO_345002 := n3_; have HO359 := n4_; have HO363 := n5_; have HO366 := n6_; have BK332 := n7_; have BK344 := n8_; have HB := n9_; clear n0_ n1_ n2_ n3_ n4_ n5_ n6_ n7_ n8_ n9_; (try clear hb); (try clear hb2); (try clear hk); (try clear hi); (try clear ho0); (try clear ho1)) | ((with_reducible refine gate_dst (N := 18) rfl ?_); refine box_event ?hg (N := 18) ?hd (cs := #[.int .i64 0, .slice none 0 0, .slice none 0 0]) (t := 26) ?hr ?_; (case hd => rfl); (case hg => rfl); (case hr => first | (go_simp; done) | (go_simp; rfl)); intro gb368 hg w78 hbox hb; have n0_ := Aside0.mk (Kd.R_below (uR HO_333001) hb); have n1_ := Aside0.mk (Kd.V_below (Kd.V_elderB (by (with_reducible repeat (first | apply Kd.V_alloc | apply Kd.V_drewN | apply Kd.V_drew)); exact HO_333002.out) gb368 (Nat.le_of_eq hg.symm)) hb); have n2_ := Aside0.mk (Kd.R_below (uR HO_345001) hb); have n3_ := Aside0.mk (Kd.R_below (uR HO_345002) hb); have n4_ := Aside0.mk (Kd.R_below (uR HO359) hb); have n5_ := Aside0.mk (Kd.R_below (uR HO363) hb); have n6_ := Aside0.mk (Kd.R_below (uR HO366) hb); have n7_ := Aside0.mk (blk_below (g := gb332) (o := .cells #[.int .i64 t324, .slice Ao17 t325.length co17, .slice Ao18 t328.length co18] 26 (0, 0)) (uK BK332) hb); have n8_ := Aside0.mk (blk_below (g := gb344) (o := .cells #[.int .i64 t336, .slice Ao25 t337.length co25, .slice Ao26 t340.length co26] 26 (0, 0)) (uK BK344) hb); have n9_ := Aside0.mk (below_step (by first | exact uB HB | exact uS HB (gC GE332 (gC GE344 gN))) hb); have n10_ := Aside0.mk (hbox); have n11_ := Aside0.mk ((by rw [hg]; exact (below_size (by first | exact uB HB | exact uS HB (gC GE332 (gC GE344 gN)))) : w.heap.size ≤ gb368)); have n12_ := Aside0.mk ((by rw [hg]; exact (below_size (by first | exact uB HB | exact uS HB (gC GE332 (gC GE344 gN)))) : w.heap.size ≤ gb368)); have n13_ := Aside0.mk ((by rw [hg]; exact Nat.ne_of_lt (blk_lt (g := gb332) (o := .cells #[.int .i64 t324, .slice Ao17 t325.length co17, .slice Ao18 t328.length co18] 26 (0, 0)) (uK BK332)) : gb332 ≠ gb368)); have n14_ := Aside0.mk ((by rw [hg]; exact Nat.ne_of_gt (blk_lt (g := gb332) (o := .cells #[.int .i64 t324, .slice Ao17 t325.length co17, .slice Ao18 t328.length co18] 26 (0, 0)) (uK BK332)) : gb368 ≠ gb332)); have n15_ := Aside0.mk ((by rw [hg]; exact Nat.ne_of_lt (blk_lt (g := gb344) (o := .cells #[.int .i64 t336, .slice Ao25 t337.length co25, .slice Ao26 t340.length co26] 26 (0, 0)) (uK BK344)) : gb344 ≠ gb368)); have n16_ := Aside0.mk ((by rw [hg]; exact Nat.ne_of_gt (blk_lt (g := gb344) (o := .cells #[.int .i64 t336, .slice Ao25 t337.length co25, .slice Ao26 t340.length co26] 26 (0, 0)) (uK BK344)) : gb368 ≠ gb344)); clear HO_333001 HO_333002 HO_345001 HO_345002 HO359 HO363 HO366 BK332 BK344 HB; have HO_333001 := n0_; have HO_333002 := n1_; have HO_345001 := n2_; have HO_345002 := n3_; have HO359 := n4_; have HO363 := n5_; have HO366 := n6_; have BK332 := n7_; have BK344 := n8_; have HB := n9_; have BK368 := n10_; have GW368 := n11_; have GE368 := n12_; have NB332_368 := n13_; have NB368_332 := n14_; have NB344_368 := n15_; have NB368_344 := n16_; clear n0_ n1_ n2_ n3_ n4_ n5_ n6_ n7_ n8_ n9_ n10_ n11_ n12_ n13_ n14_ n15_ n16_ hb hbox hg; have hnb79 := NB368_332.out; have hnc79 := NB332_368.out; have hnb80 := NB368_344.out; have hnc80 := NB344_368.out; have hcz81_0 : w78.cell? ⟨gb368, 0, none⟩ = some (.int .i64 0) := (blk_cell BK368.out 0).trans rfl; have hcz81_1 : w78.cell? ⟨gb368, 1, none⟩ = some (.slice none 0 0) := (blk_cell BK368.out 1).trans rfl; have hcz81_2 : w78.cell? ⟨gb368, 2, none⟩ = some (.slice none 0 0) := (blk_cell BK368.out 2).trans rfl; have hfz81_0 := blk_frozen BK368.out 0; have hfz81_1 := blk_frozen BK368.out 1; have hfz81_2 := blk_frozen BK368.out 2; obtain ⟨Ao82, co82, eo82⟩ := Kd.R_slice HO363.out; subst eo82; obtain ⟨Ao83, co83, eo83⟩ := Kd.R_slice HO366.out; subst eo83))
           (try simp only [Act.put, List.setIfInBounds_toArray, List.set_cons_zero, List.set_cons_succ])
           go_cut [102] (fun v102 wc => ∃ (kq : Nat) (x102_68 : Bool), v102 = .bool x102_68 ∧ Aside0 (laws_FnExactCuckooOf.j2 kq t353 x102_68 t336 t354 t355 = some r) ∧ Aside0 (kq ≤ kj41) ∧ Aside0 (Kd.R Kd.string 9 wc w.heap.size (fun k_ => some k_ ≠ ((.slice Ao25 t337.length co25) : Value).ownBlock ∧ some k_ ≠ ((.slice Ao26 t340.length co26) : Value).ownBlock ∧ some k_ ≠ ((.slice Ao82 t361.length co82) : Value).ownBlock ∧ some k_ ≠ ((.slice Ao83 t364.length co83) : Value).ownBlock) (.slice Ao17 t325.length co17) t325) ∧ Aside0 (Kd.V Kd.string 9 wc w.heap.size (fun k_ => some k_ ≠ ((.slice Ao17 t325.length co17) : Value).ownBlock ∧ some k_ ≠ ((.slice Ao25 t337.length co25) : Value).ownBlock ∧ some k_ ≠ ((.slice Ao26 t340.length co26) : Value).ownBlock ∧ some k_ ≠ ((.slice Ao82 t361.length co82) : Value).ownBlock ∧ some k_ ≠ ((.slice Ao83 t364.length co83) : Value).ownBlock ∧ k_ ≠ gb332 ∧ k_ ≠ gb344 ∧ k_ ≠ gb368) (.slice Ao18 t328.length co18) t328) ∧ Aside0 (Kd.R Kd.string 9 wc w.heap.size (fun k_ => some k_ ≠ ((.slice Ao17 t325.length co17) : Value).ownBlock ∧ some k_ ≠ ((.slice Ao26 t340.length co26) : Value).ownBlock ∧ some k_ ≠ ((.slice Ao82 t361.length co82) : Value).ownBlock ∧ some k_ ≠ ((.slice Ao83 t364.length co83) : Value).ownBlock) (.slice Ao25 t337.length co25) t354) ∧ Aside0 (Kd.R Kd.string 9 wc w.heap.size (fun k_ => some k_ ≠ ((.slice Ao17 t325.length co17) : Value).ownBlock ∧ some k_ ≠ ((.slice Ao25 t337.length co25) : Value).ownBlock ∧ some k_ ≠ ((.slice Ao82 t361.length co82) : Value).ownBlock ∧ some k_ ≠ ((.slice Ao83 t364.length co83) : Value).ownBlock) (.slice Ao26 t340.length co26) t355) ∧ Aside0 (Kd.R Kd.string 9 wc w.heap.size (fun k_ => some k_ ≠ ((.slice Ao17 t325.length co17) : Value).ownBlock ∧ some k_ ≠ ((.slice Ao25 t337.length co25) : Value).ownBlock ∧ some k_ ≠ ((.slice Ao26 t340.length co26) : Value).ownBlock ∧ some k_ ≠ ((.slice Ao83 t364.length co83) : Value).ownBlock) (.slice Ao82 t361.length co82) t361) ∧ Aside0 (Kd.R Kd.string 9 wc w.heap.size (fun k_ => some k_ ≠ ((.slice Ao17 t325.length co17) : Value).ownBlock ∧ some k_ ≠ ((.slice Ao25 t337.length co25) : Value).ownBlock ∧ some k_ ≠ ((.slice Ao26 t340.length co26) : Value).ownBlock ∧ some k_ ≠ ((.slice Ao82 t361.length co82) : Value).ownBlock) (.slice Ao83 t364.length co83) t364) ∧ Aside0 (wc.heap[gb332]? = some (.cells #[.int .i64 t324, (.slice Ao17 t325.length co17), (.slice Ao18 t328.length co18)] 26 (0, 0))) ∧ Aside0 (wc.heap[gb344]? = some (.cells #[.int .i64 t336, (.slice Ao25 t337.length co25), (.slice Ao26 t340.length co26)] 26 (0, 0))) ∧ Aside0 (wc.heap[gb368]? = some (.cells #[.int .i64 t360, (.slice Ao82 t361.length co82), (.slice Ao83 t364.length co83)] 26 (0, 0))) ∧ Aside0 (Below w.heap.size w wc))
           case first =>
            have H := HC69.out
            clear HC69
            replace H := Option.bind_eq_some_iff.mp H
            obtain ⟨t369, A840, H⟩ := H
            replace H : (if t369 = true then (laws_FnExactCuckooOf.j2 kj41 t353 (t367 != t331) t336 t354 t355) else (laws_FnExactCuckooOf.j2 kj41 t353 true t336 t354 t355)) = some r := H
            have A84 := Aside0.mk A840
            clear A840
            by_cases c85 : t369 = true
            ·
             subst c85
             have H1 : (laws_FnExactCuckooOf.j2 kj41 t353 (t367 != t331) t336 t354 t355) = some r := by rw [if_pos rfl] at H; exact H
             clear H
             have H := H1
             clear H1
             have H' := Aside0.mk H
             clear H
             have hnb86 := NB368_332.out
             have hnc86 := NB332_368.out
             have hnb87 := NB368_344.out
             have hnc87 := NB344_368.out
             have hcz88_0 : w78.cell? ⟨gb368, 0, none⟩ = some (.int .i64 0) := (blk_cell BK368.out 0).trans rfl
             have hcz88_1 : w78.cell? ⟨gb368, 1, none⟩ = some (.slice none 0 0) := (blk_cell BK368.out 1).trans rfl
             have hcz88_2 : w78.cell? ⟨gb368, 2, none⟩ = some (.slice none 0 0) := (blk_cell BK368.out 2).trans rfl
             have hfz88_0 := blk_frozen BK368.out 0
             have hfz88_1 := blk_frozen BK368.out 1
             have hfz88_2 := blk_frozen BK368.out 2
             have hnb89 := NB332_344.out
             have hnc89 := NB344_332.out
             have hcz90_0 : w78.cell? ⟨gb332, 0, none⟩ = some (.int .i64 t324) := (blk_cell BK332.out 0).trans rfl
             have hcz90_1 : w78.cell? ⟨gb332, 1, none⟩ = some (.slice Ao17 t325.length co17) := (blk_cell BK332.out 1).trans rfl
             have hcz90_2 : w78.cell? ⟨gb332, 2, none⟩ = some (.slice Ao18 t328.length co18) := (blk_cell BK332.out 2).trans rfl
             have hfz90_0 := blk_frozen BK332.out 0
             have hfz90_1 := blk_frozen BK332.out 1
             have hfz90_2 := blk_frozen BK332.out 2
             go_wp2_with (first | ((with_reducible refine gate_callee (f := 10) rfl ?_); refine goesL_ (some 96) rfl rfl Try.func10 (by kernel_rfl) rfl #[.agg #[.int .i64 t360, .slice Ao82 t361.length co82, .slice Ao83 t364.length co83], .agg #[.int .i64 t324, .slice Ao17 t325.length co17, .slice Ao18 t328.length co18]] rfl (by (try simp only [List.map_toArray, List.map_cons, List.map_nil]); first | done | rfl | (simp only [List.length_drop, List.length_take]; rfl)) ?_; (with_reducible refine (laws_eqCuckoo.calls kj41 t360 _ _ t361 _ _ t364 t324 _ _ t325 _ _ t328 true _ ?side1 ?side2 ?side3 ?side4 ?side5 ?side6 ?side7 ?side8 A84.out).mono ?_); (case side1 => refine (Kd.R_reads' (e := 9) (base := w.heap.size) (ok := fun k_ => ((((some k_ ≠ (.slice Ao83 t364.length co83 : Value).ownBlock ∧ some k_ ≠ (.slice Ao17 t325.length co17 : Value).ownBlock) ∧ some k_ ≠ (.slice Ao25 t337.length co25 : Value).ownBlock) ∧ some k_ ≠ (.slice Ao26 t340.length co26 : Value).ownBlock) ∧ some k_ ≠ (.slice Ao76 t357.length co76 : Value).ownBlock)) (n := t361.length) (c := co82) ?_).2.2; exact (by (with_reducible repeat (first | apply Kd.R_alloc | apply Kd.R_drewN | apply Kd.R_drew)); exact (Kd.R_mono (Kd.R_far (p := ⟨gb368, 2, none⟩) (Kd.R_far (p := ⟨gb368, 1, none⟩) (Kd.R_far (p := ⟨gb368, 0, none⟩) (Kd.R_types HO363.out BK368.out (by decide)) (fun _ hk => hk.2) (.int .i64 t360)) (fun _ hk => hk.2) (.slice Ao82 t361.length co82)) (fun _ hk => hk.2) (.slice Ao83 t364.length co83)) (fun _ h_ => h_.1)))); (case side2 => exact (Kd.R_reads' HO363.out).2.1); (case side3 => refine (Kd.R_reads' (e := 9) (base := w.heap.size) (ok := fun k_ => ((((some k_ ≠ (.slice Ao82 t361.length co82 : Value).ownBlock ∧ some k_ ≠ (.slice Ao17 t325.length co17 : Value).ownBlock) ∧ some k_ ≠ (.slice Ao25 t337.length co25 : Value).ownBlock) ∧ some k_ ≠ (.slice Ao26 t340.length co26 : Value).ownBlock) ∧ some k_ ≠ (.slice Ao76 t357.length co76 : Value).ownBlock)) (n := t364.length) (c := co83) ?_).2.2; exact (by (with_reducible repeat (first | apply Kd.R_alloc | apply Kd.R_drewN | apply Kd.R_drew)); exact (Kd.R_mono (Kd.R_far (p := ⟨gb368, 2, none⟩) (Kd.R_far (p := ⟨gb368, 1, none⟩) (Kd.R_far (p := ⟨gb368, 0, none⟩) (Kd.R_types HO366.out BK368.out (by decide)) (fun _ hk => hk.2) (.int .i64 t360)) (fun _ hk => hk.2) (.slice Ao82 t361.length co82)) (fun _ hk => hk.2) (.slice Ao83 t364.length co83)) (fun _ h_ => h_.1)))); (case side4 => exact (Kd.R_reads' HO366.out).2.1); (case side5 => refine (Kd.R_reads' (e := 9) (base := w.heap.size) (ok := fun k_ => ((((some k_ ≠ (.slice Ao25 t337.length co25 : Value).ownBlock ∧ some k_ ≠ (.slice Ao26 t340.length co26 : Value).ownBlock) ∧ some k_ ≠ (.slice Ao76 t357.length co76 : Value).ownBlock) ∧ some k_ ≠ (.slice Ao82 t361.length co82 : Value).ownBlock) ∧ some k_ ≠ (.slice Ao83 t364.length co83 : Value).ownBlock)) (n := t325.length) (c := co17) ?_).2.2; exact (by (with_reducible repeat (first | apply Kd.R_alloc | apply Kd.R_drewN | apply Kd.R_drew)); exact (Kd.R_mono (Kd.R_far (p := ⟨gb368, 2, none⟩) (Kd.R_far (p := ⟨gb368, 1, none⟩) (Kd.R_far (p := ⟨gb368, 0, none⟩) (Kd.R_types HO_333001.out BK368.out (by decide)) (fun _ hk => hk.2) (.int .i64 t360)) (fun _ hk => hk.2) (.slice Ao82 t361.length co82)) (fun _ hk => hk.2) (.slice Ao83 t364.length co83)) (fun _ h_ => h_.1)))); (case side6 => exact (Kd.R_reads' HO_333001.out).2.1); (case side7 => refine (Kd.V_reads' (e := 9) (base := w.heap.size) (ok := fun k_ => (((((some k_ ≠ (.slice Ao17 t325.length co17 : Value).ownBlock ∧ (some k_ ≠ (.slice Ao25 t337.length co25 : Value).ownBlock ∧ (some k_ ≠ (.slice Ao26 t340.length co26 : Value).ownBlock ∧ (k_ ≠ gb332 ∧ k_ ≠ gb344)))) ∧ some k_ ≠ (.slice Ao76 t357.length co76 : Value).ownBlock) ∧ some k_ ≠ (.slice Ao82 t361.length co82 : Value).ownBlock) ∧ some k_ ≠ (.slice Ao83 t364.length co83 : Value).ownBlock) ∧ k_ ≠ gb368)) (n := t328.length) (c := co18) ?_).2.2; exact (by (with_reducible repeat (first | apply Kd.V_alloc | apply Kd.V_drewN | apply Kd.V_drew)); exact (Kd.V_mono (Kd.V_far (p := ⟨gb368, 2, none⟩) (Kd.V_far (p := ⟨gb368, 1, none⟩) (Kd.V_far (p := ⟨gb368, 0, none⟩) (Kd.V_mono HO_333002.out (fun k_ hk => (⟨hk, hk.2⟩ : _ ∧ k_ ≠ gb368))) (fun _ hk => hk.2) (.int .i64 t360)) (fun _ hk => hk.2) (.slice Ao82 t361.length co82)) (fun _ hk => hk.2) (.slice Ao83 t364.length co83)) (fun _ h_ => h_.1)))); (case side8 => exact (Kd.V_reads' HO_333002.out).2.1); rintro e w91 ⟨rfl, hb⟩; refine ⟨_, rfl, ?_⟩; have n0_ := Aside0.mk (Kd.R_below (by (with_reducible repeat (first | apply Kd.R_alloc | apply Kd.R_drewN | apply Kd.R_drew)); exact (Kd.R_mono (Kd.R_far (p := ⟨gb368, 2, none⟩) (Kd.R_far (p := ⟨gb368, 1, none⟩) (Kd.R_far (p := ⟨gb368, 0, none⟩) (Kd.R_types HO_333001.out BK368.out (by decide)) (fun _ hk => hk.2) (.int .i64 t360)) (fun _ hk => hk.2) (.slice Ao82 t361.length co82)) (fun _ hk => hk.2) (.slice Ao83 t364.length co83)) (fun _ h_ => h_.1))) hb); have n1_ := Aside0.mk (Kd.V_below (by (with_reducible repeat (first | apply Kd.V_alloc | apply Kd.V_drewN | apply Kd.V_drew)); exact (Kd.V_mono (Kd.V_far (p := ⟨gb368, 2, none⟩) (Kd.V_far (p := ⟨gb368, 1, none⟩) (Kd.V_far (p := ⟨gb368, 0, none⟩) (Kd.V_mono HO_333002.out (fun k_ hk => (⟨hk, hk.2⟩ : _ ∧ k_ ≠ gb368))) (fun _ hk => hk.2) (.int .i64 t360)) (fun _ hk => hk.2) (.slice Ao82 t361.length co82)) (fun _ hk => hk.2) (.slice Ao83 t364.length co83)) (fun _ h_ => h_.1))) hb); have n2_ := Aside0.mk (Kd.R_below (by (with_reducible repeat (first | apply Kd.R_alloc | apply Kd.R_drewN | apply Kd.R_drew)); exact (Kd.R_mono (Kd.R_far (p := ⟨gb368, 2, none⟩) (Kd.R_far (p := ⟨gb368, 1, none⟩) (Kd.R_far (p := ⟨gb368, 0, none⟩) (Kd.R_types HO_345001.out BK368.out (by decide)) (fun _ hk => hk.2) (.int .i64 t360)) (fun _ hk => hk.2) (.slice Ao82 t361.length co82)) (fun _ hk => hk.2) (.slice Ao83 t364.length co83)) (fun _ h_ => h_.1))) hb); have n3_ := Aside0.mk (Kd.R_below (by (with_reducible repeat (first | apply Kd.R_alloc | apply Kd.R_drewN | apply Kd.R_drew)); exact (Kd.R_mono (Kd.R_far (p := ⟨gb368, 2, none⟩) (Kd.R_far (p := ⟨gb368, 1, none⟩) (Kd.R_far (p := ⟨gb368, 0, none⟩) (Kd.R_types HO_345002.out BK368.out (by decide)) (fun _ hk => hk.2) (.int .i64 t360)) (fun _ hk => hk.2) (.slice Ao82 t361.length co82)) (fun _ hk => hk.2) (.slice Ao83 t364.length co83)) (fun _ h_ => h_.1))) hb); have n4_ := Aside0.mk (Kd.R_below (by (with_reducible repeat (first | apply Kd.R_alloc | apply Kd.R_drewN | apply Kd.R_drew)); exact (Kd.R_mono (Kd.R_far (p := ⟨gb368, 2, none⟩) (Kd.R_far (p := ⟨gb368, 1, none⟩) (Kd.R_far (p := ⟨gb368, 0, none⟩) (Kd.R_types HO359.out BK368.out (by decide)) (fun _ hk => hk.2) (.int .i64 t360)) (fun _ hk => hk.2) (.slice Ao82 t361.length co82)) (fun _ hk => hk.2) (.slice Ao83 t364.length co83)) (fun _ h_ => h_.1))) hb); have n5_ := Aside0.mk (Kd.R_below (by (with_reducible repeat (first | apply Kd.R_alloc | apply Kd.R_drewN | apply Kd.R_drew)); exact (Kd.R_mono (Kd.R_far (p := ⟨gb368, 2, none⟩) (Kd.R_far (p := ⟨gb368, 1, none⟩) (Kd.R_far (p := ⟨gb368, 0, none⟩) (Kd.R_types HO363.out BK368.out (by decide)) (fun _ hk => hk.2) (.int .i64 t360)) (fun _ hk => hk.2) (.slice Ao82 t361.length co82)) (fun _ hk => hk.2) (.slice Ao83 t364.length co83)) (fun _ h_ => h_.1))) hb); have n6_ := Aside0.mk (Kd.R_below (by (with_reducible repeat (first | apply Kd.R_alloc | apply Kd.R_drewN | apply Kd.R_drew)); exact (Kd.R_mono (Kd.R_far (p := ⟨gb368, 2, none⟩) (Kd.R_far (p := ⟨gb368, 1, none⟩) (Kd.R_far (p := ⟨gb368, 0, none⟩) (Kd.R_types HO366.out BK368.out (by decide)) (fun _ hk => hk.2) (.int .i64 t360)) (fun _ hk => hk.2) (.slice Ao82 t361.length co82)) (fun _ hk => hk.2) (.slice Ao83 t364.length co83)) (fun _ h_ => h_.1))) hb); have n7_ := Aside0.mk (blk_below (g := gb332) (o := .cells #[.int .i64 t324, .slice Ao17 t325.length co17, .slice Ao18 t328.length co18] 26 (0, 0)) (by refine uW ?_; refine blk_far ?_ NB332_368.out _; refine uW ?_; refine blk_far ?_ NB332_368.out _; refine uW ?_; refine blk_far ?_ NB332_368.out _; refine uW ?_; exact BK332.out) hb); have n8_ := Aside0.mk (blk_below (g := gb344) (o := .cells #[.int .i64 t336, .slice Ao25 t337.length co25, .slice Ao26 t340.length co26] 26 (0, 0)) (by refine uW ?_; refine blk_far ?_ NB344_368.out _; refine uW ?_; refine blk_far ?_ NB344_368.out _; refine uW ?_; refine blk_far ?_ NB344_368.out _; refine uW ?_; exact BK344.out) hb); have n9_ := Aside0.mk (blk_below (g := gb368) (o := .cells #[.int .i64 t360, .slice Ao82 t361.length co82, .slice Ao83 t364.length co83] 26 (0, 0)) (by refine uW ?_; refine blk_put (cs := #[.int .i64 t360, .slice Ao82 t361.length co82, .slice none 0 0]) ?_ 2 _ rfl; refine uW ?_; refine blk_put (cs := #[.int .i64 t360, .slice none 0 0, .slice none 0 0]) ?_ 1 _ rfl; refine uW ?_; refine blk_put (cs := #[.int .i64 0, .slice none 0 0, .slice none 0 0]) ?_ 0 _ rfl; refine uW ?_; exact BK368.out) hb); have n10_ := Aside0.mk (below_step (by first | exact uB HB | exact uS HB (gC GE332 (gC GE344 (gC GE368 gN)))) hb); clear HO_333001 HO_333002 HO_345001 HO_345002 HO359 HO363 HO366 BK332 BK344 BK368 HB; have HO_333001 := n0_; have HO_333002 := n1_; have HO_345001 := n2_; have HO_345002 := n3_; have HO359 := n4_; have HO363 := n5_; have HO366 := n6_; have BK332 := n7_; have BK344 := n8_; have BK368 := n9_; have HB := n10_; clear n0_ n1_ n2_ n3_ n4_ n5_ n6_ n7_ n8_ n9_ n10_; (try clear hb); (try clear hb2); (try clear hk); (try clear hi)))
             go_meet
             case rel => exact ⟨_, ((t367 != t331)), (by first | rfl | (simp; done) | (simp [*]; done)), H', ⟨by have := HJ10.out; have := HJ41.out; first | omega | exact Nat.le_refl _⟩, ⟨by (with_reducible repeat (first | apply Kd.R_alloc | apply Kd.R_drewN | apply Kd.R_drew)); exact Kd.R_mono HO_333001.out (fun _ hk => ⟨hk.1.1.1.1, ⟨hk.1.1.1.2, ⟨hk.1.2, hk.2⟩⟩⟩)⟩, ⟨by (with_reducible repeat (first | apply Kd.V_alloc | apply Kd.V_drewN | apply Kd.V_drew)); exact Kd.V_mono HO_333002.out (fun _ hk => ⟨hk.1.1.1.1.1, ⟨hk.1.1.1.1.2.1, ⟨hk.1.1.1.1.2.2.1, ⟨hk.1.1.2, ⟨hk.1.2, ⟨hk.1.1.1.1.2.2.2.1, ⟨hk.1.1.1.1.2.2.2.2, hk.2⟩⟩⟩⟩⟩⟩⟩)⟩, ⟨by (with_reducible repeat (first | apply Kd.R_alloc | apply Kd.R_drewN | apply Kd.R_drew)); exact Kd.R_mono HO_345001.out (fun _ hk => ⟨hk.1.1.1.1, ⟨hk.1.1.1.2, ⟨hk.1.2, hk.2⟩⟩⟩)⟩, ⟨by (with_reducible repeat (first | apply Kd.R_alloc | apply Kd.R_drewN | apply Kd.R_drew)); exact Kd.R_mono HO_345002.out (fun _ hk => ⟨hk.1.1.1.1, ⟨hk.1.1.1.2, ⟨hk.1.2, hk.2⟩⟩⟩)⟩, ⟨by (with_reducible repeat (first | apply Kd.R_alloc | apply Kd.R_drewN | apply Kd.R_drew)); exact Kd.R_mono HO363.out (fun _ hk => ⟨hk.1.1.1.2, ⟨hk.1.1.2, ⟨hk.1.2, hk.1.1.1.1⟩⟩⟩)⟩, ⟨by (with_reducible repeat (first | apply Kd.R_alloc | apply Kd.R_drewN | apply Kd.R_drew)); exact Kd.R_mono HO366.out (fun _ hk => ⟨hk.1.1.1.2, ⟨hk.1.1.2, ⟨hk.1.2, hk.1.1.1.1⟩⟩⟩)⟩, ⟨by refine uW ?_; exact BK332.out⟩, ⟨by refine uW ?_; exact BK344.out⟩, ⟨by refine uW ?_; exact BK368.out⟩, ⟨by first | exact uB HB | exact uS HB (gC GE332 (gC GE344 (gC GE368 gN)))⟩⟩
            ·
             replace c85 := Bool.eq_false_iff.mpr c85
             subst c85
             have H1 : (laws_FnExactCuckooOf.j2 kj41 t353 true t336 t354 t355) = some r := by rw [if_neg (show ¬ (false = true) by decide)] at H; exact H
             clear H
             have H := H1
             clear H1
             have H' := Aside0.mk H
             clear H
             have hnb92 := NB368_332.out
             have hnc92 := NB332_368.out
             have hnb93 := NB368_344.out
             have hnc93 := NB344_368.out
             have hcz94_0 : w78.cell? ⟨gb368, 0, none⟩ = some (.int .i64 0) := (blk_cell BK368.out 0).trans rfl
             have hcz94_1 : w78.cell? ⟨gb368, 1, none⟩ = some (.slice none 0 0) := (blk_cell BK368.out 1).trans rfl
             have hcz94_2 : w78.cell? ⟨gb368, 2, none⟩ = some (.slice none 0 0) := (blk_cell BK368.out 2).trans rfl
             have hfz94_0 := blk_frozen BK368.out 0
             have hfz94_1 := blk_frozen BK368.out 1
             have hfz94_2 := blk_frozen BK368.out 2
             have hnb95 := NB332_344.out
             have hnc95 := NB344_332.out
             have hcz96_0 : w78.cell? ⟨gb332, 0, none⟩ = some (.int .i64 t324) := (blk_cell BK332.out 0).trans rfl
             have hcz96_1 : w78.cell? ⟨gb332, 1, none⟩ = some (.slice Ao17 t325.length co17) := (blk_cell BK332.out 1).trans rfl
             have hcz96_2 : w78.cell? ⟨gb332, 2, none⟩ = some (.slice Ao18 t328.length co18) := (blk_cell BK332.out 2).trans rfl
             have hfz96_0 := blk_frozen BK332.out 0
             have hfz96_1 := blk_frozen BK332.out 1
             have hfz96_2 := blk_frozen BK332.out 2
             go_wp2_with (first | ((with_reducible refine gate_callee (f := 10) rfl ?_); refine goesL_ (some 96) rfl rfl Try.func10 (by kernel_rfl) rfl #[.agg #[.int .i64 t360, .slice Ao82 t361.length co82, .slice Ao83 t364.length co83], .agg #[.int .i64 t324, .slice Ao17 t325.length co17, .slice Ao18 t328.length co18]] rfl (by (try simp only [List.map_toArray, List.map_cons, List.map_nil]); first | done | rfl | (simp only [List.length_drop, List.length_take]; rfl)) ?_; (with_reducible refine (laws_eqCuckoo.calls kj41 t360 _ _ t361 _ _ t364 t324 _ _ t325 _ _ t328 false _ ?side1 ?side2 ?side3 ?side4 ?side5 ?side6 ?side7 ?side8 A84.out).mono ?_); (case side1 => refine (Kd.R_reads' (e := 9) (base := w.heap.size) (ok := fun k_ => ((((some k_ ≠ (.slice Ao83 t364.length co83 : Value).ownBlock ∧ some k_ ≠ (.slice Ao17 t325.length co17 : Value).ownBlock) ∧ some k_ ≠ (.slice Ao25 t337.length co25 : Value).ownBlock) ∧ some k_ ≠ (.slice Ao26 t340.length co26 : Value).ownBlock) ∧ some k_ ≠ (.slice Ao76 t357.length co76 : Value).ownBlock)) (n := t361.length) (c := co82) ?_).2.2; exact (by (with_reducible repeat (first | apply Kd.R_alloc | apply Kd.R_drewN | apply Kd.R_drew)); exact (Kd.R_mono (Kd.R_far (p := ⟨gb368, 2, none⟩) (Kd.R_far (p := ⟨gb368, 1, none⟩) (Kd.R_far (p := ⟨gb368, 0, none⟩) (Kd.R_types HO363.out BK368.out (by decide)) (fun _ hk => hk.2) (.int .i64 t360)) (fun _ hk => hk.2) (.slice Ao82 t361.length co82)) (fun _ hk => hk.2) (.slice Ao83 t364.length co83)) (fun _ h_ => h_.1)))); (case side2 => exact (Kd.R_reads' HO363.out).2.1); (case side3 => refine (Kd.R_reads' (e := 9) (base := w.heap.size) (ok := fun k_ => ((((some k_ ≠ (.slice Ao82 t361.length co82 : Value).ownBlock ∧ some k_ ≠ (.slice Ao17 t325.length co17 : Value).ownBlock) ∧ some k_ ≠ (.slice Ao25 t337.length co25 : Value).ownBlock) ∧ some k_ ≠ (.slice Ao26 t340.length co26 : Value).ownBlock) ∧ some k_ ≠ (.slice Ao76 t357.length co76 : Value).ownBlock)) (n := t364.length) (c := co83) ?_).2.2; exact (by (with_reducible repeat (first | apply Kd.R_alloc | apply Kd.R_drewN | apply Kd.R_drew)); exact (Kd.R_mono (Kd.R_far (p := ⟨gb368, 2, none⟩) (Kd.R_far (p := ⟨gb368, 1, none⟩) (Kd.R_far (p := ⟨gb368, 0, none⟩) (Kd.R_types HO366.out BK368.out (by decide)) (fun _ hk => hk.2) (.int .i64 t360)) (fun _ hk => hk.2) (.slice Ao82 t361.length co82)) (fun _ hk => hk.2) (.slice Ao83 t364.length co83)) (fun _ h_ => h_.1)))); (case side4 => exact (Kd.R_reads' HO366.out).2.1); (case side5 => refine (Kd.R_reads' (e := 9) (base := w.heap.size) (ok := fun k_ => ((((some k_ ≠ (.slice Ao25 t337.length co25 : Value).ownBlock ∧ some k_ ≠ (.slice Ao26 t340.length co26 : Value).ownBlock) ∧ some k_ ≠ (.slice Ao76 t357.length co76 : Value).ownBlock) ∧ some k_ ≠ (.slice Ao82 t361.length co82 : Value).ownBlock) ∧ some k_ ≠ (.slice Ao83 t364.length co83 : Value).ownBlock)) (n := t325.length) (c := co17) ?_).2.2; exact (by (with_reducible repeat (first | apply Kd.R_alloc | apply Kd.R_drewN | apply Kd.R_drew)); exact (Kd.R_mono (Kd.R_far (p := ⟨gb368, 2, none⟩) (Kd.R_far (p := ⟨gb368, 1, none⟩) (Kd.R_far (p := ⟨gb368, 0, none⟩) (Kd.R_types HO_333001.out BK368.out (by decide)) (fun _ hk => hk.2) (.int .i64 t360)) (fun _ hk => hk.2) (.slice Ao82 t361.length co82)) (fun _ hk => hk.2) (.slice Ao83 t364.length co83)) (fun _ h_ => h_.1)))); (case side6 => exact (Kd.R_reads' HO_333001.out).2.1); (case side7 => refine (Kd.V_reads' (e := 9) (base := w.heap.size) (ok := fun k_ => (((((some k_ ≠ (.slice Ao17 t325.length co17 : Value).ownBlock ∧ (some k_ ≠ (.slice Ao25 t337.length co25 : Value).ownBlock ∧ (some k_ ≠ (.slice Ao26 t340.length co26 : Value).ownBlock ∧ (k_ ≠ gb332 ∧ k_ ≠ gb344)))) ∧ some k_ ≠ (.slice Ao76 t357.length co76 : Value).ownBlock) ∧ some k_ ≠ (.slice Ao82 t361.length co82 : Value).ownBlock) ∧ some k_ ≠ (.slice Ao83 t364.length co83 : Value).ownBlock) ∧ k_ ≠ gb368)) (n := t328.length) (c := co18) ?_).2.2; exact (by (with_reducible repeat (first | apply Kd.V_alloc | apply Kd.V_drewN | apply Kd.V_drew)); exact (Kd.V_mono (Kd.V_far (p := ⟨gb368, 2, none⟩) (Kd.V_far (p := ⟨gb368, 1, none⟩) (Kd.V_far (p := ⟨gb368, 0, none⟩) (Kd.V_mono HO_333002.out (fun k_ hk => (⟨hk, hk.2⟩ : _ ∧ k_ ≠ gb368))) (fun _ hk => hk.2) (.int .i64 t360)) (fun _ hk => hk.2) (.slice Ao82 t361.length co82)) (fun _ hk => hk.2) (.slice Ao83 t364.length co83)) (fun _ h_ => h_.1)))); (case side8 => exact (Kd.V_reads' HO_333002.out).2.1); rintro e w97 ⟨rfl, hb⟩; refine ⟨_, rfl, ?_⟩; have n0_ := Aside0.mk (Kd.R_below (by (with_reducible repeat (first | apply Kd.R_alloc | apply Kd.R_drewN | apply Kd.R_drew)); exact (Kd.R_mono (Kd.R_far (p := ⟨gb368, 2, none⟩) (Kd.R_far (p := ⟨gb368, 1, none⟩) (Kd.R_far (p := ⟨gb368, 0, none⟩) (Kd.R_types HO_333001.out BK368.out (by decide)) (fun _ hk => hk.2) (.int .i64 t360)) (fun _ hk => hk.2) (.slice Ao82 t361.length co82)) (fun _ hk => hk.2) (.slice Ao83 t364.length co83)) (fun _ h_ => h_.1))) hb); have n1_ := Aside0.mk (Kd.V_below (by (with_reducible repeat (first | apply Kd.V_alloc | apply Kd.V_drewN | apply Kd.V_drew)); exact (Kd.V_mono (Kd.V_far (p := ⟨gb368, 2, none⟩) (Kd.V_far (p := ⟨gb368, 1, none⟩) (Kd.V_far (p := ⟨gb368, 0, none⟩) (Kd.V_mono HO_333002.out (fun k_ hk => (⟨hk, hk.2⟩ : _ ∧ k_ ≠ gb368))) (fun _ hk => hk.2) (.int .i64 t360)) (fun _ hk => hk.2) (.slice Ao82 t361.length co82)) (fun _ hk => hk.2) (.slice Ao83 t364.length co83)) (fun _ h_ => h_.1))) hb); have n2_ := Aside0.mk (Kd.R_below (by (with_reducible repeat (first | apply Kd.R_alloc | apply Kd.R_drewN | apply Kd.R_drew)); exact (Kd.R_mono (Kd.R_far (p := ⟨gb368, 2, none⟩) (Kd.R_far (p := ⟨gb368, 1, none⟩) (Kd.R_far (p := ⟨gb368, 0, none⟩) (Kd.R_types HO_345001.out BK368.out (by decide)) (fun _ hk => hk.2) (.int .i64 t360)) (fun _ hk => hk.2) (.slice Ao82 t361.length co82)) (fun _ hk => hk.2) (.slice Ao83 t364.length co83)) (fun _ h_ => h_.1))) hb); have n3_ := Aside0.mk (Kd.R_below (by (with_reducible repeat (first | apply Kd.R_alloc | apply Kd.R_drewN | apply Kd.R_drew)); exact (Kd.R_mono (Kd.R_far (p := ⟨gb368, 2, none⟩) (Kd.R_far (p := ⟨gb368, 1, none⟩) (Kd.R_far (p := ⟨gb368, 0, none⟩) (Kd.R_types HO_345002.out BK368.out (by decide)) (fun _ hk => hk.2) (.int .i64 t360)) (fun _ hk => hk.2) (.slice Ao82 t361.length co82)) (fun _ hk => hk.2) (.slice Ao83 t364.length co83)) (fun _ h_ => h_.1))) hb); have n4_ := Aside0.mk (Kd.R_below (by (with_reducible repeat (first | apply Kd.R_alloc | apply Kd.R_drewN | apply Kd.R_drew)); exact (Kd.R_mono (Kd.R_far (p := ⟨gb368, 2, none⟩) (Kd.R_far (p := ⟨gb368, 1, none⟩) (Kd.R_far (p := ⟨gb368, 0, none⟩) (Kd.R_types HO359.out BK368.out (by decide)) (fun _ hk => hk.2) (.int .i64 t360)) (fun _ hk => hk.2) (.slice Ao82 t361.length co82)) (fun _ hk => hk.2) (.slice Ao83 t364.length co83)) (fun _ h_ => h_.1))) hb); have n5_ := Aside0.mk (Kd.R_below (by (with_reducible repeat (first | apply Kd.R_alloc | apply Kd.R_drewN | apply Kd.R_drew)); exact (Kd.R_mono (Kd.R_far (p := ⟨gb368, 2, none⟩) (Kd.R_far (p := ⟨gb368, 1, none⟩) (Kd.R_far (p := ⟨gb368, 0, none⟩) (Kd.R_types HO363.out BK368.out (by decide)) (fun _ hk => hk.2) (.int .i64 t360)) (fun _ hk => hk.2) (.slice Ao82 t361.length co82)) (fun _ hk => hk.2) (.slice Ao83 t364.length co83)) (fun _ h_ => h_.1))) hb); have n6_ := Aside0.mk (Kd.R_below (by (with_reducible repeat (first | apply Kd.R_alloc | apply Kd.R_drewN | apply Kd.R_drew)); exact (Kd.R_mono (Kd.R_far (p := ⟨gb368, 2, none⟩) (Kd.R_far (p := ⟨gb368, 1, none⟩) (Kd.R_far (p := ⟨gb368, 0, none⟩) (Kd.R_types HO366.out BK368.out (by decide)) (fun _ hk => hk.2) (.int .i64 t360)) (fun _ hk => hk.2) (.slice Ao82 t361.length co82)) (fun _ hk => hk.2) (.slice Ao83 t364.length co83)) (fun _ h_ => h_.1))) hb); have n7_ := Aside0.mk (blk_below (g := gb332) (o := .cells #[.int .i64 t324, .slice Ao17 t325.length co17, .slice Ao18 t328.length co18] 26 (0, 0)) (by refine uW ?_; refine blk_far ?_ NB332_368.out _; refine uW ?_; refine blk_far ?_ NB332_368.out _; refine uW ?_; refine blk_far ?_ NB332_368.out _; refine uW ?_; exact BK332.out) hb); have n8_ := Aside0.mk (blk_below (g := gb344) (o := .cells #[.int .i64 t336, .slice Ao25 t337.length co25, .slice Ao26 t340.length co26] 26 (0, 0)) (by refine uW ?_; refine blk_far ?_ NB344_368.out _; refine uW ?_; refine blk_far ?_ NB344_368.out _; refine uW ?_; refine blk_far ?_ NB344_368.out _; refine uW ?_; exact BK344.out) hb); have n9_ := Aside0.mk (blk_below (g := gb368) (o := .cells #[.int .i64 t360, .slice Ao82 t361.length co82, .slice Ao83 t364.length co83] 26 (0, 0)) (by refine uW ?_; refine blk_put (cs := #[.int .i64 t360, .slice Ao82 t361.length co82, .slice none 0 0]) ?_ 2 _ rfl; refine uW ?_; refine blk_put (cs := #[.int .i64 t360, .slice none 0 0, .slice none 0 0]) ?_ 1 _ rfl; refine uW ?_; refine blk_put (cs := #[.int .i64 0, .slice none 0 0, .slice none 0 0]) ?_ 0 _ rfl; refine uW ?_; exact BK368.out) hb); have n10_ := Aside0.mk (below_step (by first | exact uB HB | exact uS HB (gC GE332 (gC GE344 (gC GE368 gN)))) hb); clear HO_333001 HO_333002 HO_345001 HO_345002 HO359 HO363 HO366 BK332 BK344 BK368 HB; have HO_333001 := n0_; have HO_333002 := n1_; have HO_345001 := n2_; have HO_345002 := n3_; have HO359 := n4_; have HO363 := n5_; have HO366 := n6_; have BK332 := n7_; have BK344 := n8_; have BK368 := n9_; have HB := n10_; clear n0_ n1_ n2_ n3_ n4_ n5_ n6_ n7_ n8_ n9_ n10_; (try clear hb); (try clear hb2); (try clear hk); (try clear hi)))
             go_meet
             case rel => exact ⟨_, (true), (by first | rfl | (simp; done) | (simp [*]; done)), H', ⟨by have := HJ10.out; have := HJ41.out; first | omega | exact Nat.le_refl _⟩, ⟨by (with_reducible repeat (first | apply Kd.R_alloc | apply Kd.R_drewN | apply Kd.R_drew)); exact Kd.R_mono HO_333001.out (fun _ hk => ⟨hk.1.1.1.1, ⟨hk.1.1.1.2, ⟨hk.1.2, hk.2⟩⟩⟩)⟩, ⟨by (with_reducible repeat (first | apply Kd.V_alloc | apply Kd.V_drewN | apply Kd.V_drew)); exact Kd.V_mono HO_333002.out (fun _ hk => ⟨hk.1.1.1.1.1, ⟨hk.1.1.1.1.2.1, ⟨hk.1.1.1.1.2.2.1, ⟨hk.1.1.2, ⟨hk.1.2, ⟨hk.1.1.1.1.2.2.2.1, ⟨hk.1.1.1.1.2.2.2.2, hk.2⟩⟩⟩⟩⟩⟩⟩)⟩, ⟨by (with_reducible repeat (first | apply Kd.R_alloc | apply Kd.R_drewN | apply Kd.R_drew)); exact Kd.R_mono HO_345001.out (fun _ hk => ⟨hk.1.1.1.1, ⟨hk.1.1.1.2, ⟨hk.1.2, hk.2⟩⟩⟩)⟩, ⟨by (with_reducible repeat (first | apply Kd.R_alloc | apply Kd.R_drewN | apply Kd.R_drew)); exact Kd.R_mono HO_345002.out (fun _ hk => ⟨hk.1.1.1.1, ⟨hk.1.1.1.2, ⟨hk.1.2, hk.2⟩⟩⟩)⟩, ⟨by (with_reducible repeat (first | apply Kd.R_alloc | apply Kd.R_drewN | apply Kd.R_drew)); exact Kd.R_mono HO363.out (fun _ hk => ⟨hk.1.1.1.2, ⟨hk.1.1.2, ⟨hk.1.2, hk.1.1.1.1⟩⟩⟩)⟩, ⟨by (with_reducible repeat (first | apply Kd.R_alloc | apply Kd.R_drewN | apply Kd.R_drew)); exact Kd.R_mono HO366.out (fun _ hk => ⟨hk.1.1.1.2, ⟨hk.1.1.2, ⟨hk.1.2, hk.1.1.1.1⟩⟩⟩)⟩, ⟨by refine uW ?_; exact BK332.out⟩, ⟨by refine uW ?_; exact BK344.out⟩, ⟨by refine uW ?_; exact BK368.out⟩, ⟨by first | exact uB HB | exact uS HB (gC GE332 (gC GE344 (gC GE368 gN)))⟩⟩
           case rest =>
            clear HC69
            try clear c1
            try clear c2
            try clear p2
            try clear c3
            try clear c4
            try clear c5
            try clear c6
            try clear c6b0
            try clear c7
            try clear c8
            try clear c9
            try clear c10
            try clear c11
            try clear c12
            try clear c15
            try clear c16
            try clear c17
            try clear c18
            try clear c19
            try clear c20
            try clear c23
            try clear c28
            try clear c29
            try clear c33
            try clear c37
            try clear c40
            try clear c46
            try clear c46b0
            try clear c48
            try clear c49
            try clear c53
            try clear c57
            try clear c60
            try clear c60b0
            try clear c61
            try clear c66
            try clear c66b0
            try clear c66b1
            try clear c70
            try clear c79
            try clear c80
            try clear c85
            try clear c86
            try clear c87
            try clear c89
            try clear c92
            try clear c93
            try clear c95
            try clear hcz16_0
            try clear hcz16_1
            try clear hcz16_2
            try clear hcz24_0
            try clear hcz24_1
            try clear hcz24_2
            try clear hcz30_0
            try clear hcz30_1
            try clear hcz30_2
            try clear hcz31_0
            try clear hcz31_1
            try clear hcz31_2
            try clear hcz34_0
            try clear hcz34_1
            try clear hcz34_2
            try clear hcz35_0
            try clear hcz35_1
            try clear hcz35_2
            try clear hcz50_0
            try clear hcz50_1
            try clear hcz50_2
            try clear hcz51_0
            try clear hcz51_1
            try clear hcz51_2
            try clear hcz54_0
            try clear hcz54_1
            try clear hcz54_2
            try clear hcz55_0
            try clear hcz55_1
            try clear hcz55_2
            try clear hcz62_0
            try clear hcz62_1
            try clear hcz62_2
            try clear hcz64_0
            try clear hcz64_1
            try clear hcz64_2
            try clear hcz71_0
            try clear hcz71_1
            try clear hcz71_2
            try clear hcz73_0
            try clear hcz73_1
            try clear hcz73_2
            try clear hcz81_0
            try clear hcz81_1
            try clear hcz81_2
            try clear hcz88_0
            try clear hcz88_1
            try clear hcz88_2
            try clear hcz90_0
            try clear hcz90_1
            try clear hcz90_2
            try clear hcz94_0
            try clear hcz94_1
            try clear hcz94_2
            try clear hcz96_0
            try clear hcz96_1
            try clear hcz96_2
            try clear hfz16_0
            try clear hfz16_1
            try clear hfz16_2
            try clear hfz24_0
            try clear hfz24_1
            try clear hfz24_2
            try clear hfz30_0
            try clear hfz30_1
            try clear hfz30_2
            try clear hfz31_0
            try clear hfz31_1
            try clear hfz31_2
            try clear hfz34_0
            try clear hfz34_1
            try clear hfz34_2
            try clear hfz35_0
            try clear hfz35_1
            try clear hfz35_2
            try clear hfz50_0
            try clear hfz50_1
            try clear hfz50_2
            try clear hfz51_0
            try clear hfz51_1
            try clear hfz51_2
            try clear hfz54_0
            try clear hfz54_1
            try clear hfz54_2
            try clear hfz55_0
            try clear hfz55_1
            try clear hfz55_2
            try clear hfz62_0
            try clear hfz62_1
            try clear hfz62_2
            try clear hfz64_0
            try clear hfz64_1
            try clear hfz64_2
            try clear hfz71_0
            try clear hfz71_1
            try clear hfz71_2
            try clear hfz73_0
            try clear hfz73_1
            try clear hfz73_2
            try clear hfz81_0
            try clear hfz81_1
            try clear hfz81_2
            try clear hfz88_0
            try clear hfz88_1
            try clear hfz88_2
            try clear hfz90_0
            try clear hfz90_1
            try clear hfz90_2
            try clear hfz94_0
            try clear hfz94_1
            try clear hfz94_2
            try clear hfz96_0
            try clear hfz96_1
            try clear hfz96_2
            try clear p2
            obtain ⟨kq, x102_68, rfl, HA, HJ68, HO_333001, HO_333002, HO_345001, HO_345002, HO_369001, HO_369002, BK332, BK344, BK368, HB⟩ := hcut
            have hl345001_68 := (Kd.R_reads' HO_345001.out).1
            rw [hl345001_68] at HO_345001
            (try simp only [hl345001_68])
            (try simp only [hl345001_68] at BK332)
            (try simp only [hl345001_68] at BK344)
            (try simp only [hl345001_68] at BK368)
            (try simp only [hl345001_68] at HO_333001)
            (try simp only [hl345001_68] at HO_333002)
            (try simp only [hl345001_68] at HO_345002)
            (try simp only [hl345001_68] at HO_369001)
            (try simp only [hl345001_68] at HO_369002)
            have hl345002_68 := (Kd.R_reads' HO_345002.out).1
            rw [hl345002_68] at HO_345002
            (try simp only [hl345002_68])
            (try simp only [hl345002_68] at BK332)
            (try simp only [hl345002_68] at BK344)
            (try simp only [hl345002_68] at BK368)
            (try simp only [hl345002_68] at HO_333001)
            (try simp only [hl345002_68] at HO_333002)
            (try simp only [hl345002_68] at HO_345001)
            (try simp only [hl345002_68] at HO_369001)
            (try simp only [hl345002_68] at HO_369002)
            cases kq with
            | zero => exact absurd HA.out (by simp [laws_FnExactCuckooOf.j2])
            | succ kj68 =>
             have H := HA.out
             clear HA
             simp only [laws_FnExactCuckooOf.j2] at H
             by_cases c98 : x102_68 = true
             ·
              subst c98
              have H1 : (some false) = some r := by rw [if_pos rfl] at H; exact H
              clear H
              have H := H1
              clear H1
              obtain rfl := Option.some.inj H
              go_wp2
              go_ret
              exact ⟨by first | rfl | (simp [errW_none, errW_some] <;> rfl) | (simp [*, errW_none, errW_some] <;> rfl), by first | exact uB HB | exact uS HB (gC GE332 (gC GE344 (gC GE368 gN)))⟩
             ·
              replace c98 := Bool.eq_false_iff.mpr c98
              subst c98
              have H1 : ((laws_heldCuckoo.f kj68 t336 t354 t355 1).bind fun t370 => (if t370 < 0 then (some false) else (if t370 = t353 then (some true) else (some false)))) = some r := by rw [if_neg (show ¬ (false = true) by decide)] at H; exact H
              clear H
              have H := H1
              clear H1
              replace H := Option.bind_eq_some_iff.mp H
              obtain ⟨t370, A990, H⟩ := H
              replace H : (if t370 < 0 then (some false) else (if t370 = t353 then (some true) else (some false))) = some r := H
              have A99 := Aside0.mk A990
              clear A990
              by_cases c100 : t370 < 0
              ·
               rw [if_pos c100] at H
               have c100b0 : decide (t370 < 0) = true := decide_eq_true c100
               clear c100
               obtain rfl := Option.some.inj H
               have hnb101 := NB344_332.out
               have hnc101 := NB332_344.out
               have hnb102 := NB344_368.out
               have hnc102 := NB368_344.out
               have hcz103_0 : wc.cell? ⟨gb344, 0, none⟩ = some (.int .i64 t336) := (blk_cell BK344.out 0).trans rfl
               have hcz103_1 : wc.cell? ⟨gb344, 1, none⟩ = some (.slice Ao25 t354.length co25) := (blk_cell BK344.out 1).trans rfl
               have hcz103_2 : wc.cell? ⟨gb344, 2, none⟩ = some (.slice Ao26 t355.length co26) := (blk_cell BK344.out 2).trans rfl
               have hfz103_0 := blk_frozen BK344.out 0
               have hfz103_1 := blk_frozen BK344.out 1
               have hfz103_2 := blk_frozen BK344.out 2
               go_wp2_with (first | ((with_reducible refine gate_callee (f := 12) rfl ?_); refine goesL_ (some 105) rfl rfl Try.func12 (by kernel_rfl) rfl #[.agg #[.int .i64 t336, .slice Ao25 t354.length co25, .slice Ao26 t355.length co26], .int .i64 1] rfl (by (try simp only [List.map_toArray, List.map_cons, List.map_nil]); first | done | rfl | (simp only [List.length_drop, List.length_take]; rfl)) ?_; (with_reducible refine (laws_heldCuckoo.calls kj68 t336 _ _ t354 _ _ t355 1 t370 _ ?side1 ?side2 ?side3 ?side4 A99.out).mono ?_); (case side1 => exact uD HO_345001); (case side2 => exact (Kd.R_reads' HO_345001.out).2.1); (case side3 => exact uD HO_345002); (case side4 => exact (Kd.R_reads' HO_345002.out).2.1); rintro e w104 ⟨rfl, hb⟩; refine ⟨_, rfl, ?_⟩; have n0_ := Aside0.mk (Kd.R_below (uR HO_333001) hb); have n1_ := Aside0.mk (Kd.V_below (by (with_reducible repeat (first | apply Kd.V_alloc | apply Kd.V_drewN | apply Kd.V_drew)); exact HO_333002.out) hb); have n2_ := Aside0.mk (Kd.R_below (uR HO_345001) hb); have n3_ := Aside0.mk (Kd.R_below (uR HO_345002) hb); have n4_ := Aside0.mk (Kd.R_below (uR HO_369001) hb); have n5_ := Aside0.mk (Kd.R_below (uR HO_369002) hb); have n6_ := Aside0.mk (blk_below (g := gb332) (o := .cells #[.int .i64 t324, .slice Ao17 t325.length co17, .slice Ao18 t328.length co18] 26 (0, 0)) (uK BK332) hb); have n7_ := Aside0.mk (blk_below (g := gb344) (o := .cells #[.int .i64 t336, .slice Ao25 t354.length co25, .slice Ao26 t355.length co26] 26 (0, 0)) (uK BK344) hb); have n8_ := Aside0.mk (blk_below (g := gb368) (o := .cells #[.int .i64 t360, .slice Ao82 t361.length co82, .slice Ao83 t364.length co83] 26 (0, 0)) (uK BK368) hb); have n9_ := Aside0.mk (below_step (by first | exact uB HB | exact uS HB (gC GE332 (gC GE344 (gC GE368 gN)))) hb); clear HO_333001 HO_333002 HO_345001 HO_345002 HO_369001 HO_369002 BK332 BK344 BK368 HB; have HO_333001 := n0_; have HO_333002 := n1_; have HO_345001 := n2_; have HO_345002 := n3_; have HO_369001 := n4_; have HO_369002 := n5_; have BK332 := n6_; have BK344 := n7_; have BK368 := n8_; have HB := n9_; clear n0_ n1_ n2_ n3_ n4_ n5_ n6_ n7_ n8_ n9_; (try clear hb); (try clear hb2); (try clear hk); (try clear hi)))
               go_ret
               exact ⟨by first | rfl | (simp [errW_none, errW_some] <;> rfl) | (simp [*, errW_none, errW_some] <;> rfl), by first | exact uB HB | exact uS HB (gC GE332 (gC GE344 (gC GE368 gN)))⟩
              ·
               rw [if_neg c100] at H
               have c100b0 : decide (t370 < 0) = false := decide_eq_false c100
               clear c100
               by_cases c105 : t370 = t353
               ·
                rw [if_pos c105] at H
                have c105b0 : (t370 == t353) = true := beq_iff_eq.mpr c105
                have c105b1 : (t370 != t353) = false := bne_eq_false_iff_eq.mpr c105
                clear c105
                obtain rfl := Option.some.inj H
                have hnb106 := NB344_332.out
                have hnc106 := NB332_344.out
                have hnb107 := NB344_368.out
                have hnc107 := NB368_344.out
                have hcz108_0 : wc.cell? ⟨gb344, 0, none⟩ = some (.int .i64 t336) := (blk_cell BK344.out 0).trans rfl
                have hcz108_1 : wc.cell? ⟨gb344, 1, none⟩ = some (.slice Ao25 t354.length co25) := (blk_cell BK344.out 1).trans rfl
                have hcz108_2 : wc.cell? ⟨gb344, 2, none⟩ = some (.slice Ao26 t355.length co26) := (blk_cell BK344.out 2).trans rfl
                have hfz108_0 := blk_frozen BK344.out 0
                have hfz108_1 := blk_frozen BK344.out 1
                have hfz108_2 := blk_frozen BK344.out 2
                go_wp2_with (first | ((with_reducible refine gate_callee (f := 12) rfl ?_); refine goesL_ (some 105) rfl rfl Try.func12 (by kernel_rfl) rfl #[.agg #[.int .i64 t336, .slice Ao25 t354.length co25, .slice Ao26 t355.length co26], .int .i64 1] rfl (by (try simp only [List.map_toArray, List.map_cons, List.map_nil]); first | done | rfl | (simp only [List.length_drop, List.length_take]; rfl)) ?_; (with_reducible refine (laws_heldCuckoo.calls kj68 t336 _ _ t354 _ _ t355 1 t370 _ ?side1 ?side2 ?side3 ?side4 A99.out).mono ?_); (case side1 => exact uD HO_345001); (case side2 => exact (Kd.R_reads' HO_345001.out).2.1); (case side3 => exact uD HO_345002); (case side4 => exact (Kd.R_reads' HO_345002.out).2.1); rintro e w109 ⟨rfl, hb⟩; refine ⟨_, rfl, ?_⟩; have n0_ := Aside0.mk (Kd.R_below (uR HO_333001) hb); have n1_ := Aside0.mk (Kd.V_below (by (with_reducible repeat (first | apply Kd.V_alloc | apply Kd.V_drewN | apply Kd.V_drew)); exact HO_333002.out) hb); have n2_ := Aside0.mk (Kd.R_below (uR HO_345001) hb); have n3_ := Aside0.mk (Kd.R_below (uR HO_345002) hb); have n4_ := Aside0.mk (Kd.R_below (uR HO_369001) hb); have n5_ := Aside0.mk (Kd.R_below (uR HO_369002) hb); have n6_ := Aside0.mk (blk_below (g := gb332) (o := .cells #[.int .i64 t324, .slice Ao17 t325.length co17, .slice Ao18 t328.length co18] 26 (0, 0)) (uK BK332) hb); have n7_ := Aside0.mk (blk_below (g := gb344) (o := .cells #[.int .i64 t336, .slice Ao25 t354.length co25, .slice Ao26 t355.length co26] 26 (0, 0)) (uK BK344) hb); have n8_ := Aside0.mk (blk_below (g := gb368) (o := .cells #[.int .i64 t360, .slice Ao82 t361.length co82, .slice Ao83 t364.length co83] 26 (0, 0)) (uK BK368) hb); have n9_ := Aside0.mk (below_step (by first | exact uB HB | exact uS HB (gC GE332 (gC GE344 (gC GE368 gN)))) hb); clear HO_333001 HO_333002 HO_345001 HO_345002 HO_369001 HO_369002 BK332 BK344 BK368 HB; have HO_333001 := n0_; have HO_333002 := n1_; have HO_345001 := n2_; have HO_345002 := n3_; have HO_369001 := n4_; have HO_369002 := n5_; have BK332 := n6_; have BK344 := n7_; have BK368 := n8_; have HB := n9_; clear n0_ n1_ n2_ n3_ n4_ n5_ n6_ n7_ n8_ n9_; (try clear hb); (try clear hb2); (try clear hk); (try clear hi)))
                go_ret
                exact ⟨by first | rfl | (simp [errW_none, errW_some] <;> rfl) | (simp [*, errW_none, errW_some] <;> rfl), by first | exact uB HB | exact uS HB (gC GE332 (gC GE344 (gC GE368 gN)))⟩
               ·
                rw [if_neg c105] at H
                have c105b0 : (t370 == t353) = false := beq_eq_false_iff_ne.mpr c105
                have c105b1 : (t370 != t353) = true := bne_iff_ne.mpr c105
                obtain rfl := Option.some.inj H
                have hnb110 := NB344_332.out
                have hnc110 := NB332_344.out
                have hnb111 := NB344_368.out
                have hnc111 := NB368_344.out
                have hcz112_0 : wc.cell? ⟨gb344, 0, none⟩ = some (.int .i64 t336) := (blk_cell BK344.out 0).trans rfl
                have hcz112_1 : wc.cell? ⟨gb344, 1, none⟩ = some (.slice Ao25 t354.length co25) := (blk_cell BK344.out 1).trans rfl
                have hcz112_2 : wc.cell? ⟨gb344, 2, none⟩ = some (.slice Ao26 t355.length co26) := (blk_cell BK344.out 2).trans rfl
                have hfz112_0 := blk_frozen BK344.out 0
                have hfz112_1 := blk_frozen BK344.out 1
                have hfz112_2 := blk_frozen BK344.out 2
                go_wp2_with (first | ((with_reducible refine gate_callee (f := 12) rfl ?_); refine goesL_ (some 105) rfl rfl Try.func12 (by kernel_rfl) rfl #[.agg #[.int .i64 t336, .slice Ao25 t354.length co25, .slice Ao26 t355.length co26], .int .i64 1] rfl (by (try simp only [List.map_toArray, List.map_cons, List.map_nil]); first | done | rfl | (simp only [List.length_drop, List.length_take]; rfl)) ?_; (with_reducible refine (laws_heldCuckoo.calls kj68 t336 _ _ t354 _ _ t355 1 t370 _ ?side1 ?side2 ?side3 ?side4 A99.out).mono ?_); (case side1 => exact uD HO_345001); (case side2 => exact (Kd.R_reads' HO_345001.out).2.1); (case side3 => exact uD HO_345002); (case side4 => exact (Kd.R_reads' HO_345002.out).2.1); rintro e w113 ⟨rfl, hb⟩; refine ⟨_, rfl, ?_⟩; have n0_ := Aside0.mk (Kd.R_below (uR HO_333001) hb); have n1_ := Aside0.mk (Kd.V_below (by (with_reducible repeat (first | apply Kd.V_alloc | apply Kd.V_drewN | apply Kd.V_drew)); exact HO_333002.out) hb); have n2_ := Aside0.mk (Kd.R_below (uR HO_345001) hb); have n3_ := Aside0.mk (Kd.R_below (uR HO_345002) hb); have n4_ := Aside0.mk (Kd.R_below (uR HO_369001) hb); have n5_ := Aside0.mk (Kd.R_below (uR HO_369002) hb); have n6_ := Aside0.mk (blk_below (g := gb332) (o := .cells #[.int .i64 t324, .slice Ao17 t325.length co17, .slice Ao18 t328.length co18] 26 (0, 0)) (uK BK332) hb); have n7_ := Aside0.mk (blk_below (g := gb344) (o := .cells #[.int .i64 t336, .slice Ao25 t354.length co25, .slice Ao26 t355.length co26] 26 (0, 0)) (uK BK344) hb); have n8_ := Aside0.mk (blk_below (g := gb368) (o := .cells #[.int .i64 t360, .slice Ao82 t361.length co82, .slice Ao83 t364.length co83] 26 (0, 0)) (uK BK368) hb); have n9_ := Aside0.mk (below_step (by first | exact uB HB | exact uS HB (gC GE332 (gC GE344 (gC GE368 gN)))) hb); clear HO_333001 HO_333002 HO_345001 HO_345002 HO_369001 HO_369002 BK332 BK344 BK368 HB; have HO_333001 := n0_; have HO_333002 := n1_; have HO_345001 := n2_; have HO_345002 := n3_; have HO_369001 := n4_; have HO_369002 := n5_; have BK332 := n6_; have BK344 := n7_; have BK368 := n8_; have HB := n9_; clear n0_ n1_ n2_ n3_ n4_ n5_ n6_ n7_ n8_ n9_; (try clear hb); (try clear hb2); (try clear hk); (try clear hi)))
                go_ret
                exact ⟨by first | rfl | (simp [errW_none, errW_some] <;> rfl) | (simp [*, errW_none, errW_some] <;> rfl), by first | exact uB HB | exact uS HB (gC GE332 (gC GE344 (gC GE368 gN)))⟩
          ·
           rw [if_neg c66] at H
           have c66b0 : (t356 == t353) = false := beq_eq_false_iff_ne.mpr c66
           have c66b1 : (t356 != t353) = true := bne_iff_ne.mpr c66
           obtain rfl := Option.some.inj H
           have hnb114 := NB344_332.out
           have hnc114 := NB332_344.out
           have hcz115_0 : wc.cell? ⟨gb344, 0, none⟩ = some (.int .i64 t336) := (blk_cell BK344.out 0).trans rfl
           have hcz115_1 : wc.cell? ⟨gb344, 1, none⟩ = some (.slice Ao25 t337.length co25) := (blk_cell BK344.out 1).trans rfl
           have hcz115_2 : wc.cell? ⟨gb344, 2, none⟩ = some (.slice Ao26 t340.length co26) := (blk_cell BK344.out 2).trans rfl
           have hfz115_0 := blk_frozen BK344.out 0
           have hfz115_1 := blk_frozen BK344.out 1
           have hfz115_2 := blk_frozen BK344.out 2
           go_wp2_with (first | ((with_reducible refine gate_callee (f := 11) rfl ?_); refine goesL_ (some 76) rfl rfl Try.func11 (by kernel_rfl) rfl #[.agg #[.int .i64 t336, .slice Ao25 t337.length co25, .slice Ao26 t340.length co26], .int .i64 1] rfl (by (try simp only [List.map_toArray, List.map_cons, List.map_nil]); first | done | rfl | (simp only [List.length_drop, List.length_take]; rfl)) ?_; (with_reducible refine (laws_markCuckoo.calls kj41 t336 (fun k_ => some k_ = (.slice Ao25 t337.length co25 : Value).ownBlock) (.slice Ao25 t337.length co25) t337 (fun k_ => some k_ = (.slice Ao26 t340.length co26 : Value).ownBlock) (.slice Ao26 t340.length co26) t340 1 t353 t354 t355 w _ ?side1 ?side2 ?side3 ?side4 ?side5 A58.out).mono ?_); (case side1 => first | exact uB HB | exact uS HB (gC GE332 (gC GE344 gN))); (case side2 => exact Kd.R_tight rfl HO_345001.out); (case side3 => exact fun k_ e_ => (HO_345001.out.1 k_ e_.symm).2); (case side4 => exact Kd.R_tight rfl HO_345002.out); (case side5 => exact fun k_ e_ => (HO_345002.out.1 k_ e_.symm).2); rintro e w116 ⟨rfl, hy0, hy1, hb, hkp⟩; refine ⟨_, rfl, ?_⟩; have n0_ := Aside0.mk (Kd.R_mono (ok' := fun k_ => some k_ ≠ (.slice Ao25 t337.length co25 : Value).ownBlock ∧ some k_ ≠ (.slice Ao26 t340.length co26 : Value).ownBlock) (Kd.R_keptB (HO_333001.out) hkp (fun k_ hk_ hs_ => Or.elim hs_ (fun e_ => (hk_.1) e_) (fun e_ => (hk_.2) e_))) (fun k_ hk_ => ⟨hk_.1.1, hk_.1.2⟩)); have n1_ := Aside0.mk (Kd.V_mono (ok' := fun k_ => some k_ ≠ (.slice Ao17 t325.length co17 : Value).ownBlock ∧ some k_ ≠ (.slice Ao25 t337.length co25 : Value).ownBlock ∧ some k_ ≠ (.slice Ao26 t340.length co26 : Value).ownBlock ∧ k_ ≠ gb332 ∧ k_ ≠ gb344) (Kd.V_keptB (HO_333002.out) hkp (fun k_ hk_ hs_ => Or.elim hs_ (fun e_ => (hk_.2.1) e_) (fun e_ => (hk_.2.2.1) e_))) (fun k_ hk_ => ⟨hk_.1.1, hk_.1.2.1, hk_.1.2.2.1, hk_.1.2.2.2.1, hk_.1.2.2.2.2⟩)); have n2_ := Aside0.mk (Kd.R_reok rfl hy0 (fun k_ e_ => HO_345001.out.1 k_ e_)); have n3_ := Aside0.mk (Kd.R_reok rfl hy1 (fun k_ e_ => HO_345002.out.1 k_ e_)); have n4_ := Aside0.mk (blk_kept (uK BK332) hkp (fun hs_ => Or.elim hs_ (fun e_ => (fun e_ => (Kd.R_ne HO_345001.out BK332.out (by decide)) e_) e_) (fun e_ => (fun e_ => (Kd.R_ne HO_345002.out BK332.out (by decide)) e_) e_))); have n5_ := Aside0.mk (blk_kept (uK BK344) hkp (fun hs_ => Or.elim hs_ (fun e_ => (fun e_ => (Kd.R_ne HO_345001.out BK344.out (by decide)) e_) e_) (fun e_ => (fun e_ => (Kd.R_ne HO_345002.out BK344.out (by decide)) e_) e_))); have n6_ := Aside0.mk (hb); clear HO_333001 HO_333002 HO_345001 HO_345002 BK332 BK344 HB; have HO_333001 := n0_; have HO_333002 := n1_; have HO_345001 := n2_; have HO_345002 := n3_; have BK332 := n4_; have BK344 := n5_; have HB := n6_; clear n0_ n1_ n2_ n3_ n4_ n5_ n6_; (try clear hb); (try clear hkp); (try clear hy0); (try clear hy1); have hcz117_0 : w116.cell? ⟨gb344, 0, none⟩ = some (.int .i64 t336) := (blk_cell BK344.out 0).trans rfl; have hcz117_1 : w116.cell? ⟨gb344, 1, none⟩ = some (.slice Ao25 t337.length co25) := (blk_cell BK344.out 1).trans rfl; have hcz117_2 : w116.cell? ⟨gb344, 2, none⟩ = some (.slice Ao26 t340.length co26) := (blk_cell BK344.out 2).trans rfl; have hfz117_0 := blk_frozen BK344.out 0; have hfz117_1 := blk_frozen BK344.out 1; have hfz117_2 := blk_frozen BK344.out 2) | ((with_reducible refine gate_callee (f := 12) rfl ?_); refine goesL_ (some 79) rfl rfl Try.func12 (by kernel_rfl) rfl #[.agg #[.int .i64 t336, .slice Ao25 t354.length co25, .slice Ao26 t355.length co26], .int .i64 1] rfl (by (try simp only [List.map_toArray, List.map_cons, List.map_nil]); first | done | (rw [show t354.length = t337.length from (Kd.R_reads' HO_345001.out).1.symm, show t355.length = t340.length from (Kd.R_reads' HO_345002.out).1.symm] <;> rfl) | rfl | (simp only [List.length_drop, List.length_take]; rfl)) ?_; (with_reducible refine (laws_heldCuckoo.calls kj41 t336 _ _ t354 _ _ t355 1 t356 _ ?side1 ?side2 ?side3 ?side4 A59.out).mono ?_); (case side1 => exact uD HO_345001); (case side2 => rw [show t354.length = t337.length from (Kd.R_reads' HO_345001.out).1.symm]; exact (Kd.R_reads' HO_345001.out).2.1); (case side3 => exact uD HO_345002); (case side4 => rw [show t355.length = t340.length from (Kd.R_reads' HO_345002.out).1.symm]; exact (Kd.R_reads' HO_345002.out).2.1); rintro e w118 ⟨rfl, hb⟩; refine ⟨_, rfl, ?_⟩; have n0_ := Aside0.mk (Kd.R_below (uR HO_333001) hb); have n1_ := Aside0.mk (Kd.V_below (by (with_reducible repeat (first | apply Kd.V_alloc | apply Kd.V_drewN | apply Kd.V_drew)); exact HO_333002.out) hb); have n2_ := Aside0.mk (Kd.R_below (uR HO_345001) hb); have n3_ := Aside0.mk (Kd.R_below (uR HO_345002) hb); have n4_ := Aside0.mk (blk_below (g := gb332) (o := .cells #[.int .i64 t324, .slice Ao17 t325.length co17, .slice Ao18 t328.length co18] 26 (0, 0)) (uK BK332) hb); have n5_ := Aside0.mk (blk_below (g := gb344) (o := .cells #[.int .i64 t336, .slice Ao25 t337.length co25, .slice Ao26 t340.length co26] 26 (0, 0)) (uK BK344) hb); have n6_ := Aside0.mk (below_step (by first | exact uB HB | exact uS HB (gC GE332 (gC GE344 gN))) hb); clear HO_333001 HO_333002 HO_345001 HO_345002 BK332 BK344 HB; have HO_333001 := n0_; have HO_333002 := n1_; have HO_345001 := n2_; have HO_345002 := n3_; have BK332 := n4_; have BK344 := n5_; have HB := n6_; clear n0_ n1_ n2_ n3_ n4_ n5_ n6_; (try clear hb); (try clear hb2); (try clear hk); (try clear hi)))
           go_ret
           exact ⟨by first | rfl | (simp [errW_none, errW_some] <;> rfl) | (simp [*, errW_none, errW_some] <;> rfl), by first | exact uB HB | exact uS HB (gC GE332 (gC GE344 gN))⟩
     ·
      replace c40 := Bool.eq_false_iff.mpr c40
      subst c40
      have H1 : (some false) = some r := by rw [if_neg (show ¬ (false = true) by decide)] at H; exact H
      clear H
      have H := H1
      clear H1
      obtain rfl := Option.some.inj H
      go_wp2_with (first | ((with_reducible refine gate_callee (f := 17) rfl ?_); refine goesL_ (some 55) rfl rfl Try.func17 (by kernel_rfl) rfl #[.slice A1 l1.length c1] rfl (by (try simp only [List.map_toArray, List.map_cons, List.map_nil]); first | done | rfl | (simp only [List.length_drop, List.length_take]; rfl)) ?_; (with_reducible refine (laws_toStringS.calls kj10 _ _ l1 t346 _ ?side1 ?side2 A38.out).mono ?_); (case side1 => exact uC HR1 HB); (case side2 => exact HC1.out); rintro e w119 ⟨v347, rfl, ho0, hb⟩; refine ⟨_, rfl, ?_⟩; have n0_ := Aside0.mk (Kd.R_elder' (uR HO_12) (Kd.R_base ho0) hb); have n1_ := Aside0.mk (Kd.R_elder' (uR HO_333001) (Kd.R_base ho0) hb); have n2_ := Aside0.mk (Kd.V_elder' (by (with_reducible repeat (first | apply Kd.V_alloc | apply Kd.V_drewN | apply Kd.V_drew)); exact HO_333002.out) (Kd.R_base ho0) hb); have n3_ := Aside0.mk (Kd.R_elder' (uR HO_345001) (Kd.R_base ho0) hb); have n4_ := Aside0.mk (Kd.R_elder' (uR HO_345002) (Kd.R_base ho0) hb); have n5_ := Aside0.mk (Kd.R_lower (Kd.R_new' (Kd.R_new' (Kd.R_new' (Kd.R_new' ho0 (Kd.R_lt (uR HO_12))) (Kd.R_lt (uR HO_333001))) (Kd.R_lt (uR HO_345001))) (Kd.R_lt (uR HO_345002))) (below_size (by first | exact uB HB | exact uS HB (gC GE332 (gC GE344 gN))))); have n6_ := Aside0.mk (blk_below (g := gb332) (o := .cells #[.int .i64 t324, .slice Ao17 t325.length co17, .slice Ao18 t328.length co18] 26 (0, 0)) (uK BK332) hb); have n7_ := Aside0.mk (blk_below (g := gb344) (o := .cells #[.int .i64 t336, .slice Ao25 t337.length co25, .slice Ao26 t340.length co26] 26 (0, 0)) (uK BK344) hb); have n8_ := Aside0.mk (below_step (by first | exact uB HB | exact uS HB (gC GE332 (gC GE344 gN))) hb); clear HO_12 HO_333001 HO_333002 HO_345001 HO_345002 BK332 BK344 HB; have HO_12 := n0_; have HO_333001 := n1_; have HO_333002 := n2_; have HO_345001 := n3_; have HO_345002 := n4_; have HO348 := n5_; have BK332 := n6_; have BK344 := n7_; have HB := n8_; clear n0_ n1_ n2_ n3_ n4_ n5_ n6_ n7_ n8_; (try clear hb); (try clear hb2); (try clear hk); (try clear hi); (try clear ho0); obtain ⟨Ao120, co120, eo120⟩ := Kd.R_slice HO348.out; subst eo120) | ((with_reducible refine gate_callee (f := 19) rfl ?_); refine goesL_ (some 56) rfl rfl Try.func19 (by kernel_rfl) rfl #[.slice Ao20 t333.length co20, .slice Ao120 t346.length co120] rfl (by (try simp only [List.map_toArray, List.map_cons, List.map_nil]); first | done | rfl | (simp only [List.length_drop, List.length_take]; rfl)) ?_; (with_reducible refine (laws_eqStringS.calls kj10 _ _ t333 _ _ t346 false _ ?side1 ?side2 ?side3 ?side4 A39.out).mono ?_); (case side1 => exact uD HO_12); (case side2 => exact (Kd.R_reads' HO_12.out).2.1); (case side3 => exact uD HO348); (case side4 => exact (Kd.R_reads' HO348.out).2.1); rintro e w' ⟨rfl, ⟨nd, rfl⟩⟩; refine ⟨_, rfl, ?_⟩))
      go_ret
      exact ⟨by first | rfl | (simp [errW_none, errW_some] <;> rfl) | (simp [*, errW_none, errW_some] <;> rfl), by first | exact uB HB | exact uS HB (gC GE332 (gC GE344 gN))⟩

end Go.Proofs.Ythaicmebdgeamaa.PFnExactCuckooOf
