-- made by wip/tools/myprint.py over the kit's print, for this claim
import Derived.Test.YtmiekfffaaagpaaPFnExactCountingOfx0
import Derived.Test.YtmiekfffaaagpaaPFnExactCountingOfx1
import Derived.Test.YtmiekfffaaagpaaPFnExactCountingOfx3
import Derived.Test.YtmiekfffaaagpaaPFnExactCountingOfx5
import Derived.Test.YtmiekfffaaagpaaPFnExactCountingOfx6
namespace Go.Proofs.Ytmiekfffaaagpaa.PFnExactCountingOf
open Go.RowKit Go.Proofs.YtmiekfffaaagpaaW.PrintWords Go.Proofs.YtmiekfffaaagpaaW.PrintLast Go.Proofs.YtmiekfffaaagpaaW.PrintMore
attribute [local go_sem] max2_int min2_int max_two min_two max_three min_three max_four min_four   -- for this text's walks alone
set_option linter.unusedVariables false
set_option linter.unusedSimpArgs false

/-! ### laws_FnExactCountingOf: function 13 -/
mutual
def laws_FnExactCountingOf.j0 : Nat → Int → Int → Int → List ByteArray → Bool → List ByteArray → Bool → Bool → Int → Int → List Int → Int → Int → List Int → Option (Bool)
  | 0, _, _, _, _, _, _, _, _, _, _, _, _, _, _ => none
  | k + 1, x0, x1, x2, x3, x11, x12, x14, x52, x218000, x218001, x218002, x228000, x228001, x228002 => if x52 = true then (some false) else ((laws_toStringS.f k x3).bind fun t229 => ((laws_eqStringS.f k x12 t229).bind fun t232 => (if t232 = true then ((laws_markStringS.f k x12 1).bind fun bt233 => (if bt233.1 < 0 then (laws_FnExactCountingOf.j1 k x0 x1 x2 x3 x11 true x218000 x218001 x218002 x228000 x228001 x228002) else ((laws_eqCounting.f k x228000 x228001 x228002 x218000 x218001 x218002).bind fun t235 => (if t235 = true then (laws_FnExactCountingOf.j1 k x0 x1 x2 x3 x11 (x14 != x11) x218000 x218001 x218002 x228000 x228001 x228002) else (laws_FnExactCountingOf.j1 k x0 x1 x2 x3 x11 true x218000 x218001 x218002 x228000 x228001 x228002))))) else (some false))))
def laws_FnExactCountingOf.j1 : Nat → Int → Int → Int → List ByteArray → Bool → Bool → Int → Int → List Int → Int → Int → List Int → Option (Bool)
  | 0, _, _, _, _, _, _, _, _, _, _, _, _ => none
  | k + 1, x0, x1, x2, x3, x11, x73, x218000, x218001, x218002, x228000, x228001, x228002 => if x73 = true then (some false) else ((laws_markCounting.f k x228000 x228001 x228002 1).bind fun bt236 => ((laws_heldCounting.f k x228000 x228001 bt236.2 1).bind fun t238 => (if t238 < 0 then (some false) else (if t238 = bt236.1 then ((laws_toStringS.f k x3).bind fun t239 => ((impl_CountingOf.f k x0 x1 x2 t239).bind fun bt242 => ((laws_eqCounting.f k bt242.1 bt242.2.1 bt242.2.2.1 x218000 x218001 x218002).bind fun t249 => (if t249 = true then (laws_FnExactCountingOf.j2 k bt236.1 (bt242.2.2.2 != x11) x228000 x228001 bt236.2) else (laws_FnExactCountingOf.j2 k bt236.1 true x228000 x228001 bt236.2))))) else (some false)))))
def laws_FnExactCountingOf.j2 : Nat → Int → Bool → Int → Int → List Int → Option (Bool)
  | 0, _, _, _, _, _ => none
  | k + 1, x16, x102, x228000, x228001, x228002 => if x102 = true then (some false) else ((laws_heldCounting.f k x228000 x228001 x228002 1).bind fun t250 => (if t250 < 0 then (some false) else (if t250 = x16 then (some true) else (some false))))
end
def laws_FnExactCountingOf.f (k : Nat) (a0 : Int) (a1 : Int) (a2 : Int) (l3 : List ByteArray) : Option (Bool) := (laws_szStringS.f k l3 1048576).bind fun t207 => (if t207 < 0 then (some true) else ((laws_toStringS.f k l3).bind fun t208 => ((spec_CountingOf.f k a0 a1 a2 t208).bind fun bt211 => ((laws_toStringS.f k l3).bind fun t218 => ((impl_CountingOf.f k a0 a1 a2 t218).bind fun bt221 => ((laws_eqCounting.f k bt221.1 bt221.2.1 bt221.2.2.1 bt211.1 bt211.2.1 bt211.2.2.1).bind fun t228 => (if t228 = true then (laws_FnExactCountingOf.j0 k a0 a1 a2 l3 bt211.2.2.2 t218 bt221.2.2.2 (bt221.2.2.2 != bt211.2.2.2) bt211.1 bt211.2.1 bt211.2.2.1 bt221.1 bt221.2.1 bt221.2.2.1) else (laws_FnExactCountingOf.j0 k a0 a1 a2 l3 bt211.2.2.2 t218 bt221.2.2.2 true bt211.1 bt211.2.1 bt211.2.2.1 bt221.1 bt221.2.1 bt221.2.2.1))))))))
theorem laws_FnExactCountingOf.mono_l : ∀ k, (∀ y0 y1 y2 y3 y4 y5 y6 y7 y8 y9 y10 y11 y12 y13, LeO (laws_FnExactCountingOf.j0 k y0 y1 y2 y3 y4 y5 y6 y7 y8 y9 y10 y11 y12 y13) (laws_FnExactCountingOf.j0 (k + 1) y0 y1 y2 y3 y4 y5 y6 y7 y8 y9 y10 y11 y12 y13)) ∧ (∀ y0 y1 y2 y3 y4 y5 y6 y7 y8 y9 y10 y11, LeO (laws_FnExactCountingOf.j1 k y0 y1 y2 y3 y4 y5 y6 y7 y8 y9 y10 y11) (laws_FnExactCountingOf.j1 (k + 1) y0 y1 y2 y3 y4 y5 y6 y7 y8 y9 y10 y11)) ∧ (∀ y0 y1 y2 y3 y4, LeO (laws_FnExactCountingOf.j2 k y0 y1 y2 y3 y4) (laws_FnExactCountingOf.j2 (k + 1) y0 y1 y2 y3 y4))
  | 0 => ⟨fun _ _ _ _ _ _ _ _ _ _ _ _ _ _ r h => by simp [laws_FnExactCountingOf.j0] at h, fun _ _ _ _ _ _ _ _ _ _ _ _ r h => by simp [laws_FnExactCountingOf.j1] at h, fun _ _ _ _ _ r h => by simp [laws_FnExactCountingOf.j2] at h⟩
  | k + 1 => by
    obtain ⟨ih0, ih1, ih2⟩ := laws_FnExactCountingOf.mono_l k
    refine ⟨?_, ?_, ?_⟩
    · intro y0 y1 y2 y3 y4 y5 y6 y7 y8 y9 y10 y11 y12 y13
      unfold laws_FnExactCountingOf.j0
      repeat' first
      | (with_reducible exact ih0 _ _ _ _ _ _ _ _ _ _ _ _ _ _)
      | (with_reducible exact ih1 _ _ _ _ _ _ _ _ _ _ _ _)
      | (with_reducible exact ih2 _ _ _ _ _)
      | (with_reducible exact impl_CountingOf.mono _ _ _ _ _)
      | (with_reducible exact laws_eqCounting.mono _ _ _ _ _ _ _)
      | (with_reducible exact laws_eqStringS.mono _ _ _)
      | (with_reducible exact laws_heldCounting.mono _ _ _ _ _)
      | (with_reducible exact laws_markCounting.mono _ _ _ _ _)
      | (with_reducible exact laws_markStringS.mono _ _ _)
      | (with_reducible exact laws_szStringS.mono _ _ _)
      | (with_reducible exact laws_toStringS.mono _ _)
      | (with_reducible exact spec_CountingOf.mono _ _ _ _ _)
      | (with_reducible exact LeO.refl _)
      | (with_reducible exact LeO.none _)
      | (with_reducible refine LeO.ite ?_ ?_)
      | (with_reducible refine LeO.bind ?_ (fun _ => ?_))
      | exact ih0 _ _ _ _ _ _ _ _ _ _ _ _ _ _
      | exact ih1 _ _ _ _ _ _ _ _ _ _ _ _
      | exact ih2 _ _ _ _ _
      | exact impl_CountingOf.mono _ _ _ _ _
      | exact laws_eqCounting.mono _ _ _ _ _ _ _
      | exact laws_eqStringS.mono _ _ _
      | exact laws_heldCounting.mono _ _ _ _ _
      | exact laws_markCounting.mono _ _ _ _ _
      | exact laws_markStringS.mono _ _ _
      | exact laws_szStringS.mono _ _ _
      | exact laws_toStringS.mono _ _
      | exact spec_CountingOf.mono _ _ _ _ _
      | exact LeO.none _
      | refine LeO.ite ?_ ?_
      | refine LeO.bind ?_ (fun _ => ?_)
    · intro y0 y1 y2 y3 y4 y5 y6 y7 y8 y9 y10 y11
      unfold laws_FnExactCountingOf.j1
      repeat' first
      | (with_reducible exact ih0 _ _ _ _ _ _ _ _ _ _ _ _ _ _)
      | (with_reducible exact ih1 _ _ _ _ _ _ _ _ _ _ _ _)
      | (with_reducible exact ih2 _ _ _ _ _)
      | (with_reducible exact impl_CountingOf.mono _ _ _ _ _)
      | (with_reducible exact laws_eqCounting.mono _ _ _ _ _ _ _)
      | (with_reducible exact laws_eqStringS.mono _ _ _)
      | (with_reducible exact laws_heldCounting.mono _ _ _ _ _)
      | (with_reducible exact laws_markCounting.mono _ _ _ _ _)
      | (with_reducible exact laws_markStringS.mono _ _ _)
      | (with_reducible exact laws_szStringS.mono _ _ _)
      | (with_reducible exact laws_toStringS.mono _ _)
      | (with_reducible exact spec_CountingOf.mono _ _ _ _ _)
      | (with_reducible exact LeO.refl _)
      | (with_reducible exact LeO.none _)
      | (with_reducible refine LeO.ite ?_ ?_)
      | (with_reducible refine LeO.bind ?_ (fun _ => ?_))
      | exact ih0 _ _ _ _ _ _ _ _ _ _ _ _ _ _
      | exact ih1 _ _ _ _ _ _ _ _ _ _ _ _
      | exact ih2 _ _ _ _ _
      | exact impl_CountingOf.mono _ _ _ _ _
      | exact laws_eqCounting.mono _ _ _ _ _ _ _
      | exact laws_eqStringS.mono _ _ _
      | exact laws_heldCounting.mono _ _ _ _ _
      | exact laws_markCounting.mono _ _ _ _ _
      | exact laws_markStringS.mono _ _ _
      | exact laws_szStringS.mono _ _ _
      | exact laws_toStringS.mono _ _
      | exact spec_CountingOf.mono _ _ _ _ _
      | exact LeO.none _
      | refine LeO.ite ?_ ?_
      | refine LeO.bind ?_ (fun _ => ?_)
    · intro y0 y1 y2 y3 y4
      unfold laws_FnExactCountingOf.j2
      repeat' first
      | (with_reducible exact ih0 _ _ _ _ _ _ _ _ _ _ _ _ _ _)
      | (with_reducible exact ih1 _ _ _ _ _ _ _ _ _ _ _ _)
      | (with_reducible exact ih2 _ _ _ _ _)
      | (with_reducible exact impl_CountingOf.mono _ _ _ _ _)
      | (with_reducible exact laws_eqCounting.mono _ _ _ _ _ _ _)
      | (with_reducible exact laws_eqStringS.mono _ _ _)
      | (with_reducible exact laws_heldCounting.mono _ _ _ _ _)
      | (with_reducible exact laws_markCounting.mono _ _ _ _ _)
      | (with_reducible exact laws_markStringS.mono _ _ _)
      | (with_reducible exact laws_szStringS.mono _ _ _)
      | (with_reducible exact laws_toStringS.mono _ _)
      | (with_reducible exact spec_CountingOf.mono _ _ _ _ _)
      | (with_reducible exact LeO.refl _)
      | (with_reducible exact LeO.none _)
      | (with_reducible refine LeO.ite ?_ ?_)
      | (with_reducible refine LeO.bind ?_ (fun _ => ?_))
      | exact ih0 _ _ _ _ _ _ _ _ _ _ _ _ _ _
      | exact ih1 _ _ _ _ _ _ _ _ _ _ _ _
      | exact ih2 _ _ _ _ _
      | exact impl_CountingOf.mono _ _ _ _ _
      | exact laws_eqCounting.mono _ _ _ _ _ _ _
      | exact laws_eqStringS.mono _ _ _
      | exact laws_heldCounting.mono _ _ _ _ _
      | exact laws_markCounting.mono _ _ _ _ _
      | exact laws_markStringS.mono _ _ _
      | exact laws_szStringS.mono _ _ _
      | exact laws_toStringS.mono _ _
      | exact spec_CountingOf.mono _ _ _ _ _
      | exact LeO.none _
      | refine LeO.ite ?_ ?_
      | refine LeO.bind ?_ (fun _ => ?_)
theorem laws_FnExactCountingOf.mono : ∀ a0 a1 a2 a3 k, LeO (laws_FnExactCountingOf.f k a0 a1 a2 a3) (laws_FnExactCountingOf.f (k + 1) a0 a1 a2 a3) := by
  intro a0 a1 a2 a3 k
  obtain ⟨ih0, ih1, ih2⟩ := laws_FnExactCountingOf.mono_l k
  unfold laws_FnExactCountingOf.f
  repeat' first
      | (with_reducible exact ih0 _ _ _ _ _ _ _ _ _ _ _ _ _ _)
      | (with_reducible exact ih1 _ _ _ _ _ _ _ _ _ _ _ _)
      | (with_reducible exact ih2 _ _ _ _ _)
      | (with_reducible exact impl_CountingOf.mono _ _ _ _ _)
      | (with_reducible exact laws_eqCounting.mono _ _ _ _ _ _ _)
      | (with_reducible exact laws_eqStringS.mono _ _ _)
      | (with_reducible exact laws_heldCounting.mono _ _ _ _ _)
      | (with_reducible exact laws_markCounting.mono _ _ _ _ _)
      | (with_reducible exact laws_markStringS.mono _ _ _)
      | (with_reducible exact laws_szStringS.mono _ _ _)
      | (with_reducible exact laws_toStringS.mono _ _)
      | (with_reducible exact spec_CountingOf.mono _ _ _ _ _)
      | (with_reducible exact LeO.refl _)
      | (with_reducible exact LeO.none _)
      | (with_reducible refine LeO.ite ?_ ?_)
      | (with_reducible refine LeO.bind ?_ (fun _ => ?_))
      | exact ih0 _ _ _ _ _ _ _ _ _ _ _ _ _ _
      | exact ih1 _ _ _ _ _ _ _ _ _ _ _ _
      | exact ih2 _ _ _ _ _
      | exact impl_CountingOf.mono _ _ _ _ _
      | exact laws_eqCounting.mono _ _ _ _ _ _ _
      | exact laws_eqStringS.mono _ _ _
      | exact laws_heldCounting.mono _ _ _ _ _
      | exact laws_markCounting.mono _ _ _ _ _
      | exact laws_markStringS.mono _ _ _
      | exact laws_szStringS.mono _ _ _
      | exact laws_toStringS.mono _ _
      | exact spec_CountingOf.mono _ _ _ _ _
      | exact LeO.none _
      | refine LeO.ite ?_ ?_
      | refine LeO.bind ?_ (fun _ => ?_)
set_option maxHeartbeats 8000000 in
set_option maxRecDepth 100000 in
theorem laws_FnExactCountingOf.calls (k : Nat) (a0 : Int) (a1 : Int) (a2 : Int) (A3 : Option Addr) (c3 : Nat) (l3 : List ByteArray) (r : Bool) (w : World) (hr3 : Kd.C Kd.string w A3 l3.length l3) (hc3 : l3.length ≤ c3) (h : laws_FnExactCountingOf.f k a0 a1 a2 l3 = some r) :
    Calls Try.prog 13 #[.int .i64 a0, .int .i64 a1, .int .i64 a2, .slice A3 l3.length c3] w fun e w' => e = .returned (.bool r) ∧ Below w.heap.size w w' := by
  have hu75 := Try.underlying75
  have HR3 := Aside0.mk hr3
  have HC3 := Aside0.mk hc3
  clear hr3 hc3
  have HB := Aside0.mk (Below.refl w.heap.size w)
  have H : ((laws_szStringS.f k l3 1048576).bind fun t207 => (if t207 < 0 then (some true) else ((laws_toStringS.f k l3).bind fun t208 => ((spec_CountingOf.f k a0 a1 a2 t208).bind fun bt211 => ((laws_toStringS.f k l3).bind fun t218 => ((impl_CountingOf.f k a0 a1 a2 t218).bind fun bt221 => ((laws_eqCounting.f k bt221.1 bt221.2.1 bt221.2.2.1 bt211.1 bt211.2.1 bt211.2.2.1).bind fun t228 => (if t228 = true then (laws_FnExactCountingOf.j0 k a0 a1 a2 l3 bt211.2.2.2 t218 bt221.2.2.2 (bt221.2.2.2 != bt211.2.2.2) bt211.1 bt211.2.1 bt211.2.2.1 bt221.1 bt221.2.1 bt221.2.2.1) else (laws_FnExactCountingOf.j0 k a0 a1 a2 l3 bt211.2.2.2 t218 bt221.2.2.2 true bt211.1 bt211.2.1 bt211.2.2.1 bt221.1 bt221.2.1 bt221.2.2.1))))))))) = some r := h
  clear h
  replace H := Option.bind_eq_some_iff.mp H
  obtain ⟨t207, A50, H⟩ := H
  replace H : (if t207 < 0 then (some true) else ((laws_toStringS.f k l3).bind fun t208 => ((spec_CountingOf.f k a0 a1 a2 t208).bind fun bt211 => ((laws_toStringS.f k l3).bind fun t218 => ((impl_CountingOf.f k a0 a1 a2 t218).bind fun bt221 => ((laws_eqCounting.f k bt221.1 bt221.2.1 bt221.2.2.1 bt211.1 bt211.2.1 bt211.2.2.1).bind fun t228 => (if t228 = true then (laws_FnExactCountingOf.j0 k a0 a1 a2 l3 bt211.2.2.2 t218 bt221.2.2.2 (bt221.2.2.2 != bt211.2.2.2) bt211.1 bt211.2.1 bt211.2.2.1 bt221.1 bt221.2.1 bt221.2.2.1) else (laws_FnExactCountingOf.j0 k a0 a1 a2 l3 bt211.2.2.2 t218 bt221.2.2.2 true bt211.1 bt211.2.1 bt211.2.2.1 bt221.1 bt221.2.1 bt221.2.2.1)))))))) = some r := H
  have A5 := Aside0.mk A50
  clear A50
  by_cases c6 : t207 < 0
  · rw [if_pos c6] at H
    have c6b0 : decide (t207 < 0) = true := decide_eq_true c6
    clear c6
    obtain rfl := Option.some.inj H
    go_enter Try.func13, Try.ntmps13
    go_wp2_with (first | ((with_reducible refine gate_callee (f := 57) rfl ?_); refine goesL_ (some 22) rfl rfl Try.func57 (by kernel_rfl) rfl #[.slice A3 l3.length c3, .int .i64 1048576] rfl (by (try simp only [List.map_toArray, List.map_cons, List.map_nil]); first | done | rfl | (simp only [List.length_drop, List.length_take]; rfl)) ?_; (with_reducible refine (laws_szStringS.calls k _ _ l3 1048576 t207 _ ?side1 ?side2 A5.out).mono ?_); (case side1 => repeat (first | exact HR3.out | (with_reducible refine Kd.C_alloc ?_ _) | (with_reducible refine Kd.C_drewN ?_ _) | (with_reducible refine Kd.C_drew ?_))); (case side2 => exact HC3.out); rintro e w' ⟨rfl, ⟨nd, rfl⟩⟩; refine ⟨_, rfl, ?_⟩))
    go_ret
    exact ⟨by first | rfl | (simp [errW_none, errW_some] <;> rfl) | (simp [*, errW_none, errW_some] <;> rfl), by repeat (first | (with_reducible first | exact HB.out | apply below_alloc | apply pw_below_drewN | apply below_drew1) | exact HB.out)⟩
  · rw [if_neg c6] at H
    have c6b0 : decide (t207 < 0) = false := decide_eq_false c6
    clear c6
    replace H := Option.bind_eq_some_iff.mp H
    obtain ⟨t208, A70, H⟩ := H
    replace H : ((spec_CountingOf.f k a0 a1 a2 t208).bind fun bt211 => ((laws_toStringS.f k l3).bind fun t218 => ((impl_CountingOf.f k a0 a1 a2 t218).bind fun bt221 => ((laws_eqCounting.f k bt221.1 bt221.2.1 bt221.2.2.1 bt211.1 bt211.2.1 bt211.2.2.1).bind fun t228 => (if t228 = true then (laws_FnExactCountingOf.j0 k a0 a1 a2 l3 bt211.2.2.2 t218 bt221.2.2.2 (bt221.2.2.2 != bt211.2.2.2) bt211.1 bt211.2.1 bt211.2.2.1 bt221.1 bt221.2.1 bt221.2.2.1) else (laws_FnExactCountingOf.j0 k a0 a1 a2 l3 bt211.2.2.2 t218 bt221.2.2.2 true bt211.1 bt211.2.1 bt211.2.2.1 bt221.1 bt221.2.1 bt221.2.2.1)))))) = some r := H
    have A7 := Aside0.mk A70
    clear A70
    replace H := Option.bind_eq_some_iff.mp H
    obtain ⟨⟨t211, t212, t213, t216⟩, A80, H⟩ := H
    replace H : ((laws_toStringS.f k l3).bind fun t218 => ((impl_CountingOf.f k a0 a1 a2 t218).bind fun bt221 => ((laws_eqCounting.f k bt221.1 bt221.2.1 bt221.2.2.1 t211 t212 t213).bind fun t228 => (if t228 = true then (laws_FnExactCountingOf.j0 k a0 a1 a2 l3 t216 t218 bt221.2.2.2 (bt221.2.2.2 != t216) t211 t212 t213 bt221.1 bt221.2.1 bt221.2.2.1) else (laws_FnExactCountingOf.j0 k a0 a1 a2 l3 t216 t218 bt221.2.2.2 true t211 t212 t213 bt221.1 bt221.2.1 bt221.2.2.1))))) = some r := H
    have A8 := Aside0.mk A80
    clear A80
    replace H := Option.bind_eq_some_iff.mp H
    obtain ⟨t218, A90, H⟩ := H
    replace H : ((impl_CountingOf.f k a0 a1 a2 t218).bind fun bt221 => ((laws_eqCounting.f k bt221.1 bt221.2.1 bt221.2.2.1 t211 t212 t213).bind fun t228 => (if t228 = true then (laws_FnExactCountingOf.j0 k a0 a1 a2 l3 t216 t218 bt221.2.2.2 (bt221.2.2.2 != t216) t211 t212 t213 bt221.1 bt221.2.1 bt221.2.2.1) else (laws_FnExactCountingOf.j0 k a0 a1 a2 l3 t216 t218 bt221.2.2.2 true t211 t212 t213 bt221.1 bt221.2.1 bt221.2.2.1)))) = some r := H
    have A9 := Aside0.mk A90
    clear A90
    replace H := Option.bind_eq_some_iff.mp H
    obtain ⟨⟨t221, t222, t223, t226⟩, A100, H⟩ := H
    replace H : ((laws_eqCounting.f k t221 t222 t223 t211 t212 t213).bind fun t228 => (if t228 = true then (laws_FnExactCountingOf.j0 k a0 a1 a2 l3 t216 t218 t226 (t226 != t216) t211 t212 t213 t221 t222 t223) else (laws_FnExactCountingOf.j0 k a0 a1 a2 l3 t216 t218 t226 true t211 t212 t213 t221 t222 t223))) = some r := H
    have A10 := Aside0.mk A100
    clear A100
    have HC11 := Aside0.mk H
    clear H
    go_enter Try.func13, Try.ntmps13
    go_upto_region 8 with (first | ((with_reducible refine gate_callee (f := 57) rfl ?_); refine goesL_ (some 22) rfl rfl Try.func57 (by kernel_rfl) rfl #[.slice A3 l3.length c3, .int .i64 1048576] rfl (by (try simp only [List.map_toArray, List.map_cons, List.map_nil]); first | done | rfl | (simp only [List.length_drop, List.length_take]; rfl)) ?_; (with_reducible refine (laws_szStringS.calls k _ _ l3 1048576 t207 _ ?side1 ?side2 A5.out).mono ?_); (case side1 => repeat (first | exact HR3.out | (with_reducible refine Kd.C_alloc ?_ _) | (with_reducible refine Kd.C_drewN ?_ _) | (with_reducible refine Kd.C_drew ?_))); (case side2 => exact HC3.out); rintro e w' ⟨rfl, ⟨nd, rfl⟩⟩; refine ⟨_, rfl, ?_⟩) | ((with_reducible refine gate_callee (f := 59) rfl ?_); refine goesL_ (some 30) rfl rfl Try.func59 (by kernel_rfl) rfl #[.slice A3 l3.length c3] rfl (by (try simp only [List.map_toArray, List.map_cons, List.map_nil]); first | done | rfl | (simp only [List.length_drop, List.length_take]; rfl)) ?_; (with_reducible refine (laws_toStringS.calls k _ _ l3 t208 _ ?side1 ?side2 A7.out).mono ?_); (case side1 => repeat (first | exact HR3.out | (with_reducible refine Kd.C_alloc ?_ _) | (with_reducible refine Kd.C_drewN ?_ _) | (with_reducible refine Kd.C_drew ?_))); (case side2 => exact HC3.out); rintro e w12 ⟨v209, rfl, ho0, hb⟩; refine ⟨_, rfl, ?_⟩; have n0_ := Aside0.mk (Kd.R_lower ho0 (below_size (by repeat (first | (with_reducible first | exact HB.out | apply below_alloc | apply pw_below_drewN | apply below_drew1) | exact HB.out)))); have n1_ := Aside0.mk (below_step (by repeat (first | (with_reducible first | exact HB.out | apply below_alloc | apply pw_below_drewN | apply below_drew1) | exact HB.out)) hb); clear HB; have HO210 := n0_; have HB := n1_; clear n0_ n1_; (try clear hb); (try clear hb2); (try clear hk); (try clear hi); (try clear ho0); obtain ⟨Ao13, co13, eo13⟩ := Kd.R_slice HO210.out; subst eo13) | ((with_reducible refine gate_callee (f := 58) rfl ?_); refine goesL_ (some 31) rfl rfl Try.func58 (by kernel_rfl) rfl #[.int .i64 a0, .int .i64 a1, .int .i64 a2, .slice Ao13 t208.length co13] rfl (by (try simp only [List.map_toArray, List.map_cons, List.map_nil]); first | done | rfl | (simp only [List.length_drop, List.length_take]; rfl)) ?_; (with_reducible refine (spec_CountingOf.calls k a0 a1 a2 _ _ t208 t211 t212 t213 t216 _ ?side1 ?side2 A8.out).mono ?_); (case side1 => repeat (first | exact (Kd.R_reads' HO210.out).2.2 | (with_reducible refine Kd.C_alloc ?_ _) | (with_reducible refine Kd.C_drewN ?_ _) | (with_reducible refine Kd.C_drew ?_))); (case side2 => exact (Kd.R_reads' HO210.out).2.1); rintro e w14 ⟨v214, rfl, ho0, hb⟩; refine ⟨_, rfl, ?_⟩; have n0_ := Aside0.mk (Kd.R_below (by (with_reducible repeat (first | apply Kd.R_alloc | apply Kd.R_drewN | apply Kd.R_drew)); exact HO210.out) hb); have n1_ := Aside0.mk (Kd.R_lower ho0 (below_size (by repeat (first | (with_reducible first | exact HB.out | apply below_alloc | apply pw_below_drewN | apply below_drew1) | exact HB.out)))); have n2_ := Aside0.mk (below_step (by repeat (first | (with_reducible first | exact HB.out | apply below_alloc | apply pw_below_drewN | apply below_drew1) | exact HB.out)) hb); clear HO210; clear HB; have HO210 := n0_; have HO215 := n1_; have HB := n2_; clear n0_ n1_ n2_; (try clear hb); (try clear hb2); (try clear hk); (try clear hi); (try clear ho0)) | ((with_reducible refine gate_dst (N := 10) rfl ?_); refine box_event ?hg (N := 10) ?hd (cs := #[.int .i64 0, .int .i64 0, .slice none 0 0]) (t := 75) ?hr ?_; (case hd => rfl); (case hg => rfl); (case hr => first | (go_simp; done) | (go_simp; rfl)); intro gb217 hg w15 hbox hb; have n0_ := Aside0.mk (Kd.R_below (by (with_reducible repeat (first | apply Kd.R_alloc | apply Kd.R_drewN | apply Kd.R_drew)); exact HO210.out) hb); have n1_ := Aside0.mk (Kd.R_below (by (with_reducible repeat (first | apply Kd.R_alloc | apply Kd.R_drewN | apply Kd.R_drew)); exact HO215.out) hb); have n2_ := Aside0.mk (below_step (by repeat (first | (with_reducible first | exact HB.out | apply below_alloc | apply pw_below_drewN | apply below_drew1) | exact HB.out)) hb); have n3_ := Aside0.mk (hbox); have n4_ := Aside0.mk ((by rw [hg]; exact (below_size (by repeat (first | (with_reducible first | exact HB.out | apply below_alloc | apply pw_below_drewN | apply below_drew1) | exact HB.out))) : w.heap.size ≤ gb217)); have n5_ := Aside0.mk ((by rw [hg]; exact (below_size (by repeat (first | (with_reducible first | exact HB.out | apply below_alloc | apply pw_below_drewN | apply below_drew1) | exact HB.out))) : w.heap.size ≤ gb217)); clear HO210; clear HO215; clear HB; have HO210 := n0_; have HO215 := n1_; have HB := n2_; have BK217 := n3_; have GW217 := n4_; have GE217 := n5_; clear n0_ n1_ n2_ n3_ n4_ n5_; clear hb hbox hg; have hcz16_0 : w15.cell? ⟨gb217, 0, none⟩ = some (.int .i64 0) := (blk_cell BK217.out 0).trans rfl; have hcz16_1 : w15.cell? ⟨gb217, 1, none⟩ = some (.int .i64 0) := (blk_cell BK217.out 1).trans rfl; have hcz16_2 : w15.cell? ⟨gb217, 2, none⟩ = some (.slice none 0 0) := (blk_cell BK217.out 2).trans rfl; have hfz16_0 := blk_frozen BK217.out 0; have hfz16_1 := blk_frozen BK217.out 1; have hfz16_2 := blk_frozen BK217.out 2; obtain ⟨Ao17, co17, eo17⟩ := Kd.R_slice HO215.out; subst eo17) | ((with_reducible refine gate_callee (f := 59) rfl ?_); refine goesL_ (some 35) rfl rfl Try.func59 (by kernel_rfl) rfl #[.slice A3 l3.length c3] rfl (by (try simp only [List.map_toArray, List.map_cons, List.map_nil]); first | done | rfl | (simp only [List.length_drop, List.length_take]; rfl)) ?_; (with_reducible refine (laws_toStringS.calls k _ _ l3 t218 _ ?side1 ?side2 A9.out).mono ?_); (case side1 => exact Kd.C_below HR3.out (by repeat (first | (with_reducible first | exact HB.out | apply below_alloc | apply pw_below_drewN | apply below_drew1 | refine below_set ?_ GE217.out) | exact HB.out))); (case side2 => exact HC3.out); rintro e w18 ⟨v219, rfl, ho0, hb⟩; refine ⟨_, rfl, ?_⟩; have n0_ := Aside0.mk (Kd.R_elder' (by (with_reducible repeat (first | apply Kd.R_alloc | apply Kd.R_drewN | apply Kd.R_drew)); exact (Kd.R_mono (Kd.R_far (p := ⟨gb217, 2, none⟩) (Kd.R_far (p := ⟨gb217, 1, none⟩) (Kd.R_far (p := ⟨gb217, 0, none⟩) (Kd.R_types HO210.out BK217.out (by decide)) (fun _ hk => hk.2) (.int .i64 t211)) (fun _ hk => hk.2) (.int .i64 t212)) (fun _ hk => hk.2) (.slice Ao17 t213.length co17)) (fun _ h_ => h_.1))) (Kd.R_base ho0) hb); have n1_ := Aside0.mk (Kd.R_below (by (with_reducible repeat (first | apply Kd.R_alloc | apply Kd.R_drewN | apply Kd.R_drew)); exact (Kd.R_mono (Kd.R_far (p := ⟨gb217, 2, none⟩) (Kd.R_far (p := ⟨gb217, 1, none⟩) (Kd.R_far (p := ⟨gb217, 0, none⟩) (Kd.R_types HO215.out BK217.out (by decide)) (fun _ hk => hk.2) (.int .i64 t211)) (fun _ hk => hk.2) (.int .i64 t212)) (fun _ hk => hk.2) (.slice Ao17 t213.length co17)) (fun _ h_ => h_.1))) hb); have n2_ := Aside0.mk (Kd.R_lower (Kd.R_new' ho0 (Kd.R_lt (by (with_reducible repeat (first | apply Kd.R_alloc | apply Kd.R_drewN | apply Kd.R_drew)); exact (Kd.R_mono (Kd.R_far (p := ⟨gb217, 2, none⟩) (Kd.R_far (p := ⟨gb217, 1, none⟩) (Kd.R_far (p := ⟨gb217, 0, none⟩) (Kd.R_types HO210.out BK217.out (by decide)) (fun _ hk => hk.2) (.int .i64 t211)) (fun _ hk => hk.2) (.int .i64 t212)) (fun _ hk => hk.2) (.slice Ao17 t213.length co17)) (fun _ h_ => h_.1))))) (below_size (by repeat (first | (with_reducible first | exact HB.out | apply below_alloc | apply pw_below_drewN | apply below_drew1 | refine below_set ?_ GE217.out) | exact HB.out)))); have n3_ := Aside0.mk (blk_below (g := gb217) (o := .cells #[.int .i64 t211, .int .i64 t212, .slice Ao17 t213.length co17] 75 (0, 0)) (by (with_reducible repeat (first | refine blk_drewN ?_ _ | refine blk_drew ?_ | refine blk_alloc ?_ _)); refine blk_put (cs := #[.int .i64 t211, .int .i64 t212, .slice none 0 0]) ?_ 2 _ rfl; (with_reducible repeat (first | refine blk_drewN ?_ _ | refine blk_drew ?_ | refine blk_alloc ?_ _)); refine blk_put (cs := #[.int .i64 t211, .int .i64 0, .slice none 0 0]) ?_ 1 _ rfl; (with_reducible repeat (first | refine blk_drewN ?_ _ | refine blk_drew ?_ | refine blk_alloc ?_ _)); refine blk_put (cs := #[.int .i64 0, .int .i64 0, .slice none 0 0]) ?_ 0 _ rfl; (with_reducible repeat (first | refine blk_drewN ?_ _ | refine blk_drew ?_ | refine blk_alloc ?_ _)); exact BK217.out) hb); have n4_ := Aside0.mk (below_step (by repeat (first | (with_reducible first | exact HB.out | apply below_alloc | apply pw_below_drewN | apply below_drew1 | refine below_set ?_ GE217.out) | exact HB.out)) hb); clear HO210; clear HO215; clear BK217; clear HB; have HO210 := n0_; have HO215 := n1_; have HO220 := n2_; have BK217 := n3_; have HB := n4_; clear n0_ n1_ n2_ n3_ n4_; (try clear hb); (try clear hb2); (try clear hk); (try clear hi); (try clear ho0); obtain ⟨Ao19, co19, eo19⟩ := Kd.R_slice HO220.out; subst eo19) | ((with_reducible refine gate_callee (f := 60) rfl ?_); refine goesL_ (some 41) rfl rfl Try.func60 (by kernel_rfl) rfl #[.int .i64 a0, .int .i64 a1, .int .i64 a2, .slice Ao19 t218.length co19] rfl (by (try simp only [List.map_toArray, List.map_cons, List.map_nil]); first | done | rfl | (simp only [List.length_drop, List.length_take]; rfl)) ?_; (with_reducible refine (impl_CountingOf.calls k a0 a1 a2 _ _ t218 t221 t222 t223 t226 _ ?side1 ?side2 A10.out).mono ?_); (case side1 => repeat (first | exact (Kd.R_reads' HO220.out).2.2 | (with_reducible refine Kd.C_alloc ?_ _) | (with_reducible refine Kd.C_drewN ?_ _) | (with_reducible refine Kd.C_drew ?_))); (case side2 => exact (Kd.R_reads' HO220.out).2.1); rintro e w20 ⟨v224, rfl, ho0, hb⟩; refine ⟨_, rfl, ?_⟩; have n0_ := Aside0.mk (Kd.R_below (by (with_reducible repeat (first | apply Kd.R_alloc | apply Kd.R_drewN | apply Kd.R_drew)); exact HO210.out) hb); have n1_ := Aside0.mk (Kd.R_elder' (by (with_reducible repeat (first | apply Kd.R_alloc | apply Kd.R_drewN | apply Kd.R_drew)); exact HO215.out) (Kd.R_base ho0) hb); have n2_ := Aside0.mk (Kd.R_below (by (with_reducible repeat (first | apply Kd.R_alloc | apply Kd.R_drewN | apply Kd.R_drew)); exact HO220.out) hb); have n3_ := Aside0.mk (Kd.R_lower (Kd.R_new' ho0 (Kd.R_lt (by (with_reducible repeat (first | apply Kd.R_alloc | apply Kd.R_drewN | apply Kd.R_drew)); exact HO215.out))) (below_size (by repeat (first | (with_reducible first | exact HB.out | apply below_alloc | apply pw_below_drewN | apply below_drew1 | refine below_set ?_ GE217.out) | exact HB.out)))); have n4_ := Aside0.mk (blk_below (g := gb217) (o := .cells #[.int .i64 t211, .int .i64 t212, .slice Ao17 t213.length co17] 75 (0, 0)) (by (with_reducible repeat (first | refine blk_drewN ?_ _ | refine blk_drew ?_ | refine blk_alloc ?_ _)); exact BK217.out) hb); have n5_ := Aside0.mk (below_step (by repeat (first | (with_reducible first | exact HB.out | apply below_alloc | apply pw_below_drewN | apply below_drew1 | refine below_set ?_ GE217.out) | exact HB.out)) hb); clear HO210; clear HO215; clear HO220; clear BK217; clear HB; have HO210 := n0_; have HO215 := n1_; have HO220 := n2_; have HO225 := n3_; have BK217 := n4_; have HB := n5_; clear n0_ n1_ n2_ n3_ n4_ n5_; (try clear hb); (try clear hb2); (try clear hk); (try clear hi); (try clear ho0)) | ((with_reducible refine gate_dst (N := 13) rfl ?_); refine box_event ?hg (N := 13) ?hd (cs := #[.int .i64 0, .int .i64 0, .slice none 0 0]) (t := 75) ?hr ?_; (case hd => rfl); (case hg => rfl); (case hr => first | (go_simp; done) | (go_simp; rfl)); intro gb227 hg w21 hbox hb; have n0_ := Aside0.mk (Kd.R_below (by (with_reducible repeat (first | apply Kd.R_alloc | apply Kd.R_drewN | apply Kd.R_drew)); exact HO210.out) hb); have n1_ := Aside0.mk (Kd.R_below (by (with_reducible repeat (first | apply Kd.R_alloc | apply Kd.R_drewN | apply Kd.R_drew)); exact HO215.out) hb); have n2_ := Aside0.mk (Kd.R_below (by (with_reducible repeat (first | apply Kd.R_alloc | apply Kd.R_drewN | apply Kd.R_drew)); exact HO220.out) hb); have n3_ := Aside0.mk (Kd.R_below (by (with_reducible repeat (first | apply Kd.R_alloc | apply Kd.R_drewN | apply Kd.R_drew)); exact HO225.out) hb); have n4_ := Aside0.mk (blk_below (g := gb217) (o := .cells #[.int .i64 t211, .int .i64 t212, .slice Ao17 t213.length co17] 75 (0, 0)) (by (with_reducible repeat (first | refine blk_drewN ?_ _ | refine blk_drew ?_ | refine blk_alloc ?_ _)); exact BK217.out) hb); have n5_ := Aside0.mk (below_step (by repeat (first | (with_reducible first | exact HB.out | apply below_alloc | apply pw_below_drewN | apply below_drew1 | refine below_set ?_ GE217.out) | exact HB.out)) hb); have n6_ := Aside0.mk (hbox); have n7_ := Aside0.mk ((by rw [hg]; exact (below_size (by repeat (first | (with_reducible first | exact HB.out | apply below_alloc | apply pw_below_drewN | apply below_drew1 | refine below_set ?_ GE217.out) | exact HB.out))) : w.heap.size ≤ gb227)); have n8_ := Aside0.mk ((by rw [hg]; exact (below_size (by repeat (first | (with_reducible first | exact HB.out | apply below_alloc | apply pw_below_drewN | apply below_drew1 | refine below_set ?_ GE217.out) | exact HB.out))) : w.heap.size ≤ gb227)); have n9_ := Aside0.mk ((by rw [hg]; exact Nat.ne_of_lt (blk_lt (g := gb217) (o := .cells #[.int .i64 t211, .int .i64 t212, .slice Ao17 t213.length co17] 75 (0, 0)) (by (with_reducible repeat (first | refine blk_drewN ?_ _ | refine blk_drew ?_ | refine blk_alloc ?_ _)); exact BK217.out)) : gb217 ≠ gb227)); have n10_ := Aside0.mk ((by rw [hg]; exact Nat.ne_of_gt (blk_lt (g := gb217) (o := .cells #[.int .i64 t211, .int .i64 t212, .slice Ao17 t213.length co17] 75 (0, 0)) (by (with_reducible repeat (first | refine blk_drewN ?_ _ | refine blk_drew ?_ | refine blk_alloc ?_ _)); exact BK217.out)) : gb227 ≠ gb217)); clear HO210; clear HO215; clear HO220; clear HO225; clear BK217; clear HB; have HO210 := n0_; have HO215 := n1_; have HO220 := n2_; have HO225 := n3_; have BK217 := n4_; have HB := n5_; have BK227 := n6_; have GW227 := n7_; have GE227 := n8_; have NB217_227 := n9_; have NB227_217 := n10_; clear n0_ n1_ n2_ n3_ n4_ n5_ n6_ n7_ n8_ n9_ n10_; clear hb hbox hg; have hnb22 := NB227_217.out; have hnc22 := NB217_227.out; have hcz23_0 : w21.cell? ⟨gb227, 0, none⟩ = some (.int .i64 0) := (blk_cell BK227.out 0).trans rfl; have hcz23_1 : w21.cell? ⟨gb227, 1, none⟩ = some (.int .i64 0) := (blk_cell BK227.out 1).trans rfl; have hcz23_2 : w21.cell? ⟨gb227, 2, none⟩ = some (.slice none 0 0) := (blk_cell BK227.out 2).trans rfl; have hfz23_0 := blk_frozen BK227.out 0; have hfz23_1 := blk_frozen BK227.out 1; have hfz23_2 := blk_frozen BK227.out 2; obtain ⟨Ao24, co24, eo24⟩ := Kd.R_slice HO225.out; subst eo24))
    (try simp only [Act.put, List.setIfInBounds_toArray, List.set_cons_zero, List.set_cons_succ])
    go_cut [52] (fun v52 wc => ∃ (kq : Nat) (x52_10 : Bool), v52 = .bool x52_10 ∧ Aside0 (laws_FnExactCountingOf.j0 kq a0 a1 a2 l3 t216 t218 t226 x52_10 t211 t212 t213 t221 t222 t223 = some r) ∧ Aside0 (kq ≤ k) ∧ Aside0 (Kd.R Kd.string 9 wc w.heap.size (fun _ => True) (.slice Ao19 t218.length co19) t218) ∧ Aside0 (Kd.R (Kd.int .i64) 3 wc w.heap.size (fun k_ => some k_ ≠ ((.slice Ao24 t223.length co24) : Value).ownBlock) (.slice Ao17 t213.length co17) t213) ∧ Aside0 (Kd.R (Kd.int .i64) 3 wc w.heap.size (fun k_ => some k_ ≠ ((.slice Ao17 t213.length co17) : Value).ownBlock) (.slice Ao24 t223.length co24) t223) ∧ Aside0 (wc.heap[gb217]? = some (.cells #[.int .i64 t211, .int .i64 t212, (.slice Ao17 t213.length co17)] 75 (0, 0))) ∧ Aside0 (wc.heap[gb227]? = some (.cells #[.int .i64 t221, .int .i64 t222, (.slice Ao24 t223.length co24)] 75 (0, 0))) ∧ Aside0 (Below w.heap.size w wc))
    case first =>
      have H := HC11.out
      clear HC11
      replace H := Option.bind_eq_some_iff.mp H
      obtain ⟨t228, A250, H⟩ := H
      replace H : (if t228 = true then (laws_FnExactCountingOf.j0 k a0 a1 a2 l3 t216 t218 t226 (t226 != t216) t211 t212 t213 t221 t222 t223) else (laws_FnExactCountingOf.j0 k a0 a1 a2 l3 t216 t218 t226 true t211 t212 t213 t221 t222 t223)) = some r := H
      have A25 := Aside0.mk A250
      clear A250
      by_cases c26 : t228 = true
      · subst c26
        have H1 : (laws_FnExactCountingOf.j0 k a0 a1 a2 l3 t216 t218 t226 (t226 != t216) t211 t212 t213 t221 t222 t223) = some r := by rw [if_pos rfl] at H; exact H
        clear H
        have H := H1
        clear H1
        have H' := Aside0.mk H
        clear H
        have hnb27 := NB227_217.out
        have hnc27 := NB217_227.out
        have hcz28_0 : w21.cell? ⟨gb227, 0, none⟩ = some (.int .i64 0) := (blk_cell BK227.out 0).trans rfl
        have hcz28_1 : w21.cell? ⟨gb227, 1, none⟩ = some (.int .i64 0) := (blk_cell BK227.out 1).trans rfl
        have hcz28_2 : w21.cell? ⟨gb227, 2, none⟩ = some (.slice none 0 0) := (blk_cell BK227.out 2).trans rfl
        have hfz28_0 := blk_frozen BK227.out 0
        have hfz28_1 := blk_frozen BK227.out 1
        have hfz28_2 := blk_frozen BK227.out 2
        have hcz29_0 : w21.cell? ⟨gb217, 0, none⟩ = some (.int .i64 t211) := (blk_cell BK217.out 0).trans rfl
        have hcz29_1 : w21.cell? ⟨gb217, 1, none⟩ = some (.int .i64 t212) := (blk_cell BK217.out 1).trans rfl
        have hcz29_2 : w21.cell? ⟨gb217, 2, none⟩ = some (.slice Ao17 t213.length co17) := (blk_cell BK217.out 2).trans rfl
        have hfz29_0 := blk_frozen BK217.out 0
        have hfz29_1 := blk_frozen BK217.out 1
        have hfz29_2 := blk_frozen BK217.out 2
        go_wp2_with (first | ((with_reducible refine gate_callee (f := 48) rfl ?_); refine goesL_ (some 46) rfl rfl Try.func48 (by kernel_rfl) rfl #[.agg #[.int .i64 t221, .int .i64 t222, .slice Ao24 t223.length co24], .agg #[.int .i64 t211, .int .i64 t212, .slice Ao17 t213.length co17]] rfl (by (try simp only [List.map_toArray, List.map_cons, List.map_nil]); first | done | rfl | (simp only [List.length_drop, List.length_take]; rfl)) ?_; (with_reducible refine (laws_eqCounting.calls k t221 t222 _ _ t223 t211 t212 _ _ t213 true _ ?side1 ?side2 ?side3 ?side4 A25.out).mono ?_); (case side1 => refine (Kd.R_reads' (e := 3) (base := w.heap.size) (ok := fun k_ => (True ∧ some k_ ≠ (.slice Ao17 t213.length co17 : Value).ownBlock)) (n := t223.length) (c := co24) ?_).2.2; exact (by (with_reducible repeat (first | apply Kd.R_alloc | apply Kd.R_drewN | apply Kd.R_drew)); exact (Kd.R_mono (Kd.R_far (p := ⟨gb227, 2, none⟩) (Kd.R_far (p := ⟨gb227, 1, none⟩) (Kd.R_far (p := ⟨gb227, 0, none⟩) (Kd.R_types HO225.out BK227.out (by decide)) (fun _ hk => hk.2) (.int .i64 t221)) (fun _ hk => hk.2) (.int .i64 t222)) (fun _ hk => hk.2) (.slice Ao24 t223.length co24)) (fun _ h_ => h_.1)))); (case side2 => exact (Kd.R_reads' HO225.out).2.1); (case side3 => refine (Kd.R_reads' (e := 3) (base := w.heap.size) (ok := fun k_ => (True ∧ some k_ ≠ (.slice Ao24 t223.length co24 : Value).ownBlock)) (n := t213.length) (c := co17) ?_).2.2; exact (by (with_reducible repeat (first | apply Kd.R_alloc | apply Kd.R_drewN | apply Kd.R_drew)); exact (Kd.R_mono (Kd.R_far (p := ⟨gb227, 2, none⟩) (Kd.R_far (p := ⟨gb227, 1, none⟩) (Kd.R_far (p := ⟨gb227, 0, none⟩) (Kd.R_types HO215.out BK227.out (by decide)) (fun _ hk => hk.2) (.int .i64 t221)) (fun _ hk => hk.2) (.int .i64 t222)) (fun _ hk => hk.2) (.slice Ao24 t223.length co24)) (fun _ h_ => h_.1)))); (case side4 => exact (Kd.R_reads' HO215.out).2.1); rintro e w30 ⟨rfl, hb⟩; refine ⟨_, rfl, ?_⟩; have n0_ := Aside0.mk (Kd.R_below (by (with_reducible repeat (first | apply Kd.R_alloc | apply Kd.R_drewN | apply Kd.R_drew)); exact (Kd.R_mono (Kd.R_far (p := ⟨gb227, 2, none⟩) (Kd.R_far (p := ⟨gb227, 1, none⟩) (Kd.R_far (p := ⟨gb227, 0, none⟩) (Kd.R_types HO210.out BK227.out (by decide)) (fun _ hk => hk.2) (.int .i64 t221)) (fun _ hk => hk.2) (.int .i64 t222)) (fun _ hk => hk.2) (.slice Ao24 t223.length co24)) (fun _ h_ => h_.1))) hb); have n1_ := Aside0.mk (Kd.R_below (by (with_reducible repeat (first | apply Kd.R_alloc | apply Kd.R_drewN | apply Kd.R_drew)); exact (Kd.R_mono (Kd.R_far (p := ⟨gb227, 2, none⟩) (Kd.R_far (p := ⟨gb227, 1, none⟩) (Kd.R_far (p := ⟨gb227, 0, none⟩) (Kd.R_types HO215.out BK227.out (by decide)) (fun _ hk => hk.2) (.int .i64 t221)) (fun _ hk => hk.2) (.int .i64 t222)) (fun _ hk => hk.2) (.slice Ao24 t223.length co24)) (fun _ h_ => h_.1))) hb); have n2_ := Aside0.mk (Kd.R_below (by (with_reducible repeat (first | apply Kd.R_alloc | apply Kd.R_drewN | apply Kd.R_drew)); exact (Kd.R_mono (Kd.R_far (p := ⟨gb227, 2, none⟩) (Kd.R_far (p := ⟨gb227, 1, none⟩) (Kd.R_far (p := ⟨gb227, 0, none⟩) (Kd.R_types HO220.out BK227.out (by decide)) (fun _ hk => hk.2) (.int .i64 t221)) (fun _ hk => hk.2) (.int .i64 t222)) (fun _ hk => hk.2) (.slice Ao24 t223.length co24)) (fun _ h_ => h_.1))) hb); have n3_ := Aside0.mk (Kd.R_below (by (with_reducible repeat (first | apply Kd.R_alloc | apply Kd.R_drewN | apply Kd.R_drew)); exact (Kd.R_mono (Kd.R_far (p := ⟨gb227, 2, none⟩) (Kd.R_far (p := ⟨gb227, 1, none⟩) (Kd.R_far (p := ⟨gb227, 0, none⟩) (Kd.R_types HO225.out BK227.out (by decide)) (fun _ hk => hk.2) (.int .i64 t221)) (fun _ hk => hk.2) (.int .i64 t222)) (fun _ hk => hk.2) (.slice Ao24 t223.length co24)) (fun _ h_ => h_.1))) hb); have n4_ := Aside0.mk (blk_below (g := gb217) (o := .cells #[.int .i64 t211, .int .i64 t212, .slice Ao17 t213.length co17] 75 (0, 0)) (by (with_reducible repeat (first | refine blk_drewN ?_ _ | refine blk_drew ?_ | refine blk_alloc ?_ _)); refine blk_far ?_ NB217_227.out _; (with_reducible repeat (first | refine blk_drewN ?_ _ | refine blk_drew ?_ | refine blk_alloc ?_ _)); refine blk_far ?_ NB217_227.out _; (with_reducible repeat (first | refine blk_drewN ?_ _ | refine blk_drew ?_ | refine blk_alloc ?_ _)); refine blk_far ?_ NB217_227.out _; (with_reducible repeat (first | refine blk_drewN ?_ _ | refine blk_drew ?_ | refine blk_alloc ?_ _)); exact BK217.out) hb); have n5_ := Aside0.mk (blk_below (g := gb227) (o := .cells #[.int .i64 t221, .int .i64 t222, .slice Ao24 t223.length co24] 75 (0, 0)) (by (with_reducible repeat (first | refine blk_drewN ?_ _ | refine blk_drew ?_ | refine blk_alloc ?_ _)); refine blk_put (cs := #[.int .i64 t221, .int .i64 t222, .slice none 0 0]) ?_ 2 _ rfl; (with_reducible repeat (first | refine blk_drewN ?_ _ | refine blk_drew ?_ | refine blk_alloc ?_ _)); refine blk_put (cs := #[.int .i64 t221, .int .i64 0, .slice none 0 0]) ?_ 1 _ rfl; (with_reducible repeat (first | refine blk_drewN ?_ _ | refine blk_drew ?_ | refine blk_alloc ?_ _)); refine blk_put (cs := #[.int .i64 0, .int .i64 0, .slice none 0 0]) ?_ 0 _ rfl; (with_reducible repeat (first | refine blk_drewN ?_ _ | refine blk_drew ?_ | refine blk_alloc ?_ _)); exact BK227.out) hb); have n6_ := Aside0.mk (below_step (by repeat (first | (with_reducible first | exact HB.out | apply below_alloc | apply pw_below_drewN | apply below_drew1 | refine below_set ?_ GE217.out | refine below_set ?_ GE227.out) | exact HB.out)) hb); clear HO210; clear HO215; clear HO220; clear HO225; clear BK217; clear BK227; clear HB; have HO210 := n0_; have HO215 := n1_; have HO220 := n2_; have HO225 := n3_; have BK217 := n4_; have BK227 := n5_; have HB := n6_; clear n0_ n1_ n2_ n3_ n4_ n5_ n6_; (try clear hb); (try clear hb2); (try clear hk); (try clear hi)))
        go_meet
        case rel => exact ⟨_, ((t226 != t216)), (by first | rfl | (simp; done) | (simp [*]; done)), H', ⟨by first | omega | exact Nat.le_refl _⟩, ⟨by (with_reducible repeat (first | apply Kd.R_alloc | apply Kd.R_drewN | apply Kd.R_drew)); exact Kd.R_mono HO220.out (fun _ hk => trivial)⟩, ⟨by (with_reducible repeat (first | apply Kd.R_alloc | apply Kd.R_drewN | apply Kd.R_drew)); exact Kd.R_mono HO215.out (fun _ hk => hk.2)⟩, ⟨by (with_reducible repeat (first | apply Kd.R_alloc | apply Kd.R_drewN | apply Kd.R_drew)); exact Kd.R_mono HO225.out (fun _ hk => hk.2)⟩, ⟨by (with_reducible repeat (first | refine blk_drewN ?_ _ | refine blk_drew ?_ | refine blk_alloc ?_ _)); exact BK217.out⟩, ⟨by (with_reducible repeat (first | refine blk_drewN ?_ _ | refine blk_drew ?_ | refine blk_alloc ?_ _)); exact BK227.out⟩, ⟨by repeat (first | (with_reducible first | exact HB.out | apply below_alloc | apply pw_below_drewN | apply below_drew1 | refine below_set ?_ GE217.out | refine below_set ?_ GE227.out) | exact HB.out)⟩⟩
      · replace c26 := Bool.eq_false_iff.mpr c26
        subst c26
        have H1 : (laws_FnExactCountingOf.j0 k a0 a1 a2 l3 t216 t218 t226 true t211 t212 t213 t221 t222 t223) = some r := by rw [if_neg (show ¬ (false = true) by decide)] at H; exact H
        clear H
        have H := H1
        clear H1
        have H' := Aside0.mk H
        clear H
        have hnb31 := NB227_217.out
        have hnc31 := NB217_227.out
        have hcz32_0 : w21.cell? ⟨gb227, 0, none⟩ = some (.int .i64 0) := (blk_cell BK227.out 0).trans rfl
        have hcz32_1 : w21.cell? ⟨gb227, 1, none⟩ = some (.int .i64 0) := (blk_cell BK227.out 1).trans rfl
        have hcz32_2 : w21.cell? ⟨gb227, 2, none⟩ = some (.slice none 0 0) := (blk_cell BK227.out 2).trans rfl
        have hfz32_0 := blk_frozen BK227.out 0
        have hfz32_1 := blk_frozen BK227.out 1
        have hfz32_2 := blk_frozen BK227.out 2
        have hcz33_0 : w21.cell? ⟨gb217, 0, none⟩ = some (.int .i64 t211) := (blk_cell BK217.out 0).trans rfl
        have hcz33_1 : w21.cell? ⟨gb217, 1, none⟩ = some (.int .i64 t212) := (blk_cell BK217.out 1).trans rfl
        have hcz33_2 : w21.cell? ⟨gb217, 2, none⟩ = some (.slice Ao17 t213.length co17) := (blk_cell BK217.out 2).trans rfl
        have hfz33_0 := blk_frozen BK217.out 0
        have hfz33_1 := blk_frozen BK217.out 1
        have hfz33_2 := blk_frozen BK217.out 2
        go_wp2_with (first | ((with_reducible refine gate_callee (f := 48) rfl ?_); refine goesL_ (some 46) rfl rfl Try.func48 (by kernel_rfl) rfl #[.agg #[.int .i64 t221, .int .i64 t222, .slice Ao24 t223.length co24], .agg #[.int .i64 t211, .int .i64 t212, .slice Ao17 t213.length co17]] rfl (by (try simp only [List.map_toArray, List.map_cons, List.map_nil]); first | done | rfl | (simp only [List.length_drop, List.length_take]; rfl)) ?_; (with_reducible refine (laws_eqCounting.calls k t221 t222 _ _ t223 t211 t212 _ _ t213 false _ ?side1 ?side2 ?side3 ?side4 A25.out).mono ?_); (case side1 => refine (Kd.R_reads' (e := 3) (base := w.heap.size) (ok := fun k_ => (True ∧ some k_ ≠ (.slice Ao17 t213.length co17 : Value).ownBlock)) (n := t223.length) (c := co24) ?_).2.2; exact (by (with_reducible repeat (first | apply Kd.R_alloc | apply Kd.R_drewN | apply Kd.R_drew)); exact (Kd.R_mono (Kd.R_far (p := ⟨gb227, 2, none⟩) (Kd.R_far (p := ⟨gb227, 1, none⟩) (Kd.R_far (p := ⟨gb227, 0, none⟩) (Kd.R_types HO225.out BK227.out (by decide)) (fun _ hk => hk.2) (.int .i64 t221)) (fun _ hk => hk.2) (.int .i64 t222)) (fun _ hk => hk.2) (.slice Ao24 t223.length co24)) (fun _ h_ => h_.1)))); (case side2 => exact (Kd.R_reads' HO225.out).2.1); (case side3 => refine (Kd.R_reads' (e := 3) (base := w.heap.size) (ok := fun k_ => (True ∧ some k_ ≠ (.slice Ao24 t223.length co24 : Value).ownBlock)) (n := t213.length) (c := co17) ?_).2.2; exact (by (with_reducible repeat (first | apply Kd.R_alloc | apply Kd.R_drewN | apply Kd.R_drew)); exact (Kd.R_mono (Kd.R_far (p := ⟨gb227, 2, none⟩) (Kd.R_far (p := ⟨gb227, 1, none⟩) (Kd.R_far (p := ⟨gb227, 0, none⟩) (Kd.R_types HO215.out BK227.out (by decide)) (fun _ hk => hk.2) (.int .i64 t221)) (fun _ hk => hk.2) (.int .i64 t222)) (fun _ hk => hk.2) (.slice Ao24 t223.length co24)) (fun _ h_ => h_.1)))); (case side4 => exact (Kd.R_reads' HO215.out).2.1); rintro e w34 ⟨rfl, hb⟩; refine ⟨_, rfl, ?_⟩; have n0_ := Aside0.mk (Kd.R_below (by (with_reducible repeat (first | apply Kd.R_alloc | apply Kd.R_drewN | apply Kd.R_drew)); exact (Kd.R_mono (Kd.R_far (p := ⟨gb227, 2, none⟩) (Kd.R_far (p := ⟨gb227, 1, none⟩) (Kd.R_far (p := ⟨gb227, 0, none⟩) (Kd.R_types HO210.out BK227.out (by decide)) (fun _ hk => hk.2) (.int .i64 t221)) (fun _ hk => hk.2) (.int .i64 t222)) (fun _ hk => hk.2) (.slice Ao24 t223.length co24)) (fun _ h_ => h_.1))) hb); have n1_ := Aside0.mk (Kd.R_below (by (with_reducible repeat (first | apply Kd.R_alloc | apply Kd.R_drewN | apply Kd.R_drew)); exact (Kd.R_mono (Kd.R_far (p := ⟨gb227, 2, none⟩) (Kd.R_far (p := ⟨gb227, 1, none⟩) (Kd.R_far (p := ⟨gb227, 0, none⟩) (Kd.R_types HO215.out BK227.out (by decide)) (fun _ hk => hk.2) (.int .i64 t221)) (fun _ hk => hk.2) (.int .i64 t222)) (fun _ hk => hk.2) (.slice Ao24 t223.length co24)) (fun _ h_ => h_.1))) hb); have n2_ := Aside0.mk (Kd.R_below (by (with_reducible repeat (first | apply Kd.R_alloc | apply Kd.R_drewN | apply Kd.R_drew)); exact (Kd.R_mono (Kd.R_far (p := ⟨gb227, 2, none⟩) (Kd.R_far (p := ⟨gb227, 1, none⟩) (Kd.R_far (p := ⟨gb227, 0, none⟩) (Kd.R_types HO220.out BK227.out (by decide)) (fun _ hk => hk.2) (.int .i64 t221)) (fun _ hk => hk.2) (.int .i64 t222)) (fun _ hk => hk.2) (.slice Ao24 t223.length co24)) (fun _ h_ => h_.1))) hb); have n3_ := Aside0.mk (Kd.R_below (by (with_reducible repeat (first | apply Kd.R_alloc | apply Kd.R_drewN | apply Kd.R_drew)); exact (Kd.R_mono (Kd.R_far (p := ⟨gb227, 2, none⟩) (Kd.R_far (p := ⟨gb227, 1, none⟩) (Kd.R_far (p := ⟨gb227, 0, none⟩) (Kd.R_types HO225.out BK227.out (by decide)) (fun _ hk => hk.2) (.int .i64 t221)) (fun _ hk => hk.2) (.int .i64 t222)) (fun _ hk => hk.2) (.slice Ao24 t223.length co24)) (fun _ h_ => h_.1))) hb); have n4_ := Aside0.mk (blk_below (g := gb217) (o := .cells #[.int .i64 t211, .int .i64 t212, .slice Ao17 t213.length co17] 75 (0, 0)) (by (with_reducible repeat (first | refine blk_drewN ?_ _ | refine blk_drew ?_ | refine blk_alloc ?_ _)); refine blk_far ?_ NB217_227.out _; (with_reducible repeat (first | refine blk_drewN ?_ _ | refine blk_drew ?_ | refine blk_alloc ?_ _)); refine blk_far ?_ NB217_227.out _; (with_reducible repeat (first | refine blk_drewN ?_ _ | refine blk_drew ?_ | refine blk_alloc ?_ _)); refine blk_far ?_ NB217_227.out _; (with_reducible repeat (first | refine blk_drewN ?_ _ | refine blk_drew ?_ | refine blk_alloc ?_ _)); exact BK217.out) hb); have n5_ := Aside0.mk (blk_below (g := gb227) (o := .cells #[.int .i64 t221, .int .i64 t222, .slice Ao24 t223.length co24] 75 (0, 0)) (by (with_reducible repeat (first | refine blk_drewN ?_ _ | refine blk_drew ?_ | refine blk_alloc ?_ _)); refine blk_put (cs := #[.int .i64 t221, .int .i64 t222, .slice none 0 0]) ?_ 2 _ rfl; (with_reducible repeat (first | refine blk_drewN ?_ _ | refine blk_drew ?_ | refine blk_alloc ?_ _)); refine blk_put (cs := #[.int .i64 t221, .int .i64 0, .slice none 0 0]) ?_ 1 _ rfl; (with_reducible repeat (first | refine blk_drewN ?_ _ | refine blk_drew ?_ | refine blk_alloc ?_ _)); refine blk_put (cs := #[.int .i64 0, .int .i64 0, .slice none 0 0]) ?_ 0 _ rfl; (with_reducible repeat (first | refine blk_drewN ?_ _ | refine blk_drew ?_ | refine blk_alloc ?_ _)); exact BK227.out) hb); have n6_ := Aside0.mk (below_step (by repeat (first | (with_reducible first | exact HB.out | apply below_alloc | apply pw_below_drewN | apply below_drew1 | refine below_set ?_ GE217.out | refine below_set ?_ GE227.out) | exact HB.out)) hb); clear HO210; clear HO215; clear HO220; clear HO225; clear BK217; clear BK227; clear HB; have HO210 := n0_; have HO215 := n1_; have HO220 := n2_; have HO225 := n3_; have BK217 := n4_; have BK227 := n5_; have HB := n6_; clear n0_ n1_ n2_ n3_ n4_ n5_ n6_; (try clear hb); (try clear hb2); (try clear hk); (try clear hi)))
        go_meet
        case rel => exact ⟨_, (true), (by first | rfl | (simp; done) | (simp [*]; done)), H', ⟨by first | omega | exact Nat.le_refl _⟩, ⟨by (with_reducible repeat (first | apply Kd.R_alloc | apply Kd.R_drewN | apply Kd.R_drew)); exact Kd.R_mono HO220.out (fun _ hk => trivial)⟩, ⟨by (with_reducible repeat (first | apply Kd.R_alloc | apply Kd.R_drewN | apply Kd.R_drew)); exact Kd.R_mono HO215.out (fun _ hk => hk.2)⟩, ⟨by (with_reducible repeat (first | apply Kd.R_alloc | apply Kd.R_drewN | apply Kd.R_drew)); exact Kd.R_mono HO225.out (fun _ hk => hk.2)⟩, ⟨by (with_reducible repeat (first | refine blk_drewN ?_ _ | refine blk_drew ?_ | refine blk_alloc ?_ _)); exact BK217.out⟩, ⟨by (with_reducible repeat (first | refine blk_drewN ?_ _ | refine blk_drew ?_ | refine blk_alloc ?_ _)); exact BK227.out⟩, ⟨by repeat (first | (with_reducible first | exact HB.out | apply below_alloc | apply pw_below_drewN | apply below_drew1 | refine below_set ?_ GE217.out | refine below_set ?_ GE227.out) | exact HB.out)⟩⟩
    case rest =>
      clear HC11
      try clear c1
      try clear c2
      try clear p2
      try clear c3
      try clear c4
      try clear c5
      try clear c6
      try clear c6b0
      try clear c13
      try clear c22
      try clear c26
      try clear c27
      try clear c31
      try clear hcz16_0
      try clear hcz16_1
      try clear hcz16_2
      try clear hcz23_0
      try clear hcz23_1
      try clear hcz23_2
      try clear hcz28_0
      try clear hcz28_1
      try clear hcz28_2
      try clear hcz29_0
      try clear hcz29_1
      try clear hcz29_2
      try clear hcz32_0
      try clear hcz32_1
      try clear hcz32_2
      try clear hcz33_0
      try clear hcz33_1
      try clear hcz33_2
      try clear hfz16_0
      try clear hfz16_1
      try clear hfz16_2
      try clear hfz23_0
      try clear hfz23_1
      try clear hfz23_2
      try clear hfz28_0
      try clear hfz28_1
      try clear hfz28_2
      try clear hfz29_0
      try clear hfz29_1
      try clear hfz29_2
      try clear hfz32_0
      try clear hfz32_1
      try clear hfz32_2
      try clear hfz33_0
      try clear hfz33_1
      try clear hfz33_2
      obtain ⟨kq, x52_10, rfl, HA, HJ10, HO_12, HO_218002, HO_228002, BK217, BK227, HB⟩ := hcut
      cases kq with
      | zero => exact absurd HA.out (by simp [laws_FnExactCountingOf.j0])
      | succ kj10 =>
        have H := HA.out
        clear HA
        simp only [laws_FnExactCountingOf.j0] at H
        by_cases c35 : x52_10 = true
        · subst c35
          have H1 : (some false) = some r := by rw [if_pos rfl] at H; exact H
          clear H
          have H := H1
          clear H1
          obtain rfl := Option.some.inj H
          go_wp2
          go_ret
          exact ⟨by first | rfl | (simp [errW_none, errW_some] <;> rfl) | (simp [*, errW_none, errW_some] <;> rfl), by repeat (first | (with_reducible first | exact HB.out | apply below_alloc | apply pw_below_drewN | apply below_drew1 | refine below_set ?_ GE217.out | refine below_set ?_ GE227.out) | exact HB.out)⟩
        · replace c35 := Bool.eq_false_iff.mpr c35
          subst c35
          have H1 : ((laws_toStringS.f kj10 l3).bind fun t229 => ((laws_eqStringS.f kj10 t218 t229).bind fun t232 => (if t232 = true then ((laws_markStringS.f kj10 t218 1).bind fun bt233 => (if bt233.1 < 0 then (laws_FnExactCountingOf.j1 kj10 a0 a1 a2 l3 t216 true t211 t212 t213 t221 t222 t223) else ((laws_eqCounting.f kj10 t221 t222 t223 t211 t212 t213).bind fun t235 => (if t235 = true then (laws_FnExactCountingOf.j1 kj10 a0 a1 a2 l3 t216 (t226 != t216) t211 t212 t213 t221 t222 t223) else (laws_FnExactCountingOf.j1 kj10 a0 a1 a2 l3 t216 true t211 t212 t213 t221 t222 t223))))) else (some false)))) = some r := by rw [if_neg (show ¬ (false = true) by decide)] at H; exact H
          clear H
          have H := H1
          clear H1
          replace H := Option.bind_eq_some_iff.mp H
          obtain ⟨t229, A360, H⟩ := H
          replace H : ((laws_eqStringS.f kj10 t218 t229).bind fun t232 => (if t232 = true then ((laws_markStringS.f kj10 t218 1).bind fun bt233 => (if bt233.1 < 0 then (laws_FnExactCountingOf.j1 kj10 a0 a1 a2 l3 t216 true t211 t212 t213 t221 t222 t223) else ((laws_eqCounting.f kj10 t221 t222 t223 t211 t212 t213).bind fun t235 => (if t235 = true then (laws_FnExactCountingOf.j1 kj10 a0 a1 a2 l3 t216 (t226 != t216) t211 t212 t213 t221 t222 t223) else (laws_FnExactCountingOf.j1 kj10 a0 a1 a2 l3 t216 true t211 t212 t213 t221 t222 t223))))) else (some false))) = some r := H
          have A36 := Aside0.mk A360
          clear A360
          replace H := Option.bind_eq_some_iff.mp H
          obtain ⟨t232, A370, H⟩ := H
          replace H : (if t232 = true then ((laws_markStringS.f kj10 t218 1).bind fun bt233 => (if bt233.1 < 0 then (laws_FnExactCountingOf.j1 kj10 a0 a1 a2 l3 t216 true t211 t212 t213 t221 t222 t223) else ((laws_eqCounting.f kj10 t221 t222 t223 t211 t212 t213).bind fun t235 => (if t235 = true then (laws_FnExactCountingOf.j1 kj10 a0 a1 a2 l3 t216 (t226 != t216) t211 t212 t213 t221 t222 t223) else (laws_FnExactCountingOf.j1 kj10 a0 a1 a2 l3 t216 true t211 t212 t213 t221 t222 t223))))) else (some false)) = some r := H
          have A37 := Aside0.mk A370
          clear A370
          by_cases c38 : t232 = true
          · subst c38
            have H1 : ((laws_markStringS.f kj10 t218 1).bind fun bt233 => (if bt233.1 < 0 then (laws_FnExactCountingOf.j1 kj10 a0 a1 a2 l3 t216 true t211 t212 t213 t221 t222 t223) else ((laws_eqCounting.f kj10 t221 t222 t223 t211 t212 t213).bind fun t235 => (if t235 = true then (laws_FnExactCountingOf.j1 kj10 a0 a1 a2 l3 t216 (t226 != t216) t211 t212 t213 t221 t222 t223) else (laws_FnExactCountingOf.j1 kj10 a0 a1 a2 l3 t216 true t211 t212 t213 t221 t222 t223))))) = some r := by rw [if_pos rfl] at H; exact H
            clear H
            have H := H1
            clear H1
            replace H := Option.bind_eq_some_iff.mp H
            obtain ⟨⟨t233, t234⟩, A390, H⟩ := H
            replace H : (if t233 < 0 then (laws_FnExactCountingOf.j1 kj10 a0 a1 a2 l3 t216 true t211 t212 t213 t221 t222 t223) else ((laws_eqCounting.f kj10 t221 t222 t223 t211 t212 t213).bind fun t235 => (if t235 = true then (laws_FnExactCountingOf.j1 kj10 a0 a1 a2 l3 t216 (t226 != t216) t211 t212 t213 t221 t222 t223) else (laws_FnExactCountingOf.j1 kj10 a0 a1 a2 l3 t216 true t211 t212 t213 t221 t222 t223)))) = some r := H
            have A39 := Aside0.mk A390
            clear A390
            have HC40 := Aside0.mk H
            clear H
            go_upto_region 14 with (first | ((with_reducible refine gate_callee (f := 59) rfl ?_); refine goesL_ (some 55) rfl rfl Try.func59 (by kernel_rfl) rfl #[.slice A3 l3.length c3] rfl (by (try simp only [List.map_toArray, List.map_cons, List.map_nil]); first | done | rfl | (simp only [List.length_drop, List.length_take]; rfl)) ?_; (with_reducible refine (laws_toStringS.calls kj10 _ _ l3 t229 _ ?side1 ?side2 A36.out).mono ?_); (case side1 => repeat (first | exact (Kd.C_below HR3.out HB.out) | (with_reducible refine Kd.C_alloc ?_ _) | (with_reducible refine Kd.C_drewN ?_ _) | (with_reducible refine Kd.C_drew ?_))); (case side2 => exact HC3.out); rintro e w41 ⟨v230, rfl, ho0, hb⟩; refine ⟨_, rfl, ?_⟩; have n0_ := Aside0.mk (Kd.R_elder' (by (with_reducible repeat (first | apply Kd.R_alloc | apply Kd.R_drewN | apply Kd.R_drew)); exact HO_12.out) (Kd.R_base ho0) hb); have n1_ := Aside0.mk (Kd.R_below (by (with_reducible repeat (first | apply Kd.R_alloc | apply Kd.R_drewN | apply Kd.R_drew)); exact HO_218002.out) hb); have n2_ := Aside0.mk (Kd.R_below (by (with_reducible repeat (first | apply Kd.R_alloc | apply Kd.R_drewN | apply Kd.R_drew)); exact HO_228002.out) hb); have n3_ := Aside0.mk (Kd.R_lower (Kd.R_new' ho0 (Kd.R_lt (by (with_reducible repeat (first | apply Kd.R_alloc | apply Kd.R_drewN | apply Kd.R_drew)); exact HO_12.out))) (below_size (by repeat (first | (with_reducible first | exact HB.out | apply below_alloc | apply pw_below_drewN | apply below_drew1 | refine below_set ?_ GE217.out | refine below_set ?_ GE227.out) | exact HB.out)))); have n4_ := Aside0.mk (blk_below (g := gb217) (o := .cells #[.int .i64 t211, .int .i64 t212, .slice Ao17 t213.length co17] 75 (0, 0)) (by (with_reducible repeat (first | refine blk_drewN ?_ _ | refine blk_drew ?_ | refine blk_alloc ?_ _)); exact BK217.out) hb); have n5_ := Aside0.mk (blk_below (g := gb227) (o := .cells #[.int .i64 t221, .int .i64 t222, .slice Ao24 t223.length co24] 75 (0, 0)) (by (with_reducible repeat (first | refine blk_drewN ?_ _ | refine blk_drew ?_ | refine blk_alloc ?_ _)); exact BK227.out) hb); have n6_ := Aside0.mk (below_step (by repeat (first | (with_reducible first | exact HB.out | apply below_alloc | apply pw_below_drewN | apply below_drew1 | refine below_set ?_ GE217.out | refine below_set ?_ GE227.out) | exact HB.out)) hb); clear HO_12; clear HO_218002; clear HO_228002; clear BK217; clear BK227; clear HB; have HO_12 := n0_; have HO_218002 := n1_; have HO_228002 := n2_; have HO231 := n3_; have BK217 := n4_; have BK227 := n5_; have HB := n6_; clear n0_ n1_ n2_ n3_ n4_ n5_ n6_; (try clear hb); (try clear hb2); (try clear hk); (try clear hi); (try clear ho0); obtain ⟨Ao42, co42, eo42⟩ := Kd.R_slice HO231.out; subst eo42) | ((with_reducible refine gate_callee (f := 61) rfl ?_); refine goesL_ (some 56) rfl rfl Try.func61 (by kernel_rfl) rfl #[.slice Ao19 t218.length co19, .slice Ao42 t229.length co42] rfl (by (try simp only [List.map_toArray, List.map_cons, List.map_nil]); first | done | rfl | (simp only [List.length_drop, List.length_take]; rfl)) ?_; (with_reducible refine (laws_eqStringS.calls kj10 _ _ t218 _ _ t229 true _ ?side1 ?side2 ?side3 ?side4 A37.out).mono ?_); (case side1 => repeat (first | exact (Kd.R_reads' HO_12.out).2.2 | (with_reducible refine Kd.C_alloc ?_ _) | (with_reducible refine Kd.C_drewN ?_ _) | (with_reducible refine Kd.C_drew ?_))); (case side2 => exact (Kd.R_reads' HO_12.out).2.1); (case side3 => repeat (first | exact (Kd.R_reads' HO231.out).2.2 | (with_reducible refine Kd.C_alloc ?_ _) | (with_reducible refine Kd.C_drewN ?_ _) | (with_reducible refine Kd.C_drew ?_))); (case side4 => exact (Kd.R_reads' HO231.out).2.1); rintro e w' ⟨rfl, ⟨nd, rfl⟩⟩; refine ⟨_, rfl, ?_⟩) | ((with_reducible refine gate_callee (f := 62) rfl ?_); refine goesL_ (some 60) rfl rfl Try.func62 (by kernel_rfl) rfl #[.slice Ao19 t218.length co19, .int .i64 1] rfl (by (try simp only [List.map_toArray, List.map_cons, List.map_nil]); first | done | rfl | (simp only [List.length_drop, List.length_take]; rfl)) ?_; (with_reducible refine (laws_markStringS.calls kj10 (fun k_ => some k_ = (.slice Ao19 t218.length co19 : Value).ownBlock) (.slice Ao19 t218.length co19) t218 1 t233 t234 w _ ?side1 ?side2 A39.out).mono ?_); (case side1 => repeat (first | (with_reducible first | exact HB.out | apply below_alloc | apply pw_below_drewN | apply below_drew1 | refine below_set ?_ GE217.out | refine below_set ?_ GE227.out) | exact HB.out)); (case side2 => exact Kd.R_tight rfl HO_12.out); rintro e w43 ⟨rfl, hy0, hb, hkp⟩; refine ⟨_, rfl, ?_⟩; have n0_ := Aside0.mk (Kd.R_reok rfl hy0 (fun k_ e_ => HO_12.out.1 k_ e_)); have n1_ := Aside0.mk (Kd.R_mono (ok' := fun k_ => some k_ ≠ (.slice Ao24 t223.length co24 : Value).ownBlock) (Kd.R_keptB ((Kd.R_apart' HO_218002.out (Kd.R_typed HO_12.out) (by decide))) hkp (fun k_ hk_ hs_ => (hk_.2) hs_)) (fun k_ hk_ => hk_.1.1)); have n2_ := Aside0.mk (Kd.R_mono (ok' := fun k_ => some k_ ≠ (.slice Ao17 t213.length co17 : Value).ownBlock) (Kd.R_keptB ((Kd.R_apart' HO_228002.out (Kd.R_typed HO_12.out) (by decide))) hkp (fun k_ hk_ hs_ => (hk_.2) hs_)) (fun k_ hk_ => hk_.1.1)); have n3_ := Aside0.mk (blk_kept (by (with_reducible repeat (first | refine blk_drewN ?_ _ | refine blk_drew ?_ | refine blk_alloc ?_ _)); exact BK217.out) hkp (fun hs_ => (fun e_ => (Kd.R_ne HO_12.out BK217.out (by decide)) e_) hs_)); have n4_ := Aside0.mk (blk_kept (by (with_reducible repeat (first | refine blk_drewN ?_ _ | refine blk_drew ?_ | refine blk_alloc ?_ _)); exact BK227.out) hkp (fun hs_ => (fun e_ => (Kd.R_ne HO_12.out BK227.out (by decide)) e_) hs_)); have n5_ := Aside0.mk (Kd.R_mono (ok' := fun k_ => some k_ ≠ (.slice Ao19 t218.length co19 : Value).ownBlock) (Kd.R_keptB (HO231.out) hkp (fun k_ hk_ hs_ => (hk_.2) hs_)) (fun k_ hk_ => hk_.1.2)); have n6_ := Aside0.mk (hb); clear HO_12; clear HO_218002; clear HO_228002; clear BK217; clear BK227; clear HO231; clear HB; have HO_12 := n0_; have HO_218002 := n1_; have HO_228002 := n2_; have BK217 := n3_; have BK227 := n4_; have HO231 := n5_; have HB := n6_; clear n0_ n1_ n2_ n3_ n4_ n5_ n6_; (try clear hb); (try clear hkp); (try clear hy0)))
            (try simp only [Act.put, List.setIfInBounds_toArray, List.set_cons_zero, List.set_cons_succ])
            go_cut [73] (fun v73 wc => ∃ (kq : Nat) (x73_39 : Bool), v73 = .bool x73_39 ∧ Aside0 (laws_FnExactCountingOf.j1 kq a0 a1 a2 l3 t216 x73_39 t211 t212 t213 t221 t222 t223 = some r) ∧ Aside0 (kq ≤ kj10) ∧ Aside0 (Kd.R (Kd.int .i64) 3 wc w.heap.size (fun k_ => some k_ ≠ ((.slice Ao24 t223.length co24) : Value).ownBlock) (.slice Ao17 t213.length co17) t213) ∧ Aside0 (Kd.R (Kd.int .i64) 3 wc w.heap.size (fun k_ => some k_ ≠ ((.slice Ao17 t213.length co17) : Value).ownBlock) (.slice Ao24 t223.length co24) t223) ∧ Aside0 (wc.heap[gb217]? = some (.cells #[.int .i64 t211, .int .i64 t212, (.slice Ao17 t213.length co17)] 75 (0, 0))) ∧ Aside0 (wc.heap[gb227]? = some (.cells #[.int .i64 t221, .int .i64 t222, (.slice Ao24 t223.length co24)] 75 (0, 0))) ∧ Aside0 (Below w.heap.size w wc))
            case first =>
              have H := HC40.out
              clear HC40
              by_cases c44 : t233 < 0
              · rw [if_pos c44] at H
                have c44b0 : decide (t233 < 0) = true := decide_eq_true c44
                clear c44
                (first | rw [c44b0] | (simp only [i64_w, i32_w]; rw [c44b0]) | skip)
                have H' := Aside0.mk H
                clear H
                go_wp2
                go_meet
                case rel => exact ⟨_, (true), (by first | rfl | (simp; done) | (simp [*]; done)), H', ⟨by have := HJ10.out; first | omega | exact Nat.le_refl _⟩, ⟨by (with_reducible repeat (first | apply Kd.R_alloc | apply Kd.R_drewN | apply Kd.R_drew)); exact HO_218002.out⟩, ⟨by (with_reducible repeat (first | apply Kd.R_alloc | apply Kd.R_drewN | apply Kd.R_drew)); exact HO_228002.out⟩, ⟨by (with_reducible repeat (first | refine blk_drewN ?_ _ | refine blk_drew ?_ | refine blk_alloc ?_ _)); exact BK217.out⟩, ⟨by (with_reducible repeat (first | refine blk_drewN ?_ _ | refine blk_drew ?_ | refine blk_alloc ?_ _)); exact BK227.out⟩, ⟨by repeat (first | (with_reducible first | exact HB.out | apply below_alloc | apply pw_below_drewN | apply below_drew1 | refine below_set ?_ GE217.out | refine below_set ?_ GE227.out) | exact HB.out)⟩⟩
              · rw [if_neg c44] at H
                have c44b0 : decide (t233 < 0) = false := decide_eq_false c44
                clear c44
                (first | rw [c44b0] | (simp only [i64_w, i32_w]; rw [c44b0]) | skip)
                replace H := Option.bind_eq_some_iff.mp H
                obtain ⟨t235, A450, H⟩ := H
                replace H : (if t235 = true then (laws_FnExactCountingOf.j1 kj10 a0 a1 a2 l3 t216 (t226 != t216) t211 t212 t213 t221 t222 t223) else (laws_FnExactCountingOf.j1 kj10 a0 a1 a2 l3 t216 true t211 t212 t213 t221 t222 t223)) = some r := H
                have A45 := Aside0.mk A450
                clear A450
                by_cases c46 : t235 = true
                · subst c46
                  have H1 : (laws_FnExactCountingOf.j1 kj10 a0 a1 a2 l3 t216 (t226 != t216) t211 t212 t213 t221 t222 t223) = some r := by rw [if_pos rfl] at H; exact H
                  clear H
                  have H := H1
                  clear H1
                  have H' := Aside0.mk H
                  clear H
                  have hnb47 := NB227_217.out
                  have hnc47 := NB217_227.out
                  have hcz48_0 : w43.cell? ⟨gb227, 0, none⟩ = some (.int .i64 t221) := (blk_cell BK227.out 0).trans rfl
                  have hcz48_1 : w43.cell? ⟨gb227, 1, none⟩ = some (.int .i64 t222) := (blk_cell BK227.out 1).trans rfl
                  have hcz48_2 : w43.cell? ⟨gb227, 2, none⟩ = some (.slice Ao24 t223.length co24) := (blk_cell BK227.out 2).trans rfl
                  have hfz48_0 := blk_frozen BK227.out 0
                  have hfz48_1 := blk_frozen BK227.out 1
                  have hfz48_2 := blk_frozen BK227.out 2
                  have hcz49_0 : w43.cell? ⟨gb217, 0, none⟩ = some (.int .i64 t211) := (blk_cell BK217.out 0).trans rfl
                  have hcz49_1 : w43.cell? ⟨gb217, 1, none⟩ = some (.int .i64 t212) := (blk_cell BK217.out 1).trans rfl
                  have hcz49_2 : w43.cell? ⟨gb217, 2, none⟩ = some (.slice Ao17 t213.length co17) := (blk_cell BK217.out 2).trans rfl
                  have hfz49_0 := blk_frozen BK217.out 0
                  have hfz49_1 := blk_frozen BK217.out 1
                  have hfz49_2 := blk_frozen BK217.out 2
                  go_wp2_with (first | (go_at_call 48; (with_reducible refine (laws_eqCounting.calls kj10 t221 t222 _ _ t223 t211 t212 _ _ t213 true _ ?side1 ?side2 ?side3 ?side4 A45.out).mono ?_); (case side1 => repeat (first | exact (Kd.R_reads' HO_228002.out).2.2 | (with_reducible refine Kd.C_alloc ?_ _) | (with_reducible refine Kd.C_drewN ?_ _) | (with_reducible refine Kd.C_drew ?_))); (case side2 => exact (Kd.R_reads' HO_228002.out).2.1); (case side3 => repeat (first | exact (Kd.R_reads' HO_218002.out).2.2 | (with_reducible refine Kd.C_alloc ?_ _) | (with_reducible refine Kd.C_drewN ?_ _) | (with_reducible refine Kd.C_drew ?_))); (case side4 => exact (Kd.R_reads' HO_218002.out).2.1); rintro e w50 ⟨rfl, hb⟩; have n0_ := Aside0.mk (Kd.R_below (by (with_reducible repeat (first | apply Kd.R_alloc | apply Kd.R_drewN | apply Kd.R_drew)); exact HO_12.out) hb); have n1_ := Aside0.mk (Kd.R_below (by (with_reducible repeat (first | apply Kd.R_alloc | apply Kd.R_drewN | apply Kd.R_drew)); exact HO_218002.out) hb); have n2_ := Aside0.mk (Kd.R_below (by (with_reducible repeat (first | apply Kd.R_alloc | apply Kd.R_drewN | apply Kd.R_drew)); exact HO_228002.out) hb); have n3_ := Aside0.mk (Kd.R_below (by (with_reducible repeat (first | apply Kd.R_alloc | apply Kd.R_drewN | apply Kd.R_drew)); exact HO231.out) hb); have n4_ := Aside0.mk (blk_below (g := gb217) (o := .cells #[.int .i64 t211, .int .i64 t212, .slice Ao17 t213.length co17] 75 (0, 0)) (by (with_reducible repeat (first | refine blk_drewN ?_ _ | refine blk_drew ?_ | refine blk_alloc ?_ _)); exact BK217.out) hb); have n5_ := Aside0.mk (blk_below (g := gb227) (o := .cells #[.int .i64 t221, .int .i64 t222, .slice Ao24 t223.length co24] 75 (0, 0)) (by (with_reducible repeat (first | refine blk_drewN ?_ _ | refine blk_drew ?_ | refine blk_alloc ?_ _)); exact BK227.out) hb); have n6_ := Aside0.mk (below_step (by repeat (first | (with_reducible first | exact HB.out | apply below_alloc | apply pw_below_drewN | apply below_drew1 | refine below_set ?_ GE217.out | refine below_set ?_ GE227.out) | exact HB.out)) hb); clear HO_12; clear HO_218002; clear HO_228002; clear HO231; clear BK217; clear BK227; clear HB; have HO_12 := n0_; have HO_218002 := n1_; have HO_228002 := n2_; have HO231 := n3_; have BK217 := n4_; have BK227 := n5_; have HB := n6_; clear n0_ n1_ n2_ n3_ n4_ n5_ n6_; (try clear hb); (try clear hb2); (try clear hk); (try clear hi)))
                  go_meet
                  case rel => exact ⟨_, ((t226 != t216)), (by first | rfl | (simp; done) | (simp [*]; done)), H', ⟨by have := HJ10.out; first | omega | exact Nat.le_refl _⟩, ⟨by (with_reducible repeat (first | apply Kd.R_alloc | apply Kd.R_drewN | apply Kd.R_drew)); exact HO_218002.out⟩, ⟨by (with_reducible repeat (first | apply Kd.R_alloc | apply Kd.R_drewN | apply Kd.R_drew)); exact HO_228002.out⟩, ⟨by (with_reducible repeat (first | refine blk_drewN ?_ _ | refine blk_drew ?_ | refine blk_alloc ?_ _)); exact BK217.out⟩, ⟨by (with_reducible repeat (first | refine blk_drewN ?_ _ | refine blk_drew ?_ | refine blk_alloc ?_ _)); exact BK227.out⟩, ⟨by repeat (first | (with_reducible first | exact HB.out | apply below_alloc | apply pw_below_drewN | apply below_drew1 | refine below_set ?_ GE217.out | refine below_set ?_ GE227.out) | exact HB.out)⟩⟩
                · replace c46 := Bool.eq_false_iff.mpr c46
                  subst c46
                  have H1 : (laws_FnExactCountingOf.j1 kj10 a0 a1 a2 l3 t216 true t211 t212 t213 t221 t222 t223) = some r := by rw [if_neg (show ¬ (false = true) by decide)] at H; exact H
                  clear H
                  have H := H1
                  clear H1
                  have H' := Aside0.mk H
                  clear H
                  have hnb51 := NB227_217.out
                  have hnc51 := NB217_227.out
                  have hcz52_0 : w43.cell? ⟨gb227, 0, none⟩ = some (.int .i64 t221) := (blk_cell BK227.out 0).trans rfl
                  have hcz52_1 : w43.cell? ⟨gb227, 1, none⟩ = some (.int .i64 t222) := (blk_cell BK227.out 1).trans rfl
                  have hcz52_2 : w43.cell? ⟨gb227, 2, none⟩ = some (.slice Ao24 t223.length co24) := (blk_cell BK227.out 2).trans rfl
                  have hfz52_0 := blk_frozen BK227.out 0
                  have hfz52_1 := blk_frozen BK227.out 1
                  have hfz52_2 := blk_frozen BK227.out 2
                  have hcz53_0 : w43.cell? ⟨gb217, 0, none⟩ = some (.int .i64 t211) := (blk_cell BK217.out 0).trans rfl
                  have hcz53_1 : w43.cell? ⟨gb217, 1, none⟩ = some (.int .i64 t212) := (blk_cell BK217.out 1).trans rfl
                  have hcz53_2 : w43.cell? ⟨gb217, 2, none⟩ = some (.slice Ao17 t213.length co17) := (blk_cell BK217.out 2).trans rfl
                  have hfz53_0 := blk_frozen BK217.out 0
                  have hfz53_1 := blk_frozen BK217.out 1
                  have hfz53_2 := blk_frozen BK217.out 2
                  go_wp2_with (first | (go_at_call 48; (with_reducible refine (laws_eqCounting.calls kj10 t221 t222 _ _ t223 t211 t212 _ _ t213 false _ ?side1 ?side2 ?side3 ?side4 A45.out).mono ?_); (case side1 => repeat (first | exact (Kd.R_reads' HO_228002.out).2.2 | (with_reducible refine Kd.C_alloc ?_ _) | (with_reducible refine Kd.C_drewN ?_ _) | (with_reducible refine Kd.C_drew ?_))); (case side2 => exact (Kd.R_reads' HO_228002.out).2.1); (case side3 => repeat (first | exact (Kd.R_reads' HO_218002.out).2.2 | (with_reducible refine Kd.C_alloc ?_ _) | (with_reducible refine Kd.C_drewN ?_ _) | (with_reducible refine Kd.C_drew ?_))); (case side4 => exact (Kd.R_reads' HO_218002.out).2.1); rintro e w54 ⟨rfl, hb⟩; have n0_ := Aside0.mk (Kd.R_below (by (with_reducible repeat (first | apply Kd.R_alloc | apply Kd.R_drewN | apply Kd.R_drew)); exact HO_12.out) hb); have n1_ := Aside0.mk (Kd.R_below (by (with_reducible repeat (first | apply Kd.R_alloc | apply Kd.R_drewN | apply Kd.R_drew)); exact HO_218002.out) hb); have n2_ := Aside0.mk (Kd.R_below (by (with_reducible repeat (first | apply Kd.R_alloc | apply Kd.R_drewN | apply Kd.R_drew)); exact HO_228002.out) hb); have n3_ := Aside0.mk (Kd.R_below (by (with_reducible repeat (first | apply Kd.R_alloc | apply Kd.R_drewN | apply Kd.R_drew)); exact HO231.out) hb); have n4_ := Aside0.mk (blk_below (g := gb217) (o := .cells #[.int .i64 t211, .int .i64 t212, .slice Ao17 t213.length co17] 75 (0, 0)) (by (with_reducible repeat (first | refine blk_drewN ?_ _ | refine blk_drew ?_ | refine blk_alloc ?_ _)); exact BK217.out) hb); have n5_ := Aside0.mk (blk_below (g := gb227) (o := .cells #[.int .i64 t221, .int .i64 t222, .slice Ao24 t223.length co24] 75 (0, 0)) (by (with_reducible repeat (first | refine blk_drewN ?_ _ | refine blk_drew ?_ | refine blk_alloc ?_ _)); exact BK227.out) hb); have n6_ := Aside0.mk (below_step (by repeat (first | (with_reducible first | exact HB.out | apply below_alloc | apply pw_below_drewN | apply below_drew1 | refine below_set ?_ GE217.out | refine below_set ?_ GE227.out) | exact HB.out)) hb); clear HO_12; clear HO_218002; clear HO_228002; clear HO231; clear BK217; clear BK227; clear HB; have HO_12 := n0_; have HO_218002 := n1_; have HO_228002 := n2_; have HO231 := n3_; have BK217 := n4_; have BK227 := n5_; have HB := n6_; clear n0_ n1_ n2_ n3_ n4_ n5_ n6_; (try clear hb); (try clear hb2); (try clear hk); (try clear hi)))
                  go_meet
                  case rel => exact ⟨_, (true), (by first | rfl | (simp; done) | (simp [*]; done)), H', ⟨by have := HJ10.out; first | omega | exact Nat.le_refl _⟩, ⟨by (with_reducible repeat (first | apply Kd.R_alloc | apply Kd.R_drewN | apply Kd.R_drew)); exact HO_218002.out⟩, ⟨by (with_reducible repeat (first | apply Kd.R_alloc | apply Kd.R_drewN | apply Kd.R_drew)); exact HO_228002.out⟩, ⟨by (with_reducible repeat (first | refine blk_drewN ?_ _ | refine blk_drew ?_ | refine blk_alloc ?_ _)); exact BK217.out⟩, ⟨by (with_reducible repeat (first | refine blk_drewN ?_ _ | refine blk_drew ?_ | refine blk_alloc ?_ _)); exact BK227.out⟩, ⟨by repeat (first | (with_reducible first | exact HB.out | apply below_alloc | apply pw_below_drewN | apply below_drew1 | refine below_set ?_ GE217.out | refine below_set ?_ GE227.out) | exact HB.out)⟩⟩
            case rest =>
              clear HC40
              try clear c1
              try clear c2
              try clear p2
              try clear c3
              try clear c4
              try clear c5
              try clear c6
              try clear c6b0
              try clear c13
              try clear c22
              try clear c26
              try clear c27
              try clear c31
              try clear c35
              try clear c38
              try clear c44
              try clear c44b0
              try clear c46
              try clear c47
              try clear c48
              try clear c51
              try clear hcz16_0
              try clear hcz16_1
              try clear hcz16_2
              try clear hcz23_0
              try clear hcz23_1
              try clear hcz23_2
              try clear hcz28_0
              try clear hcz28_1
              try clear hcz28_2
              try clear hcz29_0
              try clear hcz29_1
              try clear hcz29_2
              try clear hcz32_0
              try clear hcz32_1
              try clear hcz32_2
              try clear hcz33_0
              try clear hcz33_1
              try clear hcz33_2
              try clear hcz48_0
              try clear hcz48_1
              try clear hcz48_2
              try clear hcz49_0
              try clear hcz49_1
              try clear hcz49_2
              try clear hcz52_0
              try clear hcz52_1
              try clear hcz52_2
              try clear hcz53_0
              try clear hcz53_1
              try clear hcz53_2
              try clear hfz16_0
              try clear hfz16_1
              try clear hfz16_2
              try clear hfz23_0
              try clear hfz23_1
              try clear hfz23_2
              try clear hfz28_0
              try clear hfz28_1
              try clear hfz28_2
              try clear hfz29_0
              try clear hfz29_1
              try clear hfz29_2
              try clear hfz32_0
              try clear hfz32_1
              try clear hfz32_2
              try clear hfz33_0
              try clear hfz33_1
              try clear hfz33_2
              try clear hfz48_0
              try clear hfz48_1
              try clear hfz48_2
              try clear hfz49_0
              try clear hfz49_1
              try clear hfz49_2
              try clear hfz52_0
              try clear hfz52_1
              try clear hfz52_2
              try clear hfz53_0
              try clear hfz53_1
              try clear hfz53_2
              try clear p2
              obtain ⟨kq, x73_39, rfl, HA, HJ39, HO_218002, HO_228002, BK217, BK227, HB⟩ := hcut
              cases kq with
              | zero => exact absurd HA.out (by simp [laws_FnExactCountingOf.j1])
              | succ kj39 =>
                have H := HA.out
                clear HA
                simp only [laws_FnExactCountingOf.j1] at H
                by_cases c55 : x73_39 = true
                · subst c55
                  have H1 : (some false) = some r := by rw [if_pos rfl] at H; exact H
                  clear H
                  have H := H1
                  clear H1
                  obtain rfl := Option.some.inj H
                  go_wp2
                  go_ret
                  exact ⟨by first | rfl | (simp [errW_none, errW_some] <;> rfl) | (simp [*, errW_none, errW_some] <;> rfl), by repeat (first | (with_reducible first | exact HB.out | apply below_alloc | apply pw_below_drewN | apply below_drew1 | refine below_set ?_ GE217.out | refine below_set ?_ GE227.out) | exact HB.out)⟩
                · replace c55 := Bool.eq_false_iff.mpr c55
                  subst c55
                  have H1 : ((laws_markCounting.f kj39 t221 t222 t223 1).bind fun bt236 => ((laws_heldCounting.f kj39 t221 t222 bt236.2 1).bind fun t238 => (if t238 < 0 then (some false) else (if t238 = bt236.1 then ((laws_toStringS.f kj39 l3).bind fun t239 => ((impl_CountingOf.f kj39 a0 a1 a2 t239).bind fun bt242 => ((laws_eqCounting.f kj39 bt242.1 bt242.2.1 bt242.2.2.1 t211 t212 t213).bind fun t249 => (if t249 = true then (laws_FnExactCountingOf.j2 kj39 bt236.1 (bt242.2.2.2 != t216) t221 t222 bt236.2) else (laws_FnExactCountingOf.j2 kj39 bt236.1 true t221 t222 bt236.2))))) else (some false))))) = some r := by rw [if_neg (show ¬ (false = true) by decide)] at H; exact H
                  clear H
                  have H := H1
                  clear H1
                  replace H := Option.bind_eq_some_iff.mp H
                  obtain ⟨⟨t236, t237⟩, A560, H⟩ := H
                  replace H : ((laws_heldCounting.f kj39 t221 t222 t237 1).bind fun t238 => (if t238 < 0 then (some false) else (if t238 = t236 then ((laws_toStringS.f kj39 l3).bind fun t239 => ((impl_CountingOf.f kj39 a0 a1 a2 t239).bind fun bt242 => ((laws_eqCounting.f kj39 bt242.1 bt242.2.1 bt242.2.2.1 t211 t212 t213).bind fun t249 => (if t249 = true then (laws_FnExactCountingOf.j2 kj39 t236 (bt242.2.2.2 != t216) t221 t222 t237) else (laws_FnExactCountingOf.j2 kj39 t236 true t221 t222 t237))))) else (some false)))) = some r := H
                  have A56 := Aside0.mk A560
                  clear A560
                  replace H := Option.bind_eq_some_iff.mp H
                  obtain ⟨t238, A570, H⟩ := H
                  replace H : (if t238 < 0 then (some false) else (if t238 = t236 then ((laws_toStringS.f kj39 l3).bind fun t239 => ((impl_CountingOf.f kj39 a0 a1 a2 t239).bind fun bt242 => ((laws_eqCounting.f kj39 bt242.1 bt242.2.1 bt242.2.2.1 t211 t212 t213).bind fun t249 => (if t249 = true then (laws_FnExactCountingOf.j2 kj39 t236 (bt242.2.2.2 != t216) t221 t222 t237) else (laws_FnExactCountingOf.j2 kj39 t236 true t221 t222 t237))))) else (some false))) = some r := H
                  have A57 := Aside0.mk A570
                  clear A570
                  by_cases c58 : t238 < 0
                  · rw [if_pos c58] at H
                    have c58b0 : decide (t238 < 0) = true := decide_eq_true c58
                    clear c58
                    obtain rfl := Option.some.inj H
                    have hnb59 := NB227_217.out
                    have hnc59 := NB217_227.out
                    have hcz60_0 : wc.cell? ⟨gb227, 0, none⟩ = some (.int .i64 t221) := (blk_cell BK227.out 0).trans rfl
                    have hcz60_1 : wc.cell? ⟨gb227, 1, none⟩ = some (.int .i64 t222) := (blk_cell BK227.out 1).trans rfl
                    have hcz60_2 : wc.cell? ⟨gb227, 2, none⟩ = some (.slice Ao24 t223.length co24) := (blk_cell BK227.out 2).trans rfl
                    have hfz60_0 := blk_frozen BK227.out 0
                    have hfz60_1 := blk_frozen BK227.out 1
                    have hfz60_2 := blk_frozen BK227.out 2
                    go_wp2_with (first | ((with_reducible refine gate_callee (f := 49) rfl ?_); refine goesL_ (some 76) rfl rfl Try.func49 (by kernel_rfl) rfl #[.agg #[.int .i64 t221, .int .i64 t222, .slice Ao24 t223.length co24], .int .i64 1] rfl (by (try simp only [List.map_toArray, List.map_cons, List.map_nil]); first | done | rfl | (simp only [List.length_drop, List.length_take]; rfl)) ?_; (with_reducible refine (laws_markCounting.calls kj39 t221 t222 (fun k_ => some k_ = (.slice Ao24 t223.length co24 : Value).ownBlock) (.slice Ao24 t223.length co24) t223 1 t236 t237 w _ ?side1 ?side2 A56.out).mono ?_); (case side1 => repeat (first | (with_reducible first | exact HB.out | apply below_alloc | apply pw_below_drewN | apply below_drew1 | refine below_set ?_ GE217.out | refine below_set ?_ GE227.out) | exact HB.out)); (case side2 => exact Kd.R_tight rfl HO_228002.out); rintro e w61 ⟨rfl, hy0, hb, hkp⟩; refine ⟨_, rfl, ?_⟩; have n0_ := Aside0.mk (Kd.R_mono (ok' := fun k_ => some k_ ≠ (.slice Ao24 t223.length co24 : Value).ownBlock) (Kd.R_keptB (HO_218002.out) hkp (fun k_ hk_ hs_ => (hk_) hs_)) (fun k_ hk_ => hk_.1)); have n1_ := Aside0.mk (Kd.R_reok rfl hy0 (fun k_ e_ => HO_228002.out.1 k_ e_)); have n2_ := Aside0.mk (blk_kept (by (with_reducible repeat (first | refine blk_drewN ?_ _ | refine blk_drew ?_ | refine blk_alloc ?_ _)); exact BK217.out) hkp (fun hs_ => (fun e_ => (Kd.R_ne HO_228002.out BK217.out (by decide)) e_) hs_)); have n3_ := Aside0.mk (blk_kept (by (with_reducible repeat (first | refine blk_drewN ?_ _ | refine blk_drew ?_ | refine blk_alloc ?_ _)); exact BK227.out) hkp (fun hs_ => (fun e_ => (Kd.R_ne HO_228002.out BK227.out (by decide)) e_) hs_)); have n4_ := Aside0.mk (hb); clear HO_218002; clear HO_228002; clear BK217; clear BK227; clear HB; have HO_218002 := n0_; have HO_228002 := n1_; have BK217 := n2_; have BK227 := n3_; have HB := n4_; clear n0_ n1_ n2_ n3_ n4_; (try clear hb); (try clear hkp); (try clear hy0); have hcz62_0 : w61.cell? ⟨gb227, 0, none⟩ = some (.int .i64 t221) := (blk_cell BK227.out 0).trans rfl; have hcz62_1 : w61.cell? ⟨gb227, 1, none⟩ = some (.int .i64 t222) := (blk_cell BK227.out 1).trans rfl; have hcz62_2 : w61.cell? ⟨gb227, 2, none⟩ = some (.slice Ao24 t223.length co24) := (blk_cell BK227.out 2).trans rfl; have hfz62_0 := blk_frozen BK227.out 0; have hfz62_1 := blk_frozen BK227.out 1; have hfz62_2 := blk_frozen BK227.out 2) | ((with_reducible refine gate_callee (f := 56) rfl ?_); refine goesL_ (some 79) rfl rfl Try.func56 (by kernel_rfl) rfl #[.agg #[.int .i64 t221, .int .i64 t222, .slice Ao24 t237.length co24], .int .i64 1] rfl (by (try simp only [List.map_toArray, List.map_cons, List.map_nil]); first | done | (rw [show t237.length = t223.length from (Kd.R_reads' HO_228002.out).1.symm] <;> rfl) | rfl | (simp only [List.length_drop, List.length_take]; rfl)) ?_; (with_reducible refine (laws_heldCounting.calls kj39 t221 t222 _ _ t237 1 t238 _ ?side1 ?side2 A57.out).mono ?_); (case side1 => repeat (first | exact (Kd.R_reads' HO_228002.out).2.2 | (with_reducible refine Kd.C_alloc ?_ _) | (with_reducible refine Kd.C_drewN ?_ _) | (with_reducible refine Kd.C_drew ?_))); (case side2 => rw [show t237.length = t223.length from (Kd.R_reads' HO_228002.out).1.symm]; exact (Kd.R_reads' HO_228002.out).2.1); rintro e w63 ⟨rfl, hb⟩; refine ⟨_, rfl, ?_⟩; have n0_ := Aside0.mk (Kd.R_below (by (with_reducible repeat (first | apply Kd.R_alloc | apply Kd.R_drewN | apply Kd.R_drew)); exact HO_218002.out) hb); have n1_ := Aside0.mk (Kd.R_below (by (with_reducible repeat (first | apply Kd.R_alloc | apply Kd.R_drewN | apply Kd.R_drew)); exact HO_228002.out) hb); have n2_ := Aside0.mk (blk_below (g := gb217) (o := .cells #[.int .i64 t211, .int .i64 t212, .slice Ao17 t213.length co17] 75 (0, 0)) (by (with_reducible repeat (first | refine blk_drewN ?_ _ | refine blk_drew ?_ | refine blk_alloc ?_ _)); exact BK217.out) hb); have n3_ := Aside0.mk (blk_below (g := gb227) (o := .cells #[.int .i64 t221, .int .i64 t222, .slice Ao24 t223.length co24] 75 (0, 0)) (by (with_reducible repeat (first | refine blk_drewN ?_ _ | refine blk_drew ?_ | refine blk_alloc ?_ _)); exact BK227.out) hb); have n4_ := Aside0.mk (below_step (by repeat (first | (with_reducible first | exact HB.out | apply below_alloc | apply pw_below_drewN | apply below_drew1 | refine below_set ?_ GE217.out | refine below_set ?_ GE227.out) | exact HB.out)) hb); clear HO_218002; clear HO_228002; clear BK217; clear BK227; clear HB; have HO_218002 := n0_; have HO_228002 := n1_; have BK217 := n2_; have BK227 := n3_; have HB := n4_; clear n0_ n1_ n2_ n3_ n4_; (try clear hb); (try clear hb2); (try clear hk); (try clear hi)))
                    go_ret
                    exact ⟨by first | rfl | (simp [errW_none, errW_some] <;> rfl) | (simp [*, errW_none, errW_some] <;> rfl), by repeat (first | (with_reducible first | exact HB.out | apply below_alloc | apply pw_below_drewN | apply below_drew1 | refine below_set ?_ GE217.out | refine below_set ?_ GE227.out) | exact HB.out)⟩
                  · rw [if_neg c58] at H
                    have c58b0 : decide (t238 < 0) = false := decide_eq_false c58
                    clear c58
                    by_cases c64 : t238 = t236
                    · rw [if_pos c64] at H
                      have c64b0 : (t238 == t236) = true := beq_iff_eq.mpr c64
                      have c64b1 : (t238 != t236) = false := bne_eq_false_iff_eq.mpr c64
                      clear c64
                      replace H := Option.bind_eq_some_iff.mp H
                      obtain ⟨t239, A650, H⟩ := H
                      replace H : ((impl_CountingOf.f kj39 a0 a1 a2 t239).bind fun bt242 => ((laws_eqCounting.f kj39 bt242.1 bt242.2.1 bt242.2.2.1 t211 t212 t213).bind fun t249 => (if t249 = true then (laws_FnExactCountingOf.j2 kj39 t236 (bt242.2.2.2 != t216) t221 t222 t237) else (laws_FnExactCountingOf.j2 kj39 t236 true t221 t222 t237)))) = some r := H
                      have A65 := Aside0.mk A650
                      clear A650
                      replace H := Option.bind_eq_some_iff.mp H
                      obtain ⟨⟨t242, t243, t244, t247⟩, A660, H⟩ := H
                      replace H : ((laws_eqCounting.f kj39 t242 t243 t244 t211 t212 t213).bind fun t249 => (if t249 = true then (laws_FnExactCountingOf.j2 kj39 t236 (t247 != t216) t221 t222 t237) else (laws_FnExactCountingOf.j2 kj39 t236 true t221 t222 t237))) = some r := H
                      have A66 := Aside0.mk A660
                      clear A660
                      have HC67 := Aside0.mk H
                      clear H
                      have hnb68 := NB227_217.out
                      have hnc68 := NB217_227.out
                      have hcz69_0 : wc.cell? ⟨gb227, 0, none⟩ = some (.int .i64 t221) := (blk_cell BK227.out 0).trans rfl
                      have hcz69_1 : wc.cell? ⟨gb227, 1, none⟩ = some (.int .i64 t222) := (blk_cell BK227.out 1).trans rfl
                      have hcz69_2 : wc.cell? ⟨gb227, 2, none⟩ = some (.slice Ao24 t223.length co24) := (blk_cell BK227.out 2).trans rfl
                      have hfz69_0 := blk_frozen BK227.out 0
                      have hfz69_1 := blk_frozen BK227.out 1
                      have hfz69_2 := blk_frozen BK227.out 2
                      go_upto_region 25 with (first | ((with_reducible refine gate_callee (f := 49) rfl ?_); refine goesL_ (some 76) rfl rfl Try.func49 (by kernel_rfl) rfl #[.agg #[.int .i64 t221, .int .i64 t222, .slice Ao24 t223.length co24], .int .i64 1] rfl (by (try simp only [List.map_toArray, List.map_cons, List.map_nil]); first | done | rfl | (simp only [List.length_drop, List.length_take]; rfl)) ?_; (with_reducible refine (laws_markCounting.calls kj39 t221 t222 (fun k_ => some k_ = (.slice Ao24 t223.length co24 : Value).ownBlock) (.slice Ao24 t223.length co24) t223 1 t236 t237 w _ ?side1 ?side2 A56.out).mono ?_); (case side1 => repeat (first | (with_reducible first | exact HB.out | apply below_alloc | apply pw_below_drewN | apply below_drew1 | refine below_set ?_ GE217.out | refine below_set ?_ GE227.out) | exact HB.out)); (case side2 => exact Kd.R_tight rfl HO_228002.out); rintro e w70 ⟨rfl, hy0, hb, hkp⟩; refine ⟨_, rfl, ?_⟩; have n0_ := Aside0.mk (Kd.R_mono (ok' := fun k_ => some k_ ≠ (.slice Ao24 t223.length co24 : Value).ownBlock) (Kd.R_keptB (HO_218002.out) hkp (fun k_ hk_ hs_ => (hk_) hs_)) (fun k_ hk_ => hk_.1)); have n1_ := Aside0.mk (Kd.R_reok rfl hy0 (fun k_ e_ => HO_228002.out.1 k_ e_)); have n2_ := Aside0.mk (blk_kept (by (with_reducible repeat (first | refine blk_drewN ?_ _ | refine blk_drew ?_ | refine blk_alloc ?_ _)); exact BK217.out) hkp (fun hs_ => (fun e_ => (Kd.R_ne HO_228002.out BK217.out (by decide)) e_) hs_)); have n3_ := Aside0.mk (blk_kept (by (with_reducible repeat (first | refine blk_drewN ?_ _ | refine blk_drew ?_ | refine blk_alloc ?_ _)); exact BK227.out) hkp (fun hs_ => (fun e_ => (Kd.R_ne HO_228002.out BK227.out (by decide)) e_) hs_)); have n4_ := Aside0.mk (hb); clear HO_218002; clear HO_228002; clear BK217; clear BK227; clear HB; have HO_218002 := n0_; have HO_228002 := n1_; have BK217 := n2_; have BK227 := n3_; have HB := n4_; clear n0_ n1_ n2_ n3_ n4_; (try clear hb); (try clear hkp); (try clear hy0); have hcz71_0 : w70.cell? ⟨gb227, 0, none⟩ = some (.int .i64 t221) := (blk_cell BK227.out 0).trans rfl; have hcz71_1 : w70.cell? ⟨gb227, 1, none⟩ = some (.int .i64 t222) := (blk_cell BK227.out 1).trans rfl; have hcz71_2 : w70.cell? ⟨gb227, 2, none⟩ = some (.slice Ao24 t223.length co24) := (blk_cell BK227.out 2).trans rfl; have hfz71_0 := blk_frozen BK227.out 0; have hfz71_1 := blk_frozen BK227.out 1; have hfz71_2 := blk_frozen BK227.out 2) | ((with_reducible refine gate_callee (f := 56) rfl ?_); refine goesL_ (some 79) rfl rfl Try.func56 (by kernel_rfl) rfl #[.agg #[.int .i64 t221, .int .i64 t222, .slice Ao24 t237.length co24], .int .i64 1] rfl (by (try simp only [List.map_toArray, List.map_cons, List.map_nil]); first | done | (rw [show t237.length = t223.length from (Kd.R_reads' HO_228002.out).1.symm] <;> rfl) | rfl | (simp only [List.length_drop, List.length_take]; rfl)) ?_; (with_reducible refine (laws_heldCounting.calls kj39 t221 t222 _ _ t237 1 t238 _ ?side1 ?side2 A57.out).mono ?_); (case side1 => repeat (first | exact (Kd.R_reads' HO_228002.out).2.2 | (with_reducible refine Kd.C_alloc ?_ _) | (with_reducible refine Kd.C_drewN ?_ _) | (with_reducible refine Kd.C_drew ?_))); (case side2 => rw [show t237.length = t223.length from (Kd.R_reads' HO_228002.out).1.symm]; exact (Kd.R_reads' HO_228002.out).2.1); rintro e w72 ⟨rfl, hb⟩; refine ⟨_, rfl, ?_⟩; have n0_ := Aside0.mk (Kd.R_below (by (with_reducible repeat (first | apply Kd.R_alloc | apply Kd.R_drewN | apply Kd.R_drew)); exact HO_218002.out) hb); have n1_ := Aside0.mk (Kd.R_below (by (with_reducible repeat (first | apply Kd.R_alloc | apply Kd.R_drewN | apply Kd.R_drew)); exact HO_228002.out) hb); have n2_ := Aside0.mk (blk_below (g := gb217) (o := .cells #[.int .i64 t211, .int .i64 t212, .slice Ao17 t213.length co17] 75 (0, 0)) (by (with_reducible repeat (first | refine blk_drewN ?_ _ | refine blk_drew ?_ | refine blk_alloc ?_ _)); exact BK217.out) hb); have n3_ := Aside0.mk (blk_below (g := gb227) (o := .cells #[.int .i64 t221, .int .i64 t222, .slice Ao24 t223.length co24] 75 (0, 0)) (by (with_reducible repeat (first | refine blk_drewN ?_ _ | refine blk_drew ?_ | refine blk_alloc ?_ _)); exact BK227.out) hb); have n4_ := Aside0.mk (below_step (by repeat (first | (with_reducible first | exact HB.out | apply below_alloc | apply pw_below_drewN | apply below_drew1 | refine below_set ?_ GE217.out | refine below_set ?_ GE227.out) | exact HB.out)) hb); clear HO_218002; clear HO_228002; clear BK217; clear BK227; clear HB; have HO_218002 := n0_; have HO_228002 := n1_; have BK217 := n2_; have BK227 := n3_; have HB := n4_; clear n0_ n1_ n2_ n3_ n4_; (try clear hb); (try clear hb2); (try clear hk); (try clear hi)) | ((with_reducible refine gate_callee (f := 59) rfl ?_); refine goesL_ (some 90) rfl rfl Try.func59 (by kernel_rfl) rfl #[.slice A3 l3.length c3] rfl (by (try simp only [List.map_toArray, List.map_cons, List.map_nil]); first | done | rfl | (simp only [List.length_drop, List.length_take]; rfl)) ?_; (with_reducible refine (laws_toStringS.calls kj39 _ _ l3 t239 _ ?side1 ?side2 A65.out).mono ?_); (case side1 => repeat (first | exact (Kd.C_below HR3.out HB.out) | (with_reducible refine Kd.C_alloc ?_ _) | (with_reducible refine Kd.C_drewN ?_ _) | (with_reducible refine Kd.C_drew ?_))); (case side2 => exact HC3.out); rintro e w73 ⟨v240, rfl, ho0, hb⟩; refine ⟨_, rfl, ?_⟩; have n0_ := Aside0.mk (Kd.R_below (by (with_reducible repeat (first | apply Kd.R_alloc | apply Kd.R_drewN | apply Kd.R_drew)); exact HO_218002.out) hb); have n1_ := Aside0.mk (Kd.R_below (by (with_reducible repeat (first | apply Kd.R_alloc | apply Kd.R_drewN | apply Kd.R_drew)); exact HO_228002.out) hb); have n2_ := Aside0.mk (Kd.R_lower ho0 (below_size (by repeat (first | (with_reducible first | exact HB.out | apply below_alloc | apply pw_below_drewN | apply below_drew1 | refine below_set ?_ GE217.out | refine below_set ?_ GE227.out) | exact HB.out)))); have n3_ := Aside0.mk (blk_below (g := gb217) (o := .cells #[.int .i64 t211, .int .i64 t212, .slice Ao17 t213.length co17] 75 (0, 0)) (by (with_reducible repeat (first | refine blk_drewN ?_ _ | refine blk_drew ?_ | refine blk_alloc ?_ _)); exact BK217.out) hb); have n4_ := Aside0.mk (blk_below (g := gb227) (o := .cells #[.int .i64 t221, .int .i64 t222, .slice Ao24 t223.length co24] 75 (0, 0)) (by (with_reducible repeat (first | refine blk_drewN ?_ _ | refine blk_drew ?_ | refine blk_alloc ?_ _)); exact BK227.out) hb); have n5_ := Aside0.mk (below_step (by repeat (first | (with_reducible first | exact HB.out | apply below_alloc | apply pw_below_drewN | apply below_drew1 | refine below_set ?_ GE217.out | refine below_set ?_ GE227.out) | exact HB.out)) hb); clear HO_218002; clear HO_228002; clear BK217; clear BK227; clear HB; have HO_218002 := n0_; have HO_228002 := n1_; have HO241 := n2_; have BK217 := n3_; have BK227 := n4_; have HB := n5_; clear n0_ n1_ n2_ n3_ n4_ n5_; (try clear hb); (try clear hb2); (try clear hk); (try clear hi); (try clear ho0); obtain ⟨Ao74, co74, eo74⟩ := Kd.R_slice HO241.out; subst eo74) | ((with_reducible refine gate_callee (f := 60) rfl ?_); refine goesL_ (some 91) rfl rfl Try.func60 (by kernel_rfl) rfl #[.int .i64 a0, .int .i64 a1, .int .i64 a2, .slice Ao74 t239.length co74] rfl (by (try simp only [List.map_toArray, List.map_cons, List.map_nil]); first | done | rfl | (simp only [List.length_drop, List.length_take]; rfl)) ?_; (with_reducible refine (impl_CountingOf.calls kj39 a0 a1 a2 _ _ t239 t242 t243 t244 t247 _ ?side1 ?side2 A66.out).mono ?_); (case side1 => repeat (first | exact (Kd.R_reads' HO241.out).2.2 | (with_reducible refine Kd.C_alloc ?_ _) | (with_reducible refine Kd.C_drewN ?_ _) | (with_reducible refine Kd.C_drew ?_))); (case side2 => exact (Kd.R_reads' HO241.out).2.1); rintro e w75 ⟨v245, rfl, ho0, hb⟩; refine ⟨_, rfl, ?_⟩; have n0_ := Aside0.mk (Kd.R_elder' (by (with_reducible repeat (first | apply Kd.R_alloc | apply Kd.R_drewN | apply Kd.R_drew)); exact HO_218002.out) (Kd.R_base ho0) hb); have n1_ := Aside0.mk (Kd.R_elder' (by (with_reducible repeat (first | apply Kd.R_alloc | apply Kd.R_drewN | apply Kd.R_drew)); exact HO_228002.out) (Kd.R_base ho0) hb); have n2_ := Aside0.mk (Kd.R_below (by (with_reducible repeat (first | apply Kd.R_alloc | apply Kd.R_drewN | apply Kd.R_drew)); exact HO241.out) hb); have n3_ := Aside0.mk (Kd.R_lower (Kd.R_new' (Kd.R_new' ho0 (Kd.R_lt (by (with_reducible repeat (first | apply Kd.R_alloc | apply Kd.R_drewN | apply Kd.R_drew)); exact HO_218002.out))) (Kd.R_lt (by (with_reducible repeat (first | apply Kd.R_alloc | apply Kd.R_drewN | apply Kd.R_drew)); exact HO_228002.out))) (below_size (by repeat (first | (with_reducible first | exact HB.out | apply below_alloc | apply pw_below_drewN | apply below_drew1 | refine below_set ?_ GE217.out | refine below_set ?_ GE227.out) | exact HB.out)))); have n4_ := Aside0.mk (blk_below (g := gb217) (o := .cells #[.int .i64 t211, .int .i64 t212, .slice Ao17 t213.length co17] 75 (0, 0)) (by (with_reducible repeat (first | refine blk_drewN ?_ _ | refine blk_drew ?_ | refine blk_alloc ?_ _)); exact BK217.out) hb); have n5_ := Aside0.mk (blk_below (g := gb227) (o := .cells #[.int .i64 t221, .int .i64 t222, .slice Ao24 t223.length co24] 75 (0, 0)) (by (with_reducible repeat (first | refine blk_drewN ?_ _ | refine blk_drew ?_ | refine blk_alloc ?_ _)); exact BK227.out) hb); have n6_ := Aside0.mk (below_step (by repeat (first | (with_reducible first | exact HB.out | apply below_alloc | apply pw_below_drewN | apply below_drew1 | refine below_set ?_ GE217.out | refine below_set ?_ GE227.out) | exact HB.out)) hb); clear HO_218002; clear HO_228002; clear HO241; clear BK217; clear BK227; clear HB; have HO_218002 := n0_; have HO_228002 := n1_; have HO241 := n2_; have HO246 := n3_; have BK217 := n4_; have BK227 := n5_; have HB := n6_; clear n0_ n1_ n2_ n3_ n4_ n5_ n6_; (try clear hb); (try clear hb2); (try clear hk); (try clear hi); (try clear ho0)) | ((with_reducible refine gate_dst (N := 18) rfl ?_); refine box_event ?hg (N := 18) ?hd (cs := #[.int .i64 0, .int .i64 0, .slice none 0 0]) (t := 75) ?hr ?_; (case hd => rfl); (case hg => rfl); (case hr => first | (go_simp; done) | (go_simp; rfl)); intro gb248 hg w76 hbox hb; have n0_ := Aside0.mk (Kd.R_below (by (with_reducible repeat (first | apply Kd.R_alloc | apply Kd.R_drewN | apply Kd.R_drew)); exact HO_218002.out) hb); have n1_ := Aside0.mk (Kd.R_below (by (with_reducible repeat (first | apply Kd.R_alloc | apply Kd.R_drewN | apply Kd.R_drew)); exact HO_228002.out) hb); have n2_ := Aside0.mk (Kd.R_below (by (with_reducible repeat (first | apply Kd.R_alloc | apply Kd.R_drewN | apply Kd.R_drew)); exact HO241.out) hb); have n3_ := Aside0.mk (Kd.R_below (by (with_reducible repeat (first | apply Kd.R_alloc | apply Kd.R_drewN | apply Kd.R_drew)); exact HO246.out) hb); have n4_ := Aside0.mk (blk_below (g := gb217) (o := .cells #[.int .i64 t211, .int .i64 t212, .slice Ao17 t213.length co17] 75 (0, 0)) (by (with_reducible repeat (first | refine blk_drewN ?_ _ | refine blk_drew ?_ | refine blk_alloc ?_ _)); exact BK217.out) hb); have n5_ := Aside0.mk (blk_below (g := gb227) (o := .cells #[.int .i64 t221, .int .i64 t222, .slice Ao24 t223.length co24] 75 (0, 0)) (by (with_reducible repeat (first | refine blk_drewN ?_ _ | refine blk_drew ?_ | refine blk_alloc ?_ _)); exact BK227.out) hb); have n6_ := Aside0.mk (below_step (by repeat (first | (with_reducible first | exact HB.out | apply below_alloc | apply pw_below_drewN | apply below_drew1 | refine below_set ?_ GE217.out | refine below_set ?_ GE227.out) | exact HB.out)) hb); have n7_ := Aside0.mk (hbox); have n8_ := Aside0.mk ((by rw [hg]; exact (below_size (by repeat (first | (with_reducible first | exact HB.out | apply below_alloc | apply pw_below_drewN | apply below_drew1 | refine below_set ?_ GE217.out | refine below_set ?_ GE227.out) | exact HB.out))) : w.heap.size ≤ gb248)); have n9_ := Aside0.mk ((by rw [hg]; exact (below_size (by repeat (first | (with_reducible first | exact HB.out | apply below_alloc | apply pw_below_drewN | apply below_drew1 | refine below_set ?_ GE217.out | refine below_set ?_ GE227.out) | exact HB.out))) : w.heap.size ≤ gb248)); have n10_ := Aside0.mk ((by rw [hg]; exact Nat.ne_of_lt (blk_lt (g := gb217) (o := .cells #[.int .i64 t211, .int .i64 t212, .slice Ao17 t213.length co17] 75 (0, 0)) (by (with_reducible repeat (first | refine blk_drewN ?_ _ | refine blk_drew ?_ | refine blk_alloc ?_ _)); exact BK217.out)) : gb217 ≠ gb248)); have n11_ := Aside0.mk ((by rw [hg]; exact Nat.ne_of_gt (blk_lt (g := gb217) (o := .cells #[.int .i64 t211, .int .i64 t212, .slice Ao17 t213.length co17] 75 (0, 0)) (by (with_reducible repeat (first | refine blk_drewN ?_ _ | refine blk_drew ?_ | refine blk_alloc ?_ _)); exact BK217.out)) : gb248 ≠ gb217)); have n12_ := Aside0.mk ((by rw [hg]; exact Nat.ne_of_lt (blk_lt (g := gb227) (o := .cells #[.int .i64 t221, .int .i64 t222, .slice Ao24 t223.length co24] 75 (0, 0)) (by (with_reducible repeat (first | refine blk_drewN ?_ _ | refine blk_drew ?_ | refine blk_alloc ?_ _)); exact BK227.out)) : gb227 ≠ gb248)); have n13_ := Aside0.mk ((by rw [hg]; exact Nat.ne_of_gt (blk_lt (g := gb227) (o := .cells #[.int .i64 t221, .int .i64 t222, .slice Ao24 t223.length co24] 75 (0, 0)) (by (with_reducible repeat (first | refine blk_drewN ?_ _ | refine blk_drew ?_ | refine blk_alloc ?_ _)); exact BK227.out)) : gb248 ≠ gb227)); clear HO_218002; clear HO_228002; clear HO241; clear HO246; clear BK217; clear BK227; clear HB; have HO_218002 := n0_; have HO_228002 := n1_; have HO241 := n2_; have HO246 := n3_; have BK217 := n4_; have BK227 := n5_; have HB := n6_; have BK248 := n7_; have GW248 := n8_; have GE248 := n9_; have NB217_248 := n10_; have NB248_217 := n11_; have NB227_248 := n12_; have NB248_227 := n13_; clear n0_ n1_ n2_ n3_ n4_ n5_ n6_ n7_ n8_ n9_ n10_ n11_ n12_ n13_; clear hb hbox hg; have hnb77 := NB248_217.out; have hnc77 := NB217_248.out; have hnb78 := NB248_227.out; have hnc78 := NB227_248.out; have hcz79_0 : w76.cell? ⟨gb248, 0, none⟩ = some (.int .i64 0) := (blk_cell BK248.out 0).trans rfl; have hcz79_1 : w76.cell? ⟨gb248, 1, none⟩ = some (.int .i64 0) := (blk_cell BK248.out 1).trans rfl; have hcz79_2 : w76.cell? ⟨gb248, 2, none⟩ = some (.slice none 0 0) := (blk_cell BK248.out 2).trans rfl; have hfz79_0 := blk_frozen BK248.out 0; have hfz79_1 := blk_frozen BK248.out 1; have hfz79_2 := blk_frozen BK248.out 2; obtain ⟨Ao80, co80, eo80⟩ := Kd.R_slice HO246.out; subst eo80))
                      (try simp only [Act.put, List.setIfInBounds_toArray, List.set_cons_zero, List.set_cons_succ])
                      go_cut [102] (fun v102 wc => ∃ (kq : Nat) (x102_66 : Bool), v102 = .bool x102_66 ∧ Aside0 (laws_FnExactCountingOf.j2 kq t236 x102_66 t221 t222 t237 = some r) ∧ Aside0 (kq ≤ kj39) ∧ Aside0 (Kd.R (Kd.int .i64) 3 wc w.heap.size (fun k_ => some k_ ≠ ((.slice Ao24 t223.length co24) : Value).ownBlock ∧ some k_ ≠ ((.slice Ao80 t244.length co80) : Value).ownBlock) (.slice Ao17 t213.length co17) t213) ∧ Aside0 (Kd.R (Kd.int .i64) 3 wc w.heap.size (fun k_ => some k_ ≠ ((.slice Ao17 t213.length co17) : Value).ownBlock ∧ some k_ ≠ ((.slice Ao80 t244.length co80) : Value).ownBlock) (.slice Ao24 t223.length co24) t237) ∧ Aside0 (Kd.R (Kd.int .i64) 3 wc w.heap.size (fun k_ => some k_ ≠ ((.slice Ao17 t213.length co17) : Value).ownBlock ∧ some k_ ≠ ((.slice Ao24 t223.length co24) : Value).ownBlock) (.slice Ao80 t244.length co80) t244) ∧ Aside0 (wc.heap[gb217]? = some (.cells #[.int .i64 t211, .int .i64 t212, (.slice Ao17 t213.length co17)] 75 (0, 0))) ∧ Aside0 (wc.heap[gb227]? = some (.cells #[.int .i64 t221, .int .i64 t222, (.slice Ao24 t223.length co24)] 75 (0, 0))) ∧ Aside0 (wc.heap[gb248]? = some (.cells #[.int .i64 t242, .int .i64 t243, (.slice Ao80 t244.length co80)] 75 (0, 0))) ∧ Aside0 (Below w.heap.size w wc))
                      case first =>
                        have H := HC67.out
                        clear HC67
                        replace H := Option.bind_eq_some_iff.mp H
                        obtain ⟨t249, A810, H⟩ := H
                        replace H : (if t249 = true then (laws_FnExactCountingOf.j2 kj39 t236 (t247 != t216) t221 t222 t237) else (laws_FnExactCountingOf.j2 kj39 t236 true t221 t222 t237)) = some r := H
                        have A81 := Aside0.mk A810
                        clear A810
                        by_cases c82 : t249 = true
                        · subst c82
                          have H1 : (laws_FnExactCountingOf.j2 kj39 t236 (t247 != t216) t221 t222 t237) = some r := by rw [if_pos rfl] at H; exact H
                          clear H
                          have H := H1
                          clear H1
                          have H' := Aside0.mk H
                          clear H
                          have hnb83 := NB248_217.out
                          have hnc83 := NB217_248.out
                          have hnb84 := NB248_227.out
                          have hnc84 := NB227_248.out
                          have hcz85_0 : w76.cell? ⟨gb248, 0, none⟩ = some (.int .i64 0) := (blk_cell BK248.out 0).trans rfl
                          have hcz85_1 : w76.cell? ⟨gb248, 1, none⟩ = some (.int .i64 0) := (blk_cell BK248.out 1).trans rfl
                          have hcz85_2 : w76.cell? ⟨gb248, 2, none⟩ = some (.slice none 0 0) := (blk_cell BK248.out 2).trans rfl
                          have hfz85_0 := blk_frozen BK248.out 0
                          have hfz85_1 := blk_frozen BK248.out 1
                          have hfz85_2 := blk_frozen BK248.out 2
                          have hnb86 := NB217_227.out
                          have hnc86 := NB227_217.out
                          have hcz87_0 : w76.cell? ⟨gb217, 0, none⟩ = some (.int .i64 t211) := (blk_cell BK217.out 0).trans rfl
                          have hcz87_1 : w76.cell? ⟨gb217, 1, none⟩ = some (.int .i64 t212) := (blk_cell BK217.out 1).trans rfl
                          have hcz87_2 : w76.cell? ⟨gb217, 2, none⟩ = some (.slice Ao17 t213.length co17) := (blk_cell BK217.out 2).trans rfl
                          have hfz87_0 := blk_frozen BK217.out 0
                          have hfz87_1 := blk_frozen BK217.out 1
                          have hfz87_2 := blk_frozen BK217.out 2
                          go_wp2_with (first | ((with_reducible refine gate_callee (f := 48) rfl ?_); refine goesL_ (some 96) rfl rfl Try.func48 (by kernel_rfl) rfl #[.agg #[.int .i64 t242, .int .i64 t243, .slice Ao80 t244.length co80], .agg #[.int .i64 t211, .int .i64 t212, .slice Ao17 t213.length co17]] rfl (by (try simp only [List.map_toArray, List.map_cons, List.map_nil]); first | done | rfl | (simp only [List.length_drop, List.length_take]; rfl)) ?_; (with_reducible refine (laws_eqCounting.calls kj39 t242 t243 _ _ t244 t211 t212 _ _ t213 true _ ?side1 ?side2 ?side3 ?side4 A81.out).mono ?_); (case side1 => refine (Kd.R_reads' (e := 3) (base := w.heap.size) (ok := fun k_ => ((True ∧ some k_ ≠ (.slice Ao17 t213.length co17 : Value).ownBlock) ∧ some k_ ≠ (.slice Ao24 t223.length co24 : Value).ownBlock)) (n := t244.length) (c := co80) ?_).2.2; exact (by (with_reducible repeat (first | apply Kd.R_alloc | apply Kd.R_drewN | apply Kd.R_drew)); exact (Kd.R_mono (Kd.R_far (p := ⟨gb248, 2, none⟩) (Kd.R_far (p := ⟨gb248, 1, none⟩) (Kd.R_far (p := ⟨gb248, 0, none⟩) (Kd.R_types HO246.out BK248.out (by decide)) (fun _ hk => hk.2) (.int .i64 t242)) (fun _ hk => hk.2) (.int .i64 t243)) (fun _ hk => hk.2) (.slice Ao80 t244.length co80)) (fun _ h_ => h_.1)))); (case side2 => exact (Kd.R_reads' HO246.out).2.1); (case side3 => refine (Kd.R_reads' (e := 3) (base := w.heap.size) (ok := fun k_ => (some k_ ≠ (.slice Ao24 t223.length co24 : Value).ownBlock ∧ some k_ ≠ (.slice Ao80 t244.length co80 : Value).ownBlock)) (n := t213.length) (c := co17) ?_).2.2; exact (by (with_reducible repeat (first | apply Kd.R_alloc | apply Kd.R_drewN | apply Kd.R_drew)); exact (Kd.R_mono (Kd.R_far (p := ⟨gb248, 2, none⟩) (Kd.R_far (p := ⟨gb248, 1, none⟩) (Kd.R_far (p := ⟨gb248, 0, none⟩) (Kd.R_types HO_218002.out BK248.out (by decide)) (fun _ hk => hk.2) (.int .i64 t242)) (fun _ hk => hk.2) (.int .i64 t243)) (fun _ hk => hk.2) (.slice Ao80 t244.length co80)) (fun _ h_ => h_.1)))); (case side4 => exact (Kd.R_reads' HO_218002.out).2.1); rintro e w88 ⟨rfl, hb⟩; refine ⟨_, rfl, ?_⟩; have n0_ := Aside0.mk (Kd.R_below (by (with_reducible repeat (first | apply Kd.R_alloc | apply Kd.R_drewN | apply Kd.R_drew)); exact (Kd.R_mono (Kd.R_far (p := ⟨gb248, 2, none⟩) (Kd.R_far (p := ⟨gb248, 1, none⟩) (Kd.R_far (p := ⟨gb248, 0, none⟩) (Kd.R_types HO_218002.out BK248.out (by decide)) (fun _ hk => hk.2) (.int .i64 t242)) (fun _ hk => hk.2) (.int .i64 t243)) (fun _ hk => hk.2) (.slice Ao80 t244.length co80)) (fun _ h_ => h_.1))) hb); have n1_ := Aside0.mk (Kd.R_below (by (with_reducible repeat (first | apply Kd.R_alloc | apply Kd.R_drewN | apply Kd.R_drew)); exact (Kd.R_mono (Kd.R_far (p := ⟨gb248, 2, none⟩) (Kd.R_far (p := ⟨gb248, 1, none⟩) (Kd.R_far (p := ⟨gb248, 0, none⟩) (Kd.R_types HO_228002.out BK248.out (by decide)) (fun _ hk => hk.2) (.int .i64 t242)) (fun _ hk => hk.2) (.int .i64 t243)) (fun _ hk => hk.2) (.slice Ao80 t244.length co80)) (fun _ h_ => h_.1))) hb); have n2_ := Aside0.mk (Kd.R_below (by (with_reducible repeat (first | apply Kd.R_alloc | apply Kd.R_drewN | apply Kd.R_drew)); exact (Kd.R_mono (Kd.R_far (p := ⟨gb248, 2, none⟩) (Kd.R_far (p := ⟨gb248, 1, none⟩) (Kd.R_far (p := ⟨gb248, 0, none⟩) (Kd.R_types HO241.out BK248.out (by decide)) (fun _ hk => hk.2) (.int .i64 t242)) (fun _ hk => hk.2) (.int .i64 t243)) (fun _ hk => hk.2) (.slice Ao80 t244.length co80)) (fun _ h_ => h_.1))) hb); have n3_ := Aside0.mk (Kd.R_below (by (with_reducible repeat (first | apply Kd.R_alloc | apply Kd.R_drewN | apply Kd.R_drew)); exact (Kd.R_mono (Kd.R_far (p := ⟨gb248, 2, none⟩) (Kd.R_far (p := ⟨gb248, 1, none⟩) (Kd.R_far (p := ⟨gb248, 0, none⟩) (Kd.R_types HO246.out BK248.out (by decide)) (fun _ hk => hk.2) (.int .i64 t242)) (fun _ hk => hk.2) (.int .i64 t243)) (fun _ hk => hk.2) (.slice Ao80 t244.length co80)) (fun _ h_ => h_.1))) hb); have n4_ := Aside0.mk (blk_below (g := gb217) (o := .cells #[.int .i64 t211, .int .i64 t212, .slice Ao17 t213.length co17] 75 (0, 0)) (by (with_reducible repeat (first | refine blk_drewN ?_ _ | refine blk_drew ?_ | refine blk_alloc ?_ _)); refine blk_far ?_ NB217_248.out _; (with_reducible repeat (first | refine blk_drewN ?_ _ | refine blk_drew ?_ | refine blk_alloc ?_ _)); refine blk_far ?_ NB217_248.out _; (with_reducible repeat (first | refine blk_drewN ?_ _ | refine blk_drew ?_ | refine blk_alloc ?_ _)); refine blk_far ?_ NB217_248.out _; (with_reducible repeat (first | refine blk_drewN ?_ _ | refine blk_drew ?_ | refine blk_alloc ?_ _)); exact BK217.out) hb); have n5_ := Aside0.mk (blk_below (g := gb227) (o := .cells #[.int .i64 t221, .int .i64 t222, .slice Ao24 t223.length co24] 75 (0, 0)) (by (with_reducible repeat (first | refine blk_drewN ?_ _ | refine blk_drew ?_ | refine blk_alloc ?_ _)); refine blk_far ?_ NB227_248.out _; (with_reducible repeat (first | refine blk_drewN ?_ _ | refine blk_drew ?_ | refine blk_alloc ?_ _)); refine blk_far ?_ NB227_248.out _; (with_reducible repeat (first | refine blk_drewN ?_ _ | refine blk_drew ?_ | refine blk_alloc ?_ _)); refine blk_far ?_ NB227_248.out _; (with_reducible repeat (first | refine blk_drewN ?_ _ | refine blk_drew ?_ | refine blk_alloc ?_ _)); exact BK227.out) hb); have n6_ := Aside0.mk (blk_below (g := gb248) (o := .cells #[.int .i64 t242, .int .i64 t243, .slice Ao80 t244.length co80] 75 (0, 0)) (by (with_reducible repeat (first | refine blk_drewN ?_ _ | refine blk_drew ?_ | refine blk_alloc ?_ _)); refine blk_put (cs := #[.int .i64 t242, .int .i64 t243, .slice none 0 0]) ?_ 2 _ rfl; (with_reducible repeat (first | refine blk_drewN ?_ _ | refine blk_drew ?_ | refine blk_alloc ?_ _)); refine blk_put (cs := #[.int .i64 t242, .int .i64 0, .slice none 0 0]) ?_ 1 _ rfl; (with_reducible repeat (first | refine blk_drewN ?_ _ | refine blk_drew ?_ | refine blk_alloc ?_ _)); refine blk_put (cs := #[.int .i64 0, .int .i64 0, .slice none 0 0]) ?_ 0 _ rfl; (with_reducible repeat (first | refine blk_drewN ?_ _ | refine blk_drew ?_ | refine blk_alloc ?_ _)); exact BK248.out) hb); have n7_ := Aside0.mk (below_step (by repeat (first | (with_reducible first | exact HB.out | apply below_alloc | apply pw_below_drewN | apply below_drew1 | refine below_set ?_ GE217.out | refine below_set ?_ GE227.out | refine below_set ?_ GE248.out) | exact HB.out)) hb); clear HO_218002; clear HO_228002; clear HO241; clear HO246; clear BK217; clear BK227; clear BK248; clear HB; have HO_218002 := n0_; have HO_228002 := n1_; have HO241 := n2_; have HO246 := n3_; have BK217 := n4_; have BK227 := n5_; have BK248 := n6_; have HB := n7_; clear n0_ n1_ n2_ n3_ n4_ n5_ n6_ n7_; (try clear hb); (try clear hb2); (try clear hk); (try clear hi)))
                          go_meet
                          case rel => exact ⟨_, ((t247 != t216)), (by first | rfl | (simp; done) | (simp [*]; done)), H', ⟨by have := HJ10.out; have := HJ39.out; first | omega | exact Nat.le_refl _⟩, ⟨by (with_reducible repeat (first | apply Kd.R_alloc | apply Kd.R_drewN | apply Kd.R_drew)); exact HO_218002.out⟩, ⟨by (with_reducible repeat (first | apply Kd.R_alloc | apply Kd.R_drewN | apply Kd.R_drew)); exact HO_228002.out⟩, ⟨by (with_reducible repeat (first | apply Kd.R_alloc | apply Kd.R_drewN | apply Kd.R_drew)); exact Kd.R_mono HO246.out (fun _ hk => ⟨hk.1.2, hk.2⟩)⟩, ⟨by (with_reducible repeat (first | refine blk_drewN ?_ _ | refine blk_drew ?_ | refine blk_alloc ?_ _)); exact BK217.out⟩, ⟨by (with_reducible repeat (first | refine blk_drewN ?_ _ | refine blk_drew ?_ | refine blk_alloc ?_ _)); exact BK227.out⟩, ⟨by (with_reducible repeat (first | refine blk_drewN ?_ _ | refine blk_drew ?_ | refine blk_alloc ?_ _)); exact BK248.out⟩, ⟨by repeat (first | (with_reducible first | exact HB.out | apply below_alloc | apply pw_below_drewN | apply below_drew1 | refine below_set ?_ GE217.out | refine below_set ?_ GE227.out | refine below_set ?_ GE248.out) | exact HB.out)⟩⟩
                        · replace c82 := Bool.eq_false_iff.mpr c82
                          subst c82
                          have H1 : (laws_FnExactCountingOf.j2 kj39 t236 true t221 t222 t237) = some r := by rw [if_neg (show ¬ (false = true) by decide)] at H; exact H
                          clear H
                          have H := H1
                          clear H1
                          have H' := Aside0.mk H
                          clear H
                          have hnb89 := NB248_217.out
                          have hnc89 := NB217_248.out
                          have hnb90 := NB248_227.out
                          have hnc90 := NB227_248.out
                          have hcz91_0 : w76.cell? ⟨gb248, 0, none⟩ = some (.int .i64 0) := (blk_cell BK248.out 0).trans rfl
                          have hcz91_1 : w76.cell? ⟨gb248, 1, none⟩ = some (.int .i64 0) := (blk_cell BK248.out 1).trans rfl
                          have hcz91_2 : w76.cell? ⟨gb248, 2, none⟩ = some (.slice none 0 0) := (blk_cell BK248.out 2).trans rfl
                          have hfz91_0 := blk_frozen BK248.out 0
                          have hfz91_1 := blk_frozen BK248.out 1
                          have hfz91_2 := blk_frozen BK248.out 2
                          have hnb92 := NB217_227.out
                          have hnc92 := NB227_217.out
                          have hcz93_0 : w76.cell? ⟨gb217, 0, none⟩ = some (.int .i64 t211) := (blk_cell BK217.out 0).trans rfl
                          have hcz93_1 : w76.cell? ⟨gb217, 1, none⟩ = some (.int .i64 t212) := (blk_cell BK217.out 1).trans rfl
                          have hcz93_2 : w76.cell? ⟨gb217, 2, none⟩ = some (.slice Ao17 t213.length co17) := (blk_cell BK217.out 2).trans rfl
                          have hfz93_0 := blk_frozen BK217.out 0
                          have hfz93_1 := blk_frozen BK217.out 1
                          have hfz93_2 := blk_frozen BK217.out 2
                          go_wp2_with (first | ((with_reducible refine gate_callee (f := 48) rfl ?_); refine goesL_ (some 96) rfl rfl Try.func48 (by kernel_rfl) rfl #[.agg #[.int .i64 t242, .int .i64 t243, .slice Ao80 t244.length co80], .agg #[.int .i64 t211, .int .i64 t212, .slice Ao17 t213.length co17]] rfl (by (try simp only [List.map_toArray, List.map_cons, List.map_nil]); first | done | rfl | (simp only [List.length_drop, List.length_take]; rfl)) ?_; (with_reducible refine (laws_eqCounting.calls kj39 t242 t243 _ _ t244 t211 t212 _ _ t213 false _ ?side1 ?side2 ?side3 ?side4 A81.out).mono ?_); (case side1 => refine (Kd.R_reads' (e := 3) (base := w.heap.size) (ok := fun k_ => ((True ∧ some k_ ≠ (.slice Ao17 t213.length co17 : Value).ownBlock) ∧ some k_ ≠ (.slice Ao24 t223.length co24 : Value).ownBlock)) (n := t244.length) (c := co80) ?_).2.2; exact (by (with_reducible repeat (first | apply Kd.R_alloc | apply Kd.R_drewN | apply Kd.R_drew)); exact (Kd.R_mono (Kd.R_far (p := ⟨gb248, 2, none⟩) (Kd.R_far (p := ⟨gb248, 1, none⟩) (Kd.R_far (p := ⟨gb248, 0, none⟩) (Kd.R_types HO246.out BK248.out (by decide)) (fun _ hk => hk.2) (.int .i64 t242)) (fun _ hk => hk.2) (.int .i64 t243)) (fun _ hk => hk.2) (.slice Ao80 t244.length co80)) (fun _ h_ => h_.1)))); (case side2 => exact (Kd.R_reads' HO246.out).2.1); (case side3 => refine (Kd.R_reads' (e := 3) (base := w.heap.size) (ok := fun k_ => (some k_ ≠ (.slice Ao24 t223.length co24 : Value).ownBlock ∧ some k_ ≠ (.slice Ao80 t244.length co80 : Value).ownBlock)) (n := t213.length) (c := co17) ?_).2.2; exact (by (with_reducible repeat (first | apply Kd.R_alloc | apply Kd.R_drewN | apply Kd.R_drew)); exact (Kd.R_mono (Kd.R_far (p := ⟨gb248, 2, none⟩) (Kd.R_far (p := ⟨gb248, 1, none⟩) (Kd.R_far (p := ⟨gb248, 0, none⟩) (Kd.R_types HO_218002.out BK248.out (by decide)) (fun _ hk => hk.2) (.int .i64 t242)) (fun _ hk => hk.2) (.int .i64 t243)) (fun _ hk => hk.2) (.slice Ao80 t244.length co80)) (fun _ h_ => h_.1)))); (case side4 => exact (Kd.R_reads' HO_218002.out).2.1); rintro e w94 ⟨rfl, hb⟩; refine ⟨_, rfl, ?_⟩; have n0_ := Aside0.mk (Kd.R_below (by (with_reducible repeat (first | apply Kd.R_alloc | apply Kd.R_drewN | apply Kd.R_drew)); exact (Kd.R_mono (Kd.R_far (p := ⟨gb248, 2, none⟩) (Kd.R_far (p := ⟨gb248, 1, none⟩) (Kd.R_far (p := ⟨gb248, 0, none⟩) (Kd.R_types HO_218002.out BK248.out (by decide)) (fun _ hk => hk.2) (.int .i64 t242)) (fun _ hk => hk.2) (.int .i64 t243)) (fun _ hk => hk.2) (.slice Ao80 t244.length co80)) (fun _ h_ => h_.1))) hb); have n1_ := Aside0.mk (Kd.R_below (by (with_reducible repeat (first | apply Kd.R_alloc | apply Kd.R_drewN | apply Kd.R_drew)); exact (Kd.R_mono (Kd.R_far (p := ⟨gb248, 2, none⟩) (Kd.R_far (p := ⟨gb248, 1, none⟩) (Kd.R_far (p := ⟨gb248, 0, none⟩) (Kd.R_types HO_228002.out BK248.out (by decide)) (fun _ hk => hk.2) (.int .i64 t242)) (fun _ hk => hk.2) (.int .i64 t243)) (fun _ hk => hk.2) (.slice Ao80 t244.length co80)) (fun _ h_ => h_.1))) hb); have n2_ := Aside0.mk (Kd.R_below (by (with_reducible repeat (first | apply Kd.R_alloc | apply Kd.R_drewN | apply Kd.R_drew)); exact (Kd.R_mono (Kd.R_far (p := ⟨gb248, 2, none⟩) (Kd.R_far (p := ⟨gb248, 1, none⟩) (Kd.R_far (p := ⟨gb248, 0, none⟩) (Kd.R_types HO241.out BK248.out (by decide)) (fun _ hk => hk.2) (.int .i64 t242)) (fun _ hk => hk.2) (.int .i64 t243)) (fun _ hk => hk.2) (.slice Ao80 t244.length co80)) (fun _ h_ => h_.1))) hb); have n3_ := Aside0.mk (Kd.R_below (by (with_reducible repeat (first | apply Kd.R_alloc | apply Kd.R_drewN | apply Kd.R_drew)); exact (Kd.R_mono (Kd.R_far (p := ⟨gb248, 2, none⟩) (Kd.R_far (p := ⟨gb248, 1, none⟩) (Kd.R_far (p := ⟨gb248, 0, none⟩) (Kd.R_types HO246.out BK248.out (by decide)) (fun _ hk => hk.2) (.int .i64 t242)) (fun _ hk => hk.2) (.int .i64 t243)) (fun _ hk => hk.2) (.slice Ao80 t244.length co80)) (fun _ h_ => h_.1))) hb); have n4_ := Aside0.mk (blk_below (g := gb217) (o := .cells #[.int .i64 t211, .int .i64 t212, .slice Ao17 t213.length co17] 75 (0, 0)) (by (with_reducible repeat (first | refine blk_drewN ?_ _ | refine blk_drew ?_ | refine blk_alloc ?_ _)); refine blk_far ?_ NB217_248.out _; (with_reducible repeat (first | refine blk_drewN ?_ _ | refine blk_drew ?_ | refine blk_alloc ?_ _)); refine blk_far ?_ NB217_248.out _; (with_reducible repeat (first | refine blk_drewN ?_ _ | refine blk_drew ?_ | refine blk_alloc ?_ _)); refine blk_far ?_ NB217_248.out _; (with_reducible repeat (first | refine blk_drewN ?_ _ | refine blk_drew ?_ | refine blk_alloc ?_ _)); exact BK217.out) hb); have n5_ := Aside0.mk (blk_below (g := gb227) (o := .cells #[.int .i64 t221, .int .i64 t222, .slice Ao24 t223.length co24] 75 (0, 0)) (by (with_reducible repeat (first | refine blk_drewN ?_ _ | refine blk_drew ?_ | refine blk_alloc ?_ _)); refine blk_far ?_ NB227_248.out _; (with_reducible repeat (first | refine blk_drewN ?_ _ | refine blk_drew ?_ | refine blk_alloc ?_ _)); refine blk_far ?_ NB227_248.out _; (with_reducible repeat (first | refine blk_drewN ?_ _ | refine blk_drew ?_ | refine blk_alloc ?_ _)); refine blk_far ?_ NB227_248.out _; (with_reducible repeat (first | refine blk_drewN ?_ _ | refine blk_drew ?_ | refine blk_alloc ?_ _)); exact BK227.out) hb); have n6_ := Aside0.mk (blk_below (g := gb248) (o := .cells #[.int .i64 t242, .int .i64 t243, .slice Ao80 t244.length co80] 75 (0, 0)) (by (with_reducible repeat (first | refine blk_drewN ?_ _ | refine blk_drew ?_ | refine blk_alloc ?_ _)); refine blk_put (cs := #[.int .i64 t242, .int .i64 t243, .slice none 0 0]) ?_ 2 _ rfl; (with_reducible repeat (first | refine blk_drewN ?_ _ | refine blk_drew ?_ | refine blk_alloc ?_ _)); refine blk_put (cs := #[.int .i64 t242, .int .i64 0, .slice none 0 0]) ?_ 1 _ rfl; (with_reducible repeat (first | refine blk_drewN ?_ _ | refine blk_drew ?_ | refine blk_alloc ?_ _)); refine blk_put (cs := #[.int .i64 0, .int .i64 0, .slice none 0 0]) ?_ 0 _ rfl; (with_reducible repeat (first | refine blk_drewN ?_ _ | refine blk_drew ?_ | refine blk_alloc ?_ _)); exact BK248.out) hb); have n7_ := Aside0.mk (below_step (by repeat (first | (with_reducible first | exact HB.out | apply below_alloc | apply pw_below_drewN | apply below_drew1 | refine below_set ?_ GE217.out | refine below_set ?_ GE227.out | refine below_set ?_ GE248.out) | exact HB.out)) hb); clear HO_218002; clear HO_228002; clear HO241; clear HO246; clear BK217; clear BK227; clear BK248; clear HB; have HO_218002 := n0_; have HO_228002 := n1_; have HO241 := n2_; have HO246 := n3_; have BK217 := n4_; have BK227 := n5_; have BK248 := n6_; have HB := n7_; clear n0_ n1_ n2_ n3_ n4_ n5_ n6_ n7_; (try clear hb); (try clear hb2); (try clear hk); (try clear hi)))
                          go_meet
                          case rel => exact ⟨_, (true), (by first | rfl | (simp; done) | (simp [*]; done)), H', ⟨by have := HJ10.out; have := HJ39.out; first | omega | exact Nat.le_refl _⟩, ⟨by (with_reducible repeat (first | apply Kd.R_alloc | apply Kd.R_drewN | apply Kd.R_drew)); exact HO_218002.out⟩, ⟨by (with_reducible repeat (first | apply Kd.R_alloc | apply Kd.R_drewN | apply Kd.R_drew)); exact HO_228002.out⟩, ⟨by (with_reducible repeat (first | apply Kd.R_alloc | apply Kd.R_drewN | apply Kd.R_drew)); exact Kd.R_mono HO246.out (fun _ hk => ⟨hk.1.2, hk.2⟩)⟩, ⟨by (with_reducible repeat (first | refine blk_drewN ?_ _ | refine blk_drew ?_ | refine blk_alloc ?_ _)); exact BK217.out⟩, ⟨by (with_reducible repeat (first | refine blk_drewN ?_ _ | refine blk_drew ?_ | refine blk_alloc ?_ _)); exact BK227.out⟩, ⟨by (with_reducible repeat (first | refine blk_drewN ?_ _ | refine blk_drew ?_ | refine blk_alloc ?_ _)); exact BK248.out⟩, ⟨by repeat (first | (with_reducible first | exact HB.out | apply below_alloc | apply pw_below_drewN | apply below_drew1 | refine below_set ?_ GE217.out | refine below_set ?_ GE227.out | refine below_set ?_ GE248.out) | exact HB.out)⟩⟩
                      case rest =>
                        clear HC67
                        try clear c1
                        try clear c2
                        try clear p2
                        try clear c3
                        try clear c4
                        try clear c5
                        try clear c6
                        try clear c6b0
                        try clear c7
                        try clear c8
                        try clear c9
                        try clear c13
                        try clear c22
                        try clear c26
                        try clear c27
                        try clear c31
                        try clear c35
                        try clear c38
                        try clear c44
                        try clear c44b0
                        try clear c46
                        try clear c47
                        try clear c48
                        try clear c49
                        try clear c51
                        try clear c55
                        try clear c56
                        try clear c57
                        try clear c58
                        try clear c58b0
                        try clear c59
                        try clear c60
                        try clear c61
                        try clear c62
                        try clear c64
                        try clear c64b0
                        try clear c64b1
                        try clear c68
                        try clear c77
                        try clear c78
                        try clear c82
                        try clear c83
                        try clear c84
                        try clear c86
                        try clear c89
                        try clear c90
                        try clear c92
                        try clear hcz16_0
                        try clear hcz16_1
                        try clear hcz16_2
                        try clear hcz23_0
                        try clear hcz23_1
                        try clear hcz23_2
                        try clear hcz28_0
                        try clear hcz28_1
                        try clear hcz28_2
                        try clear hcz29_0
                        try clear hcz29_1
                        try clear hcz29_2
                        try clear hcz32_0
                        try clear hcz32_1
                        try clear hcz32_2
                        try clear hcz33_0
                        try clear hcz33_1
                        try clear hcz33_2
                        try clear hcz48_0
                        try clear hcz48_1
                        try clear hcz48_2
                        try clear hcz49_0
                        try clear hcz49_1
                        try clear hcz49_2
                        try clear hcz52_0
                        try clear hcz52_1
                        try clear hcz52_2
                        try clear hcz53_0
                        try clear hcz53_1
                        try clear hcz53_2
                        try clear hcz60_0
                        try clear hcz60_1
                        try clear hcz60_2
                        try clear hcz62_0
                        try clear hcz62_1
                        try clear hcz62_2
                        try clear hcz69_0
                        try clear hcz69_1
                        try clear hcz69_2
                        try clear hcz71_0
                        try clear hcz71_1
                        try clear hcz71_2
                        try clear hcz79_0
                        try clear hcz79_1
                        try clear hcz79_2
                        try clear hcz85_0
                        try clear hcz85_1
                        try clear hcz85_2
                        try clear hcz87_0
                        try clear hcz87_1
                        try clear hcz87_2
                        try clear hcz91_0
                        try clear hcz91_1
                        try clear hcz91_2
                        try clear hcz93_0
                        try clear hcz93_1
                        try clear hcz93_2
                        try clear hfz16_0
                        try clear hfz16_1
                        try clear hfz16_2
                        try clear hfz23_0
                        try clear hfz23_1
                        try clear hfz23_2
                        try clear hfz28_0
                        try clear hfz28_1
                        try clear hfz28_2
                        try clear hfz29_0
                        try clear hfz29_1
                        try clear hfz29_2
                        try clear hfz32_0
                        try clear hfz32_1
                        try clear hfz32_2
                        try clear hfz33_0
                        try clear hfz33_1
                        try clear hfz33_2
                        try clear hfz48_0
                        try clear hfz48_1
                        try clear hfz48_2
                        try clear hfz49_0
                        try clear hfz49_1
                        try clear hfz49_2
                        try clear hfz52_0
                        try clear hfz52_1
                        try clear hfz52_2
                        try clear hfz53_0
                        try clear hfz53_1
                        try clear hfz53_2
                        try clear hfz60_0
                        try clear hfz60_1
                        try clear hfz60_2
                        try clear hfz62_0
                        try clear hfz62_1
                        try clear hfz62_2
                        try clear hfz69_0
                        try clear hfz69_1
                        try clear hfz69_2
                        try clear hfz71_0
                        try clear hfz71_1
                        try clear hfz71_2
                        try clear hfz79_0
                        try clear hfz79_1
                        try clear hfz79_2
                        try clear hfz85_0
                        try clear hfz85_1
                        try clear hfz85_2
                        try clear hfz87_0
                        try clear hfz87_1
                        try clear hfz87_2
                        try clear hfz91_0
                        try clear hfz91_1
                        try clear hfz91_2
                        try clear hfz93_0
                        try clear hfz93_1
                        try clear hfz93_2
                        try clear p2
                        obtain ⟨kq, x102_66, rfl, HA, HJ66, HO_218002, HO_228002, HO_249002, BK217, BK227, BK248, HB⟩ := hcut
                        have hl228002_66 := (Kd.R_reads' HO_228002.out).1
                        rw [hl228002_66] at HO_228002
                        (try simp only [hl228002_66])
                        (try simp only [hl228002_66] at BK217)
                        (try simp only [hl228002_66] at BK227)
                        (try simp only [hl228002_66] at BK248)
                        (try simp only [hl228002_66] at HO_218002)
                        (try simp only [hl228002_66] at HO_249002)
                        cases kq with
                        | zero => exact absurd HA.out (by simp [laws_FnExactCountingOf.j2])
                        | succ kj66 =>
                          have H := HA.out
                          clear HA
                          simp only [laws_FnExactCountingOf.j2] at H
                          by_cases c95 : x102_66 = true
                          · subst c95
                            have H1 : (some false) = some r := by rw [if_pos rfl] at H; exact H
                            clear H
                            have H := H1
                            clear H1
                            obtain rfl := Option.some.inj H
                            go_wp2
                            go_ret
                            exact ⟨by first | rfl | (simp [errW_none, errW_some] <;> rfl) | (simp [*, errW_none, errW_some] <;> rfl), by repeat (first | (with_reducible first | exact HB.out | apply below_alloc | apply pw_below_drewN | apply below_drew1 | refine below_set ?_ GE217.out | refine below_set ?_ GE227.out | refine below_set ?_ GE248.out) | exact HB.out)⟩
                          · replace c95 := Bool.eq_false_iff.mpr c95
                            subst c95
                            have H1 : ((laws_heldCounting.f kj66 t221 t222 t237 1).bind fun t250 => (if t250 < 0 then (some false) else (if t250 = t236 then (some true) else (some false)))) = some r := by rw [if_neg (show ¬ (false = true) by decide)] at H; exact H
                            clear H
                            have H := H1
                            clear H1
                            replace H := Option.bind_eq_some_iff.mp H
                            obtain ⟨t250, A960, H⟩ := H
                            replace H : (if t250 < 0 then (some false) else (if t250 = t236 then (some true) else (some false))) = some r := H
                            have A96 := Aside0.mk A960
                            clear A960
                            by_cases c97 : t250 < 0
                            · rw [if_pos c97] at H
                              have c97b0 : decide (t250 < 0) = true := decide_eq_true c97
                              clear c97
                              obtain rfl := Option.some.inj H
                              have hnb98 := NB227_217.out
                              have hnc98 := NB217_227.out
                              have hnb99 := NB227_248.out
                              have hnc99 := NB248_227.out
                              have hcz100_0 : wc.cell? ⟨gb227, 0, none⟩ = some (.int .i64 t221) := (blk_cell BK227.out 0).trans rfl
                              have hcz100_1 : wc.cell? ⟨gb227, 1, none⟩ = some (.int .i64 t222) := (blk_cell BK227.out 1).trans rfl
                              have hcz100_2 : wc.cell? ⟨gb227, 2, none⟩ = some (.slice Ao24 t237.length co24) := (blk_cell BK227.out 2).trans rfl
                              have hfz100_0 := blk_frozen BK227.out 0
                              have hfz100_1 := blk_frozen BK227.out 1
                              have hfz100_2 := blk_frozen BK227.out 2
                              go_wp2_with (first | ((with_reducible refine gate_callee (f := 56) rfl ?_); refine goesL_ (some 105) rfl rfl Try.func56 (by kernel_rfl) rfl #[.agg #[.int .i64 t221, .int .i64 t222, .slice Ao24 t237.length co24], .int .i64 1] rfl (by (try simp only [List.map_toArray, List.map_cons, List.map_nil]); first | done | rfl | (simp only [List.length_drop, List.length_take]; rfl)) ?_; (with_reducible refine (laws_heldCounting.calls kj66 t221 t222 _ _ t237 1 t250 _ ?side1 ?side2 A96.out).mono ?_); (case side1 => repeat (first | exact (Kd.R_reads' HO_228002.out).2.2 | (with_reducible refine Kd.C_alloc ?_ _) | (with_reducible refine Kd.C_drewN ?_ _) | (with_reducible refine Kd.C_drew ?_))); (case side2 => exact (Kd.R_reads' HO_228002.out).2.1); rintro e w101 ⟨rfl, hb⟩; refine ⟨_, rfl, ?_⟩; have n0_ := Aside0.mk (Kd.R_below (by (with_reducible repeat (first | apply Kd.R_alloc | apply Kd.R_drewN | apply Kd.R_drew)); exact HO_218002.out) hb); have n1_ := Aside0.mk (Kd.R_below (by (with_reducible repeat (first | apply Kd.R_alloc | apply Kd.R_drewN | apply Kd.R_drew)); exact HO_228002.out) hb); have n2_ := Aside0.mk (Kd.R_below (by (with_reducible repeat (first | apply Kd.R_alloc | apply Kd.R_drewN | apply Kd.R_drew)); exact HO_249002.out) hb); have n3_ := Aside0.mk (blk_below (g := gb217) (o := .cells #[.int .i64 t211, .int .i64 t212, .slice Ao17 t213.length co17] 75 (0, 0)) (by (with_reducible repeat (first | refine blk_drewN ?_ _ | refine blk_drew ?_ | refine blk_alloc ?_ _)); exact BK217.out) hb); have n4_ := Aside0.mk (blk_below (g := gb227) (o := .cells #[.int .i64 t221, .int .i64 t222, .slice Ao24 t237.length co24] 75 (0, 0)) (by (with_reducible repeat (first | refine blk_drewN ?_ _ | refine blk_drew ?_ | refine blk_alloc ?_ _)); exact BK227.out) hb); have n5_ := Aside0.mk (blk_below (g := gb248) (o := .cells #[.int .i64 t242, .int .i64 t243, .slice Ao80 t244.length co80] 75 (0, 0)) (by (with_reducible repeat (first | refine blk_drewN ?_ _ | refine blk_drew ?_ | refine blk_alloc ?_ _)); exact BK248.out) hb); have n6_ := Aside0.mk (below_step (by repeat (first | (with_reducible first | exact HB.out | apply below_alloc | apply pw_below_drewN | apply below_drew1 | refine below_set ?_ GE217.out | refine below_set ?_ GE227.out | refine below_set ?_ GE248.out) | exact HB.out)) hb); clear HO_218002; clear HO_228002; clear HO_249002; clear BK217; clear BK227; clear BK248; clear HB; have HO_218002 := n0_; have HO_228002 := n1_; have HO_249002 := n2_; have BK217 := n3_; have BK227 := n4_; have BK248 := n5_; have HB := n6_; clear n0_ n1_ n2_ n3_ n4_ n5_ n6_; (try clear hb); (try clear hb2); (try clear hk); (try clear hi)))
                              go_ret
                              exact ⟨by first | rfl | (simp [errW_none, errW_some] <;> rfl) | (simp [*, errW_none, errW_some] <;> rfl), by repeat (first | (with_reducible first | exact HB.out | apply below_alloc | apply pw_below_drewN | apply below_drew1 | refine below_set ?_ GE217.out | refine below_set ?_ GE227.out | refine below_set ?_ GE248.out) | exact HB.out)⟩
                            · rw [if_neg c97] at H
                              have c97b0 : decide (t250 < 0) = false := decide_eq_false c97
                              clear c97
                              by_cases c102 : t250 = t236
                              · rw [if_pos c102] at H
                                have c102b0 : (t250 == t236) = true := beq_iff_eq.mpr c102
                                have c102b1 : (t250 != t236) = false := bne_eq_false_iff_eq.mpr c102
                                clear c102
                                obtain rfl := Option.some.inj H
                                have hnb103 := NB227_217.out
                                have hnc103 := NB217_227.out
                                have hnb104 := NB227_248.out
                                have hnc104 := NB248_227.out
                                have hcz105_0 : wc.cell? ⟨gb227, 0, none⟩ = some (.int .i64 t221) := (blk_cell BK227.out 0).trans rfl
                                have hcz105_1 : wc.cell? ⟨gb227, 1, none⟩ = some (.int .i64 t222) := (blk_cell BK227.out 1).trans rfl
                                have hcz105_2 : wc.cell? ⟨gb227, 2, none⟩ = some (.slice Ao24 t237.length co24) := (blk_cell BK227.out 2).trans rfl
                                have hfz105_0 := blk_frozen BK227.out 0
                                have hfz105_1 := blk_frozen BK227.out 1
                                have hfz105_2 := blk_frozen BK227.out 2
                                go_wp2_with (first | ((with_reducible refine gate_callee (f := 56) rfl ?_); refine goesL_ (some 105) rfl rfl Try.func56 (by kernel_rfl) rfl #[.agg #[.int .i64 t221, .int .i64 t222, .slice Ao24 t237.length co24], .int .i64 1] rfl (by (try simp only [List.map_toArray, List.map_cons, List.map_nil]); first | done | rfl | (simp only [List.length_drop, List.length_take]; rfl)) ?_; (with_reducible refine (laws_heldCounting.calls kj66 t221 t222 _ _ t237 1 t250 _ ?side1 ?side2 A96.out).mono ?_); (case side1 => repeat (first | exact (Kd.R_reads' HO_228002.out).2.2 | (with_reducible refine Kd.C_alloc ?_ _) | (with_reducible refine Kd.C_drewN ?_ _) | (with_reducible refine Kd.C_drew ?_))); (case side2 => exact (Kd.R_reads' HO_228002.out).2.1); rintro e w106 ⟨rfl, hb⟩; refine ⟨_, rfl, ?_⟩; have n0_ := Aside0.mk (Kd.R_below (by (with_reducible repeat (first | apply Kd.R_alloc | apply Kd.R_drewN | apply Kd.R_drew)); exact HO_218002.out) hb); have n1_ := Aside0.mk (Kd.R_below (by (with_reducible repeat (first | apply Kd.R_alloc | apply Kd.R_drewN | apply Kd.R_drew)); exact HO_228002.out) hb); have n2_ := Aside0.mk (Kd.R_below (by (with_reducible repeat (first | apply Kd.R_alloc | apply Kd.R_drewN | apply Kd.R_drew)); exact HO_249002.out) hb); have n3_ := Aside0.mk (blk_below (g := gb217) (o := .cells #[.int .i64 t211, .int .i64 t212, .slice Ao17 t213.length co17] 75 (0, 0)) (by (with_reducible repeat (first | refine blk_drewN ?_ _ | refine blk_drew ?_ | refine blk_alloc ?_ _)); exact BK217.out) hb); have n4_ := Aside0.mk (blk_below (g := gb227) (o := .cells #[.int .i64 t221, .int .i64 t222, .slice Ao24 t237.length co24] 75 (0, 0)) (by (with_reducible repeat (first | refine blk_drewN ?_ _ | refine blk_drew ?_ | refine blk_alloc ?_ _)); exact BK227.out) hb); have n5_ := Aside0.mk (blk_below (g := gb248) (o := .cells #[.int .i64 t242, .int .i64 t243, .slice Ao80 t244.length co80] 75 (0, 0)) (by (with_reducible repeat (first | refine blk_drewN ?_ _ | refine blk_drew ?_ | refine blk_alloc ?_ _)); exact BK248.out) hb); have n6_ := Aside0.mk (below_step (by repeat (first | (with_reducible first | exact HB.out | apply below_alloc | apply pw_below_drewN | apply below_drew1 | refine below_set ?_ GE217.out | refine below_set ?_ GE227.out | refine below_set ?_ GE248.out) | exact HB.out)) hb); clear HO_218002; clear HO_228002; clear HO_249002; clear BK217; clear BK227; clear BK248; clear HB; have HO_218002 := n0_; have HO_228002 := n1_; have HO_249002 := n2_; have BK217 := n3_; have BK227 := n4_; have BK248 := n5_; have HB := n6_; clear n0_ n1_ n2_ n3_ n4_ n5_ n6_; (try clear hb); (try clear hb2); (try clear hk); (try clear hi)))
                                go_ret
                                exact ⟨by first | rfl | (simp [errW_none, errW_some] <;> rfl) | (simp [*, errW_none, errW_some] <;> rfl), by repeat (first | (with_reducible first | exact HB.out | apply below_alloc | apply pw_below_drewN | apply below_drew1 | refine below_set ?_ GE217.out | refine below_set ?_ GE227.out | refine below_set ?_ GE248.out) | exact HB.out)⟩
                              · rw [if_neg c102] at H
                                have c102b0 : (t250 == t236) = false := beq_eq_false_iff_ne.mpr c102
                                have c102b1 : (t250 != t236) = true := bne_iff_ne.mpr c102
                                obtain rfl := Option.some.inj H
                                have hnb107 := NB227_217.out
                                have hnc107 := NB217_227.out
                                have hnb108 := NB227_248.out
                                have hnc108 := NB248_227.out
                                have hcz109_0 : wc.cell? ⟨gb227, 0, none⟩ = some (.int .i64 t221) := (blk_cell BK227.out 0).trans rfl
                                have hcz109_1 : wc.cell? ⟨gb227, 1, none⟩ = some (.int .i64 t222) := (blk_cell BK227.out 1).trans rfl
                                have hcz109_2 : wc.cell? ⟨gb227, 2, none⟩ = some (.slice Ao24 t237.length co24) := (blk_cell BK227.out 2).trans rfl
                                have hfz109_0 := blk_frozen BK227.out 0
                                have hfz109_1 := blk_frozen BK227.out 1
                                have hfz109_2 := blk_frozen BK227.out 2
                                go_wp2_with (first | ((with_reducible refine gate_callee (f := 56) rfl ?_); refine goesL_ (some 105) rfl rfl Try.func56 (by kernel_rfl) rfl #[.agg #[.int .i64 t221, .int .i64 t222, .slice Ao24 t237.length co24], .int .i64 1] rfl (by (try simp only [List.map_toArray, List.map_cons, List.map_nil]); first | done | rfl | (simp only [List.length_drop, List.length_take]; rfl)) ?_; (with_reducible refine (laws_heldCounting.calls kj66 t221 t222 _ _ t237 1 t250 _ ?side1 ?side2 A96.out).mono ?_); (case side1 => repeat (first | exact (Kd.R_reads' HO_228002.out).2.2 | (with_reducible refine Kd.C_alloc ?_ _) | (with_reducible refine Kd.C_drewN ?_ _) | (with_reducible refine Kd.C_drew ?_))); (case side2 => exact (Kd.R_reads' HO_228002.out).2.1); rintro e w110 ⟨rfl, hb⟩; refine ⟨_, rfl, ?_⟩; have n0_ := Aside0.mk (Kd.R_below (by (with_reducible repeat (first | apply Kd.R_alloc | apply Kd.R_drewN | apply Kd.R_drew)); exact HO_218002.out) hb); have n1_ := Aside0.mk (Kd.R_below (by (with_reducible repeat (first | apply Kd.R_alloc | apply Kd.R_drewN | apply Kd.R_drew)); exact HO_228002.out) hb); have n2_ := Aside0.mk (Kd.R_below (by (with_reducible repeat (first | apply Kd.R_alloc | apply Kd.R_drewN | apply Kd.R_drew)); exact HO_249002.out) hb); have n3_ := Aside0.mk (blk_below (g := gb217) (o := .cells #[.int .i64 t211, .int .i64 t212, .slice Ao17 t213.length co17] 75 (0, 0)) (by (with_reducible repeat (first | refine blk_drewN ?_ _ | refine blk_drew ?_ | refine blk_alloc ?_ _)); exact BK217.out) hb); have n4_ := Aside0.mk (blk_below (g := gb227) (o := .cells #[.int .i64 t221, .int .i64 t222, .slice Ao24 t237.length co24] 75 (0, 0)) (by (with_reducible repeat (first | refine blk_drewN ?_ _ | refine blk_drew ?_ | refine blk_alloc ?_ _)); exact BK227.out) hb); have n5_ := Aside0.mk (blk_below (g := gb248) (o := .cells #[.int .i64 t242, .int .i64 t243, .slice Ao80 t244.length co80] 75 (0, 0)) (by (with_reducible repeat (first | refine blk_drewN ?_ _ | refine blk_drew ?_ | refine blk_alloc ?_ _)); exact BK248.out) hb); have n6_ := Aside0.mk (below_step (by repeat (first | (with_reducible first | exact HB.out | apply below_alloc | apply pw_below_drewN | apply below_drew1 | refine below_set ?_ GE217.out | refine below_set ?_ GE227.out | refine below_set ?_ GE248.out) | exact HB.out)) hb); clear HO_218002; clear HO_228002; clear HO_249002; clear BK217; clear BK227; clear BK248; clear HB; have HO_218002 := n0_; have HO_228002 := n1_; have HO_249002 := n2_; have BK217 := n3_; have BK227 := n4_; have BK248 := n5_; have HB := n6_; clear n0_ n1_ n2_ n3_ n4_ n5_ n6_; (try clear hb); (try clear hb2); (try clear hk); (try clear hi)))
                                go_ret
                                exact ⟨by first | rfl | (simp [errW_none, errW_some] <;> rfl) | (simp [*, errW_none, errW_some] <;> rfl), by repeat (first | (with_reducible first | exact HB.out | apply below_alloc | apply pw_below_drewN | apply below_drew1 | refine below_set ?_ GE217.out | refine below_set ?_ GE227.out | refine below_set ?_ GE248.out) | exact HB.out)⟩
                    · rw [if_neg c64] at H
                      have c64b0 : (t238 == t236) = false := beq_eq_false_iff_ne.mpr c64
                      have c64b1 : (t238 != t236) = true := bne_iff_ne.mpr c64
                      obtain rfl := Option.some.inj H
                      have hnb111 := NB227_217.out
                      have hnc111 := NB217_227.out
                      have hcz112_0 : wc.cell? ⟨gb227, 0, none⟩ = some (.int .i64 t221) := (blk_cell BK227.out 0).trans rfl
                      have hcz112_1 : wc.cell? ⟨gb227, 1, none⟩ = some (.int .i64 t222) := (blk_cell BK227.out 1).trans rfl
                      have hcz112_2 : wc.cell? ⟨gb227, 2, none⟩ = some (.slice Ao24 t223.length co24) := (blk_cell BK227.out 2).trans rfl
                      have hfz112_0 := blk_frozen BK227.out 0
                      have hfz112_1 := blk_frozen BK227.out 1
                      have hfz112_2 := blk_frozen BK227.out 2
                      go_wp2_with (first | ((with_reducible refine gate_callee (f := 49) rfl ?_); refine goesL_ (some 76) rfl rfl Try.func49 (by kernel_rfl) rfl #[.agg #[.int .i64 t221, .int .i64 t222, .slice Ao24 t223.length co24], .int .i64 1] rfl (by (try simp only [List.map_toArray, List.map_cons, List.map_nil]); first | done | rfl | (simp only [List.length_drop, List.length_take]; rfl)) ?_; (with_reducible refine (laws_markCounting.calls kj39 t221 t222 (fun k_ => some k_ = (.slice Ao24 t223.length co24 : Value).ownBlock) (.slice Ao24 t223.length co24) t223 1 t236 t237 w _ ?side1 ?side2 A56.out).mono ?_); (case side1 => repeat (first | (with_reducible first | exact HB.out | apply below_alloc | apply pw_below_drewN | apply below_drew1 | refine below_set ?_ GE217.out | refine below_set ?_ GE227.out) | exact HB.out)); (case side2 => exact Kd.R_tight rfl HO_228002.out); rintro e w113 ⟨rfl, hy0, hb, hkp⟩; refine ⟨_, rfl, ?_⟩; have n0_ := Aside0.mk (Kd.R_mono (ok' := fun k_ => some k_ ≠ (.slice Ao24 t223.length co24 : Value).ownBlock) (Kd.R_keptB (HO_218002.out) hkp (fun k_ hk_ hs_ => (hk_) hs_)) (fun k_ hk_ => hk_.1)); have n1_ := Aside0.mk (Kd.R_reok rfl hy0 (fun k_ e_ => HO_228002.out.1 k_ e_)); have n2_ := Aside0.mk (blk_kept (by (with_reducible repeat (first | refine blk_drewN ?_ _ | refine blk_drew ?_ | refine blk_alloc ?_ _)); exact BK217.out) hkp (fun hs_ => (fun e_ => (Kd.R_ne HO_228002.out BK217.out (by decide)) e_) hs_)); have n3_ := Aside0.mk (blk_kept (by (with_reducible repeat (first | refine blk_drewN ?_ _ | refine blk_drew ?_ | refine blk_alloc ?_ _)); exact BK227.out) hkp (fun hs_ => (fun e_ => (Kd.R_ne HO_228002.out BK227.out (by decide)) e_) hs_)); have n4_ := Aside0.mk (hb); clear HO_218002; clear HO_228002; clear BK217; clear BK227; clear HB; have HO_218002 := n0_; have HO_228002 := n1_; have BK217 := n2_; have BK227 := n3_; have HB := n4_; clear n0_ n1_ n2_ n3_ n4_; (try clear hb); (try clear hkp); (try clear hy0); have hcz114_0 : w113.cell? ⟨gb227, 0, none⟩ = some (.int .i64 t221) := (blk_cell BK227.out 0).trans rfl; have hcz114_1 : w113.cell? ⟨gb227, 1, none⟩ = some (.int .i64 t222) := (blk_cell BK227.out 1).trans rfl; have hcz114_2 : w113.cell? ⟨gb227, 2, none⟩ = some (.slice Ao24 t223.length co24) := (blk_cell BK227.out 2).trans rfl; have hfz114_0 := blk_frozen BK227.out 0; have hfz114_1 := blk_frozen BK227.out 1; have hfz114_2 := blk_frozen BK227.out 2) | ((with_reducible refine gate_callee (f := 56) rfl ?_); refine goesL_ (some 79) rfl rfl Try.func56 (by kernel_rfl) rfl #[.agg #[.int .i64 t221, .int .i64 t222, .slice Ao24 t237.length co24], .int .i64 1] rfl (by (try simp only [List.map_toArray, List.map_cons, List.map_nil]); first | done | (rw [show t237.length = t223.length from (Kd.R_reads' HO_228002.out).1.symm] <;> rfl) | rfl | (simp only [List.length_drop, List.length_take]; rfl)) ?_; (with_reducible refine (laws_heldCounting.calls kj39 t221 t222 _ _ t237 1 t238 _ ?side1 ?side2 A57.out).mono ?_); (case side1 => repeat (first | exact (Kd.R_reads' HO_228002.out).2.2 | (with_reducible refine Kd.C_alloc ?_ _) | (with_reducible refine Kd.C_drewN ?_ _) | (with_reducible refine Kd.C_drew ?_))); (case side2 => rw [show t237.length = t223.length from (Kd.R_reads' HO_228002.out).1.symm]; exact (Kd.R_reads' HO_228002.out).2.1); rintro e w115 ⟨rfl, hb⟩; refine ⟨_, rfl, ?_⟩; have n0_ := Aside0.mk (Kd.R_below (by (with_reducible repeat (first | apply Kd.R_alloc | apply Kd.R_drewN | apply Kd.R_drew)); exact HO_218002.out) hb); have n1_ := Aside0.mk (Kd.R_below (by (with_reducible repeat (first | apply Kd.R_alloc | apply Kd.R_drewN | apply Kd.R_drew)); exact HO_228002.out) hb); have n2_ := Aside0.mk (blk_below (g := gb217) (o := .cells #[.int .i64 t211, .int .i64 t212, .slice Ao17 t213.length co17] 75 (0, 0)) (by (with_reducible repeat (first | refine blk_drewN ?_ _ | refine blk_drew ?_ | refine blk_alloc ?_ _)); exact BK217.out) hb); have n3_ := Aside0.mk (blk_below (g := gb227) (o := .cells #[.int .i64 t221, .int .i64 t222, .slice Ao24 t223.length co24] 75 (0, 0)) (by (with_reducible repeat (first | refine blk_drewN ?_ _ | refine blk_drew ?_ | refine blk_alloc ?_ _)); exact BK227.out) hb); have n4_ := Aside0.mk (below_step (by repeat (first | (with_reducible first | exact HB.out | apply below_alloc | apply pw_below_drewN | apply below_drew1 | refine below_set ?_ GE217.out | refine below_set ?_ GE227.out) | exact HB.out)) hb); clear HO_218002; clear HO_228002; clear BK217; clear BK227; clear HB; have HO_218002 := n0_; have HO_228002 := n1_; have BK217 := n2_; have BK227 := n3_; have HB := n4_; clear n0_ n1_ n2_ n3_ n4_; (try clear hb); (try clear hb2); (try clear hk); (try clear hi)))
                      go_ret
                      exact ⟨by first | rfl | (simp [errW_none, errW_some] <;> rfl) | (simp [*, errW_none, errW_some] <;> rfl), by repeat (first | (with_reducible first | exact HB.out | apply below_alloc | apply pw_below_drewN | apply below_drew1 | refine below_set ?_ GE217.out | refine below_set ?_ GE227.out) | exact HB.out)⟩
          · replace c38 := Bool.eq_false_iff.mpr c38
            subst c38
            have H1 : (some false) = some r := by rw [if_neg (show ¬ (false = true) by decide)] at H; exact H
            clear H
            have H := H1
            clear H1
            obtain rfl := Option.some.inj H
            go_wp2_with (first | ((with_reducible refine gate_callee (f := 59) rfl ?_); refine goesL_ (some 55) rfl rfl Try.func59 (by kernel_rfl) rfl #[.slice A3 l3.length c3] rfl (by (try simp only [List.map_toArray, List.map_cons, List.map_nil]); first | done | rfl | (simp only [List.length_drop, List.length_take]; rfl)) ?_; (with_reducible refine (laws_toStringS.calls kj10 _ _ l3 t229 _ ?side1 ?side2 A36.out).mono ?_); (case side1 => repeat (first | exact (Kd.C_below HR3.out HB.out) | (with_reducible refine Kd.C_alloc ?_ _) | (with_reducible refine Kd.C_drewN ?_ _) | (with_reducible refine Kd.C_drew ?_))); (case side2 => exact HC3.out); rintro e w116 ⟨v230, rfl, ho0, hb⟩; refine ⟨_, rfl, ?_⟩; have n0_ := Aside0.mk (Kd.R_elder' (by (with_reducible repeat (first | apply Kd.R_alloc | apply Kd.R_drewN | apply Kd.R_drew)); exact HO_12.out) (Kd.R_base ho0) hb); have n1_ := Aside0.mk (Kd.R_below (by (with_reducible repeat (first | apply Kd.R_alloc | apply Kd.R_drewN | apply Kd.R_drew)); exact HO_218002.out) hb); have n2_ := Aside0.mk (Kd.R_below (by (with_reducible repeat (first | apply Kd.R_alloc | apply Kd.R_drewN | apply Kd.R_drew)); exact HO_228002.out) hb); have n3_ := Aside0.mk (Kd.R_lower (Kd.R_new' ho0 (Kd.R_lt (by (with_reducible repeat (first | apply Kd.R_alloc | apply Kd.R_drewN | apply Kd.R_drew)); exact HO_12.out))) (below_size (by repeat (first | (with_reducible first | exact HB.out | apply below_alloc | apply pw_below_drewN | apply below_drew1 | refine below_set ?_ GE217.out | refine below_set ?_ GE227.out) | exact HB.out)))); have n4_ := Aside0.mk (blk_below (g := gb217) (o := .cells #[.int .i64 t211, .int .i64 t212, .slice Ao17 t213.length co17] 75 (0, 0)) (by (with_reducible repeat (first | refine blk_drewN ?_ _ | refine blk_drew ?_ | refine blk_alloc ?_ _)); exact BK217.out) hb); have n5_ := Aside0.mk (blk_below (g := gb227) (o := .cells #[.int .i64 t221, .int .i64 t222, .slice Ao24 t223.length co24] 75 (0, 0)) (by (with_reducible repeat (first | refine blk_drewN ?_ _ | refine blk_drew ?_ | refine blk_alloc ?_ _)); exact BK227.out) hb); have n6_ := Aside0.mk (below_step (by repeat (first | (with_reducible first | exact HB.out | apply below_alloc | apply pw_below_drewN | apply below_drew1 | refine below_set ?_ GE217.out | refine below_set ?_ GE227.out) | exact HB.out)) hb); clear HO_12; clear HO_218002; clear HO_228002; clear BK217; clear BK227; clear HB; have HO_12 := n0_; have HO_218002 := n1_; have HO_228002 := n2_; have HO231 := n3_; have BK217 := n4_; have BK227 := n5_; have HB := n6_; clear n0_ n1_ n2_ n3_ n4_ n5_ n6_; (try clear hb); (try clear hb2); (try clear hk); (try clear hi); (try clear ho0); obtain ⟨Ao117, co117, eo117⟩ := Kd.R_slice HO231.out; subst eo117) | ((with_reducible refine gate_callee (f := 61) rfl ?_); refine goesL_ (some 56) rfl rfl Try.func61 (by kernel_rfl) rfl #[.slice Ao19 t218.length co19, .slice Ao117 t229.length co117] rfl (by (try simp only [List.map_toArray, List.map_cons, List.map_nil]); first | done | rfl | (simp only [List.length_drop, List.length_take]; rfl)) ?_; (with_reducible refine (laws_eqStringS.calls kj10 _ _ t218 _ _ t229 false _ ?side1 ?side2 ?side3 ?side4 A37.out).mono ?_); (case side1 => repeat (first | exact (Kd.R_reads' HO_12.out).2.2 | (with_reducible refine Kd.C_alloc ?_ _) | (with_reducible refine Kd.C_drewN ?_ _) | (with_reducible refine Kd.C_drew ?_))); (case side2 => exact (Kd.R_reads' HO_12.out).2.1); (case side3 => repeat (first | exact (Kd.R_reads' HO231.out).2.2 | (with_reducible refine Kd.C_alloc ?_ _) | (with_reducible refine Kd.C_drewN ?_ _) | (with_reducible refine Kd.C_drew ?_))); (case side4 => exact (Kd.R_reads' HO231.out).2.1); rintro e w' ⟨rfl, ⟨nd, rfl⟩⟩; refine ⟨_, rfl, ?_⟩))
            go_ret
            exact ⟨by first | rfl | (simp [errW_none, errW_some] <;> rfl) | (simp [*, errW_none, errW_some] <;> rfl), by repeat (first | (with_reducible first | exact HB.out | apply below_alloc | apply pw_below_drewN | apply below_drew1 | refine below_set ?_ GE217.out | refine below_set ?_ GE227.out) | exact HB.out)⟩

end Go.Proofs.Ytmiekfffaaagpaa.PFnExactCountingOf
