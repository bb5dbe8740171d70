-- made by wip/tools/myprint.py over the kit's print, for this claim
import Derived.Test.YtgbpbhplehmedaaPFnExactSystemOfx0
import Derived.Test.YtgbpbhplehmedaaPFnExactSystemOfx1
import Derived.Test.YtgbpbhplehmedaaPFnExactSystemOfx2
import Derived.Test.YtgbpbhplehmedaaPFnExactSystemOfx3
import Derived.Test.YtgbpbhplehmedaaPFnExactSystemOfx5
import Derived.Test.YtgbpbhplehmedaaPFnExactSystemOfx6
import Derived.Test.YtgbpbhplehmedaaPFnExactSystemOfx9
import Derived.Test.YtgbpbhplehmedaaPFnExactSystemOfx10
namespace Go.Proofs.Ytgbpbhplehmedaa.PFnExactSystemOf
open Go.RowKit Go.Proofs.YtgbpbhplehmedaaW.PrintWords Go.Proofs.YtgbpbhplehmedaaW.PrintLast Go.Proofs.YtgbpbhplehmedaaW.PrintMore
attribute [local go_sem] max2_int min2_int max_two min_two max_three min_three max_four min_four   -- for this text's walks alone
set_option linter.unusedVariables false
set_option linter.unusedSimpArgs false

/-! ### laws_FnExactSystemOf: function 4 -/
mutual
def laws_FnExactSystemOf.j0 : Nat → List Bool → Bool → List Bool → Bool → Bool → Int → List (List Int) → Int → List (S53) → List Bool → Int → List (List Int) → Int → List (S53) → List Bool → Option (Bool)
 | 0, _, _, _, _, _, _, _, _, _, _, _, _, _, _, _ => none
 | k + 1, x1, x7, x9, x11, x51, x269000, x269001, x286000, x286001, x286002, x291000, x291001, x303000, x303001, x303002 => if x51 = true then (some false) else ((laws_toHyper.f k x269000 x269001).bind fun bt304 => ((laws_eqHyper.f k x291000 x291001 bt304.1 bt304.2).bind fun t308 => (if t308 = true then ((laws_toBoolS.f k x1).bind fun t309 => ((laws_eqBoolS.f k x9 t309).bind fun t312 => (if t312 = true then ((laws_markHyper.f k x291000 x291001 1).bind fun bt313 => ((laws_markBoolS.f k x9 bt313.1).bind fun bt315 => (if bt315.1 < 0 then (laws_FnExactSystemOf.j1 k x1 x7 true x269000 x269001 x286000 x286001 x286002 x303000 x303001 x303002) else ((laws_eqSystem.f k x303000 x303001 x303002 x286000 x286001 x286002).bind fun t317 => (if t317 = true then (laws_FnExactSystemOf.j1 k x1 x7 (x11 != x7) x269000 x269001 x286000 x286001 x286002 x303000 x303001 x303002) else (laws_FnExactSystemOf.j1 k x1 x7 true x269000 x269001 x286000 x286001 x286002 x303000 x303001 x303002)))))) else (some false)))) else (some false))))
def laws_FnExactSystemOf.j1 : Nat → List Bool → Bool → Bool → Int → List (List Int) → Int → List (S53) → List Bool → Int → List (S53) → List Bool → Option (Bool)
 | 0, _, _, _, _, _, _, _, _, _, _, _ => none
 | k + 1, x1, x7, x80, x269000, x269001, x286000, x286001, x286002, x303000, x303001, x303002 => if x80 = true then (some false) else ((laws_markSystem.f k x303000 x303001 x303002 1).bind fun bt318 => ((laws_heldSystem.f k x303000 bt318.2.1 bt318.2.2 1).bind fun t321 => (if t321 < 0 then (some false) else (if t321 = bt318.1 then ((laws_toHyper.f k x269000 x269001).bind fun bt322 => ((laws_toBoolS.f k x1).bind fun t326 => ((impl_SystemOf.f k bt322.1 bt322.2 t326).bind fun bt329 => ((laws_eqSystem.f k bt329.1 bt329.2.1 bt329.2.2.1 x286000 x286001 x286002).bind fun t338 => (if t338 = true then (laws_FnExactSystemOf.j2 k bt318.1 (bt329.2.2.2 != x7) x303000 bt318.2.1 bt318.2.2) else (laws_FnExactSystemOf.j2 k bt318.1 true x303000 bt318.2.1 bt318.2.2)))))) else (some false)))))
def laws_FnExactSystemOf.j2 : Nat → Int → Bool → Int → List (S53) → List Bool → Option (Bool)
 | 0, _, _, _, _, _ => none
 | k + 1, x13, x108, x303000, x303001, x303002 => if x108 = true then (some false) else ((laws_heldSystem.f k x303000 x303001 x303002 1).bind fun t339 => (if t339 < 0 then (some false) else (if t339 = x13 then (some true) else (some false))))
end
def laws_FnExactSystemOf.f (k : Nat) (a0_0 : Int) (l0_1 : List (List Int)) (l1 : List Bool) : Option (Bool) := if (l1.length : Int) > 1048576 then (some true) else ((laws_szHyper.f k a0_0 l0_1 1048576).bind fun t269 => (if t269 < 0 then (some true) else ((laws_toHyper.f k a0_0 l0_1).bind fun bt270 => ((laws_toBoolS.f k l1).bind fun t274 => ((spec_SystemOf.f k bt270.1 bt270.2 t274).bind fun bt277 => ((laws_toHyper.f k a0_0 l0_1).bind fun bt286 => ((laws_toBoolS.f k l1).bind fun t291 => ((impl_SystemOf.f k bt286.1 bt286.2 t291).bind fun bt294 => ((laws_eqSystem.f k bt294.1 bt294.2.1 bt294.2.2.1 bt277.1 bt277.2.1 bt277.2.2.1).bind fun t303 => (if t303 = true then (laws_FnExactSystemOf.j0 k l1 bt277.2.2.2 t291 bt294.2.2.2 (bt294.2.2.2 != bt277.2.2.2) a0_0 l0_1 bt277.1 bt277.2.1 bt277.2.2.1 bt286.1 bt286.2 bt294.1 bt294.2.1 bt294.2.2.1) else (laws_FnExactSystemOf.j0 k l1 bt277.2.2.2 t291 bt294.2.2.2 true a0_0 l0_1 bt277.1 bt277.2.1 bt277.2.2.1 bt286.1 bt286.2 bt294.1 bt294.2.1 bt294.2.2.1)))))))))))
theorem kg_size {w w1 : World} {n : Nat} (_ : Below n w w1) : ∃ q : Nat, q = n := ⟨_, rfl⟩
theorem so_old {α : Type} {d : Kd α} {e base n : Nat} {ok ok' : Nat → Prop} {W w1 : World} {v : Value} {xs : List α} (h : Kd.S d e W base ok v xs) (hb : Below W.heap.size W w1) (hn : n = W.heap.size) (hok : ∀ k, ok k ∧ k < n → ok' k) : Kd.S d e w1 base ok' v xs := by subst hn; exact Kd.S_mono (Kd.S_old h hb) hok
theorem so_new {α : Type} {d : Kd α} {e base n : Nat} {w1 : World} {v : Value} {xs : List α} (h : Kd.S d e w1 base (fun _ => True) v xs) (hn : n = base) : Kd.S d e w1 base (fun k => n ≤ k) v xs := by subst hn; exact Kd.S_mono (Kd.S_bound h) (fun _ h_ => h_.2.1)
theorem so_ne {W : World} {g t : Nat} {cs : Array Value} {L : List Nat} (h : ∃ q, q ∈ L ∧ ∃ cells, W.heap[g]? = some (.cells cells q (0, 0))) (hb : W.heap[g]? = some (.cells cs t (0, 0))) (hne : ∀ q, q ∈ L → q ≠ t) : False := by
  obtain ⟨q, hq, cells, hc⟩ := h
  rw [hb] at hc
  injection hc with hc
  injection hc with _ h2 _
  exact hne q hq h2.symm
theorem so_Rk {α : Type} {d : Kd α} {e base : Nat} {ok P : Nat → Prop} {W W2 : World} {v : Value} {xs : List α} {L : List Nat} (hE : d.E = []) (h : d.R e W base ok v xs) (hk : Kept W W2 (fun k => P k ∧ ∃ q, q ∈ L ∧ ∃ cells, W.heap[k]? = some (.cells cells q (0, 0)))) (hne : ∀ q, q ∈ L → q ≠ e) : d.R e W2 base (fun k => (ok k ∧ True) ∧ True) v xs :=
  Kd.R_mono (Kd.R_kept (Kd.R_mono (Kd.R_tight hE h) (fun k hk2 => (⟨h.1 k hk2.symm, Kd.R_typed h k hk2.symm⟩ : ok k ∧ ∃ cells, W.heap[k]? = some (.cells cells e (0, 0))))) hk (fun _ h1 h2 => by obtain ⟨cs, hc⟩ := h1.2; exact so_ne h2.2 hc hne)) (fun _ h1 => ⟨⟨h1.1, trivial⟩, trivial⟩)
theorem so_Rk2 {α : Type} {d : Kd α} {e base : Nat} {ok P : Nat → Prop} {W W2 : World} {v u : Value} {xs : List α} {L : List Nat} (hE : d.E = []) (h : d.R e W base ok v xs) (hk : Kept W W2 (fun k => (P k ∧ ∃ q, q ∈ L ∧ ∃ cells, W.heap[k]? = some (.cells cells q (0, 0))) ∨ some k = u.ownBlock)) (hne : ∀ q, q ∈ L → q ≠ e) (hok : ∀ k, ok k → some k ≠ u.ownBlock) : d.R e W2 base (fun k => (ok k ∧ True) ∧ True) v xs :=
  Kd.R_mono (Kd.R_kept (Kd.R_mono (Kd.R_tight hE h) (fun k hk2 => (⟨h.1 k hk2.symm, Kd.R_typed h k hk2.symm⟩ : ok k ∧ ∃ cells, W.heap[k]? = some (.cells cells e (0, 0))))) hk (fun k h1 h2 => by obtain ⟨cs, hc⟩ := h1.2; exact h2.elim (fun h3 => so_ne h3.2 hc hne) (hok k h1.1))) (fun _ h1 => ⟨⟨h1.1, trivial⟩, trivial⟩)
theorem laws_FnExactSystemOf.mono_l : ∀ k, (∀ y0 y1 y2 y3 y4 y5 y6 y7 y8 y9 y10 y11 y12 y13 y14, LeO (laws_FnExactSystemOf.j0 k y0 y1 y2 y3 y4 y5 y6 y7 y8 y9 y10 y11 y12 y13 y14) (laws_FnExactSystemOf.j0 (k + 1) y0 y1 y2 y3 y4 y5 y6 y7 y8 y9 y10 y11 y12 y13 y14)) ∧ (∀ y0 y1 y2 y3 y4 y5 y6 y7 y8 y9 y10, LeO (laws_FnExactSystemOf.j1 k y0 y1 y2 y3 y4 y5 y6 y7 y8 y9 y10) (laws_FnExactSystemOf.j1 (k + 1) y0 y1 y2 y3 y4 y5 y6 y7 y8 y9 y10)) ∧ (∀ y0 y1 y2 y3 y4, LeO (laws_FnExactSystemOf.j2 k y0 y1 y2 y3 y4) (laws_FnExactSystemOf.j2 (k + 1) y0 y1 y2 y3 y4))
 | 0 => ⟨fun _ _ _ _ _ _ _ _ _ _ _ _ _ _ _ r h => by simp [laws_FnExactSystemOf.j0] at h, fun _ _ _ _ _ _ _ _ _ _ _ r h => by simp [laws_FnExactSystemOf.j1] at h, fun _ _ _ _ _ r h => by simp [laws_FnExactSystemOf.j2] at h⟩
 | k + 1 => by
  obtain ⟨ih0, ih1, ih2⟩ := laws_FnExactSystemOf.mono_l k
  refine ⟨?_, ?_, ?_⟩
  ·
   intro y0 y1 y2 y3 y4 y5 y6 y7 y8 y9 y10 y11 y12 y13 y14
   unfold laws_FnExactSystemOf.j0
   repeat' first
   | (with_reducible exact ih0 _ _ _ _ _ _ _ _ _ _ _ _ _ _ _)
   | (with_reducible exact ih1 _ _ _ _ _ _ _ _ _ _ _)
   | (with_reducible exact ih2 _ _ _ _ _)
   | (with_reducible exact impl_SystemOf.mono _ _ _ _)
   | (with_reducible exact laws_eqBoolS.mono _ _ _)
   | (with_reducible exact laws_eqHyper.mono _ _ _ _ _)
   | (with_reducible exact laws_eqSystem.mono _ _ _ _ _ _ _)
   | (with_reducible exact laws_heldSystem.mono _ _ _ _ _)
   | (with_reducible exact laws_markBoolS.mono _ _ _)
   | (with_reducible exact laws_markHyper.mono _ _ _ _)
   | (with_reducible exact laws_markSystem.mono _ _ _ _ _)
   | (with_reducible exact laws_szHyper.mono _ _ _ _)
   | (with_reducible exact laws_toBoolS.mono _ _)
   | (with_reducible exact laws_toHyper.mono _ _ _)
   | (with_reducible exact spec_SystemOf.mono _ _ _ _)
   | (with_reducible exact LeO.refl _)
   | (with_reducible exact LeO.none _)
   | (with_reducible refine LeO.ite ?_ ?_)
   | (with_reducible refine LeO.bind ?_ (fun _ => ?_))
   | exact ih0 _ _ _ _ _ _ _ _ _ _ _ _ _ _ _
   | exact ih1 _ _ _ _ _ _ _ _ _ _ _
   | exact ih2 _ _ _ _ _
   | exact impl_SystemOf.mono _ _ _ _
   | exact laws_eqBoolS.mono _ _ _
   | exact laws_eqHyper.mono _ _ _ _ _
   | exact laws_eqSystem.mono _ _ _ _ _ _ _
   | exact laws_heldSystem.mono _ _ _ _ _
   | exact laws_markBoolS.mono _ _ _
   | exact laws_markHyper.mono _ _ _ _
   | exact laws_markSystem.mono _ _ _ _ _
   | exact laws_szHyper.mono _ _ _ _
   | exact laws_toBoolS.mono _ _
   | exact laws_toHyper.mono _ _ _
   | exact spec_SystemOf.mono _ _ _ _
   | exact LeO.none _
   | refine LeO.ite ?_ ?_
   | refine LeO.bind ?_ (fun _ => ?_)
  ·
   intro y0 y1 y2 y3 y4 y5 y6 y7 y8 y9 y10
   unfold laws_FnExactSystemOf.j1
   repeat' first
   | (with_reducible exact ih0 _ _ _ _ _ _ _ _ _ _ _ _ _ _ _)
   | (with_reducible exact ih1 _ _ _ _ _ _ _ _ _ _ _)
   | (with_reducible exact ih2 _ _ _ _ _)
   | (with_reducible exact impl_SystemOf.mono _ _ _ _)
   | (with_reducible exact laws_eqBoolS.mono _ _ _)
   | (with_reducible exact laws_eqHyper.mono _ _ _ _ _)
   | (with_reducible exact laws_eqSystem.mono _ _ _ _ _ _ _)
   | (with_reducible exact laws_heldSystem.mono _ _ _ _ _)
   | (with_reducible exact laws_markBoolS.mono _ _ _)
   | (with_reducible exact laws_markHyper.mono _ _ _ _)
   | (with_reducible exact laws_markSystem.mono _ _ _ _ _)
   | (with_reducible exact laws_szHyper.mono _ _ _ _)
   | (with_reducible exact laws_toBoolS.mono _ _)
   | (with_reducible exact laws_toHyper.mono _ _ _)
   | (with_reducible exact spec_SystemOf.mono _ _ _ _)
   | (with_reducible exact LeO.refl _)
   | (with_reducible exact LeO.none _)
   | (with_reducible refine LeO.ite ?_ ?_)
   | (with_reducible refine LeO.bind ?_ (fun _ => ?_))
   | exact ih0 _ _ _ _ _ _ _ _ _ _ _ _ _ _ _
   | exact ih1 _ _ _ _ _ _ _ _ _ _ _
   | exact ih2 _ _ _ _ _
   | exact impl_SystemOf.mono _ _ _ _
   | exact laws_eqBoolS.mono _ _ _
   | exact laws_eqHyper.mono _ _ _ _ _
   | exact laws_eqSystem.mono _ _ _ _ _ _ _
   | exact laws_heldSystem.mono _ _ _ _ _
   | exact laws_markBoolS.mono _ _ _
   | exact laws_markHyper.mono _ _ _ _
   | exact laws_markSystem.mono _ _ _ _ _
   | exact laws_szHyper.mono _ _ _ _
   | exact laws_toBoolS.mono _ _
   | exact laws_toHyper.mono _ _ _
   | exact spec_SystemOf.mono _ _ _ _
   | exact LeO.none _
   | refine LeO.ite ?_ ?_
   | refine LeO.bind ?_ (fun _ => ?_)
  ·
   intro y0 y1 y2 y3 y4
   unfold laws_FnExactSystemOf.j2
   repeat' first
   | (with_reducible exact ih0 _ _ _ _ _ _ _ _ _ _ _ _ _ _ _)
   | (with_reducible exact ih1 _ _ _ _ _ _ _ _ _ _ _)
   | (with_reducible exact ih2 _ _ _ _ _)
   | (with_reducible exact impl_SystemOf.mono _ _ _ _)
   | (with_reducible exact laws_eqBoolS.mono _ _ _)
   | (with_reducible exact laws_eqHyper.mono _ _ _ _ _)
   | (with_reducible exact laws_eqSystem.mono _ _ _ _ _ _ _)
   | (with_reducible exact laws_heldSystem.mono _ _ _ _ _)
   | (with_reducible exact laws_markBoolS.mono _ _ _)
   | (with_reducible exact laws_markHyper.mono _ _ _ _)
   | (with_reducible exact laws_markSystem.mono _ _ _ _ _)
   | (with_reducible exact laws_szHyper.mono _ _ _ _)
   | (with_reducible exact laws_toBoolS.mono _ _)
   | (with_reducible exact laws_toHyper.mono _ _ _)
   | (with_reducible exact spec_SystemOf.mono _ _ _ _)
   | (with_reducible exact LeO.refl _)
   | (with_reducible exact LeO.none _)
   | (with_reducible refine LeO.ite ?_ ?_)
   | (with_reducible refine LeO.bind ?_ (fun _ => ?_))
   | exact ih0 _ _ _ _ _ _ _ _ _ _ _ _ _ _ _
   | exact ih1 _ _ _ _ _ _ _ _ _ _ _
   | exact ih2 _ _ _ _ _
   | exact impl_SystemOf.mono _ _ _ _
   | exact laws_eqBoolS.mono _ _ _
   | exact laws_eqHyper.mono _ _ _ _ _
   | exact laws_eqSystem.mono _ _ _ _ _ _ _
   | exact laws_heldSystem.mono _ _ _ _ _
   | exact laws_markBoolS.mono _ _ _
   | exact laws_markHyper.mono _ _ _ _
   | exact laws_markSystem.mono _ _ _ _ _
   | exact laws_szHyper.mono _ _ _ _
   | exact laws_toBoolS.mono _ _
   | exact laws_toHyper.mono _ _ _
   | exact spec_SystemOf.mono _ _ _ _
   | exact LeO.none _
   | refine LeO.ite ?_ ?_
   | refine LeO.bind ?_ (fun _ => ?_)
theorem laws_FnExactSystemOf.mono : ∀ a0 a1 a2 k, LeO (laws_FnExactSystemOf.f k a0 a1 a2) (laws_FnExactSystemOf.f (k + 1) a0 a1 a2) := by
 intro a0 a1 a2 k
 obtain ⟨ih0, ih1, ih2⟩ := laws_FnExactSystemOf.mono_l k
 unfold laws_FnExactSystemOf.f
 repeat' first
   | (with_reducible exact ih0 _ _ _ _ _ _ _ _ _ _ _ _ _ _ _)
   | (with_reducible exact ih1 _ _ _ _ _ _ _ _ _ _ _)
   | (with_reducible exact ih2 _ _ _ _ _)
   | (with_reducible exact impl_SystemOf.mono _ _ _ _)
   | (with_reducible exact laws_eqBoolS.mono _ _ _)
   | (with_reducible exact laws_eqHyper.mono _ _ _ _ _)
   | (with_reducible exact laws_eqSystem.mono _ _ _ _ _ _ _)
   | (with_reducible exact laws_heldSystem.mono _ _ _ _ _)
   | (with_reducible exact laws_markBoolS.mono _ _ _)
   | (with_reducible exact laws_markHyper.mono _ _ _ _)
   | (with_reducible exact laws_markSystem.mono _ _ _ _ _)
   | (with_reducible exact laws_szHyper.mono _ _ _ _)
   | (with_reducible exact laws_toBoolS.mono _ _)
   | (with_reducible exact laws_toHyper.mono _ _ _)
   | (with_reducible exact spec_SystemOf.mono _ _ _ _)
   | (with_reducible exact LeO.refl _)
   | (with_reducible exact LeO.none _)
   | (with_reducible refine LeO.ite ?_ ?_)
   | (with_reducible refine LeO.bind ?_ (fun _ => ?_))
   | exact ih0 _ _ _ _ _ _ _ _ _ _ _ _ _ _ _
   | exact ih1 _ _ _ _ _ _ _ _ _ _ _
   | exact ih2 _ _ _ _ _
   | exact impl_SystemOf.mono _ _ _ _
   | exact laws_eqBoolS.mono _ _ _
   | exact laws_eqHyper.mono _ _ _ _ _
   | exact laws_eqSystem.mono _ _ _ _ _ _ _
   | exact laws_heldSystem.mono _ _ _ _ _
   | exact laws_markBoolS.mono _ _ _
   | exact laws_markHyper.mono _ _ _ _
   | exact laws_markSystem.mono _ _ _ _ _
   | exact laws_szHyper.mono _ _ _ _
   | exact laws_toBoolS.mono _ _
   | exact laws_toHyper.mono _ _ _
   | exact spec_SystemOf.mono _ _ _ _
   | exact LeO.none _
   | refine LeO.ite ?_ ?_
   | refine LeO.bind ?_ (fun _ => ?_)
set_option maxHeartbeats 8000000 in
set_option maxRecDepth 100000 in
theorem laws_FnExactSystemOf.calls (k : Nat) (a0_0 : Int) (A0_1 : Option Addr) (c0_1 : Nat) (l0_1 : List (List Int)) (A1 : Option Addr) (c1 : Nat) (l1 : List Bool) (r : Bool) (w : World) (hr0_1 : Kd.C (Kd.slice 3 (Kd.int .i64)) w A0_1 l0_1.length l0_1) (hc0_1 : l0_1.length ≤ c0_1) (hr1 : Kd.C Kd.bool w A1 l1.length l1) (hc1 : l1.length ≤ c1) (h : laws_FnExactSystemOf.f k a0_0 l0_1 l1 = some r) :
  Calls Try.prog 4 #[.agg #[.int .i64 a0_0, .slice A0_1 l0_1.length c0_1], .slice A1 l1.length c1] w fun e w' => e = .returned (.bool r) ∧ Below w.heap.size w w' := by
 have hu38 := Try.underlying38
 have hu29 := Try.underlying29
 have hu41 := Try.underlying41
 have HR0_1 := Aside0.mk hr0_1
 have HC0_1 := Aside0.mk hc0_1
 clear hr0_1 hc0_1
 have HR1 := Aside0.mk hr1
 have HC1 := Aside0.mk hc1
 clear hr1 hc1
 have HB := Aside0.mk (Below.refl w.heap.size w)
 have H : (if (l1.length : Int) > 1048576 then (some true) else ((laws_szHyper.f k a0_0 l0_1 1048576).bind fun t269 => (if t269 < 0 then (some true) else ((laws_toHyper.f k a0_0 l0_1).bind fun bt270 => ((laws_toBoolS.f k l1).bind fun t274 => ((spec_SystemOf.f k bt270.1 bt270.2 t274).bind fun bt277 => ((laws_toHyper.f k a0_0 l0_1).bind fun bt286 => ((laws_toBoolS.f k l1).bind fun t291 => ((impl_SystemOf.f k bt286.1 bt286.2 t291).bind fun bt294 => ((laws_eqSystem.f k bt294.1 bt294.2.1 bt294.2.2.1 bt277.1 bt277.2.1 bt277.2.2.1).bind fun t303 => (if t303 = true then (laws_FnExactSystemOf.j0 k l1 bt277.2.2.2 t291 bt294.2.2.2 (bt294.2.2.2 != bt277.2.2.2) a0_0 l0_1 bt277.1 bt277.2.1 bt277.2.2.1 bt286.1 bt286.2 bt294.1 bt294.2.1 bt294.2.2.1) else (laws_FnExactSystemOf.j0 k l1 bt277.2.2.2 t291 bt294.2.2.2 true a0_0 l0_1 bt277.1 bt277.2.1 bt277.2.2.1 bt286.1 bt286.2 bt294.1 bt294.2.1 bt294.2.2.1)))))))))))) = some r := h
 clear h
 by_cases c3 : (l1.length : Int) > 1048576
 ·
  rw [if_pos c3] at H
  have c3b0 : decide (1048576 < (l1.length : Int)) = true := decide_eq_true c3
  have c3b1 : decide (1048576 < l1.length) = true := decide_eq_true (by omega)
  clear c3
  obtain rfl := Option.some.inj H
  go_enter Try.func4, Try.ntmps4
  go_wp2_with (first | ((with_reducible refine gate_dst (N := 2) rfl ?_); refine box_event ?hg (N := 2) ?hd (cs := #[.int .i64 a0_0, .slice A0_1 l0_1.length c0_1]) (t := 38) ?hr ?_; (case hd => rfl); (case hg => rfl); (case hr => first | (go_simp; done) | (go_simp; rfl)); intro gb268 hg w4 hbox hb; have n0_ := Aside0.mk (below_step (uB HB) hb); have n1_ := Aside0.mk (hbox); have n2_ := Aside0.mk ((by rw [hg]; exact (below_size (uB HB)) : w.heap.size ≤ gb268)); have n3_ := Aside0.mk ((by rw [hg]; exact (below_size (uB HB)) : w.heap.size ≤ gb268)); clear HB; have HB := n0_; have BK268 := n1_; have GW268 := n2_; have GE268 := n3_; clear n0_ n1_ n2_ n3_; clear hb hbox hg))
  go_ret
  exact ⟨by first | rfl | (simp [errW_none, errW_some] <;> rfl) | (simp [*, errW_none, errW_some] <;> rfl), by first | exact uB HB | exact uS HB (gC GE268 gN)⟩
 ·
  rw [if_neg c3] at H
  have c3b0 : decide (1048576 < (l1.length : Int)) = false := decide_eq_false c3
  have c3b1 : decide (1048576 < l1.length) = false := decide_eq_false (by omega)
  clear c3
  replace H := Option.bind_eq_some_iff.mp H
  obtain ⟨t269, A50, H⟩ := H
  replace H : (if t269 < 0 then (some true) else ((laws_toHyper.f k a0_0 l0_1).bind fun bt270 => ((laws_toBoolS.f k l1).bind fun t274 => ((spec_SystemOf.f k bt270.1 bt270.2 t274).bind fun bt277 => ((laws_toHyper.f k a0_0 l0_1).bind fun bt286 => ((laws_toBoolS.f k l1).bind fun t291 => ((impl_SystemOf.f k bt286.1 bt286.2 t291).bind fun bt294 => ((laws_eqSystem.f k bt294.1 bt294.2.1 bt294.2.2.1 bt277.1 bt277.2.1 bt277.2.2.1).bind fun t303 => (if t303 = true then (laws_FnExactSystemOf.j0 k l1 bt277.2.2.2 t291 bt294.2.2.2 (bt294.2.2.2 != bt277.2.2.2) a0_0 l0_1 bt277.1 bt277.2.1 bt277.2.2.1 bt286.1 bt286.2 bt294.1 bt294.2.1 bt294.2.2.1) else (laws_FnExactSystemOf.j0 k l1 bt277.2.2.2 t291 bt294.2.2.2 true a0_0 l0_1 bt277.1 bt277.2.1 bt277.2.2.1 bt286.1 bt286.2 bt294.1 bt294.2.1 bt294.2.2.1)))))))))) = some r := H
  have A5 := Aside0.mk A50
  clear A50
  by_cases c6 : t269 < 0
  ·
   rw [if_pos c6] at H
   have c6b0 : decide (t269 < 0) = true := decide_eq_true c6
   clear c6
   obtain rfl := Option.some.inj H
   go_enter Try.func4, Try.ntmps4
   go_wp2_with (first | ((with_reducible refine gate_dst (N := 2) rfl ?_); refine box_event ?hg (N := 2) ?hd (cs := #[.int .i64 a0_0, .slice A0_1 l0_1.length c0_1]) (t := 38) ?hr ?_; (case hd => rfl); (case hg => rfl); (case hr => first | (go_simp; done) | (go_simp; rfl)); intro gb268 hg w7 hbox hb; have n0_ := Aside0.mk (below_step (uB HB) hb); have n1_ := Aside0.mk (hbox); have n2_ := Aside0.mk ((by rw [hg]; exact (below_size (uB HB)) : w.heap.size ≤ gb268)); have n3_ := Aside0.mk ((by rw [hg]; exact (below_size (uB HB)) : w.heap.size ≤ gb268)); clear HB; have HB := n0_; have BK268 := n1_; have GW268 := n2_; have GE268 := n3_; clear n0_ n1_ n2_ n3_ hb hbox hg; have hcz8_0 : w7.cell? ⟨gb268, 0, none⟩ = some (.int .i64 a0_0) := (blk_cell BK268.out 0).trans rfl; have hcz8_1 : w7.cell? ⟨gb268, 1, none⟩ = some (.slice A0_1 l0_1.length c0_1) := (blk_cell BK268.out 1).trans rfl; have hfz8_0 := blk_frozen BK268.out 0; have hfz8_1 := blk_frozen BK268.out 1) | ((with_reducible refine gate_callee (f := 12) rfl ?_); refine goesL_ (some 22) rfl rfl Try.func12 (by kernel_rfl) rfl #[.agg #[.int .i64 a0_0, .slice A0_1 l0_1.length c0_1], .int .i64 1048576] rfl (by (try simp only [List.map_toArray, List.map_cons, List.map_nil]); first | done | rfl | (simp only [List.length_drop, List.length_take]; rfl)) ?_; (with_reducible refine (laws_szHyper.calls k a0_0 _ _ l0_1 1048576 t269 _ ?side1 ?side2 A5.out).mono ?_); (case side1 => exact uC HR0_1 HB); (case side2 => exact HC0_1.out); rintro e w9 ⟨rfl, hb⟩; refine ⟨_, rfl, ?_⟩; have n0_ := Aside0.mk (blk_below (g := gb268) (o := .cells #[.int .i64 a0_0, .slice A0_1 l0_1.length c0_1] 38 (0, 0)) (uK BK268) hb); have n1_ := Aside0.mk (below_step (by first | exact uB HB | exact uS HB (gC GE268 gN)) hb); clear BK268 HB; have BK268 := n0_; have HB := n1_; clear n0_ n1_; (try clear hb); (try clear hb2); (try clear hk); (try clear hi)))
   go_ret
   exact ⟨by first | rfl | (simp [errW_none, errW_some] <;> rfl) | (simp [*, errW_none, errW_some] <;> rfl), by first | exact uB HB | exact uS HB (gC GE268 gN)⟩
  ·
   rw [if_neg c6] at H
   have c6b0 : decide (t269 < 0) = false := decide_eq_false c6
   clear c6
   replace H := Option.bind_eq_some_iff.mp H
   obtain ⟨⟨t270, t271⟩, A100, H⟩ := H
   replace H : ((laws_toBoolS.f k l1).bind fun t274 => ((spec_SystemOf.f k t270 t271 t274).bind fun bt277 => ((laws_toHyper.f k a0_0 l0_1).bind fun bt286 => ((laws_toBoolS.f k l1).bind fun t291 => ((impl_SystemOf.f k bt286.1 bt286.2 t291).bind fun bt294 => ((laws_eqSystem.f k bt294.1 bt294.2.1 bt294.2.2.1 bt277.1 bt277.2.1 bt277.2.2.1).bind fun t303 => (if t303 = true then (laws_FnExactSystemOf.j0 k l1 bt277.2.2.2 t291 bt294.2.2.2 (bt294.2.2.2 != bt277.2.2.2) a0_0 l0_1 bt277.1 bt277.2.1 bt277.2.2.1 bt286.1 bt286.2 bt294.1 bt294.2.1 bt294.2.2.1) else (laws_FnExactSystemOf.j0 k l1 bt277.2.2.2 t291 bt294.2.2.2 true a0_0 l0_1 bt277.1 bt277.2.1 bt277.2.2.1 bt286.1 bt286.2 bt294.1 bt294.2.1 bt294.2.2.1)))))))) = some r := H
   have A10 := Aside0.mk A100
   clear A100
   replace H := Option.bind_eq_some_iff.mp H
   obtain ⟨t274, A110, H⟩ := H
   replace H : ((spec_SystemOf.f k t270 t271 t274).bind fun bt277 => ((laws_toHyper.f k a0_0 l0_1).bind fun bt286 => ((laws_toBoolS.f k l1).bind fun t291 => ((impl_SystemOf.f k bt286.1 bt286.2 t291).bind fun bt294 => ((laws_eqSystem.f k bt294.1 bt294.2.1 bt294.2.2.1 bt277.1 bt277.2.1 bt277.2.2.1).bind fun t303 => (if t303 = true then (laws_FnExactSystemOf.j0 k l1 bt277.2.2.2 t291 bt294.2.2.2 (bt294.2.2.2 != bt277.2.2.2) a0_0 l0_1 bt277.1 bt277.2.1 bt277.2.2.1 bt286.1 bt286.2 bt294.1 bt294.2.1 bt294.2.2.1) else (laws_FnExactSystemOf.j0 k l1 bt277.2.2.2 t291 bt294.2.2.2 true a0_0 l0_1 bt277.1 bt277.2.1 bt277.2.2.1 bt286.1 bt286.2 bt294.1 bt294.2.1 bt294.2.2.1))))))) = some r := H
   have A11 := Aside0.mk A110
   clear A110
   replace H := Option.bind_eq_some_iff.mp H
   obtain ⟨⟨t277, t278, t281, t284⟩, A120, H⟩ := H
   replace H : ((laws_toHyper.f k a0_0 l0_1).bind fun bt286 => ((laws_toBoolS.f k l1).bind fun t291 => ((impl_SystemOf.f k bt286.1 bt286.2 t291).bind fun bt294 => ((laws_eqSystem.f k bt294.1 bt294.2.1 bt294.2.2.1 t277 t278 t281).bind fun t303 => (if t303 = true then (laws_FnExactSystemOf.j0 k l1 t284 t291 bt294.2.2.2 (bt294.2.2.2 != t284) a0_0 l0_1 t277 t278 t281 bt286.1 bt286.2 bt294.1 bt294.2.1 bt294.2.2.1) else (laws_FnExactSystemOf.j0 k l1 t284 t291 bt294.2.2.2 true a0_0 l0_1 t277 t278 t281 bt286.1 bt286.2 bt294.1 bt294.2.1 bt294.2.2.1)))))) = some r := H
   have A12 := Aside0.mk A120
   clear A120
   replace H := Option.bind_eq_some_iff.mp H
   obtain ⟨⟨t286, t287⟩, A130, H⟩ := H
   replace H : ((laws_toBoolS.f k l1).bind fun t291 => ((impl_SystemOf.f k t286 t287 t291).bind fun bt294 => ((laws_eqSystem.f k bt294.1 bt294.2.1 bt294.2.2.1 t277 t278 t281).bind fun t303 => (if t303 = true then (laws_FnExactSystemOf.j0 k l1 t284 t291 bt294.2.2.2 (bt294.2.2.2 != t284) a0_0 l0_1 t277 t278 t281 t286 t287 bt294.1 bt294.2.1 bt294.2.2.1) else (laws_FnExactSystemOf.j0 k l1 t284 t291 bt294.2.2.2 true a0_0 l0_1 t277 t278 t281 t286 t287 bt294.1 bt294.2.1 bt294.2.2.1))))) = some r := H
   have A13 := Aside0.mk A130
   clear A130
   replace H := Option.bind_eq_some_iff.mp H
   obtain ⟨t291, A140, H⟩ := H
   replace H : ((impl_SystemOf.f k t286 t287 t291).bind fun bt294 => ((laws_eqSystem.f k bt294.1 bt294.2.1 bt294.2.2.1 t277 t278 t281).bind fun t303 => (if t303 = true then (laws_FnExactSystemOf.j0 k l1 t284 t291 bt294.2.2.2 (bt294.2.2.2 != t284) a0_0 l0_1 t277 t278 t281 t286 t287 bt294.1 bt294.2.1 bt294.2.2.1) else (laws_FnExactSystemOf.j0 k l1 t284 t291 bt294.2.2.2 true a0_0 l0_1 t277 t278 t281 t286 t287 bt294.1 bt294.2.1 bt294.2.2.1)))) = some r := H
   have A14 := Aside0.mk A140
   clear A140
   replace H := Option.bind_eq_some_iff.mp H
   obtain ⟨⟨t294, t295, t298, t301⟩, A150, H⟩ := H
   replace H : ((laws_eqSystem.f k t294 t295 t298 t277 t278 t281).bind fun t303 => (if t303 = true then (laws_FnExactSystemOf.j0 k l1 t284 t291 t301 (t301 != t284) a0_0 l0_1 t277 t278 t281 t286 t287 t294 t295 t298) else (laws_FnExactSystemOf.j0 k l1 t284 t291 t301 true a0_0 l0_1 t277 t278 t281 t286 t287 t294 t295 t298))) = some r := H
   have A15 := Aside0.mk A150
   clear A150
   have HC16 := Aside0.mk H
   clear H
   go_enter Try.func4, Try.ntmps4
   go_upto_region 11 with (first | ((with_reducible refine gate_dst (N := 2) rfl ?_); refine box_event ?hg (N := 2) ?hd (cs := #[.int .i64 a0_0, .slice A0_1 l0_1.length c0_1]) (t := 38) ?hr ?_; (case hd => rfl); (case hg => rfl); (case hr => first | (go_simp; done) | (go_simp; rfl)); intro gb268 hg w17 hbox hb; have n0_ := Aside0.mk (below_step (uB HB) hb); have n1_ := Aside0.mk (hbox); have n2_ := Aside0.mk ((by rw [hg]; exact (below_size (uB HB)) : w.heap.size ≤ gb268)); have n3_ := Aside0.mk ((by rw [hg]; exact (below_size (uB HB)) : w.heap.size ≤ gb268)); clear HB; have HB := n0_; have BK268 := n1_; have GW268 := n2_; have GE268 := n3_; clear n0_ n1_ n2_ n3_ hb hbox hg; have hcz18_0 : w17.cell? ⟨gb268, 0, none⟩ = some (.int .i64 a0_0) := (blk_cell BK268.out 0).trans rfl; have hcz18_1 : w17.cell? ⟨gb268, 1, none⟩ = some (.slice A0_1 l0_1.length c0_1) := (blk_cell BK268.out 1).trans rfl; have hfz18_0 := blk_frozen BK268.out 0; have hfz18_1 := blk_frozen BK268.out 1) | ((with_reducible refine gate_callee (f := 12) rfl ?_); refine goesL_ (some 22) rfl rfl Try.func12 (by kernel_rfl) rfl #[.agg #[.int .i64 a0_0, .slice A0_1 l0_1.length c0_1], .int .i64 1048576] rfl (by (try simp only [List.map_toArray, List.map_cons, List.map_nil]); first | done | rfl | (simp only [List.length_drop, List.length_take]; rfl)) ?_; (with_reducible refine (laws_szHyper.calls k a0_0 _ _ l0_1 1048576 t269 _ ?side1 ?side2 A5.out).mono ?_); (case side1 => exact uC HR0_1 HB); (case side2 => exact HC0_1.out); rintro e w19 ⟨rfl, hb⟩; refine ⟨_, rfl, ?_⟩; have n0_ := Aside0.mk (blk_below (g := gb268) (o := .cells #[.int .i64 a0_0, .slice A0_1 l0_1.length c0_1] 38 (0, 0)) (uK BK268) hb); have n1_ := Aside0.mk (below_step (by first | exact uB HB | exact uS HB (gC GE268 gN)) hb); clear BK268 HB; have BK268 := n0_; have HB := n1_; clear n0_ n1_; (try clear hb); (try clear hb2); (try clear hk); (try clear hi); have hcz20_0 : w19.cell? ⟨gb268, 0, none⟩ = some (.int .i64 a0_0) := (blk_cell BK268.out 0).trans rfl; have hcz20_1 : w19.cell? ⟨gb268, 1, none⟩ = some (.slice A0_1 l0_1.length c0_1) := (blk_cell BK268.out 1).trans rfl; have hfz20_0 := blk_frozen BK268.out 0; have hfz20_1 := blk_frozen BK268.out 1) | ((with_reducible refine gate_callee (f := 14) rfl ?_); refine goesL_ (some 27) rfl rfl Try.func14 (by kernel_rfl) rfl #[.agg #[.int .i64 a0_0, .slice A0_1 l0_1.length c0_1]] rfl (by (try simp only [List.map_toArray, List.map_cons, List.map_nil]); first | done | rfl | (simp only [List.length_drop, List.length_take]; rfl)) ?_; (with_reducible refine (laws_toHyper.calls k a0_0 _ _ l0_1 t270 t271 _ ?side1 ?side2 A10.out).mono ?_); (case side1 => exact uC HR0_1 HB); (case side2 => exact HC0_1.out); rintro e w21 ⟨v272, rfl, ho0, hb⟩; refine ⟨_, rfl, ?_⟩; have n0_ := Aside0.mk (Kd.S_lower ho0 (below_size (by first | exact uB HB | exact uS HB (gC GE268 gN)))); have n1_ := Aside0.mk (blk_below (g := gb268) (o := .cells #[.int .i64 a0_0, .slice A0_1 l0_1.length c0_1] 38 (0, 0)) (uK BK268) hb); have n2_ := Aside0.mk (below_step (by first | exact uB HB | exact uS HB (gC GE268 gN)) hb); clear BK268 HB; have HO273 := n0_; have BK268 := n1_; have HB := n2_; clear n0_ n1_ n2_; (try clear hb); (try clear hb2); (try clear hk); (try clear hi); (try clear ho0)) | ((with_reducible refine gate_callee (f := 15) rfl ?_); refine goesL_ (some 29) rfl rfl Try.func15 (by kernel_rfl) rfl #[.slice A1 l1.length c1] rfl (by (try simp only [List.map_toArray, List.map_cons, List.map_nil]); first | done | rfl | (simp only [List.length_drop, List.length_take]; rfl)) ?_; (with_reducible refine (laws_toBoolS.calls k _ _ l1 t274 _ ?side1 ?side2 A11.out).mono ?_); (case side1 => exact uC HR1 HB); (case side2 => exact HC1.out); rintro e w22 ⟨v275, rfl, ho0, hb⟩; refine ⟨_, rfl, ?_⟩; have n0_ := Aside0.mk (Kd.S_below (by (with_reducible repeat (first | apply Kd.S_alloc | apply Kd.S_drewN | apply Kd.S_drew)); exact HO273.out) hb); have n1_ := Aside0.mk (Kd.R_lower ho0 (below_size (by first | exact uB HB | exact uS HB (gC GE268 gN)))); have n2_ := Aside0.mk (blk_below (g := gb268) (o := .cells #[.int .i64 a0_0, .slice A0_1 l0_1.length c0_1] 38 (0, 0)) (uK BK268) hb); have n3_ := Aside0.mk (below_step (by first | exact uB HB | exact uS HB (gC GE268 gN)) hb); clear HO273 BK268 HB; have HO273 := n0_; have HO276 := n1_; have BK268 := n2_; have HB := n3_; clear n0_ n1_ n2_ n3_; (try clear hb); (try clear hb2); (try clear hk); (try clear hi); (try clear ho0); obtain ⟨Ao23, co23, eo23⟩ := Kd.S_slice HO273.out; subst eo23; obtain ⟨Ao24, co24, eo24⟩ := Kd.R_slice HO276.out; subst eo24) | ((with_reducible refine gate_callee (f := 13) rfl ?_); refine goesL_ (some 30) rfl rfl Try.func13 (by kernel_rfl) rfl #[.agg #[.int .i64 t270, .slice Ao23 t271.length co23], .slice Ao24 t274.length co24] rfl (by (try simp only [List.map_toArray, List.map_cons, List.map_nil]); first | done | rfl | (simp only [List.length_drop, List.length_take]; rfl)) ?_; (with_reducible refine (spec_SystemOf.calls k t270 _ _ t271 _ _ t274 t277 t278 t281 t284 _ ?side1 ?side2 ?side3 ?side4 A12.out).mono ?_); (case side1 => repeat (first | exact (Kd.S_reads' HO273.out).2.2 | (with_reducible refine Kd.C_alloc ?_ _) | (with_reducible refine Kd.C_drewN ?_ _) | (with_reducible refine Kd.C_drew ?_))); (case side2 => exact (Kd.S_reads' HO273.out).2.1); (case side3 => exact uD HO276); (case side4 => exact (Kd.R_reads' HO276.out).2.1); rintro e w25 ⟨v279, v282, rfl, ho0, ho1, hb⟩; refine ⟨_, rfl, ?_⟩; have n0_ := Aside0.mk (Kd.S_below (by (with_reducible repeat (first | apply Kd.S_alloc | apply Kd.S_drewN | apply Kd.S_drew)); exact HO273.out) hb); have n1_ := Aside0.mk (Kd.R_elder' (uR HO276) (Kd.R_base ho1) hb); have n2_ := Aside0.mk (Kd.S_lower ho0 (below_size (by first | exact uB HB | exact uS HB (gC GE268 gN)))); have n3_ := Aside0.mk (Kd.R_lower (Kd.R_new' ho1 (Kd.R_lt (uR HO276))) (below_size (by first | exact uB HB | exact uS HB (gC GE268 gN)))); have n4_ := Aside0.mk (blk_below (g := gb268) (o := .cells #[.int .i64 a0_0, .slice A0_1 l0_1.length c0_1] 38 (0, 0)) (uK BK268) hb); have n5_ := Aside0.mk (below_step (by first | exact uB HB | exact uS HB (gC GE268 gN)) hb); clear HO273 HO276 BK268 HB; have HO273 := n0_; have HO276 := n1_; have HO280 := n2_; have HO283 := n3_; have BK268 := n4_; have HB := n5_; clear n0_ n1_ n2_ n3_ n4_ n5_; (try clear hb); (try clear hb2); (try clear hk); (try clear hi); (try clear ho0); (try clear ho1)) | ((with_reducible refine gate_dst (N := 6) rfl ?_); refine box_event ?hg (N := 6) ?hd (cs := #[.int .i64 0, .slice none 0 0, .slice none 0 0]) (t := 29) ?hr ?_; (case hd => rfl); (case hg => rfl); (case hr => first | (go_simp; done) | (go_simp; rfl)); intro gb285 hg w26 hbox hb; have n0_ := Aside0.mk (Kd.S_below (by (with_reducible repeat (first | apply Kd.S_alloc | apply Kd.S_drewN | apply Kd.S_drew)); exact HO273.out) hb); have n1_ := Aside0.mk (Kd.R_below (uR HO276) hb); have n2_ := Aside0.mk (Kd.S_below (by (with_reducible repeat (first | apply Kd.S_alloc | apply Kd.S_drewN | apply Kd.S_drew)); exact HO280.out) hb); have n3_ := Aside0.mk (Kd.R_below (uR HO283) hb); have n4_ := Aside0.mk (blk_below (g := gb268) (o := .cells #[.int .i64 a0_0, .slice A0_1 l0_1.length c0_1] 38 (0, 0)) (uK BK268) hb); have n5_ := Aside0.mk (below_step (by first | exact uB HB | exact uS HB (gC GE268 gN)) hb); have n6_ := Aside0.mk (hbox); have n7_ := Aside0.mk ((by rw [hg]; exact (below_size (by first | exact uB HB | exact uS HB (gC GE268 gN))) : w.heap.size ≤ gb285)); have n8_ := Aside0.mk ((by rw [hg]; exact (below_size (by first | exact uB HB | exact uS HB (gC GE268 gN))) : w.heap.size ≤ gb285)); have n9_ := Aside0.mk ((by rw [hg]; exact Nat.ne_of_lt (blk_lt (g := gb268) (o := .cells #[.int .i64 a0_0, .slice A0_1 l0_1.length c0_1] 38 (0, 0)) (uK BK268)) : gb268 ≠ gb285)); have n10_ := Aside0.mk ((by rw [hg]; exact Nat.ne_of_gt (blk_lt (g := gb268) (o := .cells #[.int .i64 a0_0, .slice A0_1 l0_1.length c0_1] 38 (0, 0)) (uK BK268)) : gb285 ≠ gb268)); clear HO273 HO276 HO280 HO283 BK268 HB; have HO273 := n0_; have HO276 := n1_; have HO280 := n2_; have HO283 := n3_; have BK268 := n4_; have HB := n5_; have BK285 := n6_; have GW285 := n7_; have GE285 := n8_; have NB268_285 := n9_; have NB285_268 := n10_; clear n0_ n1_ n2_ n3_ n4_ n5_ n6_ n7_ n8_ n9_ n10_ hb hbox hg; have hnb27 := NB285_268.out; have hnc27 := NB268_285.out; have hcz28_0 : w26.cell? ⟨gb285, 0, none⟩ = some (.int .i64 0) := (blk_cell BK285.out 0).trans rfl; have hcz28_1 : w26.cell? ⟨gb285, 1, none⟩ = some (.slice none 0 0) := (blk_cell BK285.out 1).trans rfl; have hcz28_2 : w26.cell? ⟨gb285, 2, none⟩ = some (.slice none 0 0) := (blk_cell BK285.out 2).trans rfl; have hfz28_0 := blk_frozen BK285.out 0; have hfz28_1 := blk_frozen BK285.out 1; have hfz28_2 := blk_frozen BK285.out 2; obtain ⟨Ao29, co29, eo29⟩ := Kd.S_slice HO280.out; subst eo29; obtain ⟨Ao30, co30, eo30⟩ := Kd.R_slice HO283.out; subst eo30; have hcz31_0 : w26.cell? ⟨gb268, 0, none⟩ = some (.int .i64 a0_0) := (blk_cell BK268.out 0).trans rfl; have hcz31_1 : w26.cell? ⟨gb268, 1, none⟩ = some (.slice A0_1 l0_1.length c0_1) := (blk_cell BK268.out 1).trans rfl; have hfz31_0 := blk_frozen BK268.out 0; have hfz31_1 := blk_frozen BK268.out 1) | ((with_reducible refine gate_callee (f := 14) rfl ?_); refine goesL_ (some 34) rfl rfl Try.func14 (by kernel_rfl) rfl #[.agg #[.int .i64 a0_0, .slice A0_1 l0_1.length c0_1]] rfl (by (try simp only [List.map_toArray, List.map_cons, List.map_nil]); first | done | rfl | (simp only [List.length_drop, List.length_take]; rfl)) ?_; (with_reducible refine (laws_toHyper.calls k a0_0 _ _ l0_1 t286 t287 _ ?side1 ?side2 A13.out).mono ?_); (case side1 => exact Kd.C_below HR0_1.out (by first | exact uB HB | exact uS HB (gC GE268 (gC GE285 gN)))); (case side2 => exact HC0_1.out); rintro e w32 ⟨v288, rfl, ho0, hb⟩; refine ⟨_, rfl, ?_⟩; obtain ⟨n1, hn1⟩ := kg_size hb; have n0_ := Aside0.mk (Kd.S_elder' (by (with_reducible repeat (first | apply Kd.S_alloc | apply Kd.S_drewN | apply Kd.S_drew)); exact (Kd.S_mono (Kd.S_far (p := ⟨gb285, 2, none⟩) (Kd.S_far (p := ⟨gb285, 1, none⟩) (Kd.S_far (p := ⟨gb285, 0, none⟩) (Kd.S_types HO273.out BK285.out (by decide)) (fun _ hk => hk.2) (.int .i64 t277)) (fun _ hk => hk.2) (.slice Ao29 t278.length co29)) (fun _ hk => hk.2) (.slice Ao30 t281.length co30)) (fun _ h_ => h_.1))) (Kd.S_base ho0) hb); have n1_ := Aside0.mk (Kd.R_below (by (with_reducible repeat (first | apply Kd.R_alloc | apply Kd.R_drewN | apply Kd.R_drew)); exact (Kd.R_mono (Kd.R_far (p := ⟨gb285, 2, none⟩) (Kd.R_far (p := ⟨gb285, 1, none⟩) (Kd.R_far (p := ⟨gb285, 0, none⟩) (Kd.R_types HO276.out BK285.out (by decide)) (fun _ hk => hk.2) (.int .i64 t277)) (fun _ hk => hk.2) (.slice Ao29 t278.length co29)) (fun _ hk => hk.2) (.slice Ao30 t281.length co30)) (fun _ h_ => h_.1))) hb); have n2_ := Aside0.mk (so_old (ok' := fun k_ => k_ < n1) (by (with_reducible repeat (first | apply Kd.S_alloc | apply Kd.S_drewN | apply Kd.S_drew)); exact (Kd.S_mono (Kd.S_far (p := ⟨gb285, 2, none⟩) (Kd.S_far (p := ⟨gb285, 1, none⟩) (Kd.S_far (p := ⟨gb285, 0, none⟩) (Kd.S_types HO280.out BK285.out (by decide)) (fun _ hk => hk.2) (.int .i64 t277)) (fun _ hk => hk.2) (.slice Ao29 t278.length co29)) (fun _ hk => hk.2) (.slice Ao30 t281.length co30)) (fun _ h_ => h_.1))) hb hn1 (fun _ h_ => h_.2)); have n3_ := Aside0.mk (Kd.R_below (by (with_reducible repeat (first | apply Kd.R_alloc | apply Kd.R_drewN | apply Kd.R_drew)); exact (Kd.R_mono (Kd.R_far (p := ⟨gb285, 2, none⟩) (Kd.R_far (p := ⟨gb285, 1, none⟩) (Kd.R_far (p := ⟨gb285, 0, none⟩) (Kd.R_types HO283.out BK285.out (by decide)) (fun _ hk => hk.2) (.int .i64 t277)) (fun _ hk => hk.2) (.slice Ao29 t278.length co29)) (fun _ hk => hk.2) (.slice Ao30 t281.length co30)) (fun _ h_ => h_.1))) hb); have n4_ := Aside0.mk (Kd.S_lower (so_new ho0 hn1) (below_size (by first | exact uB HB | exact uS HB (gC GE268 (gC GE285 gN))))); have n5_ := Aside0.mk (blk_below (g := gb268) (o := .cells #[.int .i64 a0_0, .slice A0_1 l0_1.length c0_1] 38 (0, 0)) (by refine uW ?_; refine blk_far ?_ NB268_285.out _; refine uW ?_; refine blk_far ?_ NB268_285.out _; refine uW ?_; refine blk_far ?_ NB268_285.out _; refine uW ?_; exact BK268.out) hb); have n6_ := Aside0.mk (blk_below (g := gb285) (o := .cells #[.int .i64 t277, .slice Ao29 t278.length co29, .slice Ao30 t281.length co30] 29 (0, 0)) (by refine uW ?_; refine blk_put (cs := #[.int .i64 t277, .slice Ao29 t278.length co29, .slice none 0 0]) ?_ 2 _ rfl; refine uW ?_; refine blk_put (cs := #[.int .i64 t277, .slice none 0 0, .slice none 0 0]) ?_ 1 _ rfl; refine uW ?_; refine blk_put (cs := #[.int .i64 0, .slice none 0 0, .slice none 0 0]) ?_ 0 _ rfl; refine uW ?_; exact BK285.out) hb); have n7_ := Aside0.mk (below_step (by first | exact uB HB | exact uS HB (gC GE268 (gC GE285 gN))) hb); clear HO273 HO276 HO280 HO283 BK268 BK285 HB; have HO273 := n0_; have HO276 := n1_; have HO280 := n2_; have HO283 := n3_; have HO289 := n4_; have BK268 := n5_; have BK285 := n6_; have HB := n7_; clear n0_ n1_ n2_ n3_ n4_ n5_ n6_ n7_; (try clear hb); (try clear hb2); (try clear hk); (try clear hi); (try clear ho0)) | ((with_reducible refine gate_dst (N := 8) rfl ?_); refine box_event ?hg (N := 8) ?hd (cs := #[.int .i64 0, .slice none 0 0]) (t := 41) ?hr ?_; (case hd => rfl); (case hg => rfl); (case hr => first | (go_simp; done) | (go_simp; rfl)); intro gb290 hg w33 hbox hb; have n0_ := Aside0.mk (Kd.S_below (by (with_reducible repeat (first | apply Kd.S_alloc | apply Kd.S_drewN | apply Kd.S_drew)); exact HO273.out) hb); have n1_ := Aside0.mk (Kd.R_below (uR HO276) hb); have n2_ := Aside0.mk (Kd.S_below (by (with_reducible repeat (first | apply Kd.S_alloc | apply Kd.S_drewN | apply Kd.S_drew)); exact HO280.out) hb); have n3_ := Aside0.mk (Kd.R_below (uR HO283) hb); have n4_ := Aside0.mk (Kd.S_below (by (with_reducible repeat (first | apply Kd.S_alloc | apply Kd.S_drewN | apply Kd.S_drew)); exact HO289.out) hb); have n5_ := Aside0.mk (blk_below (g := gb268) (o := .cells #[.int .i64 a0_0, .slice A0_1 l0_1.length c0_1] 38 (0, 0)) (uK BK268) hb); have n6_ := Aside0.mk (blk_below (g := gb285) (o := .cells #[.int .i64 t277, .slice Ao29 t278.length co29, .slice Ao30 t281.length co30] 29 (0, 0)) (uK BK285) hb); have n7_ := Aside0.mk (below_step (by first | exact uB HB | exact uS HB (gC GE268 (gC GE285 gN))) hb); have n8_ := Aside0.mk (hbox); have n9_ := Aside0.mk ((by rw [hg]; exact (below_size (by first | exact uB HB | exact uS HB (gC GE268 (gC GE285 gN)))) : w.heap.size ≤ gb290)); have n10_ := Aside0.mk ((by rw [hg]; exact (below_size (by first | exact uB HB | exact uS HB (gC GE268 (gC GE285 gN)))) : w.heap.size ≤ gb290)); have n11_ := Aside0.mk ((by rw [hg]; exact Nat.ne_of_lt (blk_lt (g := gb268) (o := .cells #[.int .i64 a0_0, .slice A0_1 l0_1.length c0_1] 38 (0, 0)) (uK BK268)) : gb268 ≠ gb290)); have n12_ := Aside0.mk ((by rw [hg]; exact Nat.ne_of_gt (blk_lt (g := gb268) (o := .cells #[.int .i64 a0_0, .slice A0_1 l0_1.length c0_1] 38 (0, 0)) (uK BK268)) : gb290 ≠ gb268)); have n13_ := Aside0.mk ((by rw [hg]; exact Nat.ne_of_lt (blk_lt (g := gb285) (o := .cells #[.int .i64 t277, .slice Ao29 t278.length co29, .slice Ao30 t281.length co30] 29 (0, 0)) (uK BK285)) : gb285 ≠ gb290)); have n14_ := Aside0.mk ((by rw [hg]; exact Nat.ne_of_gt (blk_lt (g := gb285) (o := .cells #[.int .i64 t277, .slice Ao29 t278.length co29, .slice Ao30 t281.length co30] 29 (0, 0)) (uK BK285)) : gb290 ≠ gb285)); clear HO273 HO276 HO280 HO283 HO289 BK268 BK285 HB; have HO273 := n0_; have HO276 := n1_; have HO280 := n2_; have HO283 := n3_; have HO289 := n4_; have BK268 := n5_; have BK285 := n6_; have HB := n7_; have BK290 := n8_; have GW290 := n9_; have GE290 := n10_; have NB268_290 := n11_; have NB290_268 := n12_; have NB285_290 := n13_; have NB290_285 := n14_; clear n0_ n1_ n2_ n3_ n4_ n5_ n6_ n7_ n8_ n9_ n10_ n11_ n12_ n13_ n14_ hb hbox hg; have hnb34 := NB290_268.out; have hnc34 := NB268_290.out; have hnb35 := NB290_285.out; have hnc35 := NB285_290.out; have hcz36_0 : w33.cell? ⟨gb290, 0, none⟩ = some (.int .i64 0) := (blk_cell BK290.out 0).trans rfl; have hcz36_1 : w33.cell? ⟨gb290, 1, none⟩ = some (.slice none 0 0) := (blk_cell BK290.out 1).trans rfl; have hfz36_0 := blk_frozen BK290.out 0; have hfz36_1 := blk_frozen BK290.out 1; obtain ⟨Ao37, co37, eo37⟩ := Kd.S_slice HO289.out; subst eo37) | ((with_reducible refine gate_callee (f := 15) rfl ?_); refine goesL_ (some 36) rfl rfl Try.func15 (by kernel_rfl) rfl #[.slice A1 l1.length c1] rfl (by (try simp only [List.map_toArray, List.map_cons, List.map_nil]); first | done | rfl | (simp only [List.length_drop, List.length_take]; rfl)) ?_; (with_reducible refine (laws_toBoolS.calls k _ _ l1 t291 _ ?side1 ?side2 A14.out).mono ?_); (case side1 => exact Kd.C_below HR1.out (by first | exact uB HB | exact uS HB (gC GE268 (gC GE285 (gC GE290 gN))))); (case side2 => exact HC1.out); rintro e w38 ⟨v292, rfl, ho0, hb⟩; refine ⟨_, rfl, ?_⟩; have n0_ := Aside0.mk (Kd.S_below (by (with_reducible repeat (first | apply Kd.S_alloc | apply Kd.S_drewN | apply Kd.S_drew)); exact (Kd.S_mono (Kd.S_far (p := ⟨gb290, 1, none⟩) (Kd.S_far (p := ⟨gb290, 0, none⟩) (Kd.S_types HO273.out BK290.out (by decide)) (fun _ hk => hk.2) (.int .i64 t286)) (fun _ hk => hk.2) (.slice Ao37 t287.length co37)) (fun _ h_ => h_.1))) hb); have n1_ := Aside0.mk (Kd.R_elder' (by (with_reducible repeat (first | apply Kd.R_alloc | apply Kd.R_drewN | apply Kd.R_drew)); exact (Kd.R_mono (Kd.R_far (p := ⟨gb290, 1, none⟩) (Kd.R_far (p := ⟨gb290, 0, none⟩) (Kd.R_types HO276.out BK290.out (by decide)) (fun _ hk => hk.2) (.int .i64 t286)) (fun _ hk => hk.2) (.slice Ao37 t287.length co37)) (fun _ h_ => h_.1))) (Kd.R_base ho0) hb); have n2_ := Aside0.mk (Kd.S_below (by (with_reducible repeat (first | apply Kd.S_alloc | apply Kd.S_drewN | apply Kd.S_drew)); exact (Kd.S_mono (Kd.S_far (p := ⟨gb290, 1, none⟩) (Kd.S_far (p := ⟨gb290, 0, none⟩) (Kd.S_types HO280.out BK290.out (by decide)) (fun _ hk => hk.2) (.int .i64 t286)) (fun _ hk => hk.2) (.slice Ao37 t287.length co37)) (fun _ h_ => h_.1))) hb); have n3_ := Aside0.mk (Kd.R_elder' (by (with_reducible repeat (first | apply Kd.R_alloc | apply Kd.R_drewN | apply Kd.R_drew)); exact (Kd.R_mono (Kd.R_far (p := ⟨gb290, 1, none⟩) (Kd.R_far (p := ⟨gb290, 0, none⟩) (Kd.R_types HO283.out BK290.out (by decide)) (fun _ hk => hk.2) (.int .i64 t286)) (fun _ hk => hk.2) (.slice Ao37 t287.length co37)) (fun _ h_ => h_.1))) (Kd.R_base ho0) hb); have n4_ := Aside0.mk (Kd.S_below (by (with_reducible repeat (first | apply Kd.S_alloc | apply Kd.S_drewN | apply Kd.S_drew)); exact (Kd.S_mono (Kd.S_far (p := ⟨gb290, 1, none⟩) (Kd.S_far (p := ⟨gb290, 0, none⟩) (Kd.S_types HO289.out BK290.out (by decide)) (fun _ hk => hk.2) (.int .i64 t286)) (fun _ hk => hk.2) (.slice Ao37 t287.length co37)) (fun _ h_ => h_.1))) hb); have n5_ := Aside0.mk (Kd.R_lower (Kd.R_new' (Kd.R_new' ho0 (Kd.R_lt (by (with_reducible repeat (first | apply Kd.R_alloc | apply Kd.R_drewN | apply Kd.R_drew)); exact (Kd.R_mono (Kd.R_far (p := ⟨gb290, 1, none⟩) (Kd.R_far (p := ⟨gb290, 0, none⟩) (Kd.R_types HO276.out BK290.out (by decide)) (fun _ hk => hk.2) (.int .i64 t286)) (fun _ hk => hk.2) (.slice Ao37 t287.length co37)) (fun _ h_ => h_.1))))) (Kd.R_lt (by (with_reducible repeat (first | apply Kd.R_alloc | apply Kd.R_drewN | apply Kd.R_drew)); exact (Kd.R_mono (Kd.R_far (p := ⟨gb290, 1, none⟩) (Kd.R_far (p := ⟨gb290, 0, none⟩) (Kd.R_types HO283.out BK290.out (by decide)) (fun _ hk => hk.2) (.int .i64 t286)) (fun _ hk => hk.2) (.slice Ao37 t287.length co37)) (fun _ h_ => h_.1))))) (below_size (by first | exact uB HB | exact uS HB (gC GE268 (gC GE285 (gC GE290 gN)))))); have n6_ := Aside0.mk (blk_below (g := gb268) (o := .cells #[.int .i64 a0_0, .slice A0_1 l0_1.length c0_1] 38 (0, 0)) (by refine uW ?_; refine blk_far ?_ NB268_290.out _; refine uW ?_; refine blk_far ?_ NB268_290.out _; refine uW ?_; exact BK268.out) hb); have n7_ := Aside0.mk (blk_below (g := gb285) (o := .cells #[.int .i64 t277, .slice Ao29 t278.length co29, .slice Ao30 t281.length co30] 29 (0, 0)) (by refine uW ?_; refine blk_far ?_ NB285_290.out _; refine uW ?_; refine blk_far ?_ NB285_290.out _; refine uW ?_; exact BK285.out) hb); have n8_ := Aside0.mk (blk_below (g := gb290) (o := .cells #[.int .i64 t286, .slice Ao37 t287.length co37] 41 (0, 0)) (by refine uW ?_; refine blk_put (cs := #[.int .i64 t286, .slice none 0 0]) ?_ 1 _ rfl; refine uW ?_; refine blk_put (cs := #[.int .i64 0, .slice none 0 0]) ?_ 0 _ rfl; refine uW ?_; exact BK290.out) hb); have n9_ := Aside0.mk (below_step (by first | exact uB HB | exact uS HB (gC GE268 (gC GE285 (gC GE290 gN)))) hb); clear HO273 HO276 HO280 HO283 HO289 BK268 BK285 BK290 HB; have HO273 := n0_; have HO276 := n1_; have HO280 := n2_; have HO283 := n3_; have HO289 := n4_; have HO293 := n5_; have BK268 := n6_; have BK285 := n7_; have BK290 := n8_; have HB := n9_; clear n0_ n1_ n2_ n3_ n4_ n5_ n6_ n7_ n8_ n9_; (try clear hb); (try clear hb2); (try clear hk); (try clear hi); (try clear ho0); have hcz39_0 : w38.cell? ⟨gb290, 0, none⟩ = some (.int .i64 t286) := (blk_cell BK290.out 0).trans rfl; have hcz39_1 : w38.cell? ⟨gb290, 1, none⟩ = some (.slice Ao37 t287.length co37) := (blk_cell BK290.out 1).trans rfl; have hfz39_0 := blk_frozen BK290.out 0; have hfz39_1 := blk_frozen BK290.out 1; obtain ⟨Ao40, co40, eo40⟩ := Kd.R_slice HO293.out; subst eo40) | ((with_reducible refine gate_callee (f := 16) rfl ?_); refine goesL_ (some 40) rfl rfl Try.func16 (by kernel_rfl) rfl #[.agg #[.int .i64 t286, .slice Ao37 t287.length co37], .slice Ao40 t291.length co40] rfl (by (try simp only [List.map_toArray, List.map_cons, List.map_nil]); first | done | rfl | (simp only [List.length_drop, List.length_take]; rfl)) ?_; (with_reducible refine (impl_SystemOf.calls k t286 _ _ t287 _ _ t291 t294 t295 t298 t301 _ ?side1 ?side2 ?side3 ?side4 A15.out).mono ?_); (case side1 => repeat (first | exact (Kd.S_reads' HO289.out).2.2 | (with_reducible refine Kd.C_alloc ?_ _) | (with_reducible refine Kd.C_drewN ?_ _) | (with_reducible refine Kd.C_drew ?_))); (case side2 => exact (Kd.S_reads' HO289.out).2.1); (case side3 => exact uD HO293); (case side4 => exact (Kd.R_reads' HO293.out).2.1); rintro e w41 ⟨v296, v299, rfl, ho0, ho1, hb⟩; refine ⟨_, rfl, ?_⟩; obtain ⟨n2, hn2⟩ := kg_size hb; have n0_ := Aside0.mk (Kd.S_below (by (with_reducible repeat (first | apply Kd.S_alloc | apply Kd.S_drewN | apply Kd.S_drew)); exact HO273.out) hb); have n1_ := Aside0.mk (Kd.R_elder' (uR HO276) (Kd.R_base ho1) hb); have n2_ := Aside0.mk (so_old (ok' := fun k_ => k_ < n1 ∧ k_ < n2) (by (with_reducible repeat (first | apply Kd.S_alloc | apply Kd.S_drewN | apply Kd.S_drew)); exact HO280.out) hb hn2 (fun _ h_ => h_)); have n3_ := Aside0.mk (Kd.R_elder' (uR HO283) (Kd.R_base ho1) hb); have n4_ := Aside0.mk (so_old (ok' := fun k_ => n1 ≤ k_ ∧ k_ < n2) (by (with_reducible repeat (first | apply Kd.S_alloc | apply Kd.S_drewN | apply Kd.S_drew)); exact HO289.out) hb hn2 (fun _ h_ => h_)); have n5_ := Aside0.mk (Kd.R_elder' (uR HO293) (Kd.R_base ho1) hb); have n6_ := Aside0.mk (Kd.S_lower (so_new ho0 hn2) (below_size (by first | exact uB HB | exact uS HB (gC GE268 (gC GE285 (gC GE290 gN)))))); have n7_ := Aside0.mk (Kd.R_lower (Kd.R_new' (Kd.R_new' (Kd.R_new' ho1 (Kd.R_lt (uR HO276))) (Kd.R_lt (uR HO283))) (Kd.R_lt (uR HO293))) (below_size (by first | exact uB HB | exact uS HB (gC GE268 (gC GE285 (gC GE290 gN)))))); have n8_ := Aside0.mk (blk_below (g := gb268) (o := .cells #[.int .i64 a0_0, .slice A0_1 l0_1.length c0_1] 38 (0, 0)) (uK BK268) hb); have n9_ := Aside0.mk (blk_below (g := gb285) (o := .cells #[.int .i64 t277, .slice Ao29 t278.length co29, .slice Ao30 t281.length co30] 29 (0, 0)) (uK BK285) hb); have n10_ := Aside0.mk (blk_below (g := gb290) (o := .cells #[.int .i64 t286, .slice Ao37 t287.length co37] 41 (0, 0)) (uK BK290) hb); have n11_ := Aside0.mk (below_step (by first | exact uB HB | exact uS HB (gC GE268 (gC GE285 (gC GE290 gN)))) hb); clear HO273 HO276 HO280 HO283 HO289 HO293 BK268 BK285 BK290 HB; have HO273 := n0_; have HO276 := n1_; have HO280 := n2_; have HO283 := n3_; have HO289 := n4_; have HO293 := n5_; have HO297 := n6_; have HO300 := n7_; have BK268 := n8_; have BK285 := n9_; have BK290 := n10_; have HB := n11_; clear n0_ n1_ n2_ n3_ n4_ n5_ n6_ n7_ n8_ n9_ n10_ n11_; (try clear hb); (try clear hb2); (try clear hk); (try clear hi); (try clear ho0); (try clear ho1)) | ((with_reducible refine gate_dst (N := 10) rfl ?_); refine box_event ?hg (N := 10) ?hd (cs := #[.int .i64 0, .slice none 0 0, .slice none 0 0]) (t := 29) ?hr ?_; (case hd => rfl); (case hg => rfl); (case hr => first | (go_simp; done) | (go_simp; rfl)); intro gb302 hg w42 hbox hb; have n0_ := Aside0.mk (Kd.S_below (by (with_reducible repeat (first | apply Kd.S_alloc | apply Kd.S_drewN | apply Kd.S_drew)); exact HO273.out) hb); have n1_ := Aside0.mk (Kd.R_below (uR HO276) hb); have n2_ := Aside0.mk (Kd.S_below (by (with_reducible repeat (first | apply Kd.S_alloc | apply Kd.S_drewN | apply Kd.S_drew)); exact HO280.out) hb); have n3_ := Aside0.mk (Kd.R_below (uR HO283) hb); have n4_ := Aside0.mk (Kd.S_below (by (with_reducible repeat (first | apply Kd.S_alloc | apply Kd.S_drewN | apply Kd.S_drew)); exact HO289.out) hb); have n5_ := Aside0.mk (Kd.R_below (uR HO293) hb); have n6_ := Aside0.mk (Kd.S_below (by (with_reducible repeat (first | apply Kd.S_alloc | apply Kd.S_drewN | apply Kd.S_drew)); exact HO297.out) hb); have n7_ := Aside0.mk (Kd.R_below (uR HO300) hb); have n8_ := Aside0.mk (blk_below (g := gb268) (o := .cells #[.int .i64 a0_0, .slice A0_1 l0_1.length c0_1] 38 (0, 0)) (uK BK268) hb); have n9_ := Aside0.mk (blk_below (g := gb285) (o := .cells #[.int .i64 t277, .slice Ao29 t278.length co29, .slice Ao30 t281.length co30] 29 (0, 0)) (uK BK285) hb); have n10_ := Aside0.mk (blk_below (g := gb290) (o := .cells #[.int .i64 t286, .slice Ao37 t287.length co37] 41 (0, 0)) (uK BK290) hb); have n11_ := Aside0.mk (below_step (by first | exact uB HB | exact uS HB (gC GE268 (gC GE285 (gC GE290 gN)))) hb); have n12_ := Aside0.mk (hbox); have n13_ := Aside0.mk ((by rw [hg]; exact (below_size (by first | exact uB HB | exact uS HB (gC GE268 (gC GE285 (gC GE290 gN))))) : w.heap.size ≤ gb302)); have n14_ := Aside0.mk ((by rw [hg]; exact (below_size (by first | exact uB HB | exact uS HB (gC GE268 (gC GE285 (gC GE290 gN))))) : w.heap.size ≤ gb302)); have n15_ := Aside0.mk ((by rw [hg]; exact Nat.ne_of_lt (blk_lt (g := gb268) (o := .cells #[.int .i64 a0_0, .slice A0_1 l0_1.length c0_1] 38 (0, 0)) (uK BK268)) : gb268 ≠ gb302)); have n16_ := Aside0.mk ((by rw [hg]; exact Nat.ne_of_gt (blk_lt (g := gb268) (o := .cells #[.int .i64 a0_0, .slice A0_1 l0_1.length c0_1] 38 (0, 0)) (uK BK268)) : gb302 ≠ gb268)); have n17_ := Aside0.mk ((by rw [hg]; exact Nat.ne_of_lt (blk_lt (g := gb285) (o := .cells #[.int .i64 t277, .slice Ao29 t278.length co29, .slice Ao30 t281.length co30] 29 (0, 0)) (uK BK285)) : gb285 ≠ gb302)); have n18_ := Aside0.mk ((by rw [hg]; exact Nat.ne_of_gt (blk_lt (g := gb285) (o := .cells #[.int .i64 t277, .slice Ao29 t278.length co29, .slice Ao30 t281.length co30] 29 (0, 0)) (uK BK285)) : gb302 ≠ gb285)); have n19_ := Aside0.mk ((by rw [hg]; exact Nat.ne_of_lt (blk_lt (g := gb290) (o := .cells #[.int .i64 t286, .slice Ao37 t287.length co37] 41 (0, 0)) (uK BK290)) : gb290 ≠ gb302)); have n20_ := Aside0.mk ((by rw [hg]; exact Nat.ne_of_gt (blk_lt (g := gb290) (o := .cells #[.int .i64 t286, .slice Ao37 t287.length co37] 41 (0, 0)) (uK BK290)) : gb302 ≠ gb290)); clear HO273 HO276 HO280 HO283 HO289 HO293 HO297 HO300 BK268 BK285 BK290 HB; have HO273 := n0_; have HO276 := n1_; have HO280 := n2_; have HO283 := n3_; have HO289 := n4_; have HO293 := n5_; have HO297 := n6_; have HO300 := n7_; have BK268 := n8_; have BK285 := n9_; have BK290 := n10_; have HB := n11_; have BK302 := n12_; have GW302 := n13_; have GE302 := n14_; have NB268_302 := n15_; have NB302_268 := n16_; have NB285_302 := n17_; have NB302_285 := n18_; have NB290_302 := n19_; have NB302_290 := n20_; clear n0_ n1_ n2_ n3_ n4_ n5_ n6_ n7_ n8_ n9_ n10_ n11_ n12_ n13_ n14_ n15_ n16_ n17_ n18_ n19_ n20_ hb hbox hg; have hnb43 := NB302_268.out; have hnc43 := NB268_302.out; have hnb44 := NB302_285.out; have hnc44 := NB285_302.out; have hnb45 := NB302_290.out; have hnc45 := NB290_302.out; have hcz46_0 : w42.cell? ⟨gb302, 0, none⟩ = some (.int .i64 0) := (blk_cell BK302.out 0).trans rfl; have hcz46_1 : w42.cell? ⟨gb302, 1, none⟩ = some (.slice none 0 0) := (blk_cell BK302.out 1).trans rfl; have hcz46_2 : w42.cell? ⟨gb302, 2, none⟩ = some (.slice none 0 0) := (blk_cell BK302.out 2).trans rfl; have hfz46_0 := blk_frozen BK302.out 0; have hfz46_1 := blk_frozen BK302.out 1; have hfz46_2 := blk_frozen BK302.out 2; obtain ⟨Ao47, co47, eo47⟩ := Kd.S_slice HO297.out; subst eo47; obtain ⟨Ao48, co48, eo48⟩ := Kd.R_slice HO300.out; subst eo48))
   (try simp only [Act.put, List.setIfInBounds_toArray, List.set_cons_zero, List.set_cons_succ])
   go_cut [51] (fun v51 wc => ∃ (kq : Nat) (x51_15 : Bool), v51 = .bool x51_15 ∧ Aside0 (laws_FnExactSystemOf.j0 kq l1 t284 t291 t301 x51_15 a0_0 l0_1 t277 t278 t281 t286 t287 t294 t295 t298 = some r) ∧ Aside0 (kq ≤ k) ∧ Aside0 (Kd.R Kd.bool 4 wc w.heap.size (fun k_ => some k_ ≠ ((.slice Ao30 t281.length co30) : Value).ownBlock ∧ some k_ ≠ ((.slice Ao48 t298.length co48) : Value).ownBlock) (.slice Ao40 t291.length co40) t291) ∧ Aside0 (Kd.S k53 53 wc w.heap.size (fun k_ => k_ < n1 ∧ k_ < n2) (.slice Ao29 t278.length co29) t278) ∧ Aside0 (Kd.R Kd.bool 4 wc w.heap.size (fun k_ => some k_ ≠ ((.slice Ao40 t291.length co40) : Value).ownBlock ∧ some k_ ≠ ((.slice Ao48 t298.length co48) : Value).ownBlock) (.slice Ao30 t281.length co30) t281) ∧ Aside0 (Kd.S (Kd.slice 3 (Kd.int .i64)) 51 wc w.heap.size (fun k_ => n1 ≤ k_ ∧ k_ < n2) (.slice Ao37 t287.length co37) t287) ∧ Aside0 (Kd.S k53 53 wc w.heap.size (fun k_ => n2 ≤ k_) (.slice Ao47 t295.length co47) t295) ∧ Aside0 (Kd.R Kd.bool 4 wc w.heap.size (fun k_ => some k_ ≠ ((.slice Ao40 t291.length co40) : Value).ownBlock ∧ some k_ ≠ ((.slice Ao30 t281.length co30) : Value).ownBlock) (.slice Ao48 t298.length co48) t298) ∧ Aside0 (wc.heap[gb268]? = some (.cells #[.int .i64 a0_0, (.slice A0_1 l0_1.length c0_1)] 38 (0, 0))) ∧ Aside0 (wc.heap[gb285]? = some (.cells #[.int .i64 t277, (.slice Ao29 t278.length co29), (.slice Ao30 t281.length co30)] 29 (0, 0))) ∧ Aside0 (wc.heap[gb290]? = some (.cells #[.int .i64 t286, (.slice Ao37 t287.length co37)] 41 (0, 0))) ∧ Aside0 (wc.heap[gb302]? = some (.cells #[.int .i64 t294, (.slice Ao47 t295.length co47), (.slice Ao48 t298.length co48)] 29 (0, 0))) ∧ Aside0 (Below w.heap.size w wc))
   case first =>
    have H := HC16.out
    clear HC16
    replace H := Option.bind_eq_some_iff.mp H
    obtain ⟨t303, A490, H⟩ := H
    replace H : (if t303 = true then (laws_FnExactSystemOf.j0 k l1 t284 t291 t301 (t301 != t284) a0_0 l0_1 t277 t278 t281 t286 t287 t294 t295 t298) else (laws_FnExactSystemOf.j0 k l1 t284 t291 t301 true a0_0 l0_1 t277 t278 t281 t286 t287 t294 t295 t298)) = some r := H
    have A49 := Aside0.mk A490
    clear A490
    by_cases c50 : t303 = true
    ·
     subst c50
     have H1 : (laws_FnExactSystemOf.j0 k l1 t284 t291 t301 (t301 != t284) a0_0 l0_1 t277 t278 t281 t286 t287 t294 t295 t298) = some r := by rw [if_pos rfl] at H; exact H
     clear H
     have H := H1
     clear H1
     have H' := Aside0.mk H
     clear H
     have hnb51 := NB302_268.out
     have hnc51 := NB268_302.out
     have hnb52 := NB302_285.out
     have hnc52 := NB285_302.out
     have hnb53 := NB302_290.out
     have hnc53 := NB290_302.out
     have hcz54_0 : w42.cell? ⟨gb302, 0, none⟩ = some (.int .i64 0) := (blk_cell BK302.out 0).trans rfl
     have hcz54_1 : w42.cell? ⟨gb302, 1, none⟩ = some (.slice none 0 0) := (blk_cell BK302.out 1).trans rfl
     have hcz54_2 : w42.cell? ⟨gb302, 2, none⟩ = some (.slice none 0 0) := (blk_cell BK302.out 2).trans rfl
     have hfz54_0 := blk_frozen BK302.out 0
     have hfz54_1 := blk_frozen BK302.out 1
     have hfz54_2 := blk_frozen BK302.out 2
     have hnb55 := NB285_268.out
     have hnc55 := NB268_285.out
     have hnb56 := NB285_290.out
     have hnc56 := NB290_285.out
     have hcz57_0 : w42.cell? ⟨gb285, 0, none⟩ = some (.int .i64 t277) := (blk_cell BK285.out 0).trans rfl
     have hcz57_1 : w42.cell? ⟨gb285, 1, none⟩ = some (.slice Ao29 t278.length co29) := (blk_cell BK285.out 1).trans rfl
     have hcz57_2 : w42.cell? ⟨gb285, 2, none⟩ = some (.slice Ao30 t281.length co30) := (blk_cell BK285.out 2).trans rfl
     have hfz57_0 := blk_frozen BK285.out 0
     have hfz57_1 := blk_frozen BK285.out 1
     have hfz57_2 := blk_frozen BK285.out 2
     go_wp2_with (first | ((with_reducible refine gate_callee (f := 9) rfl ?_); refine goesL_ (some 45) rfl rfl Try.func9 (by kernel_rfl) rfl #[.agg #[.int .i64 t294, .slice Ao47 t295.length co47, .slice Ao48 t298.length co48], .agg #[.int .i64 t277, .slice Ao29 t278.length co29, .slice Ao30 t281.length co30]] rfl (by (try simp only [List.map_toArray, List.map_cons, List.map_nil]); first | done | rfl | (simp only [List.length_drop, List.length_take]; rfl)) ?_; (with_reducible refine (laws_eqSystem.calls k t294 _ _ t295 _ _ t298 t277 _ _ t278 _ _ t281 true _ ?side1 ?side2 ?side3 ?side4 ?side5 ?side6 ?side7 ?side8 A49.out).mono ?_); (case side1 => refine (Kd.S_reads' (e := 53) (base := w.heap.size) (ok := fun k_ => n2 ≤ k_) (n := t295.length) (c := co47) ?_).2.2; exact (by (with_reducible repeat (first | apply Kd.S_alloc | apply Kd.S_drewN | apply Kd.S_drew)); exact (Kd.S_mono (Kd.S_far (p := ⟨gb302, 2, none⟩) (Kd.S_far (p := ⟨gb302, 1, none⟩) (Kd.S_far (p := ⟨gb302, 0, none⟩) (Kd.S_types HO297.out BK302.out (by decide)) (fun _ hk => hk.2) (.int .i64 t294)) (fun _ hk => hk.2) (.slice Ao47 t295.length co47)) (fun _ hk => hk.2) (.slice Ao48 t298.length co48)) (fun _ h_ => h_.1)))); (case side2 => exact (Kd.S_reads' HO297.out).2.1); (case side3 => refine (Kd.R_reads' (e := 4) (base := w.heap.size) (ok := fun k_ => (((True ∧ some k_ ≠ (.slice Ao24 t274.length co24 : Value).ownBlock) ∧ some k_ ≠ (.slice Ao30 t281.length co30 : Value).ownBlock) ∧ some k_ ≠ (.slice Ao40 t291.length co40 : Value).ownBlock)) (n := t298.length) (c := co48) ?_).2.2; exact (by (with_reducible repeat (first | apply Kd.R_alloc | apply Kd.R_drewN | apply Kd.R_drew)); exact (Kd.R_mono (Kd.R_far (p := ⟨gb302, 2, none⟩) (Kd.R_far (p := ⟨gb302, 1, none⟩) (Kd.R_far (p := ⟨gb302, 0, none⟩) (Kd.R_types HO300.out BK302.out (by decide)) (fun _ hk => hk.2) (.int .i64 t294)) (fun _ hk => hk.2) (.slice Ao47 t295.length co47)) (fun _ hk => hk.2) (.slice Ao48 t298.length co48)) (fun _ h_ => h_.1)))); (case side4 => exact (Kd.R_reads' HO300.out).2.1); (case side5 => refine (Kd.S_reads' (e := 53) (base := w.heap.size) (ok := fun k_ => k_ < n1 ∧ k_ < n2) (n := t278.length) (c := co29) ?_).2.2; exact (by (with_reducible repeat (first | apply Kd.S_alloc | apply Kd.S_drewN | apply Kd.S_drew)); exact (Kd.S_mono (Kd.S_far (p := ⟨gb302, 2, none⟩) (Kd.S_far (p := ⟨gb302, 1, none⟩) (Kd.S_far (p := ⟨gb302, 0, none⟩) (Kd.S_types HO280.out BK302.out (by decide)) (fun _ hk => hk.2) (.int .i64 t294)) (fun _ hk => hk.2) (.slice Ao47 t295.length co47)) (fun _ hk => hk.2) (.slice Ao48 t298.length co48)) (fun _ h_ => h_.1)))); (case side6 => exact (Kd.S_reads' HO280.out).2.1); (case side7 => refine (Kd.R_reads' (e := 4) (base := w.heap.size) (ok := fun k_ => (((True ∧ some k_ ≠ (.slice Ao24 t274.length co24 : Value).ownBlock) ∧ some k_ ≠ (.slice Ao40 t291.length co40 : Value).ownBlock) ∧ some k_ ≠ (.slice Ao48 t298.length co48 : Value).ownBlock)) (n := t281.length) (c := co30) ?_).2.2; exact (by (with_reducible repeat (first | apply Kd.R_alloc | apply Kd.R_drewN | apply Kd.R_drew)); exact (Kd.R_mono (Kd.R_far (p := ⟨gb302, 2, none⟩) (Kd.R_far (p := ⟨gb302, 1, none⟩) (Kd.R_far (p := ⟨gb302, 0, none⟩) (Kd.R_types HO283.out BK302.out (by decide)) (fun _ hk => hk.2) (.int .i64 t294)) (fun _ hk => hk.2) (.slice Ao47 t295.length co47)) (fun _ hk => hk.2) (.slice Ao48 t298.length co48)) (fun _ h_ => h_.1)))); (case side8 => exact (Kd.R_reads' HO283.out).2.1); rintro e w58 ⟨rfl, hb⟩; refine ⟨_, rfl, ?_⟩; have n0_ := Aside0.mk (Kd.S_below (by (with_reducible repeat (first | apply Kd.S_alloc | apply Kd.S_drewN | apply Kd.S_drew)); exact (Kd.S_mono (Kd.S_far (p := ⟨gb302, 2, none⟩) (Kd.S_far (p := ⟨gb302, 1, none⟩) (Kd.S_far (p := ⟨gb302, 0, none⟩) (Kd.S_types HO273.out BK302.out (by decide)) (fun _ hk => hk.2) (.int .i64 t294)) (fun _ hk => hk.2) (.slice Ao47 t295.length co47)) (fun _ hk => hk.2) (.slice Ao48 t298.length co48)) (fun _ h_ => h_.1))) hb); have n1_ := Aside0.mk (Kd.R_below (by (with_reducible repeat (first | apply Kd.R_alloc | apply Kd.R_drewN | apply Kd.R_drew)); exact (Kd.R_mono (Kd.R_far (p := ⟨gb302, 2, none⟩) (Kd.R_far (p := ⟨gb302, 1, none⟩) (Kd.R_far (p := ⟨gb302, 0, none⟩) (Kd.R_types HO276.out BK302.out (by decide)) (fun _ hk => hk.2) (.int .i64 t294)) (fun _ hk => hk.2) (.slice Ao47 t295.length co47)) (fun _ hk => hk.2) (.slice Ao48 t298.length co48)) (fun _ h_ => h_.1))) hb); have n2_ := Aside0.mk (Kd.S_below (by (with_reducible repeat (first | apply Kd.S_alloc | apply Kd.S_drewN | apply Kd.S_drew)); exact (Kd.S_mono (Kd.S_far (p := ⟨gb302, 2, none⟩) (Kd.S_far (p := ⟨gb302, 1, none⟩) (Kd.S_far (p := ⟨gb302, 0, none⟩) (Kd.S_types HO280.out BK302.out (by decide)) (fun _ hk => hk.2) (.int .i64 t294)) (fun _ hk => hk.2) (.slice Ao47 t295.length co47)) (fun _ hk => hk.2) (.slice Ao48 t298.length co48)) (fun _ h_ => h_.1))) hb); have n3_ := Aside0.mk (Kd.R_below (by (with_reducible repeat (first | apply Kd.R_alloc | apply Kd.R_drewN | apply Kd.R_drew)); exact (Kd.R_mono (Kd.R_far (p := ⟨gb302, 2, none⟩) (Kd.R_far (p := ⟨gb302, 1, none⟩) (Kd.R_far (p := ⟨gb302, 0, none⟩) (Kd.R_types HO283.out BK302.out (by decide)) (fun _ hk => hk.2) (.int .i64 t294)) (fun _ hk => hk.2) (.slice Ao47 t295.length co47)) (fun _ hk => hk.2) (.slice Ao48 t298.length co48)) (fun _ h_ => h_.1))) hb); have n4_ := Aside0.mk (Kd.S_below (by (with_reducible repeat (first | apply Kd.S_alloc | apply Kd.S_drewN | apply Kd.S_drew)); exact (Kd.S_mono (Kd.S_far (p := ⟨gb302, 2, none⟩) (Kd.S_far (p := ⟨gb302, 1, none⟩) (Kd.S_far (p := ⟨gb302, 0, none⟩) (Kd.S_types HO289.out BK302.out (by decide)) (fun _ hk => hk.2) (.int .i64 t294)) (fun _ hk => hk.2) (.slice Ao47 t295.length co47)) (fun _ hk => hk.2) (.slice Ao48 t298.length co48)) (fun _ h_ => h_.1))) hb); have n5_ := Aside0.mk (Kd.R_below (by (with_reducible repeat (first | apply Kd.R_alloc | apply Kd.R_drewN | apply Kd.R_drew)); exact (Kd.R_mono (Kd.R_far (p := ⟨gb302, 2, none⟩) (Kd.R_far (p := ⟨gb302, 1, none⟩) (Kd.R_far (p := ⟨gb302, 0, none⟩) (Kd.R_types HO293.out BK302.out (by decide)) (fun _ hk => hk.2) (.int .i64 t294)) (fun _ hk => hk.2) (.slice Ao47 t295.length co47)) (fun _ hk => hk.2) (.slice Ao48 t298.length co48)) (fun _ h_ => h_.1))) hb); have n6_ := Aside0.mk (Kd.S_below (by (with_reducible repeat (first | apply Kd.S_alloc | apply Kd.S_drewN | apply Kd.S_drew)); exact (Kd.S_mono (Kd.S_far (p := ⟨gb302, 2, none⟩) (Kd.S_far (p := ⟨gb302, 1, none⟩) (Kd.S_far (p := ⟨gb302, 0, none⟩) (Kd.S_types HO297.out BK302.out (by decide)) (fun _ hk => hk.2) (.int .i64 t294)) (fun _ hk => hk.2) (.slice Ao47 t295.length co47)) (fun _ hk => hk.2) (.slice Ao48 t298.length co48)) (fun _ h_ => h_.1))) hb); have n7_ := Aside0.mk (Kd.R_below (by (with_reducible repeat (first | apply Kd.R_alloc | apply Kd.R_drewN | apply Kd.R_drew)); exact (Kd.R_mono (Kd.R_far (p := ⟨gb302, 2, none⟩) (Kd.R_far (p := ⟨gb302, 1, none⟩) (Kd.R_far (p := ⟨gb302, 0, none⟩) (Kd.R_types HO300.out BK302.out (by decide)) (fun _ hk => hk.2) (.int .i64 t294)) (fun _ hk => hk.2) (.slice Ao47 t295.length co47)) (fun _ hk => hk.2) (.slice Ao48 t298.length co48)) (fun _ h_ => h_.1))) hb); have n8_ := Aside0.mk (blk_below (g := gb268) (o := .cells #[.int .i64 a0_0, .slice A0_1 l0_1.length c0_1] 38 (0, 0)) (by refine uW ?_; refine blk_far ?_ NB268_302.out _; refine uW ?_; refine blk_far ?_ NB268_302.out _; refine uW ?_; refine blk_far ?_ NB268_302.out _; refine uW ?_; exact BK268.out) hb); have n9_ := Aside0.mk (blk_below (g := gb285) (o := .cells #[.int .i64 t277, .slice Ao29 t278.length co29, .slice Ao30 t281.length co30] 29 (0, 0)) (by refine uW ?_; refine blk_far ?_ NB285_302.out _; refine uW ?_; refine blk_far ?_ NB285_302.out _; refine uW ?_; refine blk_far ?_ NB285_302.out _; refine uW ?_; exact BK285.out) hb); have n10_ := Aside0.mk (blk_below (g := gb290) (o := .cells #[.int .i64 t286, .slice Ao37 t287.length co37] 41 (0, 0)) (by refine uW ?_; refine blk_far ?_ NB290_302.out _; refine uW ?_; refine blk_far ?_ NB290_302.out _; refine uW ?_; refine blk_far ?_ NB290_302.out _; refine uW ?_; exact BK290.out) hb); have n11_ := Aside0.mk (blk_below (g := gb302) (o := .cells #[.int .i64 t294, .slice Ao47 t295.length co47, .slice Ao48 t298.length co48] 29 (0, 0)) (by refine uW ?_; refine blk_put (cs := #[.int .i64 t294, .slice Ao47 t295.length co47, .slice none 0 0]) ?_ 2 _ rfl; refine uW ?_; refine blk_put (cs := #[.int .i64 t294, .slice none 0 0, .slice none 0 0]) ?_ 1 _ rfl; refine uW ?_; refine blk_put (cs := #[.int .i64 0, .slice none 0 0, .slice none 0 0]) ?_ 0 _ rfl; refine uW ?_; exact BK302.out) hb); have n12_ := Aside0.mk (below_step (by first | exact uB HB | exact uS HB (gC GE268 (gC GE285 (gC GE290 (gC GE302 gN))))) hb); clear HO273 HO276 HO280 HO283 HO289 HO293 HO297 HO300 BK268 BK285 BK290 BK302 HB; have HO273 := n0_; have HO276 := n1_; have HO280 := n2_; have HO283 := n3_; have HO289 := n4_; have HO293 := n5_; have HO297 := n6_; have HO300 := n7_; have BK268 := n8_; have BK285 := n9_; have BK290 := n10_; have BK302 := n11_; have HB := n12_; clear n0_ n1_ n2_ n3_ n4_ n5_ n6_ n7_ n8_ n9_ n10_ n11_ n12_; (try clear hb); (try clear hb2); (try clear hk); (try clear hi)))
     go_meet
     case rel => exact ⟨_, ((t301 != t284)), (by first | rfl | (simp; done) | (simp [*]; done)), H', ⟨by first | omega | exact Nat.le_refl _⟩, ⟨by (with_reducible repeat (first | apply Kd.R_alloc | apply Kd.R_drewN | apply Kd.R_drew)); exact Kd.R_mono HO293.out (fun _ hk => ⟨hk.1.2, hk.2⟩)⟩, ⟨by (with_reducible repeat (first | apply Kd.S_alloc | apply Kd.S_drewN | apply Kd.S_drew)); exact HO280.out⟩, ⟨by (with_reducible repeat (first | apply Kd.R_alloc | apply Kd.R_drewN | apply Kd.R_drew)); exact Kd.R_mono HO283.out (fun _ hk => ⟨hk.1.2, hk.2⟩)⟩, ⟨by (with_reducible repeat (first | apply Kd.S_alloc | apply Kd.S_drewN | apply Kd.S_drew)); exact HO289.out⟩, ⟨by (with_reducible repeat (first | apply Kd.S_alloc | apply Kd.S_drewN | apply Kd.S_drew)); exact HO297.out⟩, ⟨by (with_reducible repeat (first | apply Kd.R_alloc | apply Kd.R_drewN | apply Kd.R_drew)); exact Kd.R_mono HO300.out (fun _ hk => ⟨hk.2, hk.1.2⟩)⟩, ⟨by refine uW ?_; exact BK268.out⟩, ⟨by refine uW ?_; exact BK285.out⟩, ⟨by refine uW ?_; exact BK290.out⟩, ⟨by refine uW ?_; exact BK302.out⟩, ⟨by first | exact uB HB | exact uS HB (gC GE268 (gC GE285 (gC GE290 (gC GE302 gN))))⟩⟩
    ·
     replace c50 := Bool.eq_false_iff.mpr c50
     subst c50
     have H1 : (laws_FnExactSystemOf.j0 k l1 t284 t291 t301 true a0_0 l0_1 t277 t278 t281 t286 t287 t294 t295 t298) = some r := by rw [if_neg (show ¬ (false = true) by decide)] at H; exact H
     clear H
     have H := H1
     clear H1
     have H' := Aside0.mk H
     clear H
     have hnb59 := NB302_268.out
     have hnc59 := NB268_302.out
     have hnb60 := NB302_285.out
     have hnc60 := NB285_302.out
     have hnb61 := NB302_290.out
     have hnc61 := NB290_302.out
     have hcz62_0 : w42.cell? ⟨gb302, 0, none⟩ = some (.int .i64 0) := (blk_cell BK302.out 0).trans rfl
     have hcz62_1 : w42.cell? ⟨gb302, 1, none⟩ = some (.slice none 0 0) := (blk_cell BK302.out 1).trans rfl
     have hcz62_2 : w42.cell? ⟨gb302, 2, none⟩ = some (.slice none 0 0) := (blk_cell BK302.out 2).trans rfl
     have hfz62_0 := blk_frozen BK302.out 0
     have hfz62_1 := blk_frozen BK302.out 1
     have hfz62_2 := blk_frozen BK302.out 2
     have hnb63 := NB285_268.out
     have hnc63 := NB268_285.out
     have hnb64 := NB285_290.out
     have hnc64 := NB290_285.out
     have hcz65_0 : w42.cell? ⟨gb285, 0, none⟩ = some (.int .i64 t277) := (blk_cell BK285.out 0).trans rfl
     have hcz65_1 : w42.cell? ⟨gb285, 1, none⟩ = some (.slice Ao29 t278.length co29) := (blk_cell BK285.out 1).trans rfl
     have hcz65_2 : w42.cell? ⟨gb285, 2, none⟩ = some (.slice Ao30 t281.length co30) := (blk_cell BK285.out 2).trans rfl
     have hfz65_0 := blk_frozen BK285.out 0
     have hfz65_1 := blk_frozen BK285.out 1
     have hfz65_2 := blk_frozen BK285.out 2
     go_wp2_with (first | ((with_reducible refine gate_callee (f := 9) rfl ?_); refine goesL_ (some 45) rfl rfl Try.func9 (by kernel_rfl) rfl #[.agg #[.int .i64 t294, .slice Ao47 t295.length co47, .slice Ao48 t298.length co48], .agg #[.int .i64 t277, .slice Ao29 t278.length co29, .slice Ao30 t281.length co30]] rfl (by (try simp only [List.map_toArray, List.map_cons, List.map_nil]); first | done | rfl | (simp only [List.length_drop, List.length_take]; rfl)) ?_; (with_reducible refine (laws_eqSystem.calls k t294 _ _ t295 _ _ t298 t277 _ _ t278 _ _ t281 false _ ?side1 ?side2 ?side3 ?side4 ?side5 ?side6 ?side7 ?side8 A49.out).mono ?_); (case side1 => refine (Kd.S_reads' (e := 53) (base := w.heap.size) (ok := fun k_ => n2 ≤ k_) (n := t295.length) (c := co47) ?_).2.2; exact (by (with_reducible repeat (first | apply Kd.S_alloc | apply Kd.S_drewN | apply Kd.S_drew)); exact (Kd.S_mono (Kd.S_far (p := ⟨gb302, 2, none⟩) (Kd.S_far (p := ⟨gb302, 1, none⟩) (Kd.S_far (p := ⟨gb302, 0, none⟩) (Kd.S_types HO297.out BK302.out (by decide)) (fun _ hk => hk.2) (.int .i64 t294)) (fun _ hk => hk.2) (.slice Ao47 t295.length co47)) (fun _ hk => hk.2) (.slice Ao48 t298.length co48)) (fun _ h_ => h_.1)))); (case side2 => exact (Kd.S_reads' HO297.out).2.1); (case side3 => refine (Kd.R_reads' (e := 4) (base := w.heap.size) (ok := fun k_ => (((True ∧ some k_ ≠ (.slice Ao24 t274.length co24 : Value).ownBlock) ∧ some k_ ≠ (.slice Ao30 t281.length co30 : Value).ownBlock) ∧ some k_ ≠ (.slice Ao40 t291.length co40 : Value).ownBlock)) (n := t298.length) (c := co48) ?_).2.2; exact (by (with_reducible repeat (first | apply Kd.R_alloc | apply Kd.R_drewN | apply Kd.R_drew)); exact (Kd.R_mono (Kd.R_far (p := ⟨gb302, 2, none⟩) (Kd.R_far (p := ⟨gb302, 1, none⟩) (Kd.R_far (p := ⟨gb302, 0, none⟩) (Kd.R_types HO300.out BK302.out (by decide)) (fun _ hk => hk.2) (.int .i64 t294)) (fun _ hk => hk.2) (.slice Ao47 t295.length co47)) (fun _ hk => hk.2) (.slice Ao48 t298.length co48)) (fun _ h_ => h_.1)))); (case side4 => exact (Kd.R_reads' HO300.out).2.1); (case side5 => refine (Kd.S_reads' (e := 53) (base := w.heap.size) (ok := fun k_ => k_ < n1 ∧ k_ < n2) (n := t278.length) (c := co29) ?_).2.2; exact (by (with_reducible repeat (first | apply Kd.S_alloc | apply Kd.S_drewN | apply Kd.S_drew)); exact (Kd.S_mono (Kd.S_far (p := ⟨gb302, 2, none⟩) (Kd.S_far (p := ⟨gb302, 1, none⟩) (Kd.S_far (p := ⟨gb302, 0, none⟩) (Kd.S_types HO280.out BK302.out (by decide)) (fun _ hk => hk.2) (.int .i64 t294)) (fun _ hk => hk.2) (.slice Ao47 t295.length co47)) (fun _ hk => hk.2) (.slice Ao48 t298.length co48)) (fun _ h_ => h_.1)))); (case side6 => exact (Kd.S_reads' HO280.out).2.1); (case side7 => refine (Kd.R_reads' (e := 4) (base := w.heap.size) (ok := fun k_ => (((True ∧ some k_ ≠ (.slice Ao24 t274.length co24 : Value).ownBlock) ∧ some k_ ≠ (.slice Ao40 t291.length co40 : Value).ownBlock) ∧ some k_ ≠ (.slice Ao48 t298.length co48 : Value).ownBlock)) (n := t281.length) (c := co30) ?_).2.2; exact (by (with_reducible repeat (first | apply Kd.R_alloc | apply Kd.R_drewN | apply Kd.R_drew)); exact (Kd.R_mono (Kd.R_far (p := ⟨gb302, 2, none⟩) (Kd.R_far (p := ⟨gb302, 1, none⟩) (Kd.R_far (p := ⟨gb302, 0, none⟩) (Kd.R_types HO283.out BK302.out (by decide)) (fun _ hk => hk.2) (.int .i64 t294)) (fun _ hk => hk.2) (.slice Ao47 t295.length co47)) (fun _ hk => hk.2) (.slice Ao48 t298.length co48)) (fun _ h_ => h_.1)))); (case side8 => exact (Kd.R_reads' HO283.out).2.1); rintro e w66 ⟨rfl, hb⟩; refine ⟨_, rfl, ?_⟩; have n0_ := Aside0.mk (Kd.S_below (by (with_reducible repeat (first | apply Kd.S_alloc | apply Kd.S_drewN | apply Kd.S_drew)); exact (Kd.S_mono (Kd.S_far (p := ⟨gb302, 2, none⟩) (Kd.S_far (p := ⟨gb302, 1, none⟩) (Kd.S_far (p := ⟨gb302, 0, none⟩) (Kd.S_types HO273.out BK302.out (by decide)) (fun _ hk => hk.2) (.int .i64 t294)) (fun _ hk => hk.2) (.slice Ao47 t295.length co47)) (fun _ hk => hk.2) (.slice Ao48 t298.length co48)) (fun _ h_ => h_.1))) hb); have n1_ := Aside0.mk (Kd.R_below (by (with_reducible repeat (first | apply Kd.R_alloc | apply Kd.R_drewN | apply Kd.R_drew)); exact (Kd.R_mono (Kd.R_far (p := ⟨gb302, 2, none⟩) (Kd.R_far (p := ⟨gb302, 1, none⟩) (Kd.R_far (p := ⟨gb302, 0, none⟩) (Kd.R_types HO276.out BK302.out (by decide)) (fun _ hk => hk.2) (.int .i64 t294)) (fun _ hk => hk.2) (.slice Ao47 t295.length co47)) (fun _ hk => hk.2) (.slice Ao48 t298.length co48)) (fun _ h_ => h_.1))) hb); have n2_ := Aside0.mk (Kd.S_below (by (with_reducible repeat (first | apply Kd.S_alloc | apply Kd.S_drewN | apply Kd.S_drew)); exact (Kd.S_mono (Kd.S_far (p := ⟨gb302, 2, none⟩) (Kd.S_far (p := ⟨gb302, 1, none⟩) (Kd.S_far (p := ⟨gb302, 0, none⟩) (Kd.S_types HO280.out BK302.out (by decide)) (fun _ hk => hk.2) (.int .i64 t294)) (fun _ hk => hk.2) (.slice Ao47 t295.length co47)) (fun _ hk => hk.2) (.slice Ao48 t298.length co48)) (fun _ h_ => h_.1))) hb); have n3_ := Aside0.mk (Kd.R_below (by (with_reducible repeat (first | apply Kd.R_alloc | apply Kd.R_drewN | apply Kd.R_drew)); exact (Kd.R_mono (Kd.R_far (p := ⟨gb302, 2, none⟩) (Kd.R_far (p := ⟨gb302, 1, none⟩) (Kd.R_far (p := ⟨gb302, 0, none⟩) (Kd.R_types HO283.out BK302.out (by decide)) (fun _ hk => hk.2) (.int .i64 t294)) (fun _ hk => hk.2) (.slice Ao47 t295.length co47)) (fun _ hk => hk.2) (.slice Ao48 t298.length co48)) (fun _ h_ => h_.1))) hb); have n4_ := Aside0.mk (Kd.S_below (by (with_reducible repeat (first | apply Kd.S_alloc | apply Kd.S_drewN | apply Kd.S_drew)); exact (Kd.S_mono (Kd.S_far (p := ⟨gb302, 2, none⟩) (Kd.S_far (p := ⟨gb302, 1, none⟩) (Kd.S_far (p := ⟨gb302, 0, none⟩) (Kd.S_types HO289.out BK302.out (by decide)) (fun _ hk => hk.2) (.int .i64 t294)) (fun _ hk => hk.2) (.slice Ao47 t295.length co47)) (fun _ hk => hk.2) (.slice Ao48 t298.length co48)) (fun _ h_ => h_.1))) hb); have n5_ := Aside0.mk (Kd.R_below (by (with_reducible repeat (first | apply Kd.R_alloc | apply Kd.R_drewN | apply Kd.R_drew)); exact (Kd.R_mono (Kd.R_far (p := ⟨gb302, 2, none⟩) (Kd.R_far (p := ⟨gb302, 1, none⟩) (Kd.R_far (p := ⟨gb302, 0, none⟩) (Kd.R_types HO293.out BK302.out (by decide)) (fun _ hk => hk.2) (.int .i64 t294)) (fun _ hk => hk.2) (.slice Ao47 t295.length co47)) (fun _ hk => hk.2) (.slice Ao48 t298.length co48)) (fun _ h_ => h_.1))) hb); have n6_ := Aside0.mk (Kd.S_below (by (with_reducible repeat (first | apply Kd.S_alloc | apply Kd.S_drewN | apply Kd.S_drew)); exact (Kd.S_mono (Kd.S_far (p := ⟨gb302, 2, none⟩) (Kd.S_far (p := ⟨gb302, 1, none⟩) (Kd.S_far (p := ⟨gb302, 0, none⟩) (Kd.S_types HO297.out BK302.out (by decide)) (fun _ hk => hk.2) (.int .i64 t294)) (fun _ hk => hk.2) (.slice Ao47 t295.length co47)) (fun _ hk => hk.2) (.slice Ao48 t298.length co48)) (fun _ h_ => h_.1))) hb); have n7_ := Aside0.mk (Kd.R_below (by (with_reducible repeat (first | apply Kd.R_alloc | apply Kd.R_drewN | apply Kd.R_drew)); exact (Kd.R_mono (Kd.R_far (p := ⟨gb302, 2, none⟩) (Kd.R_far (p := ⟨gb302, 1, none⟩) (Kd.R_far (p := ⟨gb302, 0, none⟩) (Kd.R_types HO300.out BK302.out (by decide)) (fun _ hk => hk.2) (.int .i64 t294)) (fun _ hk => hk.2) (.slice Ao47 t295.length co47)) (fun _ hk => hk.2) (.slice Ao48 t298.length co48)) (fun _ h_ => h_.1))) hb); have n8_ := Aside0.mk (blk_below (g := gb268) (o := .cells #[.int .i64 a0_0, .slice A0_1 l0_1.length c0_1] 38 (0, 0)) (by refine uW ?_; refine blk_far ?_ NB268_302.out _; refine uW ?_; refine blk_far ?_ NB268_302.out _; refine uW ?_; refine blk_far ?_ NB268_302.out _; refine uW ?_; exact BK268.out) hb); have n9_ := Aside0.mk (blk_below (g := gb285) (o := .cells #[.int .i64 t277, .slice Ao29 t278.length co29, .slice Ao30 t281.length co30] 29 (0, 0)) (by refine uW ?_; refine blk_far ?_ NB285_302.out _; refine uW ?_; refine blk_far ?_ NB285_302.out _; refine uW ?_; refine blk_far ?_ NB285_302.out _; refine uW ?_; exact BK285.out) hb); have n10_ := Aside0.mk (blk_below (g := gb290) (o := .cells #[.int .i64 t286, .slice Ao37 t287.length co37] 41 (0, 0)) (by refine uW ?_; refine blk_far ?_ NB290_302.out _; refine uW ?_; refine blk_far ?_ NB290_302.out _; refine uW ?_; refine blk_far ?_ NB290_302.out _; refine uW ?_; exact BK290.out) hb); have n11_ := Aside0.mk (blk_below (g := gb302) (o := .cells #[.int .i64 t294, .slice Ao47 t295.length co47, .slice Ao48 t298.length co48] 29 (0, 0)) (by refine uW ?_; refine blk_put (cs := #[.int .i64 t294, .slice Ao47 t295.length co47, .slice none 0 0]) ?_ 2 _ rfl; refine uW ?_; refine blk_put (cs := #[.int .i64 t294, .slice none 0 0, .slice none 0 0]) ?_ 1 _ rfl; refine uW ?_; refine blk_put (cs := #[.int .i64 0, .slice none 0 0, .slice none 0 0]) ?_ 0 _ rfl; refine uW ?_; exact BK302.out) hb); have n12_ := Aside0.mk (below_step (by first | exact uB HB | exact uS HB (gC GE268 (gC GE285 (gC GE290 (gC GE302 gN))))) hb); clear HO273 HO276 HO280 HO283 HO289 HO293 HO297 HO300 BK268 BK285 BK290 BK302 HB; have HO273 := n0_; have HO276 := n1_; have HO280 := n2_; have HO283 := n3_; have HO289 := n4_; have HO293 := n5_; have HO297 := n6_; have HO300 := n7_; have BK268 := n8_; have BK285 := n9_; have BK290 := n10_; have BK302 := n11_; have HB := n12_; clear n0_ n1_ n2_ n3_ n4_ n5_ n6_ n7_ n8_ n9_ n10_ n11_ n12_; (try clear hb); (try clear hb2); (try clear hk); (try clear hi)))
     go_meet
     case rel => exact ⟨_, (true), (by first | rfl | (simp; done) | (simp [*]; done)), H', ⟨by first | omega | exact Nat.le_refl _⟩, ⟨by (with_reducible repeat (first | apply Kd.R_alloc | apply Kd.R_drewN | apply Kd.R_drew)); exact Kd.R_mono HO293.out (fun _ hk => ⟨hk.1.2, hk.2⟩)⟩, ⟨by (with_reducible repeat (first | apply Kd.S_alloc | apply Kd.S_drewN | apply Kd.S_drew)); exact HO280.out⟩, ⟨by (with_reducible repeat (first | apply Kd.R_alloc | apply Kd.R_drewN | apply Kd.R_drew)); exact Kd.R_mono HO283.out (fun _ hk => ⟨hk.1.2, hk.2⟩)⟩, ⟨by (with_reducible repeat (first | apply Kd.S_alloc | apply Kd.S_drewN | apply Kd.S_drew)); exact HO289.out⟩, ⟨by (with_reducible repeat (first | apply Kd.S_alloc | apply Kd.S_drewN | apply Kd.S_drew)); exact HO297.out⟩, ⟨by (with_reducible repeat (first | apply Kd.R_alloc | apply Kd.R_drewN | apply Kd.R_drew)); exact Kd.R_mono HO300.out (fun _ hk => ⟨hk.2, hk.1.2⟩)⟩, ⟨by refine uW ?_; exact BK268.out⟩, ⟨by refine uW ?_; exact BK285.out⟩, ⟨by refine uW ?_; exact BK290.out⟩, ⟨by refine uW ?_; exact BK302.out⟩, ⟨by first | exact uB HB | exact uS HB (gC GE268 (gC GE285 (gC GE290 (gC GE302 gN))))⟩⟩
   case rest =>
    clear HC16
    try clear c1
    try clear c2
    try clear p2
    try clear c3
    try clear c3b0
    try clear c3b1
    try clear c4
    try clear c5
    try clear c6
    try clear c6b0
    try clear c9
    try clear c12
    try clear c13
    try clear c14
    try clear c15
    try clear c16
    try clear c27
    try clear c34
    try clear c35
    try clear c43
    try clear c44
    try clear c45
    try clear c50
    try clear c51
    try clear c52
    try clear c53
    try clear c55
    try clear c56
    try clear c59
    try clear c60
    try clear c61
    try clear c63
    try clear c64
    try clear hcz18_0
    try clear hcz18_1
    try clear hcz20_0
    try clear hcz20_1
    try clear hcz28_0
    try clear hcz28_1
    try clear hcz28_2
    try clear hcz31_0
    try clear hcz31_1
    try clear hcz36_0
    try clear hcz36_1
    try clear hcz39_0
    try clear hcz39_1
    try clear hcz46_0
    try clear hcz46_1
    try clear hcz46_2
    try clear hcz54_0
    try clear hcz54_1
    try clear hcz54_2
    try clear hcz57_0
    try clear hcz57_1
    try clear hcz57_2
    try clear hcz62_0
    try clear hcz62_1
    try clear hcz62_2
    try clear hcz65_0
    try clear hcz65_1
    try clear hcz65_2
    try clear hcz8_0
    try clear hcz8_1
    try clear hfz18_0
    try clear hfz18_1
    try clear hfz20_0
    try clear hfz20_1
    try clear hfz28_0
    try clear hfz28_1
    try clear hfz28_2
    try clear hfz31_0
    try clear hfz31_1
    try clear hfz36_0
    try clear hfz36_1
    try clear hfz39_0
    try clear hfz39_1
    try clear hfz46_0
    try clear hfz46_1
    try clear hfz46_2
    try clear hfz54_0
    try clear hfz54_1
    try clear hfz54_2
    try clear hfz57_0
    try clear hfz57_1
    try clear hfz57_2
    try clear hfz62_0
    try clear hfz62_1
    try clear hfz62_2
    try clear hfz65_0
    try clear hfz65_1
    try clear hfz65_2
    try clear hfz8_0
    try clear hfz8_1
    obtain ⟨kq, x51_15, rfl, HA, HJ15, HO_9, HO_286001, HO_286002, HO_291001, HO_303001, HO_303002, BK268, BK285, BK290, BK302, HB⟩ := hcut
    cases kq with
    | zero => exact absurd HA.out (by simp [laws_FnExactSystemOf.j0])
    | succ kj15 =>
     have H := HA.out
     clear HA
     simp only [laws_FnExactSystemOf.j0] at H
     by_cases c67 : x51_15 = true
     ·
      subst c67
      have H1 : (some false) = some r := by rw [if_pos rfl] at H; exact H
      clear H
      have H := H1
      clear H1
      obtain rfl := Option.some.inj H
      go_wp2
      go_ret
      exact ⟨by first | rfl | (simp [errW_none, errW_some] <;> rfl) | (simp [*, errW_none, errW_some] <;> rfl), by first | exact uB HB | exact uS HB (gC GE268 (gC GE285 (gC GE290 (gC GE302 gN))))⟩
     ·
      replace c67 := Bool.eq_false_iff.mpr c67
      subst c67
      have H1 : ((laws_toHyper.f kj15 a0_0 l0_1).bind fun bt304 => ((laws_eqHyper.f kj15 t286 t287 bt304.1 bt304.2).bind fun t308 => (if t308 = true then ((laws_toBoolS.f kj15 l1).bind fun t309 => ((laws_eqBoolS.f kj15 t291 t309).bind fun t312 => (if t312 = true then ((laws_markHyper.f kj15 t286 t287 1).bind fun bt313 => ((laws_markBoolS.f kj15 t291 bt313.1).bind fun bt315 => (if bt315.1 < 0 then (laws_FnExactSystemOf.j1 kj15 l1 t284 true a0_0 l0_1 t277 t278 t281 t294 t295 t298) else ((laws_eqSystem.f kj15 t294 t295 t298 t277 t278 t281).bind fun t317 => (if t317 = true then (laws_FnExactSystemOf.j1 kj15 l1 t284 (t301 != t284) a0_0 l0_1 t277 t278 t281 t294 t295 t298) else (laws_FnExactSystemOf.j1 kj15 l1 t284 true a0_0 l0_1 t277 t278 t281 t294 t295 t298)))))) else (some false)))) else (some false)))) = some r := by rw [if_neg (show ¬ (false = true) by decide)] at H; exact H
      clear H
      have H := H1
      clear H1
      replace H := Option.bind_eq_some_iff.mp H
      obtain ⟨⟨t304, t305⟩, A680, H⟩ := H
      replace H : ((laws_eqHyper.f kj15 t286 t287 t304 t305).bind fun t308 => (if t308 = true then ((laws_toBoolS.f kj15 l1).bind fun t309 => ((laws_eqBoolS.f kj15 t291 t309).bind fun t312 => (if t312 = true then ((laws_markHyper.f kj15 t286 t287 1).bind fun bt313 => ((laws_markBoolS.f kj15 t291 bt313.1).bind fun bt315 => (if bt315.1 < 0 then (laws_FnExactSystemOf.j1 kj15 l1 t284 true a0_0 l0_1 t277 t278 t281 t294 t295 t298) else ((laws_eqSystem.f kj15 t294 t295 t298 t277 t278 t281).bind fun t317 => (if t317 = true then (laws_FnExactSystemOf.j1 kj15 l1 t284 (t301 != t284) a0_0 l0_1 t277 t278 t281 t294 t295 t298) else (laws_FnExactSystemOf.j1 kj15 l1 t284 true a0_0 l0_1 t277 t278 t281 t294 t295 t298)))))) else (some false)))) else (some false))) = some r := H
      have A68 := Aside0.mk A680
      clear A680
      replace H := Option.bind_eq_some_iff.mp H
      obtain ⟨t308, A690, H⟩ := H
      replace H : (if t308 = true then ((laws_toBoolS.f kj15 l1).bind fun t309 => ((laws_eqBoolS.f kj15 t291 t309).bind fun t312 => (if t312 = true then ((laws_markHyper.f kj15 t286 t287 1).bind fun bt313 => ((laws_markBoolS.f kj15 t291 bt313.1).bind fun bt315 => (if bt315.1 < 0 then (laws_FnExactSystemOf.j1 kj15 l1 t284 true a0_0 l0_1 t277 t278 t281 t294 t295 t298) else ((laws_eqSystem.f kj15 t294 t295 t298 t277 t278 t281).bind fun t317 => (if t317 = true then (laws_FnExactSystemOf.j1 kj15 l1 t284 (t301 != t284) a0_0 l0_1 t277 t278 t281 t294 t295 t298) else (laws_FnExactSystemOf.j1 kj15 l1 t284 true a0_0 l0_1 t277 t278 t281 t294 t295 t298)))))) else (some false)))) else (some false)) = some r := H
      have A69 := Aside0.mk A690
      clear A690
      by_cases c70 : t308 = true
      ·
       subst c70
       have H1 : ((laws_toBoolS.f kj15 l1).bind fun t309 => ((laws_eqBoolS.f kj15 t291 t309).bind fun t312 => (if t312 = true then ((laws_markHyper.f kj15 t286 t287 1).bind fun bt313 => ((laws_markBoolS.f kj15 t291 bt313.1).bind fun bt315 => (if bt315.1 < 0 then (laws_FnExactSystemOf.j1 kj15 l1 t284 true a0_0 l0_1 t277 t278 t281 t294 t295 t298) else ((laws_eqSystem.f kj15 t294 t295 t298 t277 t278 t281).bind fun t317 => (if t317 = true then (laws_FnExactSystemOf.j1 kj15 l1 t284 (t301 != t284) a0_0 l0_1 t277 t278 t281 t294 t295 t298) else (laws_FnExactSystemOf.j1 kj15 l1 t284 true a0_0 l0_1 t277 t278 t281 t294 t295 t298)))))) else (some false)))) = some r := by rw [if_pos rfl] at H; exact H
       clear H
       have H := H1
       clear H1
       replace H := Option.bind_eq_some_iff.mp H
       obtain ⟨t309, A710, H⟩ := H
       replace H : ((laws_eqBoolS.f kj15 t291 t309).bind fun t312 => (if t312 = true then ((laws_markHyper.f kj15 t286 t287 1).bind fun bt313 => ((laws_markBoolS.f kj15 t291 bt313.1).bind fun bt315 => (if bt315.1 < 0 then (laws_FnExactSystemOf.j1 kj15 l1 t284 true a0_0 l0_1 t277 t278 t281 t294 t295 t298) else ((laws_eqSystem.f kj15 t294 t295 t298 t277 t278 t281).bind fun t317 => (if t317 = true then (laws_FnExactSystemOf.j1 kj15 l1 t284 (t301 != t284) a0_0 l0_1 t277 t278 t281 t294 t295 t298) else (laws_FnExactSystemOf.j1 kj15 l1 t284 true a0_0 l0_1 t277 t278 t281 t294 t295 t298)))))) else (some false))) = some r := H
       have A71 := Aside0.mk A710
       clear A710
       replace H := Option.bind_eq_some_iff.mp H
       obtain ⟨t312, A720, H⟩ := H
       replace H : (if t312 = true then ((laws_markHyper.f kj15 t286 t287 1).bind fun bt313 => ((laws_markBoolS.f kj15 t291 bt313.1).bind fun bt315 => (if bt315.1 < 0 then (laws_FnExactSystemOf.j1 kj15 l1 t284 true a0_0 l0_1 t277 t278 t281 t294 t295 t298) else ((laws_eqSystem.f kj15 t294 t295 t298 t277 t278 t281).bind fun t317 => (if t317 = true then (laws_FnExactSystemOf.j1 kj15 l1 t284 (t301 != t284) a0_0 l0_1 t277 t278 t281 t294 t295 t298) else (laws_FnExactSystemOf.j1 kj15 l1 t284 true a0_0 l0_1 t277 t278 t281 t294 t295 t298)))))) else (some false)) = some r := H
       have A72 := Aside0.mk A720
       clear A720
       by_cases c73 : t312 = true
       ·
        subst c73
        have H1 : ((laws_markHyper.f kj15 t286 t287 1).bind fun bt313 => ((laws_markBoolS.f kj15 t291 bt313.1).bind fun bt315 => (if bt315.1 < 0 then (laws_FnExactSystemOf.j1 kj15 l1 t284 true a0_0 l0_1 t277 t278 t281 t294 t295 t298) else ((laws_eqSystem.f kj15 t294 t295 t298 t277 t278 t281).bind fun t317 => (if t317 = true then (laws_FnExactSystemOf.j1 kj15 l1 t284 (t301 != t284) a0_0 l0_1 t277 t278 t281 t294 t295 t298) else (laws_FnExactSystemOf.j1 kj15 l1 t284 true a0_0 l0_1 t277 t278 t281 t294 t295 t298)))))) = some r := by rw [if_pos rfl] at H; exact H
        clear H
        have H := H1
        clear H1
        replace H := Option.bind_eq_some_iff.mp H
        obtain ⟨⟨t313, t314⟩, A740, H⟩ := H
        replace H : ((laws_markBoolS.f kj15 t291 t313).bind fun bt315 => (if bt315.1 < 0 then (laws_FnExactSystemOf.j1 kj15 l1 t284 true a0_0 l0_1 t277 t278 t281 t294 t295 t298) else ((laws_eqSystem.f kj15 t294 t295 t298 t277 t278 t281).bind fun t317 => (if t317 = true then (laws_FnExactSystemOf.j1 kj15 l1 t284 (t301 != t284) a0_0 l0_1 t277 t278 t281 t294 t295 t298) else (laws_FnExactSystemOf.j1 kj15 l1 t284 true a0_0 l0_1 t277 t278 t281 t294 t295 t298))))) = some r := H
        have A74 := Aside0.mk A740
        clear A740
        replace H := Option.bind_eq_some_iff.mp H
        obtain ⟨⟨t315, t316⟩, A750, H⟩ := H
        replace H : (if t315 < 0 then (laws_FnExactSystemOf.j1 kj15 l1 t284 true a0_0 l0_1 t277 t278 t281 t294 t295 t298) else ((laws_eqSystem.f kj15 t294 t295 t298 t277 t278 t281).bind fun t317 => (if t317 = true then (laws_FnExactSystemOf.j1 kj15 l1 t284 (t301 != t284) a0_0 l0_1 t277 t278 t281 t294 t295 t298) else (laws_FnExactSystemOf.j1 kj15 l1 t284 true a0_0 l0_1 t277 t278 t281 t294 t295 t298)))) = some r := H
        have A75 := Aside0.mk A750
        clear A750
        have HC76 := Aside0.mk H
        clear H
        try go_wp2
        have n0_ := Aside0.mk (Kd.R_drew HO_9.out)
        have n1_ := Aside0.mk (Kd.S_drew HO_286001.out)
        have n2_ := Aside0.mk (Kd.R_drew HO_286002.out)
        have n3_ := Aside0.mk (Kd.S_drew HO_291001.out)
        have n4_ := Aside0.mk (Kd.S_drew HO_303001.out)
        have n5_ := Aside0.mk (Kd.R_drew HO_303002.out)
        have n6_ := Aside0.mk (blk_drew BK268.out)
        have n7_ := Aside0.mk (blk_drew BK285.out)
        have n8_ := Aside0.mk (blk_drew BK290.out)
        have n9_ := Aside0.mk (blk_drew BK302.out)
        have n10_ := Aside0.mk (below_drew1 HB.out)
        clear HO_9
        clear HO_286001
        clear HO_286002
        clear HO_291001
        clear HO_303001
        clear HO_303002
        clear BK268
        clear BK285
        clear BK290
        clear BK302
        clear HB
        have HO_9 := n0_
        have HO_286001 := n1_
        have HO_286002 := n2_
        have HO_291001 := n3_
        have HO_303001 := n4_
        have HO_303002 := n5_
        have BK268 := n6_
        have BK285 := n7_
        have BK290 := n8_
        have BK302 := n9_
        have HB := n10_
        clear n0_ n1_ n2_ n3_ n4_ n5_ n6_ n7_ n8_ n9_ n10_
        refine start_ (n := 5) (S := fun w' => w'.cell? ⟨gb290, 0, none⟩ = some (.int .i64 t286) ∧ w'.cell? ⟨gb290, 1, none⟩ = some (.slice Ao37 t287.length co37) ∧ w'.cell? ⟨gb268, 0, none⟩ = some (.int .i64 a0_0) ∧ w'.cell? ⟨gb268, 1, none⟩ = some (.slice A0_1 l0_1.length c0_1)) (ds := []) #[false, false, false, false, false] (by kernel_rfl) rfl rfl ⟨(blk_cell BK290.out 0).trans rfl, (blk_cell BK290.out 1).trans rfl, (blk_cell BK268.out 0).trans rfl, (blk_cell BK268.out 1).trans rfl⟩ (fun hHeld => ?_)
        generalize wc.drew = w77 at HO_9 HO_286001 HO_286002 HO_291001 HO_303001 HO_303002 BK268 BK285 BK290 BK302 HB hHeld ⊢
        refine take_ (i := 0) (N := some 52) (v := ?_) (a' := ?_) #[true, false, false, false, false] rfl rfl (by kernel_rfl) (fun _ _ _ h => h) (Or.inl ⟨by rfl, ?_⟩) hHeld ?_ ?_
        rotate_left
        ·
         rintro w' ⟨s0, s1, s2, s3⟩
         go_simp
         with_reducible rfl
        rotate_left
        ·
         simp only [Act.put, List.setIfInBounds_toArray, List.set_cons_zero, List.set_cons_succ, i64_w, i32_w]
         rfl
        refine take_ (i := 1) (N := some 53) (v := ?_) (a' := ?_) #[true, true, false, false, false] rfl rfl (by kernel_rfl) (fun _ _ _ h => h) (Or.inl ⟨by rfl, ?_⟩) hHeld ?_ ?_
        rotate_left
        ·
         rintro w' ⟨s0, s1, s2, s3⟩
         go_simp
         with_reducible rfl
        rotate_left
        ·
         simp only [Act.put, List.setIfInBounds_toArray, List.set_cons_zero, List.set_cons_succ, i64_w, i32_w]
         rfl
        refine one_ (i := 2) (N := some 54) #[true, true, true, false, false] rfl rfl (by kernel_rfl) (by decide) (fun K hK => ?_)
        refine goes_ Try.func14 (by kernel_rfl) rfl #[.agg #[.int .i64 a0_0, .slice A0_1 l0_1.length c0_1]] (by rfl) rfl rfl (by (try simp only [List.map_toArray, List.map_cons, List.map_nil]); first | done | rfl | (simp only [List.length_drop, List.length_take]; rfl)) ?_
        with_reducible refine (laws_toHyper.calls kj15 a0_0 _ _ l0_1 t304 t305 _ ?side1 ?side2 A68.out).mono ?_
        (case side1 => exact uC HR0_1 HB)
        (case side2 => exact HC0_1.out)
        rintro e w78 ⟨v306, rfl, ho0, hb⟩
        refine ⟨_, rfl, ?_⟩
        have n0_ := Aside0.mk (Kd.R_below (uR HO_9) hb)
        have n1_ := Aside0.mk (Kd.S_below (by (with_reducible repeat (first | apply Kd.S_alloc | apply Kd.S_drewN | apply Kd.S_drew)); exact HO_286001.out) hb)
        have n2_ := Aside0.mk (Kd.R_below (uR HO_286002) hb)
        have n3_ := Aside0.mk (Kd.S_below (by (with_reducible repeat (first | apply Kd.S_alloc | apply Kd.S_drewN | apply Kd.S_drew)); exact HO_291001.out) hb)
        have n4_ := Aside0.mk (Kd.S_below (by (with_reducible repeat (first | apply Kd.S_alloc | apply Kd.S_drewN | apply Kd.S_drew)); exact HO_303001.out) hb)
        have n5_ := Aside0.mk (Kd.R_below (uR HO_303002) hb)
        have n6_ := Aside0.mk (Kd.S_lower (Kd.S_new' ho0 (Kd.S_lt (by (with_reducible repeat (first | apply Kd.S_alloc | apply Kd.S_drewN | apply Kd.S_drew)); exact HO_291001.out))) (below_size (by first | exact uB HB | exact uS HB (gC GE268 (gC GE285 (gC GE290 (gC GE302 gN)))))))
        have n7_ := Aside0.mk (blk_below (g := gb268) (o := .cells #[.int .i64 a0_0, .slice A0_1 l0_1.length c0_1] 38 (0, 0)) (uK BK268) hb)
        have n8_ := Aside0.mk (blk_below (g := gb285) (o := .cells #[.int .i64 t277, .slice Ao29 t278.length co29, .slice Ao30 t281.length co30] 29 (0, 0)) (uK BK285) hb)
        have n9_ := Aside0.mk (blk_below (g := gb290) (o := .cells #[.int .i64 t286, .slice Ao37 t287.length co37] 41 (0, 0)) (uK BK290) hb)
        have n10_ := Aside0.mk (blk_below (g := gb302) (o := .cells #[.int .i64 t294, .slice Ao47 t295.length co47, .slice Ao48 t298.length co48] 29 (0, 0)) (uK BK302) hb)
        have n11_ := Aside0.mk (below_step (by first | exact uB HB | exact uS HB (gC GE268 (gC GE285 (gC GE290 (gC GE302 gN))))) hb)
        clear HO_9
        clear HO_286001
        clear HO_286002
        clear HO_291001
        clear HO_303001
        clear HO_303002
        clear BK268
        clear BK285
        clear BK290
        clear BK302
        clear HB
        have HO_9 := n0_
        have HO_286001 := n1_
        have HO_286002 := n2_
        have HO_291001 := n3_
        have HO_303001 := n4_
        have HO_303002 := n5_
        have HO307 := n6_
        have BK268 := n7_
        have BK285 := n8_
        have BK290 := n9_
        have BK302 := n10_
        have HB := n11_
        clear n0_ n1_ n2_ n3_ n4_ n5_ n6_ n7_ n8_ n9_ n10_ n11_
        (try clear hb)
        (try clear hb2)
        (try clear hk)
        (try clear hi)
        (try clear ho0)
        obtain ⟨Ao79, co79, eo79⟩ := Kd.S_slice HO307.out
        (first | subst eo79 | (injection eo79 with f1_ f2_ f3_; have f4_ := f1_.symm; have f5_ := f3_.symm; clear f1_ f2_ f3_; subst f4_; subst f5_))
        refine hK.out _ _ ⟨(blk_cell BK290.out 0).trans rfl, (blk_cell BK290.out 1).trans rfl, (blk_cell BK268.out 0).trans rfl, (blk_cell BK268.out 1).trans rfl⟩ (fun hHeld => ?_)
        clear hK K
        refine norm_ (a' := ?_) ?_ ?_
        rotate_left
        ·
         show Act.put _ (some 54) _ = _
         simp only [Act.put, List.setIfInBounds_toArray, List.set_cons_zero, List.set_cons_succ, i64_w, i32_w]
         rfl
        refine one_ (i := 3) (N := some 55) #[true, true, true, true, false] rfl rfl (by kernel_rfl) (by decide) (fun K hK => ?_)
        refine goes_ Try.func17 (by kernel_rfl) rfl #[.agg #[.int .i64 t286, .slice Ao37 t287.length co37], .agg #[.int .i64 t304, .slice Ao79 t305.length co79]] (by rfl) rfl rfl (by (try simp only [List.map_toArray, List.map_cons, List.map_nil]); first | done | rfl | (simp only [List.length_drop, List.length_take]; rfl)) ?_
        with_reducible refine (laws_eqHyper.calls kj15 t286 _ _ t287 t304 _ _ t305 true _ ?side1 ?side2 ?side3 ?side4 A69.out).mono ?_
        (case side1 => repeat (first | exact (Kd.S_reads' HO_291001.out).2.2 | (with_reducible refine Kd.C_alloc ?_ _) | (with_reducible refine Kd.C_drewN ?_ _) | (with_reducible refine Kd.C_drew ?_)))
        (case side2 => exact (Kd.S_reads' HO_291001.out).2.1)
        (case side3 => repeat (first | exact (Kd.S_reads' HO307.out).2.2 | (with_reducible refine Kd.C_alloc ?_ _) | (with_reducible refine Kd.C_drewN ?_ _) | (with_reducible refine Kd.C_drew ?_)))
        (case side4 => exact (Kd.S_reads' HO307.out).2.1)
        rintro e w80 ⟨rfl, hb⟩
        refine ⟨_, rfl, ?_⟩
        have n0_ := Aside0.mk (Kd.R_below (uR HO_9) hb)
        have n1_ := Aside0.mk (Kd.S_below (by (with_reducible repeat (first | apply Kd.S_alloc | apply Kd.S_drewN | apply Kd.S_drew)); exact HO_286001.out) hb)
        have n2_ := Aside0.mk (Kd.R_below (uR HO_286002) hb)
        have n3_ := Aside0.mk (Kd.S_below (by (with_reducible repeat (first | apply Kd.S_alloc | apply Kd.S_drewN | apply Kd.S_drew)); exact HO_291001.out) hb)
        have n4_ := Aside0.mk (Kd.S_below (by (with_reducible repeat (first | apply Kd.S_alloc | apply Kd.S_drewN | apply Kd.S_drew)); exact HO_303001.out) hb)
        have n5_ := Aside0.mk (Kd.R_below (uR HO_303002) hb)
        have n6_ := Aside0.mk (Kd.S_below (by (with_reducible repeat (first | apply Kd.S_alloc | apply Kd.S_drewN | apply Kd.S_drew)); exact HO307.out) hb)
        have n7_ := Aside0.mk (blk_below (g := gb268) (o := .cells #[.int .i64 a0_0, .slice A0_1 l0_1.length c0_1] 38 (0, 0)) (uK BK268) hb)
        have n8_ := Aside0.mk (blk_below (g := gb285) (o := .cells #[.int .i64 t277, .slice Ao29 t278.length co29, .slice Ao30 t281.length co30] 29 (0, 0)) (uK BK285) hb)
        have n9_ := Aside0.mk (blk_below (g := gb290) (o := .cells #[.int .i64 t286, .slice Ao37 t287.length co37] 41 (0, 0)) (uK BK290) hb)
        have n10_ := Aside0.mk (blk_below (g := gb302) (o := .cells #[.int .i64 t294, .slice Ao47 t295.length co47, .slice Ao48 t298.length co48] 29 (0, 0)) (uK BK302) hb)
        have n11_ := Aside0.mk (below_step (by first | exact uB HB | exact uS HB (gC GE268 (gC GE285 (gC GE290 (gC GE302 gN))))) hb)
        clear HO_9
        clear HO_286001
        clear HO_286002
        clear HO_291001
        clear HO_303001
        clear HO_303002
        clear HO307
        clear BK268
        clear BK285
        clear BK290
        clear BK302
        clear HB
        have HO_9 := n0_
        have HO_286001 := n1_
        have HO_286002 := n2_
        have HO_291001 := n3_
        have HO_303001 := n4_
        have HO_303002 := n5_
        have HO307 := n6_
        have BK268 := n7_
        have BK285 := n8_
        have BK290 := n9_
        have BK302 := n10_
        have HB := n11_
        clear n0_ n1_ n2_ n3_ n4_ n5_ n6_ n7_ n8_ n9_ n10_ n11_
        (try clear hb)
        (try clear hb2)
        (try clear hk)
        (try clear hi)
        refine hK.out _ _ ⟨(blk_cell BK290.out 0).trans rfl, (blk_cell BK290.out 1).trans rfl, (blk_cell BK268.out 0).trans rfl, (blk_cell BK268.out 1).trans rfl⟩ (fun hHeld => ?_)
        clear hK K
        refine norm_ (a' := ?_) ?_ ?_
        rotate_left
        ·
         show Act.put _ (some 55) _ = _
         simp only [Act.put, List.setIfInBounds_toArray, List.set_cons_zero, List.set_cons_succ, i64_w, i32_w]
         rfl
        refine pure_ (i := 4) (N := some 56) (v := ?_) (a' := ?_) #[true, true, true, true, true] rfl rfl (by kernel_rfl) (fun _ _ _ h => h) (Or.inl ⟨by rfl, ?_⟩) ?_ ?_
        rotate_left
        ·
         intro w'
         go_simp
         with_reducible rfl
        rotate_left
        ·
         simp only [Act.put, List.setIfInBounds_toArray, List.set_cons_zero, List.set_cons_succ, i64_w, i32_w]
         rfl
        refine done_ (by kernel_rfl) ?_
        go_upto_region 20 with (first | ((with_reducible refine gate_callee (f := 15) rfl ?_); refine goesL_ (some 59) rfl rfl Try.func15 (by kernel_rfl) rfl #[.slice A1 l1.length c1] rfl (by (try simp only [List.map_toArray, List.map_cons, List.map_nil]); first | done | rfl | (simp only [List.length_drop, List.length_take]; rfl)) ?_; (with_reducible refine (laws_toBoolS.calls kj15 _ _ l1 t309 _ ?side1 ?side2 A71.out).mono ?_); (case side1 => exact uC HR1 HB); (case side2 => exact HC1.out); rintro e w81 ⟨v310, rfl, ho0, hb⟩; refine ⟨_, rfl, ?_⟩; have n0_ := Aside0.mk (Kd.R_elder' (uR HO_9) (Kd.R_base ho0) hb); have n1_ := Aside0.mk (Kd.S_below (by (with_reducible repeat (first | apply Kd.S_alloc | apply Kd.S_drewN | apply Kd.S_drew)); exact HO_286001.out) hb); have n2_ := Aside0.mk (Kd.R_elder' (uR HO_286002) (Kd.R_base ho0) hb); have n3_ := Aside0.mk (Kd.S_below (by (with_reducible repeat (first | apply Kd.S_alloc | apply Kd.S_drewN | apply Kd.S_drew)); exact HO_291001.out) hb); have n4_ := Aside0.mk (Kd.S_below (by (with_reducible repeat (first | apply Kd.S_alloc | apply Kd.S_drewN | apply Kd.S_drew)); exact HO_303001.out) hb); have n5_ := Aside0.mk (Kd.R_elder' (uR HO_303002) (Kd.R_base ho0) hb); have n6_ := Aside0.mk (Kd.S_below (by (with_reducible repeat (first | apply Kd.S_alloc | apply Kd.S_drewN | apply Kd.S_drew)); exact HO307.out) hb); have n7_ := Aside0.mk (Kd.R_lower (Kd.R_new' (Kd.R_new' (Kd.R_new' ho0 (Kd.R_lt (uR HO_9))) (Kd.R_lt (uR HO_286002))) (Kd.R_lt (uR HO_303002))) (below_size (by first | exact uB HB | exact uS HB (gC GE268 (gC GE285 (gC GE290 (gC GE302 gN))))))); have n8_ := Aside0.mk (blk_below (g := gb268) (o := .cells #[.int .i64 a0_0, .slice A0_1 l0_1.length c0_1] 38 (0, 0)) (uK BK268) hb); have n9_ := Aside0.mk (blk_below (g := gb285) (o := .cells #[.int .i64 t277, .slice Ao29 t278.length co29, .slice Ao30 t281.length co30] 29 (0, 0)) (uK BK285) hb); have n10_ := Aside0.mk (blk_below (g := gb290) (o := .cells #[.int .i64 t286, .slice Ao37 t287.length co37] 41 (0, 0)) (uK BK290) hb); have n11_ := Aside0.mk (blk_below (g := gb302) (o := .cells #[.int .i64 t294, .slice Ao47 t295.length co47, .slice Ao48 t298.length co48] 29 (0, 0)) (uK BK302) hb); have n12_ := Aside0.mk (below_step (by first | exact uB HB | exact uS HB (gC GE268 (gC GE285 (gC GE290 (gC GE302 gN))))) hb); clear HO_9 HO_286001 HO_286002 HO_291001 HO_303001 HO_303002 HO307 BK268 BK285 BK290 BK302 HB; have HO_9 := n0_; have HO_286001 := n1_; have HO_286002 := n2_; have HO_291001 := n3_; have HO_303001 := n4_; have HO_303002 := n5_; have HO307 := n6_; have HO311 := n7_; have BK268 := n8_; have BK285 := n9_; have BK290 := n10_; have BK302 := n11_; have HB := n12_; clear n0_ n1_ n2_ n3_ n4_ n5_ n6_ n7_ n8_ n9_ n10_ n11_ n12_; (try clear hb); (try clear hb2); (try clear hk); (try clear hi); (try clear ho0); obtain ⟨Ao82, co82, eo82⟩ := Kd.R_slice HO311.out; subst eo82) | ((with_reducible refine gate_callee (f := 18) rfl ?_); refine goesL_ (some 60) rfl rfl Try.func18 (by kernel_rfl) rfl #[.slice Ao40 t291.length co40, .slice Ao82 t309.length co82] rfl (by (try simp only [List.map_toArray, List.map_cons, List.map_nil]); first | done | rfl | (simp only [List.length_drop, List.length_take]; rfl)) ?_; (with_reducible refine (laws_eqBoolS.calls kj15 _ _ t291 _ _ t309 true _ ?side1 ?side2 ?side3 ?side4 A72.out).mono ?_); (case side1 => exact uD HO_9); (case side2 => exact (Kd.R_reads' HO_9.out).2.1); (case side3 => exact uD HO311); (case side4 => exact (Kd.R_reads' HO311.out).2.1); rintro e w' ⟨rfl, ⟨nd, rfl⟩⟩; refine ⟨_, rfl, ?_⟩; have hnb83 := NB290_268.out; have hnc83 := NB268_290.out; have hnb84 := NB290_285.out; have hnc84 := NB285_290.out; have hnb85 := NB290_302.out; have hnc85 := NB302_290.out; have hcz86_0 : w81.cell? ⟨gb290, 0, none⟩ = some (.int .i64 t286) := (blk_cell BK290.out 0).trans rfl; have hcz86_1 : w81.cell? ⟨gb290, 1, none⟩ = some (.slice Ao37 t287.length co37) := (blk_cell BK290.out 1).trans rfl; have hfz86_0 := blk_frozen BK290.out 0; have hfz86_1 := blk_frozen BK290.out 1) | ((with_reducible refine gate_callee (f := 19) rfl ?_); refine goesL_ (some 64) rfl rfl Try.func19 (by kernel_rfl) rfl #[.agg #[.int .i64 t286, .slice Ao37 t287.length co37], .int .i64 1] rfl (by (try simp only [List.map_toArray, List.map_cons, List.map_nil]); first | done | rfl | (simp only [List.length_drop, List.length_take]; rfl)) ?_; (with_reducible refine (laws_markHyper.callsT kj15 t286 (fun k_ => n1 ≤ k_ ∧ k_ < n2) (.slice Ao37 t287.length co37) t287 1 t313 t314 w _ ?side1 ?side2 A74.out).mono ?_); (case side1 => first | exact uB HB | exact uS HB (gC GE268 (gC GE285 (gC GE290 (gC GE302 gN))))); (case side2 => exact HO_291001.out); rintro e w87 ⟨rfl, hy0, hb, hkp⟩; refine ⟨_, rfl, ?_⟩; have n0_ := Aside0.mk (Kd.R_mono (ok' := fun k_ => some k_ ≠ (.slice Ao30 t281.length co30 : Value).ownBlock ∧ some k_ ≠ (.slice Ao48 t298.length co48 : Value).ownBlock ∧ some k_ ≠ (.slice Ao82 t309.length co82 : Value).ownBlock) (so_Rk rfl HO_9.out hkp (by decide)) (fun k_ hk_ => ⟨hk_.1.1.1.1, hk_.1.1.1.2, hk_.1.1.2⟩)); have n1_ := Aside0.mk (Kd.S_kept HO_286001.out hkp (fun k_ hk_ hs_ => absurd hs_.1.1 (Nat.not_le.2 hk_.1))); have n2_ := Aside0.mk (Kd.R_mono (ok' := fun k_ => some k_ ≠ (.slice Ao40 t291.length co40 : Value).ownBlock ∧ some k_ ≠ (.slice Ao48 t298.length co48 : Value).ownBlock ∧ some k_ ≠ (.slice Ao82 t309.length co82 : Value).ownBlock) (so_Rk rfl HO_286002.out hkp (by decide)) (fun k_ hk_ => ⟨hk_.1.1.1.1, hk_.1.1.1.2, hk_.1.1.2⟩)); have n3_ := Aside0.mk hy0; have n4_ := Aside0.mk (Kd.S_kept HO_303001.out hkp (fun k_ hk_ hs_ => absurd hs_.1.2 (Nat.not_lt.2 hk_))); have n5_ := Aside0.mk (Kd.R_mono (ok' := fun k_ => some k_ ≠ (.slice Ao40 t291.length co40 : Value).ownBlock ∧ some k_ ≠ (.slice Ao30 t281.length co30 : Value).ownBlock ∧ some k_ ≠ (.slice Ao82 t309.length co82 : Value).ownBlock) (so_Rk rfl HO_303002.out hkp (by decide)) (fun k_ hk_ => ⟨hk_.1.1.1.1, hk_.1.1.1.2, hk_.1.1.2⟩)); have n6_ := Aside0.mk (blk_kept (uK BK268) hkp (fun hs_ => so_ne hs_.2 (uK BK268) (by decide))); have n7_ := Aside0.mk (blk_kept (uK BK285) hkp (fun hs_ => so_ne hs_.2 (uK BK285) (by decide))); have n8_ := Aside0.mk (blk_kept (uK BK290) hkp (fun hs_ => so_ne hs_.2 (uK BK290) (by decide))); have n9_ := Aside0.mk (blk_kept (uK BK302) hkp (fun hs_ => so_ne hs_.2 (uK BK302) (by decide))); have n10_ := Aside0.mk True.intro; have n11_ := Aside0.mk (Kd.R_mono (ok' := fun k_ => some k_ ≠ (.slice Ao40 t291.length co40 : Value).ownBlock ∧ some k_ ≠ (.slice Ao30 t281.length co30 : Value).ownBlock ∧ some k_ ≠ (.slice Ao48 t298.length co48 : Value).ownBlock) (so_Rk rfl HO311.out hkp (by decide)) (fun k_ hk_ => ⟨hk_.1.1.1.1.2, hk_.1.1.1.2, hk_.1.1.2⟩)); have n12_ := Aside0.mk (hb); clear HO_9 HO_286001 HO_286002 HO_291001 HO_303001 HO_303002 BK268 BK285 BK290 BK302 HO307 HO311 HB; have HO_9 := n0_; have HO_286001 := n1_; have HO_286002 := n2_; have HO_291001 := n3_; have HO_303001 := n4_; have HO_303002 := n5_; have BK268 := n6_; have BK285 := n7_; have BK290 := n8_; have BK302 := n9_; have HO307 := n10_; have HO311 := n11_; have HB := n12_; clear n0_ n1_ n2_ n3_ n4_ n5_ n6_ n7_ n8_ n9_ n10_ n11_ n12_; (try clear hb); (try clear hkp); (try clear hy0)) | ((with_reducible refine gate_callee (f := 20) rfl ?_); refine goesL_ (some 67) rfl rfl Try.func20 (by kernel_rfl) rfl #[.slice Ao40 t291.length co40, .int .i64 t313] rfl (by (try simp only [List.map_toArray, List.map_cons, List.map_nil]); first | done | rfl | (simp only [List.length_drop, List.length_take]; rfl)) ?_; (with_reducible refine (laws_markBoolS.calls kj15 (fun k_ => some k_ = (.slice Ao40 t291.length co40 : Value).ownBlock) (.slice Ao40 t291.length co40) t291 t313 t315 t316 w _ ?side1 ?side2 A75.out).mono ?_); (case side1 => first | exact uB HB | exact uS HB (gC GE268 (gC GE285 (gC GE290 (gC GE302 gN))))); (case side2 => exact Kd.R_tight rfl HO_9.out); rintro e w88 ⟨rfl, hy0, hb, hkp⟩; refine ⟨_, rfl, ?_⟩; have n0_ := Aside0.mk (Kd.R_reok rfl hy0 (fun k_ e_ => HO_9.out.1 k_ e_)); have n1_ := Aside0.mk (Kd.S_mono (ok' := fun k_ => k_ < n1 ∧ k_ < n2) (Kd.S_kept (Kd.S_apart' HO_286001.out (Kd.R_typed HO_9.out) (by decide)) hkp (fun k_ hk_ hs_ => hk_.2 hs_)) (fun k_ hk_ => hk_.1)); have n2_ := Aside0.mk (Kd.R_mono (ok' := fun k_ => some k_ ≠ (.slice Ao40 t291.length co40 : Value).ownBlock ∧ some k_ ≠ (.slice Ao48 t298.length co48 : Value).ownBlock ∧ some k_ ≠ (.slice Ao82 t309.length co82 : Value).ownBlock) (Kd.R_keptB (HO_286002.out) hkp (fun k_ hk_ hs_ => (hk_.1) hs_)) (fun k_ hk_ => ⟨hk_.1.1, hk_.1.2.1, hk_.1.2.2⟩)); have n3_ := Aside0.mk (Kd.S_mono (ok' := fun k_ => n1 ≤ k_ ∧ k_ < n2) (Kd.S_kept (Kd.S_apart' HO_291001.out (Kd.R_typed HO_9.out) (by decide)) hkp (fun k_ hk_ hs_ => hk_.2 hs_)) (fun k_ hk_ => hk_.1)); have n4_ := Aside0.mk (Kd.S_mono (ok' := fun k_ => n2 ≤ k_) (Kd.S_kept (Kd.S_apart' HO_303001.out (Kd.R_typed HO_9.out) (by decide)) hkp (fun k_ hk_ hs_ => hk_.2 hs_)) (fun k_ hk_ => hk_.1)); have n5_ := Aside0.mk (Kd.R_mono (ok' := fun k_ => some k_ ≠ (.slice Ao40 t291.length co40 : Value).ownBlock ∧ some k_ ≠ (.slice Ao30 t281.length co30 : Value).ownBlock ∧ some k_ ≠ (.slice Ao82 t309.length co82 : Value).ownBlock) (Kd.R_keptB (HO_303002.out) hkp (fun k_ hk_ hs_ => (hk_.1) hs_)) (fun k_ hk_ => ⟨hk_.1.1, hk_.1.2.1, hk_.1.2.2⟩)); have n6_ := Aside0.mk (blk_kept (uK BK268) hkp (fun hs_ => (fun e_ => (Kd.R_ne HO_9.out BK268.out (by decide)) e_) hs_)); have n7_ := Aside0.mk (blk_kept (uK BK285) hkp (fun hs_ => (fun e_ => (Kd.R_ne HO_9.out BK285.out (by decide)) e_) hs_)); have n8_ := Aside0.mk (blk_kept (uK BK290) hkp (fun hs_ => (fun e_ => (Kd.R_ne HO_9.out BK290.out (by decide)) e_) hs_)); have n9_ := Aside0.mk (blk_kept (uK BK302) hkp (fun hs_ => (fun e_ => (Kd.R_ne HO_9.out BK302.out (by decide)) e_) hs_)); have n10_ := Aside0.mk True.intro; have n11_ := Aside0.mk (Kd.R_mono (ok' := fun k_ => some k_ ≠ (.slice Ao40 t291.length co40 : Value).ownBlock ∧ some k_ ≠ (.slice Ao30 t281.length co30 : Value).ownBlock ∧ some k_ ≠ (.slice Ao48 t298.length co48 : Value).ownBlock) (Kd.R_keptB (HO311.out) hkp (fun k_ hk_ hs_ => (hk_.1) hs_)) (fun k_ hk_ => ⟨hk_.1.1, hk_.1.2.1, hk_.1.2.2⟩)); have n12_ := Aside0.mk (hb); clear HO_9 HO_286001 HO_286002 HO_291001 HO_303001 HO_303002 BK268 BK285 BK290 BK302 HO307 HO311 HB; have HO_9 := n0_; have HO_286001 := n1_; have HO_286002 := n2_; have HO_291001 := n3_; have HO_303001 := n4_; have HO_303002 := n5_; have BK268 := n6_; have BK285 := n7_; have BK290 := n8_; have BK302 := n9_; have HO307 := n10_; have HO311 := n11_; have HB := n12_; clear n0_ n1_ n2_ n3_ n4_ n5_ n6_ n7_ n8_ n9_ n10_ n11_ n12_; (try clear hb); (try clear hkp); (try clear hy0)))
        (try simp only [Act.put, List.setIfInBounds_toArray, List.set_cons_zero, List.set_cons_succ])
        go_cut [80] (fun v80 wc => ∃ (kq : Nat) (x80_75 : Bool), v80 = .bool x80_75 ∧ Aside0 (laws_FnExactSystemOf.j1 kq l1 t284 x80_75 a0_0 l0_1 t277 t278 t281 t294 t295 t298 = some r) ∧ Aside0 (kq ≤ kj15) ∧ Aside0 (Kd.S k53 53 wc w.heap.size (fun k_ => k_ < n1 ∧ k_ < n2) (.slice Ao29 t278.length co29) t278) ∧ Aside0 (Kd.R Kd.bool 4 wc w.heap.size (fun k_ => some k_ ≠ ((.slice Ao48 t298.length co48) : Value).ownBlock) (.slice Ao30 t281.length co30) t281) ∧ Aside0 (Kd.S (Kd.slice 3 (Kd.int .i64)) 51 wc w.heap.size (fun k_ => n1 ≤ k_ ∧ k_ < n2) (.slice Ao37 t287.length co37) t314) ∧ Aside0 (Kd.S k53 53 wc w.heap.size (fun k_ => n2 ≤ k_) (.slice Ao47 t295.length co47) t295) ∧ Aside0 (Kd.R Kd.bool 4 wc w.heap.size (fun k_ => some k_ ≠ ((.slice Ao30 t281.length co30) : Value).ownBlock) (.slice Ao48 t298.length co48) t298) ∧ Aside0 (wc.heap[gb268]? = some (.cells #[.int .i64 a0_0, (.slice A0_1 l0_1.length c0_1)] 38 (0, 0))) ∧ Aside0 (wc.heap[gb285]? = some (.cells #[.int .i64 t277, (.slice Ao29 t278.length co29), (.slice Ao30 t281.length co30)] 29 (0, 0))) ∧ Aside0 (wc.heap[gb290]? = some (.cells #[.int .i64 t286, (.slice Ao37 t287.length co37)] 41 (0, 0))) ∧ Aside0 (wc.heap[gb302]? = some (.cells #[.int .i64 t294, (.slice Ao47 t295.length co47), (.slice Ao48 t298.length co48)] 29 (0, 0))) ∧ Aside0 (Below w.heap.size w wc))
        case first =>
         have H := HC76.out
         clear HC76
         by_cases c89 : t315 < 0
         ·
          rw [if_pos c89] at H
          have c89b0 : decide (t315 < 0) = true := decide_eq_true c89
          clear c89
          (first | rw [c89b0] | (simp only [i64_w, i32_w]; rw [c89b0]) | skip)
          have H' := Aside0.mk H
          clear H
          go_wp2
          go_meet
          case rel => exact ⟨_, (true), (by first | rfl | (simp; done) | (simp [*]; done)), H', ⟨by have := HJ15.out; first | omega | exact Nat.le_refl _⟩, ⟨by (with_reducible repeat (first | apply Kd.S_alloc | apply Kd.S_drewN | apply Kd.S_drew)); exact HO_286001.out⟩, ⟨by (with_reducible repeat (first | apply Kd.R_alloc | apply Kd.R_drewN | apply Kd.R_drew)); exact Kd.R_mono HO_286002.out (fun _ hk => hk.2.1)⟩, ⟨by (with_reducible repeat (first | apply Kd.S_alloc | apply Kd.S_drewN | apply Kd.S_drew)); exact HO_291001.out⟩, ⟨by (with_reducible repeat (first | apply Kd.S_alloc | apply Kd.S_drewN | apply Kd.S_drew)); exact HO_303001.out⟩, ⟨by (with_reducible repeat (first | apply Kd.R_alloc | apply Kd.R_drewN | apply Kd.R_drew)); exact Kd.R_mono HO_303002.out (fun _ hk => hk.2.1)⟩, ⟨by refine uW ?_; exact BK268.out⟩, ⟨by refine uW ?_; exact BK285.out⟩, ⟨by refine uW ?_; exact BK290.out⟩, ⟨by refine uW ?_; exact BK302.out⟩, ⟨by first | exact uB HB | exact uS HB (gC GE268 (gC GE285 (gC GE290 (gC GE302 gN))))⟩⟩
         ·
          rw [if_neg c89] at H
          have c89b0 : decide (t315 < 0) = false := decide_eq_false c89
          clear c89
          (first | rw [c89b0] | (simp only [i64_w, i32_w]; rw [c89b0]) | skip)
          replace H := Option.bind_eq_some_iff.mp H
          obtain ⟨t317, A900, H⟩ := H
          replace H : (if t317 = true then (laws_FnExactSystemOf.j1 kj15 l1 t284 (t301 != t284) a0_0 l0_1 t277 t278 t281 t294 t295 t298) else (laws_FnExactSystemOf.j1 kj15 l1 t284 true a0_0 l0_1 t277 t278 t281 t294 t295 t298)) = some r := H
          have A90 := Aside0.mk A900
          clear A900
          by_cases c91 : t317 = true
          ·
           subst c91
           have H1 : (laws_FnExactSystemOf.j1 kj15 l1 t284 (t301 != t284) a0_0 l0_1 t277 t278 t281 t294 t295 t298) = some r := by rw [if_pos rfl] at H; exact H
           clear H
           have H := H1
           clear H1
           have H' := Aside0.mk H
           clear H
           have hnb92 := NB302_268.out
           have hnc92 := NB268_302.out
           have hnb93 := NB302_285.out
           have hnc93 := NB285_302.out
           have hnb94 := NB302_290.out
           have hnc94 := NB290_302.out
           have hcz95_0 : w88.cell? ⟨gb302, 0, none⟩ = some (.int .i64 t294) := (blk_cell BK302.out 0).trans rfl
           have hcz95_1 : w88.cell? ⟨gb302, 1, none⟩ = some (.slice Ao47 t295.length co47) := (blk_cell BK302.out 1).trans rfl
           have hcz95_2 : w88.cell? ⟨gb302, 2, none⟩ = some (.slice Ao48 t298.length co48) := (blk_cell BK302.out 2).trans rfl
           have hfz95_0 := blk_frozen BK302.out 0
           have hfz95_1 := blk_frozen BK302.out 1
           have hfz95_2 := blk_frozen BK302.out 2
           have hnb96 := NB285_268.out
           have hnc96 := NB268_285.out
           have hnb97 := NB285_290.out
           have hnc97 := NB290_285.out
           have hcz98_0 : w88.cell? ⟨gb285, 0, none⟩ = some (.int .i64 t277) := (blk_cell BK285.out 0).trans rfl
           have hcz98_1 : w88.cell? ⟨gb285, 1, none⟩ = some (.slice Ao29 t278.length co29) := (blk_cell BK285.out 1).trans rfl
           have hcz98_2 : w88.cell? ⟨gb285, 2, none⟩ = some (.slice Ao30 t281.length co30) := (blk_cell BK285.out 2).trans rfl
           have hfz98_0 := blk_frozen BK285.out 0
           have hfz98_1 := blk_frozen BK285.out 1
           have hfz98_2 := blk_frozen BK285.out 2
           go_wp2_with (first | (go_at_call 9; (with_reducible refine (laws_eqSystem.calls kj15 t294 _ _ t295 _ _ t298 t277 _ _ t278 _ _ t281 true _ ?side1 ?side2 ?side3 ?side4 ?side5 ?side6 ?side7 ?side8 A90.out).mono ?_); (case side1 => repeat (first | exact (Kd.S_reads' HO_303001.out).2.2 | (with_reducible refine Kd.C_alloc ?_ _) | (with_reducible refine Kd.C_drewN ?_ _) | (with_reducible refine Kd.C_drew ?_))); (case side2 => exact (Kd.S_reads' HO_303001.out).2.1); (case side3 => exact uD HO_303002); (case side4 => exact (Kd.R_reads' HO_303002.out).2.1); (case side5 => repeat (first | exact (Kd.S_reads' HO_286001.out).2.2 | (with_reducible refine Kd.C_alloc ?_ _) | (with_reducible refine Kd.C_drewN ?_ _) | (with_reducible refine Kd.C_drew ?_))); (case side6 => exact (Kd.S_reads' HO_286001.out).2.1); (case side7 => exact uD HO_286002); (case side8 => exact (Kd.R_reads' HO_286002.out).2.1); rintro e w99 ⟨rfl, hb⟩; have n0_ := Aside0.mk (Kd.R_below (uR HO_9) hb); have n1_ := Aside0.mk (Kd.S_below (by (with_reducible repeat (first | apply Kd.S_alloc | apply Kd.S_drewN | apply Kd.S_drew)); exact HO_286001.out) hb); have n2_ := Aside0.mk (Kd.R_below (uR HO_286002) hb); have n3_ := Aside0.mk (Kd.S_below (by (with_reducible repeat (first | apply Kd.S_alloc | apply Kd.S_drewN | apply Kd.S_drew)); exact HO_291001.out) hb); have n4_ := Aside0.mk (Kd.S_below (by (with_reducible repeat (first | apply Kd.S_alloc | apply Kd.S_drewN | apply Kd.S_drew)); exact HO_303001.out) hb); have n5_ := Aside0.mk (Kd.R_below (uR HO_303002) hb); have n6_ := Aside0.mk True.intro; have n7_ := Aside0.mk (Kd.R_below (uR HO311) hb); have n8_ := Aside0.mk (blk_below (g := gb268) (o := .cells #[.int .i64 a0_0, .slice A0_1 l0_1.length c0_1] 38 (0, 0)) (uK BK268) hb); have n9_ := Aside0.mk (blk_below (g := gb285) (o := .cells #[.int .i64 t277, .slice Ao29 t278.length co29, .slice Ao30 t281.length co30] 29 (0, 0)) (uK BK285) hb); have n10_ := Aside0.mk (blk_below (g := gb290) (o := .cells #[.int .i64 t286, .slice Ao37 t287.length co37] 41 (0, 0)) (uK BK290) hb); have n11_ := Aside0.mk (blk_below (g := gb302) (o := .cells #[.int .i64 t294, .slice Ao47 t295.length co47, .slice Ao48 t298.length co48] 29 (0, 0)) (uK BK302) hb); have n12_ := Aside0.mk (below_step (by first | exact uB HB | exact uS HB (gC GE268 (gC GE285 (gC GE290 (gC GE302 gN))))) hb); clear HO_9 HO_286001 HO_286002 HO_291001 HO_303001 HO_303002 HO307 HO311 BK268 BK285 BK290 BK302 HB; have HO_9 := n0_; have HO_286001 := n1_; have HO_286002 := n2_; have HO_291001 := n3_; have HO_303001 := n4_; have HO_303002 := n5_; have HO307 := n6_; have HO311 := n7_; have BK268 := n8_; have BK285 := n9_; have BK290 := n10_; have BK302 := n11_; have HB := n12_; clear n0_ n1_ n2_ n3_ n4_ n5_ n6_ n7_ n8_ n9_ n10_ n11_ n12_; (try clear hb); (try clear hb2); (try clear hk); (try clear hi)))
           go_meet
           case rel => exact ⟨_, ((t301 != t284)), (by first | rfl | (simp; done) | (simp [*]; done)), H', ⟨by have := HJ15.out; first | omega | exact Nat.le_refl _⟩, ⟨by (with_reducible repeat (first | apply Kd.S_alloc | apply Kd.S_drewN | apply Kd.S_drew)); exact HO_286001.out⟩, ⟨by (with_reducible repeat (first | apply Kd.R_alloc | apply Kd.R_drewN | apply Kd.R_drew)); exact Kd.R_mono HO_286002.out (fun _ hk => hk.2.1)⟩, ⟨by (with_reducible repeat (first | apply Kd.S_alloc | apply Kd.S_drewN | apply Kd.S_drew)); exact HO_291001.out⟩, ⟨by (with_reducible repeat (first | apply Kd.S_alloc | apply Kd.S_drewN | apply Kd.S_drew)); exact HO_303001.out⟩, ⟨by (with_reducible repeat (first | apply Kd.R_alloc | apply Kd.R_drewN | apply Kd.R_drew)); exact Kd.R_mono HO_303002.out (fun _ hk => hk.2.1)⟩, ⟨by refine uW ?_; exact BK268.out⟩, ⟨by refine uW ?_; exact BK285.out⟩, ⟨by refine uW ?_; exact BK290.out⟩, ⟨by refine uW ?_; exact BK302.out⟩, ⟨by first | exact uB HB | exact uS HB (gC GE268 (gC GE285 (gC GE290 (gC GE302 gN))))⟩⟩
          ·
           replace c91 := Bool.eq_false_iff.mpr c91
           subst c91
           have H1 : (laws_FnExactSystemOf.j1 kj15 l1 t284 true a0_0 l0_1 t277 t278 t281 t294 t295 t298) = some r := by rw [if_neg (show ¬ (false = true) by decide)] at H; exact H
           clear H
           have H := H1
           clear H1
           have H' := Aside0.mk H
           clear H
           have hnb100 := NB302_268.out
           have hnc100 := NB268_302.out
           have hnb101 := NB302_285.out
           have hnc101 := NB285_302.out
           have hnb102 := NB302_290.out
           have hnc102 := NB290_302.out
           have hcz103_0 : w88.cell? ⟨gb302, 0, none⟩ = some (.int .i64 t294) := (blk_cell BK302.out 0).trans rfl
           have hcz103_1 : w88.cell? ⟨gb302, 1, none⟩ = some (.slice Ao47 t295.length co47) := (blk_cell BK302.out 1).trans rfl
           have hcz103_2 : w88.cell? ⟨gb302, 2, none⟩ = some (.slice Ao48 t298.length co48) := (blk_cell BK302.out 2).trans rfl
           have hfz103_0 := blk_frozen BK302.out 0
           have hfz103_1 := blk_frozen BK302.out 1
           have hfz103_2 := blk_frozen BK302.out 2
           have hnb104 := NB285_268.out
           have hnc104 := NB268_285.out
           have hnb105 := NB285_290.out
           have hnc105 := NB290_285.out
           have hcz106_0 : w88.cell? ⟨gb285, 0, none⟩ = some (.int .i64 t277) := (blk_cell BK285.out 0).trans rfl
           have hcz106_1 : w88.cell? ⟨gb285, 1, none⟩ = some (.slice Ao29 t278.length co29) := (blk_cell BK285.out 1).trans rfl
           have hcz106_2 : w88.cell? ⟨gb285, 2, none⟩ = some (.slice Ao30 t281.length co30) := (blk_cell BK285.out 2).trans rfl
           have hfz106_0 := blk_frozen BK285.out 0
           have hfz106_1 := blk_frozen BK285.out 1
           have hfz106_2 := blk_frozen BK285.out 2
           go_wp2_with (first | (go_at_call 9; (with_reducible refine (laws_eqSystem.calls kj15 t294 _ _ t295 _ _ t298 t277 _ _ t278 _ _ t281 false _ ?side1 ?side2 ?side3 ?side4 ?side5 ?side6 ?side7 ?side8 A90.out).mono ?_); (case side1 => repeat (first | exact (Kd.S_reads' HO_303001.out).2.2 | (with_reducible refine Kd.C_alloc ?_ _) | (with_reducible refine Kd.C_drewN ?_ _) | (with_reducible refine Kd.C_drew ?_))); (case side2 => exact (Kd.S_reads' HO_303001.out).2.1); (case side3 => exact uD HO_303002); (case side4 => exact (Kd.R_reads' HO_303002.out).2.1); (case side5 => repeat (first | exact (Kd.S_reads' HO_286001.out).2.2 | (with_reducible refine Kd.C_alloc ?_ _) | (with_reducible refine Kd.C_drewN ?_ _) | (with_reducible refine Kd.C_drew ?_))); (case side6 => exact (Kd.S_reads' HO_286001.out).2.1); (case side7 => exact uD HO_286002); (case side8 => exact (Kd.R_reads' HO_286002.out).2.1); rintro e w107 ⟨rfl, hb⟩; have n0_ := Aside0.mk (Kd.R_below (uR HO_9) hb); have n1_ := Aside0.mk (Kd.S_below (by (with_reducible repeat (first | apply Kd.S_alloc | apply Kd.S_drewN | apply Kd.S_drew)); exact HO_286001.out) hb); have n2_ := Aside0.mk (Kd.R_below (uR HO_286002) hb); have n3_ := Aside0.mk (Kd.S_below (by (with_reducible repeat (first | apply Kd.S_alloc | apply Kd.S_drewN | apply Kd.S_drew)); exact HO_291001.out) hb); have n4_ := Aside0.mk (Kd.S_below (by (with_reducible repeat (first | apply Kd.S_alloc | apply Kd.S_drewN | apply Kd.S_drew)); exact HO_303001.out) hb); have n5_ := Aside0.mk (Kd.R_below (uR HO_303002) hb); have n6_ := Aside0.mk True.intro; have n7_ := Aside0.mk (Kd.R_below (uR HO311) hb); have n8_ := Aside0.mk (blk_below (g := gb268) (o := .cells #[.int .i64 a0_0, .slice A0_1 l0_1.length c0_1] 38 (0, 0)) (uK BK268) hb); have n9_ := Aside0.mk (blk_below (g := gb285) (o := .cells #[.int .i64 t277, .slice Ao29 t278.length co29, .slice Ao30 t281.length co30] 29 (0, 0)) (uK BK285) hb); have n10_ := Aside0.mk (blk_below (g := gb290) (o := .cells #[.int .i64 t286, .slice Ao37 t287.length co37] 41 (0, 0)) (uK BK290) hb); have n11_ := Aside0.mk (blk_below (g := gb302) (o := .cells #[.int .i64 t294, .slice Ao47 t295.length co47, .slice Ao48 t298.length co48] 29 (0, 0)) (uK BK302) hb); have n12_ := Aside0.mk (below_step (by first | exact uB HB | exact uS HB (gC GE268 (gC GE285 (gC GE290 (gC GE302 gN))))) hb); clear HO_9 HO_286001 HO_286002 HO_291001 HO_303001 HO_303002 HO307 HO311 BK268 BK285 BK290 BK302 HB; have HO_9 := n0_; have HO_286001 := n1_; have HO_286002 := n2_; have HO_291001 := n3_; have HO_303001 := n4_; have HO_303002 := n5_; have HO307 := n6_; have HO311 := n7_; have BK268 := n8_; have BK285 := n9_; have BK290 := n10_; have BK302 := n11_; have HB := n12_; clear n0_ n1_ n2_ n3_ n4_ n5_ n6_ n7_ n8_ n9_ n10_ n11_ n12_; (try clear hb); (try clear hb2); (try clear hk); (try clear hi)))
           go_meet
           case rel => exact ⟨_, (true), (by first | rfl | (simp; done) | (simp [*]; done)), H', ⟨by have := HJ15.out; first | omega | exact Nat.le_refl _⟩, ⟨by (with_reducible repeat (first | apply Kd.S_alloc | apply Kd.S_drewN | apply Kd.S_drew)); exact HO_286001.out⟩, ⟨by (with_reducible repeat (first | apply Kd.R_alloc | apply Kd.R_drewN | apply Kd.R_drew)); exact Kd.R_mono HO_286002.out (fun _ hk => hk.2.1)⟩, ⟨by (with_reducible repeat (first | apply Kd.S_alloc | apply Kd.S_drewN | apply Kd.S_drew)); exact HO_291001.out⟩, ⟨by (with_reducible repeat (first | apply Kd.S_alloc | apply Kd.S_drewN | apply Kd.S_drew)); exact HO_303001.out⟩, ⟨by (with_reducible repeat (first | apply Kd.R_alloc | apply Kd.R_drewN | apply Kd.R_drew)); exact Kd.R_mono HO_303002.out (fun _ hk => hk.2.1)⟩, ⟨by refine uW ?_; exact BK268.out⟩, ⟨by refine uW ?_; exact BK285.out⟩, ⟨by refine uW ?_; exact BK290.out⟩, ⟨by refine uW ?_; exact BK302.out⟩, ⟨by first | exact uB HB | exact uS HB (gC GE268 (gC GE285 (gC GE290 (gC GE302 gN))))⟩⟩
        case rest =>
         clear HC76
         try clear c1
         try clear c2
         try clear p2
         try clear c3
         try clear c3b0
         try clear c3b1
         try clear c4
         try clear c5
         try clear c6
         try clear c6b0
         try clear c7
         try clear c8
         try clear c9
         try clear c10
         try clear c12
         try clear c13
         try clear c14
         try clear c15
         try clear c16
         try clear c17
         try clear c18
         try clear c19
         try clear c20
         try clear c27
         try clear c34
         try clear c35
         try clear c43
         try clear c44
         try clear c45
         try clear c50
         try clear c51
         try clear c52
         try clear c53
         try clear c55
         try clear c56
         try clear c59
         try clear c60
         try clear c61
         try clear c63
         try clear c64
         try clear c67
         try clear c70
         try clear c73
         try clear c83
         try clear c84
         try clear c85
         try clear c89
         try clear c89b0
         try clear c91
         try clear c92
         try clear c93
         try clear c94
         try clear c96
         try clear c97
         try clear c100
         try clear c101
         try clear c102
         try clear c104
         try clear c105
         try clear hcz103_0
         try clear hcz103_1
         try clear hcz103_2
         try clear hcz106_0
         try clear hcz106_1
         try clear hcz106_2
         try clear hcz18_0
         try clear hcz18_1
         try clear hcz20_0
         try clear hcz20_1
         try clear hcz28_0
         try clear hcz28_1
         try clear hcz28_2
         try clear hcz31_0
         try clear hcz31_1
         try clear hcz36_0
         try clear hcz36_1
         try clear hcz39_0
         try clear hcz39_1
         try clear hcz46_0
         try clear hcz46_1
         try clear hcz46_2
         try clear hcz54_0
         try clear hcz54_1
         try clear hcz54_2
         try clear hcz57_0
         try clear hcz57_1
         try clear hcz57_2
         try clear hcz62_0
         try clear hcz62_1
         try clear hcz62_2
         try clear hcz65_0
         try clear hcz65_1
         try clear hcz65_2
         try clear hcz86_0
         try clear hcz86_1
         try clear hcz8_0
         try clear hcz8_1
         try clear hcz95_0
         try clear hcz95_1
         try clear hcz95_2
         try clear hcz98_0
         try clear hcz98_1
         try clear hcz98_2
         try clear hfz103_0
         try clear hfz103_1
         try clear hfz103_2
         try clear hfz106_0
         try clear hfz106_1
         try clear hfz106_2
         try clear hfz18_0
         try clear hfz18_1
         try clear hfz20_0
         try clear hfz20_1
         try clear hfz28_0
         try clear hfz28_1
         try clear hfz28_2
         try clear hfz31_0
         try clear hfz31_1
         try clear hfz36_0
         try clear hfz36_1
         try clear hfz39_0
         try clear hfz39_1
         try clear hfz46_0
         try clear hfz46_1
         try clear hfz46_2
         try clear hfz54_0
         try clear hfz54_1
         try clear hfz54_2
         try clear hfz57_0
         try clear hfz57_1
         try clear hfz57_2
         try clear hfz62_0
         try clear hfz62_1
         try clear hfz62_2
         try clear hfz65_0
         try clear hfz65_1
         try clear hfz65_2
         try clear hfz86_0
         try clear hfz86_1
         try clear hfz8_0
         try clear hfz8_1
         try clear hfz95_0
         try clear hfz95_1
         try clear hfz95_2
         try clear hfz98_0
         try clear hfz98_1
         try clear hfz98_2
         try clear p2
         obtain ⟨kq, x80_75, rfl, HA, HJ75, HO_286001, HO_286002, HO_291001, HO_303001, HO_303002, BK268, BK285, BK290, BK302, HB⟩ := hcut
         have hl291001_75 := (Kd.S_reads' HO_291001.out).1
         rw [hl291001_75] at HO_291001
         (try simp only [hl291001_75])
         (try simp only [hl291001_75] at BK268)
         (try simp only [hl291001_75] at BK285)
         (try simp only [hl291001_75] at BK290)
         (try simp only [hl291001_75] at BK302)
         (try simp only [hl291001_75] at HO_286001)
         (try simp only [hl291001_75] at HO_286002)
         (try simp only [hl291001_75] at HO_303001)
         (try simp only [hl291001_75] at HO_303002)
         cases kq with
         | zero => exact absurd HA.out (by simp [laws_FnExactSystemOf.j1])
         | succ kj75 =>
          have H := HA.out
          clear HA
          simp only [laws_FnExactSystemOf.j1] at H
          by_cases c108 : x80_75 = true
          ·
           subst c108
           have H1 : (some false) = some r := by rw [if_pos rfl] at H; exact H
           clear H
           have H := H1
           clear H1
           obtain rfl := Option.some.inj H
           go_wp2
           go_ret
           exact ⟨by first | rfl | (simp [errW_none, errW_some] <;> rfl) | (simp [*, errW_none, errW_some] <;> rfl), by first | exact uB HB | exact uS HB (gC GE268 (gC GE285 (gC GE290 (gC GE302 gN))))⟩
          ·
           replace c108 := Bool.eq_false_iff.mpr c108
           subst c108
           have H1 : ((laws_markSystem.f kj75 t294 t295 t298 1).bind fun bt318 => ((laws_heldSystem.f kj75 t294 bt318.2.1 bt318.2.2 1).bind fun t321 => (if t321 < 0 then (some false) else (if t321 = bt318.1 then ((laws_toHyper.f kj75 a0_0 l0_1).bind fun bt322 => ((laws_toBoolS.f kj75 l1).bind fun t326 => ((impl_SystemOf.f kj75 bt322.1 bt322.2 t326).bind fun bt329 => ((laws_eqSystem.f kj75 bt329.1 bt329.2.1 bt329.2.2.1 t277 t278 t281).bind fun t338 => (if t338 = true then (laws_FnExactSystemOf.j2 kj75 bt318.1 (bt329.2.2.2 != t284) t294 bt318.2.1 bt318.2.2) else (laws_FnExactSystemOf.j2 kj75 bt318.1 true t294 bt318.2.1 bt318.2.2)))))) else (some false))))) = some r := by rw [if_neg (show ¬ (false = true) by decide)] at H; exact H
           clear H
           have H := H1
           clear H1
           replace H := Option.bind_eq_some_iff.mp H
           obtain ⟨⟨t318, t319, t320⟩, A1090, H⟩ := H
           replace H : ((laws_heldSystem.f kj75 t294 t319 t320 1).bind fun t321 => (if t321 < 0 then (some false) else (if t321 = t318 then ((laws_toHyper.f kj75 a0_0 l0_1).bind fun bt322 => ((laws_toBoolS.f kj75 l1).bind fun t326 => ((impl_SystemOf.f kj75 bt322.1 bt322.2 t326).bind fun bt329 => ((laws_eqSystem.f kj75 bt329.1 bt329.2.1 bt329.2.2.1 t277 t278 t281).bind fun t338 => (if t338 = true then (laws_FnExactSystemOf.j2 kj75 t318 (bt329.2.2.2 != t284) t294 t319 t320) else (laws_FnExactSystemOf.j2 kj75 t318 true t294 t319 t320)))))) else (some false)))) = some r := H
           have A109 := Aside0.mk A1090
           clear A1090
           replace H := Option.bind_eq_some_iff.mp H
           obtain ⟨t321, A1100, H⟩ := H
           replace H : (if t321 < 0 then (some false) else (if t321 = t318 then ((laws_toHyper.f kj75 a0_0 l0_1).bind fun bt322 => ((laws_toBoolS.f kj75 l1).bind fun t326 => ((impl_SystemOf.f kj75 bt322.1 bt322.2 t326).bind fun bt329 => ((laws_eqSystem.f kj75 bt329.1 bt329.2.1 bt329.2.2.1 t277 t278 t281).bind fun t338 => (if t338 = true then (laws_FnExactSystemOf.j2 kj75 t318 (bt329.2.2.2 != t284) t294 t319 t320) else (laws_FnExactSystemOf.j2 kj75 t318 true t294 t319 t320)))))) else (some false))) = some r := H
           have A110 := Aside0.mk A1100
           clear A1100
           by_cases c111 : t321 < 0
           ·
            rw [if_pos c111] at H
            have c111b0 : decide (t321 < 0) = true := decide_eq_true c111
            clear c111
            obtain rfl := Option.some.inj H
            have hnb112 := NB302_268.out
            have hnc112 := NB268_302.out
            have hnb113 := NB302_285.out
            have hnc113 := NB285_302.out
            have hnb114 := NB302_290.out
            have hnc114 := NB290_302.out
            have hcz115_0 : wc.cell? ⟨gb302, 0, none⟩ = some (.int .i64 t294) := (blk_cell BK302.out 0).trans rfl
            have hcz115_1 : wc.cell? ⟨gb302, 1, none⟩ = some (.slice Ao47 t295.length co47) := (blk_cell BK302.out 1).trans rfl
            have hcz115_2 : wc.cell? ⟨gb302, 2, none⟩ = some (.slice Ao48 t298.length co48) := (blk_cell BK302.out 2).trans rfl
            have hfz115_0 := blk_frozen BK302.out 0
            have hfz115_1 := blk_frozen BK302.out 1
            have hfz115_2 := blk_frozen BK302.out 2
            go_wp2_with (first | ((with_reducible refine gate_callee (f := 10) rfl ?_); refine goesL_ (some 83) rfl rfl Try.func10 (by kernel_rfl) rfl #[.agg #[.int .i64 t294, .slice Ao47 t295.length co47, .slice Ao48 t298.length co48], .int .i64 1] rfl (by (try simp only [List.map_toArray, List.map_cons, List.map_nil]); first | done | rfl | (simp only [List.length_drop, List.length_take]; rfl)) ?_; (with_reducible refine (laws_markSystem.callsT kj75 t294 (fun k_ => n2 ≤ k_) (.slice Ao47 t295.length co47) t295 (fun k_ => some k_ = (.slice Ao48 t298.length co48 : Value).ownBlock) (.slice Ao48 t298.length co48) t298 1 t318 t319 t320 w _ ?side1 ?side2 ?side3 A109.out).mono ?_); (case side1 => first | exact uB HB | exact uS HB (gC GE268 (gC GE285 (gC GE290 (gC GE302 gN))))); (case side2 => exact HO_303001.out); (case side3 => exact Kd.R_tight rfl HO_303002.out); rintro e w116 ⟨rfl, hy0, hy1, hb, hkp⟩; refine ⟨_, rfl, ?_⟩; have n0_ := Aside0.mk (Kd.S_mono (ok' := fun k_ => k_ < n1 ∧ k_ < n2) (Kd.S_kept (Kd.S_apart' HO_286001.out (Kd.R_typed HO_303002.out) (by decide)) hkp (fun k_ hk_ hs_ => Or.elim hs_ (fun e_ => absurd e_.1 (Nat.not_le.2 hk_.1.2)) (fun e_ => hk_.2 e_))) (fun k_ hk_ => hk_.1)); have n1_ := Aside0.mk (Kd.R_mono (ok' := fun k_ => some k_ ≠ (.slice Ao48 t298.length co48 : Value).ownBlock) (so_Rk2 rfl HO_286002.out hkp (by decide) (fun _ h_ => h_)) (fun k_ hk_ => hk_.1.1)); have n2_ := Aside0.mk (Kd.S_mono (ok' := fun k_ => n1 ≤ k_ ∧ k_ < n2) (Kd.S_kept (Kd.S_apart' HO_291001.out (Kd.R_typed HO_303002.out) (by decide)) hkp (fun k_ hk_ hs_ => Or.elim hs_ (fun e_ => absurd e_.1 (Nat.not_le.2 hk_.1.2)) (fun e_ => hk_.2 e_))) (fun k_ hk_ => hk_.1)); have n3_ := Aside0.mk hy0; have n4_ := Aside0.mk (Kd.R_reok rfl hy1 (fun k_ e_ => HO_303002.out.1 k_ e_)); have n5_ := Aside0.mk (blk_kept (uK BK268) hkp (fun hs_ => Or.elim hs_ (fun e_ => so_ne e_.2 (uK BK268) (by decide)) (fun e_ => (fun e_ => (Kd.R_ne HO_303002.out BK268.out (by decide)) e_) e_))); have n6_ := Aside0.mk (blk_kept (uK BK285) hkp (fun hs_ => Or.elim hs_ (fun e_ => so_ne e_.2 (uK BK285) (by decide)) (fun e_ => (fun e_ => (Kd.R_ne HO_303002.out BK285.out (by decide)) e_) e_))); have n7_ := Aside0.mk (blk_kept (uK BK290) hkp (fun hs_ => Or.elim hs_ (fun e_ => so_ne e_.2 (uK BK290) (by decide)) (fun e_ => (fun e_ => (Kd.R_ne HO_303002.out BK290.out (by decide)) e_) e_))); have n8_ := Aside0.mk (blk_kept (uK BK302) hkp (fun hs_ => Or.elim hs_ (fun e_ => so_ne e_.2 (uK BK302) (by decide)) (fun e_ => (fun e_ => (Kd.R_ne HO_303002.out BK302.out (by decide)) e_) e_))); have n9_ := Aside0.mk (hb); clear HO_286001 HO_286002 HO_291001 HO_303001 HO_303002 BK268 BK285 BK290 BK302 HB; have HO_286001 := n0_; have HO_286002 := n1_; have HO_291001 := n2_; have HO_303001 := n3_; have HO_303002 := n4_; have BK268 := n5_; have BK285 := n6_; have BK290 := n7_; have BK302 := n8_; have HB := n9_; clear n0_ n1_ n2_ n3_ n4_ n5_ n6_ n7_ n8_ n9_; (try clear hb); (try clear hkp); (try clear hy0); (try clear hy1); have hcz117_0 : w116.cell? ⟨gb302, 0, none⟩ = some (.int .i64 t294) := (blk_cell BK302.out 0).trans rfl; have hcz117_1 : w116.cell? ⟨gb302, 1, none⟩ = some (.slice Ao47 t295.length co47) := (blk_cell BK302.out 1).trans rfl; have hcz117_2 : w116.cell? ⟨gb302, 2, none⟩ = some (.slice Ao48 t298.length co48) := (blk_cell BK302.out 2).trans rfl; have hfz117_0 := blk_frozen BK302.out 0; have hfz117_1 := blk_frozen BK302.out 1; have hfz117_2 := blk_frozen BK302.out 2) | ((with_reducible refine gate_callee (f := 11) rfl ?_); refine goesL_ (some 86) rfl rfl Try.func11 (by kernel_rfl) rfl #[.agg #[.int .i64 t294, .slice Ao47 t319.length co47, .slice Ao48 t320.length co48], .int .i64 1] rfl (by (try simp only [List.map_toArray, List.map_cons, List.map_nil]); first | done | (rw [show t319.length = t295.length from (Kd.S_reads' HO_303001.out).1.symm, show t320.length = t298.length from (Kd.R_reads' HO_303002.out).1.symm] <;> rfl) | rfl | (simp only [List.length_drop, List.length_take]; rfl)) ?_; (with_reducible refine (laws_heldSystem.calls kj75 t294 _ _ t319 _ _ t320 1 t321 _ ?side1 ?side2 ?side3 ?side4 A110.out).mono ?_); (case side1 => repeat (first | exact (Kd.S_reads' HO_303001.out).2.2 | (with_reducible refine Kd.C_alloc ?_ _) | (with_reducible refine Kd.C_drewN ?_ _) | (with_reducible refine Kd.C_drew ?_))); (case side2 => rw [show t319.length = t295.length from (Kd.S_reads' HO_303001.out).1.symm]; exact (Kd.S_reads' HO_303001.out).2.1); (case side3 => exact uD HO_303002); (case side4 => rw [show t320.length = t298.length from (Kd.R_reads' HO_303002.out).1.symm]; exact (Kd.R_reads' HO_303002.out).2.1); rintro e w118 ⟨rfl, hb⟩; refine ⟨_, rfl, ?_⟩; have n0_ := Aside0.mk (Kd.S_below (by (with_reducible repeat (first | apply Kd.S_alloc | apply Kd.S_drewN | apply Kd.S_drew)); exact HO_286001.out) hb); have n1_ := Aside0.mk (Kd.R_below (uR HO_286002) hb); have n2_ := Aside0.mk (Kd.S_below (by (with_reducible repeat (first | apply Kd.S_alloc | apply Kd.S_drewN | apply Kd.S_drew)); exact HO_291001.out) hb); have n3_ := Aside0.mk (Kd.S_below (by (with_reducible repeat (first | apply Kd.S_alloc | apply Kd.S_drewN | apply Kd.S_drew)); exact HO_303001.out) hb); have n4_ := Aside0.mk (Kd.R_below (uR HO_303002) hb); have n5_ := Aside0.mk (blk_below (g := gb268) (o := .cells #[.int .i64 a0_0, .slice A0_1 l0_1.length c0_1] 38 (0, 0)) (uK BK268) hb); have n6_ := Aside0.mk (blk_below (g := gb285) (o := .cells #[.int .i64 t277, .slice Ao29 t278.length co29, .slice Ao30 t281.length co30] 29 (0, 0)) (uK BK285) hb); have n7_ := Aside0.mk (blk_below (g := gb290) (o := .cells #[.int .i64 t286, .slice Ao37 t314.length co37] 41 (0, 0)) (uK BK290) hb); have n8_ := Aside0.mk (blk_below (g := gb302) (o := .cells #[.int .i64 t294, .slice Ao47 t295.length co47, .slice Ao48 t298.length co48] 29 (0, 0)) (uK BK302) hb); have n9_ := Aside0.mk (below_step (by first | exact uB HB | exact uS HB (gC GE268 (gC GE285 (gC GE290 (gC GE302 gN))))) hb); clear HO_286001 HO_286002 HO_291001 HO_303001 HO_303002 BK268 BK285 BK290 BK302 HB; have HO_286001 := n0_; have HO_286002 := n1_; have HO_291001 := n2_; have HO_303001 := n3_; have HO_303002 := n4_; have BK268 := n5_; have BK285 := n6_; have BK290 := n7_; have BK302 := n8_; have HB := n9_; clear n0_ n1_ n2_ n3_ n4_ n5_ n6_ n7_ n8_ n9_; (try clear hb); (try clear hb2); (try clear hk); (try clear hi)))
            go_ret
            exact ⟨by first | rfl | (simp [errW_none, errW_some] <;> rfl) | (simp [*, errW_none, errW_some] <;> rfl), by first | exact uB HB | exact uS HB (gC GE268 (gC GE285 (gC GE290 (gC GE302 gN))))⟩
           ·
            rw [if_neg c111] at H
            have c111b0 : decide (t321 < 0) = false := decide_eq_false c111
            clear c111
            by_cases c119 : t321 = t318
            ·
             rw [if_pos c119] at H
             have c119b0 : (t321 == t318) = true := beq_iff_eq.mpr c119
             have c119b1 : (t321 != t318) = false := bne_eq_false_iff_eq.mpr c119
             clear c119
             replace H := Option.bind_eq_some_iff.mp H
             obtain ⟨⟨t322, t323⟩, A1200, H⟩ := H
             replace H : ((laws_toBoolS.f kj75 l1).bind fun t326 => ((impl_SystemOf.f kj75 t322 t323 t326).bind fun bt329 => ((laws_eqSystem.f kj75 bt329.1 bt329.2.1 bt329.2.2.1 t277 t278 t281).bind fun t338 => (if t338 = true then (laws_FnExactSystemOf.j2 kj75 t318 (bt329.2.2.2 != t284) t294 t319 t320) else (laws_FnExactSystemOf.j2 kj75 t318 true t294 t319 t320))))) = some r := H
             have A120 := Aside0.mk A1200
             clear A1200
             replace H := Option.bind_eq_some_iff.mp H
             obtain ⟨t326, A1210, H⟩ := H
             replace H : ((impl_SystemOf.f kj75 t322 t323 t326).bind fun bt329 => ((laws_eqSystem.f kj75 bt329.1 bt329.2.1 bt329.2.2.1 t277 t278 t281).bind fun t338 => (if t338 = true then (laws_FnExactSystemOf.j2 kj75 t318 (bt329.2.2.2 != t284) t294 t319 t320) else (laws_FnExactSystemOf.j2 kj75 t318 true t294 t319 t320)))) = some r := H
             have A121 := Aside0.mk A1210
             clear A1210
             replace H := Option.bind_eq_some_iff.mp H
             obtain ⟨⟨t329, t330, t333, t336⟩, A1220, H⟩ := H
             replace H : ((laws_eqSystem.f kj75 t329 t330 t333 t277 t278 t281).bind fun t338 => (if t338 = true then (laws_FnExactSystemOf.j2 kj75 t318 (t336 != t284) t294 t319 t320) else (laws_FnExactSystemOf.j2 kj75 t318 true t294 t319 t320))) = some r := H
             have A122 := Aside0.mk A1220
             clear A1220
             have HC123 := Aside0.mk H
             clear H
             have hnb124 := NB302_268.out
             have hnc124 := NB268_302.out
             have hnb125 := NB302_285.out
             have hnc125 := NB285_302.out
             have hnb126 := NB302_290.out
             have hnc126 := NB290_302.out
             have hcz127_0 : wc.cell? ⟨gb302, 0, none⟩ = some (.int .i64 t294) := (blk_cell BK302.out 0).trans rfl
             have hcz127_1 : wc.cell? ⟨gb302, 1, none⟩ = some (.slice Ao47 t295.length co47) := (blk_cell BK302.out 1).trans rfl
             have hcz127_2 : wc.cell? ⟨gb302, 2, none⟩ = some (.slice Ao48 t298.length co48) := (blk_cell BK302.out 2).trans rfl
             have hfz127_0 := blk_frozen BK302.out 0
             have hfz127_1 := blk_frozen BK302.out 1
             have hfz127_2 := blk_frozen BK302.out 2
             go_upto_region 31 with (first | ((with_reducible refine gate_callee (f := 10) rfl ?_); refine goesL_ (some 83) rfl rfl Try.func10 (by kernel_rfl) rfl #[.agg #[.int .i64 t294, .slice Ao47 t295.length co47, .slice Ao48 t298.length co48], .int .i64 1] rfl (by (try simp only [List.map_toArray, List.map_cons, List.map_nil]); first | done | rfl | (simp only [List.length_drop, List.length_take]; rfl)) ?_; (with_reducible refine (laws_markSystem.callsT kj75 t294 (fun k_ => n2 ≤ k_) (.slice Ao47 t295.length co47) t295 (fun k_ => some k_ = (.slice Ao48 t298.length co48 : Value).ownBlock) (.slice Ao48 t298.length co48) t298 1 t318 t319 t320 w _ ?side1 ?side2 ?side3 A109.out).mono ?_); (case side1 => first | exact uB HB | exact uS HB (gC GE268 (gC GE285 (gC GE290 (gC GE302 gN))))); (case side2 => exact HO_303001.out); (case side3 => exact Kd.R_tight rfl HO_303002.out); rintro e w128 ⟨rfl, hy0, hy1, hb, hkp⟩; refine ⟨_, rfl, ?_⟩; have n0_ := Aside0.mk (Kd.S_mono (ok' := fun k_ => k_ < n1 ∧ k_ < n2) (Kd.S_kept (Kd.S_apart' HO_286001.out (Kd.R_typed HO_303002.out) (by decide)) hkp (fun k_ hk_ hs_ => Or.elim hs_ (fun e_ => absurd e_.1 (Nat.not_le.2 hk_.1.2)) (fun e_ => hk_.2 e_))) (fun k_ hk_ => hk_.1)); have n1_ := Aside0.mk (Kd.R_mono (ok' := fun k_ => some k_ ≠ (.slice Ao48 t298.length co48 : Value).ownBlock) (so_Rk2 rfl HO_286002.out hkp (by decide) (fun _ h_ => h_)) (fun k_ hk_ => hk_.1.1)); have n2_ := Aside0.mk (Kd.S_mono (ok' := fun k_ => n1 ≤ k_ ∧ k_ < n2) (Kd.S_kept (Kd.S_apart' HO_291001.out (Kd.R_typed HO_303002.out) (by decide)) hkp (fun k_ hk_ hs_ => Or.elim hs_ (fun e_ => absurd e_.1 (Nat.not_le.2 hk_.1.2)) (fun e_ => hk_.2 e_))) (fun k_ hk_ => hk_.1)); have n3_ := Aside0.mk hy0; have n4_ := Aside0.mk (Kd.R_reok rfl hy1 (fun k_ e_ => HO_303002.out.1 k_ e_)); have n5_ := Aside0.mk (blk_kept (uK BK268) hkp (fun hs_ => Or.elim hs_ (fun e_ => so_ne e_.2 (uK BK268) (by decide)) (fun e_ => (fun e_ => (Kd.R_ne HO_303002.out BK268.out (by decide)) e_) e_))); have n6_ := Aside0.mk (blk_kept (uK BK285) hkp (fun hs_ => Or.elim hs_ (fun e_ => so_ne e_.2 (uK BK285) (by decide)) (fun e_ => (fun e_ => (Kd.R_ne HO_303002.out BK285.out (by decide)) e_) e_))); have n7_ := Aside0.mk (blk_kept (uK BK290) hkp (fun hs_ => Or.elim hs_ (fun e_ => so_ne e_.2 (uK BK290) (by decide)) (fun e_ => (fun e_ => (Kd.R_ne HO_303002.out BK290.out (by decide)) e_) e_))); have n8_ := Aside0.mk (blk_kept (uK BK302) hkp (fun hs_ => Or.elim hs_ (fun e_ => so_ne e_.2 (uK BK302) (by decide)) (fun e_ => (fun e_ => (Kd.R_ne HO_303002.out BK302.out (by decide)) e_) e_))); have n9_ := Aside0.mk (hb); clear HO_286001 HO_286002 HO_291001 HO_303001 HO_303002 BK268 BK285 BK290 BK302 HB; have HO_286001 := n0_; have HO_286002 := n1_; have HO_291001 := n2_; have HO_303001 := n3_; have HO_303002 := n4_; have BK268 := n5_; have BK285 := n6_; have BK290 := n7_; have BK302 := n8_; have HB := n9_; clear n0_ n1_ n2_ n3_ n4_ n5_ n6_ n7_ n8_ n9_; (try clear hb); (try clear hkp); (try clear hy0); (try clear hy1); have hcz129_0 : w128.cell? ⟨gb302, 0, none⟩ = some (.int .i64 t294) := (blk_cell BK302.out 0).trans rfl; have hcz129_1 : w128.cell? ⟨gb302, 1, none⟩ = some (.slice Ao47 t295.length co47) := (blk_cell BK302.out 1).trans rfl; have hcz129_2 : w128.cell? ⟨gb302, 2, none⟩ = some (.slice Ao48 t298.length co48) := (blk_cell BK302.out 2).trans rfl; have hfz129_0 := blk_frozen BK302.out 0; have hfz129_1 := blk_frozen BK302.out 1; have hfz129_2 := blk_frozen BK302.out 2) | ((with_reducible refine gate_callee (f := 11) rfl ?_); refine goesL_ (some 86) rfl rfl Try.func11 (by kernel_rfl) rfl #[.agg #[.int .i64 t294, .slice Ao47 t319.length co47, .slice Ao48 t320.length co48], .int .i64 1] rfl (by (try simp only [List.map_toArray, List.map_cons, List.map_nil]); first | done | (rw [show t319.length = t295.length from (Kd.S_reads' HO_303001.out).1.symm, show t320.length = t298.length from (Kd.R_reads' HO_303002.out).1.symm] <;> rfl) | rfl | (simp only [List.length_drop, List.length_take]; rfl)) ?_; (with_reducible refine (laws_heldSystem.calls kj75 t294 _ _ t319 _ _ t320 1 t321 _ ?side1 ?side2 ?side3 ?side4 A110.out).mono ?_); (case side1 => repeat (first | exact (Kd.S_reads' HO_303001.out).2.2 | (with_reducible refine Kd.C_alloc ?_ _) | (with_reducible refine Kd.C_drewN ?_ _) | (with_reducible refine Kd.C_drew ?_))); (case side2 => rw [show t319.length = t295.length from (Kd.S_reads' HO_303001.out).1.symm]; exact (Kd.S_reads' HO_303001.out).2.1); (case side3 => exact uD HO_303002); (case side4 => rw [show t320.length = t298.length from (Kd.R_reads' HO_303002.out).1.symm]; exact (Kd.R_reads' HO_303002.out).2.1); rintro e w130 ⟨rfl, hb⟩; refine ⟨_, rfl, ?_⟩; have n0_ := Aside0.mk (Kd.S_below (by (with_reducible repeat (first | apply Kd.S_alloc | apply Kd.S_drewN | apply Kd.S_drew)); exact HO_286001.out) hb); have n1_ := Aside0.mk (Kd.R_below (uR HO_286002) hb); have n2_ := Aside0.mk (Kd.S_below (by (with_reducible repeat (first | apply Kd.S_alloc | apply Kd.S_drewN | apply Kd.S_drew)); exact HO_291001.out) hb); have n3_ := Aside0.mk (Kd.S_below (by (with_reducible repeat (first | apply Kd.S_alloc | apply Kd.S_drewN | apply Kd.S_drew)); exact HO_303001.out) hb); have n4_ := Aside0.mk (Kd.R_below (uR HO_303002) hb); have n5_ := Aside0.mk (blk_below (g := gb268) (o := .cells #[.int .i64 a0_0, .slice A0_1 l0_1.length c0_1] 38 (0, 0)) (uK BK268) hb); have n6_ := Aside0.mk (blk_below (g := gb285) (o := .cells #[.int .i64 t277, .slice Ao29 t278.length co29, .slice Ao30 t281.length co30] 29 (0, 0)) (uK BK285) hb); have n7_ := Aside0.mk (blk_below (g := gb290) (o := .cells #[.int .i64 t286, .slice Ao37 t314.length co37] 41 (0, 0)) (uK BK290) hb); have n8_ := Aside0.mk (blk_below (g := gb302) (o := .cells #[.int .i64 t294, .slice Ao47 t295.length co47, .slice Ao48 t298.length co48] 29 (0, 0)) (uK BK302) hb); have n9_ := Aside0.mk (below_step (by first | exact uB HB | exact uS HB (gC GE268 (gC GE285 (gC GE290 (gC GE302 gN))))) hb); clear HO_286001 HO_286002 HO_291001 HO_303001 HO_303002 BK268 BK285 BK290 BK302 HB; have HO_286001 := n0_; have HO_286002 := n1_; have HO_291001 := n2_; have HO_303001 := n3_; have HO_303002 := n4_; have BK268 := n5_; have BK285 := n6_; have BK290 := n7_; have BK302 := n8_; have HB := n9_; clear n0_ n1_ n2_ n3_ n4_ n5_ n6_ n7_ n8_ n9_; (try clear hb); (try clear hb2); (try clear hk); (try clear hi); have hnb131 := NB268_285.out; have hnc131 := NB285_268.out; have hnb132 := NB268_290.out; have hnc132 := NB290_268.out; have hcz133_0 : w130.cell? ⟨gb268, 0, none⟩ = some (.int .i64 a0_0) := (blk_cell BK268.out 0).trans rfl; have hcz133_1 : w130.cell? ⟨gb268, 1, none⟩ = some (.slice A0_1 l0_1.length c0_1) := (blk_cell BK268.out 1).trans rfl; have hfz133_0 := blk_frozen BK268.out 0; have hfz133_1 := blk_frozen BK268.out 1) | ((with_reducible refine gate_callee (f := 14) rfl ?_); refine goesL_ (some 94) rfl rfl Try.func14 (by kernel_rfl) rfl #[.agg #[.int .i64 a0_0, .slice A0_1 l0_1.length c0_1]] rfl (by (try simp only [List.map_toArray, List.map_cons, List.map_nil]); first | done | rfl | (simp only [List.length_drop, List.length_take]; rfl)) ?_; (with_reducible refine (laws_toHyper.calls kj75 a0_0 _ _ l0_1 t322 t323 _ ?side1 ?side2 A120.out).mono ?_); (case side1 => exact uC HR0_1 HB); (case side2 => exact HC0_1.out); rintro e w134 ⟨v324, rfl, ho0, hb⟩; refine ⟨_, rfl, ?_⟩; have n0_ := Aside0.mk (Kd.S_below (by (with_reducible repeat (first | apply Kd.S_alloc | apply Kd.S_drewN | apply Kd.S_drew)); exact HO_286001.out) hb); have n1_ := Aside0.mk (Kd.R_below (uR HO_286002) hb); have n2_ := Aside0.mk (Kd.S_below (by (with_reducible repeat (first | apply Kd.S_alloc | apply Kd.S_drewN | apply Kd.S_drew)); exact HO_291001.out) hb); have n3_ := Aside0.mk (Kd.S_below (by (with_reducible repeat (first | apply Kd.S_alloc | apply Kd.S_drewN | apply Kd.S_drew)); exact HO_303001.out) hb); have n4_ := Aside0.mk (Kd.R_below (uR HO_303002) hb); have n5_ := Aside0.mk (Kd.S_lower (Kd.S_new' ho0 (Kd.S_lt (by (with_reducible repeat (first | apply Kd.S_alloc | apply Kd.S_drewN | apply Kd.S_drew)); exact HO_291001.out))) (below_size (by first | exact uB HB | exact uS HB (gC GE268 (gC GE285 (gC GE290 (gC GE302 gN))))))); have n6_ := Aside0.mk (blk_below (g := gb268) (o := .cells #[.int .i64 a0_0, .slice A0_1 l0_1.length c0_1] 38 (0, 0)) (uK BK268) hb); have n7_ := Aside0.mk (blk_below (g := gb285) (o := .cells #[.int .i64 t277, .slice Ao29 t278.length co29, .slice Ao30 t281.length co30] 29 (0, 0)) (uK BK285) hb); have n8_ := Aside0.mk (blk_below (g := gb290) (o := .cells #[.int .i64 t286, .slice Ao37 t314.length co37] 41 (0, 0)) (uK BK290) hb); have n9_ := Aside0.mk (blk_below (g := gb302) (o := .cells #[.int .i64 t294, .slice Ao47 t295.length co47, .slice Ao48 t298.length co48] 29 (0, 0)) (uK BK302) hb); have n10_ := Aside0.mk (below_step (by first | exact uB HB | exact uS HB (gC GE268 (gC GE285 (gC GE290 (gC GE302 gN))))) hb); clear HO_286001 HO_286002 HO_291001 HO_303001 HO_303002 BK268 BK285 BK290 BK302 HB; have HO_286001 := n0_; have HO_286002 := n1_; have HO_291001 := n2_; have HO_303001 := n3_; have HO_303002 := n4_; have HO325 := n5_; have BK268 := n6_; have BK285 := n7_; have BK290 := n8_; have BK302 := n9_; have HB := n10_; clear n0_ n1_ n2_ n3_ n4_ n5_ n6_ n7_ n8_ n9_ n10_; (try clear hb); (try clear hb2); (try clear hk); (try clear hi); (try clear ho0)) | ((with_reducible refine gate_callee (f := 15) rfl ?_); refine goesL_ (some 96) rfl rfl Try.func15 (by kernel_rfl) rfl #[.slice A1 l1.length c1] rfl (by (try simp only [List.map_toArray, List.map_cons, List.map_nil]); first | done | rfl | (simp only [List.length_drop, List.length_take]; rfl)) ?_; (with_reducible refine (laws_toBoolS.calls kj75 _ _ l1 t326 _ ?side1 ?side2 A121.out).mono ?_); (case side1 => exact uC HR1 HB); (case side2 => exact HC1.out); rintro e w135 ⟨v327, rfl, ho0, hb⟩; refine ⟨_, rfl, ?_⟩; have n0_ := Aside0.mk (Kd.S_below (by (with_reducible repeat (first | apply Kd.S_alloc | apply Kd.S_drewN | apply Kd.S_drew)); exact HO_286001.out) hb); have n1_ := Aside0.mk (Kd.R_elder' (uR HO_286002) (Kd.R_base ho0) hb); have n2_ := Aside0.mk (Kd.S_below (by (with_reducible repeat (first | apply Kd.S_alloc | apply Kd.S_drewN | apply Kd.S_drew)); exact HO_291001.out) hb); have n3_ := Aside0.mk (Kd.S_below (by (with_reducible repeat (first | apply Kd.S_alloc | apply Kd.S_drewN | apply Kd.S_drew)); exact HO_303001.out) hb); have n4_ := Aside0.mk (Kd.R_elder' (uR HO_303002) (Kd.R_base ho0) hb); have n5_ := Aside0.mk (Kd.S_below (by (with_reducible repeat (first | apply Kd.S_alloc | apply Kd.S_drewN | apply Kd.S_drew)); exact HO325.out) hb); have n6_ := Aside0.mk (Kd.R_lower (Kd.R_new' (Kd.R_new' ho0 (Kd.R_lt (uR HO_286002))) (Kd.R_lt (uR HO_303002))) (below_size (by first | exact uB HB | exact uS HB (gC GE268 (gC GE285 (gC GE290 (gC GE302 gN))))))); have n7_ := Aside0.mk (blk_below (g := gb268) (o := .cells #[.int .i64 a0_0, .slice A0_1 l0_1.length c0_1] 38 (0, 0)) (uK BK268) hb); have n8_ := Aside0.mk (blk_below (g := gb285) (o := .cells #[.int .i64 t277, .slice Ao29 t278.length co29, .slice Ao30 t281.length co30] 29 (0, 0)) (uK BK285) hb); have n9_ := Aside0.mk (blk_below (g := gb290) (o := .cells #[.int .i64 t286, .slice Ao37 t314.length co37] 41 (0, 0)) (uK BK290) hb); have n10_ := Aside0.mk (blk_below (g := gb302) (o := .cells #[.int .i64 t294, .slice Ao47 t295.length co47, .slice Ao48 t298.length co48] 29 (0, 0)) (uK BK302) hb); have n11_ := Aside0.mk (below_step (by first | exact uB HB | exact uS HB (gC GE268 (gC GE285 (gC GE290 (gC GE302 gN))))) hb); clear HO_286001 HO_286002 HO_291001 HO_303001 HO_303002 HO325 BK268 BK285 BK290 BK302 HB; have HO_286001 := n0_; have HO_286002 := n1_; have HO_291001 := n2_; have HO_303001 := n3_; have HO_303002 := n4_; have HO325 := n5_; have HO328 := n6_; have BK268 := n7_; have BK285 := n8_; have BK290 := n9_; have BK302 := n10_; have HB := n11_; clear n0_ n1_ n2_ n3_ n4_ n5_ n6_ n7_ n8_ n9_ n10_ n11_; (try clear hb); (try clear hb2); (try clear hk); (try clear hi); (try clear ho0); obtain ⟨Ao136, co136, eo136⟩ := Kd.S_slice HO325.out; subst eo136; obtain ⟨Ao137, co137, eo137⟩ := Kd.R_slice HO328.out; subst eo137) | ((with_reducible refine gate_callee (f := 16) rfl ?_); refine goesL_ (some 97) rfl rfl Try.func16 (by kernel_rfl) rfl #[.agg #[.int .i64 t322, .slice Ao136 t323.length co136], .slice Ao137 t326.length co137] rfl (by (try simp only [List.map_toArray, List.map_cons, List.map_nil]); first | done | rfl | (simp only [List.length_drop, List.length_take]; rfl)) ?_; (with_reducible refine (impl_SystemOf.calls kj75 t322 _ _ t323 _ _ t326 t329 t330 t333 t336 _ ?side1 ?side2 ?side3 ?side4 A122.out).mono ?_); (case side1 => repeat (first | exact (Kd.S_reads' HO325.out).2.2 | (with_reducible refine Kd.C_alloc ?_ _) | (with_reducible refine Kd.C_drewN ?_ _) | (with_reducible refine Kd.C_drew ?_))); (case side2 => exact (Kd.S_reads' HO325.out).2.1); (case side3 => exact uD HO328); (case side4 => exact (Kd.R_reads' HO328.out).2.1); rintro e w138 ⟨v331, v334, rfl, ho0, ho1, hb⟩; refine ⟨_, rfl, ?_⟩; have n0_ := Aside0.mk (Kd.S_below (by (with_reducible repeat (first | apply Kd.S_alloc | apply Kd.S_drewN | apply Kd.S_drew)); exact HO_286001.out) hb); have n1_ := Aside0.mk (Kd.R_elder' (uR HO_286002) (Kd.R_base ho1) hb); have n2_ := Aside0.mk (Kd.S_below (by (with_reducible repeat (first | apply Kd.S_alloc | apply Kd.S_drewN | apply Kd.S_drew)); exact HO_291001.out) hb); have n3_ := Aside0.mk (Kd.S_below (by (with_reducible repeat (first | apply Kd.S_alloc | apply Kd.S_drewN | apply Kd.S_drew)); exact HO_303001.out) hb); have n4_ := Aside0.mk (Kd.R_elder' (uR HO_303002) (Kd.R_base ho1) hb); have n5_ := Aside0.mk (Kd.S_below (by (with_reducible repeat (first | apply Kd.S_alloc | apply Kd.S_drewN | apply Kd.S_drew)); exact HO325.out) hb); have n6_ := Aside0.mk (Kd.R_elder' (uR HO328) (Kd.R_base ho1) hb); have n7_ := Aside0.mk (Kd.S_lower (Kd.S_new' (Kd.S_new' ho0 (Kd.S_lt (by (with_reducible repeat (first | apply Kd.S_alloc | apply Kd.S_drewN | apply Kd.S_drew)); exact HO_286001.out))) (Kd.S_lt (by (with_reducible repeat (first | apply Kd.S_alloc | apply Kd.S_drewN | apply Kd.S_drew)); exact HO_303001.out))) (below_size (by first | exact uB HB | exact uS HB (gC GE268 (gC GE285 (gC GE290 (gC GE302 gN))))))); have n8_ := Aside0.mk (Kd.R_lower (Kd.R_new' (Kd.R_new' (Kd.R_new' ho1 (Kd.R_lt (uR HO_286002))) (Kd.R_lt (uR HO_303002))) (Kd.R_lt (uR HO328))) (below_size (by first | exact uB HB | exact uS HB (gC GE268 (gC GE285 (gC GE290 (gC GE302 gN))))))); have n9_ := Aside0.mk (blk_below (g := gb268) (o := .cells #[.int .i64 a0_0, .slice A0_1 l0_1.length c0_1] 38 (0, 0)) (uK BK268) hb); have n10_ := Aside0.mk (blk_below (g := gb285) (o := .cells #[.int .i64 t277, .slice Ao29 t278.length co29, .slice Ao30 t281.length co30] 29 (0, 0)) (uK BK285) hb); have n11_ := Aside0.mk (blk_below (g := gb290) (o := .cells #[.int .i64 t286, .slice Ao37 t314.length co37] 41 (0, 0)) (uK BK290) hb); have n12_ := Aside0.mk (blk_below (g := gb302) (o := .cells #[.int .i64 t294, .slice Ao47 t295.length co47, .slice Ao48 t298.length co48] 29 (0, 0)) (uK BK302) hb); have n13_ := Aside0.mk (below_step (by first | exact uB HB | exact uS HB (gC GE268 (gC GE285 (gC GE290 (gC GE302 gN))))) hb); clear HO_286001 HO_286002 HO_291001 HO_303001 HO_303002 HO325 HO328 BK268 BK285 BK290 BK302 HB; have HO_286001 := n0_; have HO_286002 := n1_; have HO_291001 := n2_; have HO_303001 := n3_; have HO_303002 := n4_; have HO325 := n5_; have HO328 := n6_; have HO332 := n7_; have HO335 := n8_; have BK268 := n9_; have BK285 := n10_; have BK290 := n11_; have BK302 := n12_; have HB := n13_; clear n0_ n1_ n2_ n3_ n4_ n5_ n6_ n7_ n8_ n9_ n10_ n11_ n12_ n13_; (try clear hb); (try clear hb2); (try clear hk); (try clear hi); (try clear ho0); (try clear ho1)) | ((with_reducible refine gate_dst (N := 15) rfl ?_); refine box_event ?hg (N := 15) ?hd (cs := #[.int .i64 0, .slice none 0 0, .slice none 0 0]) (t := 29) ?hr ?_; (case hd => rfl); (case hg => rfl); (case hr => first | (go_simp; done) | (go_simp; rfl)); intro gb337 hg w139 hbox hb; have n0_ := Aside0.mk (Kd.S_below (by (with_reducible repeat (first | apply Kd.S_alloc | apply Kd.S_drewN | apply Kd.S_drew)); exact HO_286001.out) hb); have n1_ := Aside0.mk (Kd.R_below (uR HO_286002) hb); have n2_ := Aside0.mk (Kd.S_below (by (with_reducible repeat (first | apply Kd.S_alloc | apply Kd.S_drewN | apply Kd.S_drew)); exact HO_291001.out) hb); have n3_ := Aside0.mk (Kd.S_below (by (with_reducible repeat (first | apply Kd.S_alloc | apply Kd.S_drewN | apply Kd.S_drew)); exact HO_303001.out) hb); have n4_ := Aside0.mk (Kd.R_below (uR HO_303002) hb); have n5_ := Aside0.mk (Kd.S_below (by (with_reducible repeat (first | apply Kd.S_alloc | apply Kd.S_drewN | apply Kd.S_drew)); exact HO325.out) hb); have n6_ := Aside0.mk (Kd.R_below (uR HO328) hb); have n7_ := Aside0.mk (Kd.S_below (by (with_reducible repeat (first | apply Kd.S_alloc | apply Kd.S_drewN | apply Kd.S_drew)); exact HO332.out) hb); have n8_ := Aside0.mk (Kd.R_below (uR HO335) hb); have n9_ := Aside0.mk (blk_below (g := gb268) (o := .cells #[.int .i64 a0_0, .slice A0_1 l0_1.length c0_1] 38 (0, 0)) (uK BK268) hb); have n10_ := Aside0.mk (blk_below (g := gb285) (o := .cells #[.int .i64 t277, .slice Ao29 t278.length co29, .slice Ao30 t281.length co30] 29 (0, 0)) (uK BK285) hb); have n11_ := Aside0.mk (blk_below (g := gb290) (o := .cells #[.int .i64 t286, .slice Ao37 t314.length co37] 41 (0, 0)) (uK BK290) hb); have n12_ := Aside0.mk (blk_below (g := gb302) (o := .cells #[.int .i64 t294, .slice Ao47 t295.length co47, .slice Ao48 t298.length co48] 29 (0, 0)) (uK BK302) hb); have n13_ := Aside0.mk (below_step (by first | exact uB HB | exact uS HB (gC GE268 (gC GE285 (gC GE290 (gC GE302 gN))))) hb); have n14_ := Aside0.mk (hbox); have n15_ := Aside0.mk ((by rw [hg]; exact (below_size (by first | exact uB HB | exact uS HB (gC GE268 (gC GE285 (gC GE290 (gC GE302 gN)))))) : w.heap.size ≤ gb337)); have n16_ := Aside0.mk ((by rw [hg]; exact (below_size (by first | exact uB HB | exact uS HB (gC GE268 (gC GE285 (gC GE290 (gC GE302 gN)))))) : w.heap.size ≤ gb337)); have n17_ := Aside0.mk ((by rw [hg]; exact Nat.ne_of_lt (blk_lt (g := gb268) (o := .cells #[.int .i64 a0_0, .slice A0_1 l0_1.length c0_1] 38 (0, 0)) (uK BK268)) : gb268 ≠ gb337)); have n18_ := Aside0.mk ((by rw [hg]; exact Nat.ne_of_gt (blk_lt (g := gb268) (o := .cells #[.int .i64 a0_0, .slice A0_1 l0_1.length c0_1] 38 (0, 0)) (uK BK268)) : gb337 ≠ gb268)); have n19_ := Aside0.mk ((by rw [hg]; exact Nat.ne_of_lt (blk_lt (g := gb285) (o := .cells #[.int .i64 t277, .slice Ao29 t278.length co29, .slice Ao30 t281.length co30] 29 (0, 0)) (uK BK285)) : gb285 ≠ gb337)); have n20_ := Aside0.mk ((by rw [hg]; exact Nat.ne_of_gt (blk_lt (g := gb285) (o := .cells #[.int .i64 t277, .slice Ao29 t278.length co29, .slice Ao30 t281.length co30] 29 (0, 0)) (uK BK285)) : gb337 ≠ gb285)); have n21_ := Aside0.mk ((by rw [hg]; exact Nat.ne_of_lt (blk_lt (g := gb290) (o := .cells #[.int .i64 t286, .slice Ao37 t314.length co37] 41 (0, 0)) (uK BK290)) : gb290 ≠ gb337)); have n22_ := Aside0.mk ((by rw [hg]; exact Nat.ne_of_gt (blk_lt (g := gb290) (o := .cells #[.int .i64 t286, .slice Ao37 t314.length co37] 41 (0, 0)) (uK BK290)) : gb337 ≠ gb290)); have n23_ := Aside0.mk ((by rw [hg]; exact Nat.ne_of_lt (blk_lt (g := gb302) (o := .cells #[.int .i64 t294, .slice Ao47 t295.length co47, .slice Ao48 t298.length co48] 29 (0, 0)) (uK BK302)) : gb302 ≠ gb337)); have n24_ := Aside0.mk ((by rw [hg]; exact Nat.ne_of_gt (blk_lt (g := gb302) (o := .cells #[.int .i64 t294, .slice Ao47 t295.length co47, .slice Ao48 t298.length co48] 29 (0, 0)) (uK BK302)) : gb337 ≠ gb302)); clear HO_286001 HO_286002 HO_291001 HO_303001 HO_303002 HO325 HO328 HO332 HO335 BK268 BK285 BK290 BK302 HB; have HO_286001 := n0_; have HO_286002 := n1_; have HO_291001 := n2_; have HO_303001 := n3_; have HO_303002 := n4_; have HO325 := n5_; have HO328 := n6_; have HO332 := n7_; have HO335 := n8_; have BK268 := n9_; have BK285 := n10_; have BK290 := n11_; have BK302 := n12_; have HB := n13_; have BK337 := n14_; have GW337 := n15_; have GE337 := n16_; have NB268_337 := n17_; have NB337_268 := n18_; have NB285_337 := n19_; have NB337_285 := n20_; have NB290_337 := n21_; have NB337_290 := n22_; have NB302_337 := n23_; have NB337_302 := n24_; clear n0_ n1_ n2_ n3_ n4_ n5_ n6_ n7_ n8_ n9_ n10_ n11_ n12_ n13_ n14_ n15_ n16_ n17_ n18_ n19_ n20_ n21_ n22_ n23_ n24_ hb hbox hg; have hnb140 := NB337_268.out; have hnc140 := NB268_337.out; have hnb141 := NB337_285.out; have hnc141 := NB285_337.out; have hnb142 := NB337_290.out; have hnc142 := NB290_337.out; have hnb143 := NB337_302.out; have hnc143 := NB302_337.out; have hcz144_0 : w139.cell? ⟨gb337, 0, none⟩ = some (.int .i64 0) := (blk_cell BK337.out 0).trans rfl; have hcz144_1 : w139.cell? ⟨gb337, 1, none⟩ = some (.slice none 0 0) := (blk_cell BK337.out 1).trans rfl; have hcz144_2 : w139.cell? ⟨gb337, 2, none⟩ = some (.slice none 0 0) := (blk_cell BK337.out 2).trans rfl; have hfz144_0 := blk_frozen BK337.out 0; have hfz144_1 := blk_frozen BK337.out 1; have hfz144_2 := blk_frozen BK337.out 2; obtain ⟨Ao145, co145, eo145⟩ := Kd.S_slice HO332.out; subst eo145; obtain ⟨Ao146, co146, eo146⟩ := Kd.R_slice HO335.out; subst eo146))
             (try simp only [Act.put, List.setIfInBounds_toArray, List.set_cons_zero, List.set_cons_succ])
             go_cut [108] (fun v108 wc => ∃ (kq : Nat) (x108_122 : Bool), v108 = .bool x108_122 ∧ Aside0 (laws_FnExactSystemOf.j2 kq t318 x108_122 t294 t319 t320 = some r) ∧ Aside0 (kq ≤ kj75) ∧ Aside0 (Kd.S k53 53 wc w.heap.size (fun k_ => k_ < n1 ∧ k_ < n2) (.slice Ao29 t278.length co29) t278) ∧ Aside0 (Kd.R Kd.bool 4 wc w.heap.size (fun k_ => some k_ ≠ ((.slice Ao48 t298.length co48) : Value).ownBlock ∧ some k_ ≠ ((.slice Ao146 t333.length co146) : Value).ownBlock) (.slice Ao30 t281.length co30) t281) ∧ Aside0 (Kd.S (Kd.slice 3 (Kd.int .i64)) 51 wc w.heap.size (fun k_ => n1 ≤ k_ ∧ k_ < n2) (.slice Ao37 t314.length co37) t314) ∧ Aside0 (Kd.S k53 53 wc w.heap.size (fun k_ => n2 ≤ k_) (.slice Ao47 t295.length co47) t319) ∧ Aside0 (Kd.R Kd.bool 4 wc w.heap.size (fun k_ => some k_ ≠ ((.slice Ao30 t281.length co30) : Value).ownBlock ∧ some k_ ≠ ((.slice Ao146 t333.length co146) : Value).ownBlock) (.slice Ao48 t298.length co48) t320) ∧ Aside0 (Kd.S k53 53 wc w.heap.size (fun k_ => some k_ ≠ ((.slice Ao29 t278.length co29) : Value).ownBlock ∧ some k_ ≠ ((.slice Ao47 t295.length co47) : Value).ownBlock) (.slice Ao145 t330.length co145) t330) ∧ Aside0 (Kd.R Kd.bool 4 wc w.heap.size (fun k_ => some k_ ≠ ((.slice Ao30 t281.length co30) : Value).ownBlock ∧ some k_ ≠ ((.slice Ao48 t298.length co48) : Value).ownBlock) (.slice Ao146 t333.length co146) t333) ∧ Aside0 (wc.heap[gb268]? = some (.cells #[.int .i64 a0_0, (.slice A0_1 l0_1.length c0_1)] 38 (0, 0))) ∧ Aside0 (wc.heap[gb285]? = some (.cells #[.int .i64 t277, (.slice Ao29 t278.length co29), (.slice Ao30 t281.length co30)] 29 (0, 0))) ∧ Aside0 (wc.heap[gb290]? = some (.cells #[.int .i64 t286, (.slice Ao37 t314.length co37)] 41 (0, 0))) ∧ Aside0 (wc.heap[gb302]? = some (.cells #[.int .i64 t294, (.slice Ao47 t295.length co47), (.slice Ao48 t298.length co48)] 29 (0, 0))) ∧ Aside0 (wc.heap[gb337]? = some (.cells #[.int .i64 t329, (.slice Ao145 t330.length co145), (.slice Ao146 t333.length co146)] 29 (0, 0))) ∧ Aside0 (Below w.heap.size w wc))
             case first =>
              have H := HC123.out
              clear HC123
              replace H := Option.bind_eq_some_iff.mp H
              obtain ⟨t338, A1470, H⟩ := H
              replace H : (if t338 = true then (laws_FnExactSystemOf.j2 kj75 t318 (t336 != t284) t294 t319 t320) else (laws_FnExactSystemOf.j2 kj75 t318 true t294 t319 t320)) = some r := H
              have A147 := Aside0.mk A1470
              clear A1470
              by_cases c148 : t338 = true
              ·
               subst c148
               have H1 : (laws_FnExactSystemOf.j2 kj75 t318 (t336 != t284) t294 t319 t320) = some r := by rw [if_pos rfl] at H; exact H
               clear H
               have H := H1
               clear H1
               have H' := Aside0.mk H
               clear H
               have hnb149 := NB337_268.out
               have hnc149 := NB268_337.out
               have hnb150 := NB337_285.out
               have hnc150 := NB285_337.out
               have hnb151 := NB337_290.out
               have hnc151 := NB290_337.out
               have hnb152 := NB337_302.out
               have hnc152 := NB302_337.out
               have hcz153_0 : w139.cell? ⟨gb337, 0, none⟩ = some (.int .i64 0) := (blk_cell BK337.out 0).trans rfl
               have hcz153_1 : w139.cell? ⟨gb337, 1, none⟩ = some (.slice none 0 0) := (blk_cell BK337.out 1).trans rfl
               have hcz153_2 : w139.cell? ⟨gb337, 2, none⟩ = some (.slice none 0 0) := (blk_cell BK337.out 2).trans rfl
               have hfz153_0 := blk_frozen BK337.out 0
               have hfz153_1 := blk_frozen BK337.out 1
               have hfz153_2 := blk_frozen BK337.out 2
               have hnb154 := NB285_268.out
               have hnc154 := NB268_285.out
               have hnb155 := NB285_290.out
               have hnc155 := NB290_285.out
               have hnb156 := NB285_302.out
               have hnc156 := NB302_285.out
               have hcz157_0 : w139.cell? ⟨gb285, 0, none⟩ = some (.int .i64 t277) := (blk_cell BK285.out 0).trans rfl
               have hcz157_1 : w139.cell? ⟨gb285, 1, none⟩ = some (.slice Ao29 t278.length co29) := (blk_cell BK285.out 1).trans rfl
               have hcz157_2 : w139.cell? ⟨gb285, 2, none⟩ = some (.slice Ao30 t281.length co30) := (blk_cell BK285.out 2).trans rfl
               have hfz157_0 := blk_frozen BK285.out 0
               have hfz157_1 := blk_frozen BK285.out 1
               have hfz157_2 := blk_frozen BK285.out 2
               go_wp2_with (first | ((with_reducible refine gate_callee (f := 9) rfl ?_); refine goesL_ (some 102) rfl rfl Try.func9 (by kernel_rfl) rfl #[.agg #[.int .i64 t329, .slice Ao145 t330.length co145, .slice Ao146 t333.length co146], .agg #[.int .i64 t277, .slice Ao29 t278.length co29, .slice Ao30 t281.length co30]] rfl (by (try simp only [List.map_toArray, List.map_cons, List.map_nil]); first | done | rfl | (simp only [List.length_drop, List.length_take]; rfl)) ?_; (with_reducible refine (laws_eqSystem.calls kj75 t329 _ _ t330 _ _ t333 t277 _ _ t278 _ _ t281 true _ ?side1 ?side2 ?side3 ?side4 ?side5 ?side6 ?side7 ?side8 A147.out).mono ?_); (case side1 => refine (Kd.S_reads' (e := 53) (base := w.heap.size) (ok := fun k_ => ((True ∧ some k_ ≠ (.slice Ao29 t278.length co29 : Value).ownBlock) ∧ some k_ ≠ (.slice Ao47 t295.length co47 : Value).ownBlock)) (n := t330.length) (c := co145) ?_).2.2; exact (by (with_reducible repeat (first | apply Kd.S_alloc | apply Kd.S_drewN | apply Kd.S_drew)); exact (Kd.S_mono (Kd.S_far (p := ⟨gb337, 2, none⟩) (Kd.S_far (p := ⟨gb337, 1, none⟩) (Kd.S_far (p := ⟨gb337, 0, none⟩) (Kd.S_types HO332.out BK337.out (by decide)) (fun _ hk => hk.2) (.int .i64 t329)) (fun _ hk => hk.2) (.slice Ao145 t330.length co145)) (fun _ hk => hk.2) (.slice Ao146 t333.length co146)) (fun _ h_ => h_.1)))); (case side2 => exact (Kd.S_reads' HO332.out).2.1); (case side3 => refine (Kd.R_reads' (e := 4) (base := w.heap.size) (ok := fun k_ => (((True ∧ some k_ ≠ (.slice Ao30 t281.length co30 : Value).ownBlock) ∧ some k_ ≠ (.slice Ao48 t298.length co48 : Value).ownBlock) ∧ some k_ ≠ (.slice Ao137 t326.length co137 : Value).ownBlock)) (n := t333.length) (c := co146) ?_).2.2; exact (by (with_reducible repeat (first | apply Kd.R_alloc | apply Kd.R_drewN | apply Kd.R_drew)); exact (Kd.R_mono (Kd.R_far (p := ⟨gb337, 2, none⟩) (Kd.R_far (p := ⟨gb337, 1, none⟩) (Kd.R_far (p := ⟨gb337, 0, none⟩) (Kd.R_types HO335.out BK337.out (by decide)) (fun _ hk => hk.2) (.int .i64 t329)) (fun _ hk => hk.2) (.slice Ao145 t330.length co145)) (fun _ hk => hk.2) (.slice Ao146 t333.length co146)) (fun _ h_ => h_.1)))); (case side4 => exact (Kd.R_reads' HO335.out).2.1); (case side5 => refine (Kd.S_reads' (e := 53) (base := w.heap.size) (ok := fun k_ => k_ < n1 ∧ k_ < n2) (n := t278.length) (c := co29) ?_).2.2; exact (by (with_reducible repeat (first | apply Kd.S_alloc | apply Kd.S_drewN | apply Kd.S_drew)); exact (Kd.S_mono (Kd.S_far (p := ⟨gb337, 2, none⟩) (Kd.S_far (p := ⟨gb337, 1, none⟩) (Kd.S_far (p := ⟨gb337, 0, none⟩) (Kd.S_types HO_286001.out BK337.out (by decide)) (fun _ hk => hk.2) (.int .i64 t329)) (fun _ hk => hk.2) (.slice Ao145 t330.length co145)) (fun _ hk => hk.2) (.slice Ao146 t333.length co146)) (fun _ h_ => h_.1)))); (case side6 => exact (Kd.S_reads' HO_286001.out).2.1); (case side7 => refine (Kd.R_reads' (e := 4) (base := w.heap.size) (ok := fun k_ => ((some k_ ≠ (.slice Ao48 t298.length co48 : Value).ownBlock ∧ some k_ ≠ (.slice Ao137 t326.length co137 : Value).ownBlock) ∧ some k_ ≠ (.slice Ao146 t333.length co146 : Value).ownBlock)) (n := t281.length) (c := co30) ?_).2.2; exact (by (with_reducible repeat (first | apply Kd.R_alloc | apply Kd.R_drewN | apply Kd.R_drew)); exact (Kd.R_mono (Kd.R_far (p := ⟨gb337, 2, none⟩) (Kd.R_far (p := ⟨gb337, 1, none⟩) (Kd.R_far (p := ⟨gb337, 0, none⟩) (Kd.R_types HO_286002.out BK337.out (by decide)) (fun _ hk => hk.2) (.int .i64 t329)) (fun _ hk => hk.2) (.slice Ao145 t330.length co145)) (fun _ hk => hk.2) (.slice Ao146 t333.length co146)) (fun _ h_ => h_.1)))); (case side8 => exact (Kd.R_reads' HO_286002.out).2.1); rintro e w158 ⟨rfl, hb⟩; refine ⟨_, rfl, ?_⟩; have n0_ := Aside0.mk (Kd.S_below (by (with_reducible repeat (first | apply Kd.S_alloc | apply Kd.S_drewN | apply Kd.S_drew)); exact (Kd.S_mono (Kd.S_far (p := ⟨gb337, 2, none⟩) (Kd.S_far (p := ⟨gb337, 1, none⟩) (Kd.S_far (p := ⟨gb337, 0, none⟩) (Kd.S_types HO_286001.out BK337.out (by decide)) (fun _ hk => hk.2) (.int .i64 t329)) (fun _ hk => hk.2) (.slice Ao145 t330.length co145)) (fun _ hk => hk.2) (.slice Ao146 t333.length co146)) (fun _ h_ => h_.1))) hb); have n1_ := Aside0.mk (Kd.R_below (by (with_reducible repeat (first | apply Kd.R_alloc | apply Kd.R_drewN | apply Kd.R_drew)); exact (Kd.R_mono (Kd.R_far (p := ⟨gb337, 2, none⟩) (Kd.R_far (p := ⟨gb337, 1, none⟩) (Kd.R_far (p := ⟨gb337, 0, none⟩) (Kd.R_types HO_286002.out BK337.out (by decide)) (fun _ hk => hk.2) (.int .i64 t329)) (fun _ hk => hk.2) (.slice Ao145 t330.length co145)) (fun _ hk => hk.2) (.slice Ao146 t333.length co146)) (fun _ h_ => h_.1))) hb); have n2_ := Aside0.mk (Kd.S_below (by (with_reducible repeat (first | apply Kd.S_alloc | apply Kd.S_drewN | apply Kd.S_drew)); exact (Kd.S_mono (Kd.S_far (p := ⟨gb337, 2, none⟩) (Kd.S_far (p := ⟨gb337, 1, none⟩) (Kd.S_far (p := ⟨gb337, 0, none⟩) (Kd.S_types HO_291001.out BK337.out (by decide)) (fun _ hk => hk.2) (.int .i64 t329)) (fun _ hk => hk.2) (.slice Ao145 t330.length co145)) (fun _ hk => hk.2) (.slice Ao146 t333.length co146)) (fun _ h_ => h_.1))) hb); have n3_ := Aside0.mk (Kd.S_below (by (with_reducible repeat (first | apply Kd.S_alloc | apply Kd.S_drewN | apply Kd.S_drew)); exact (Kd.S_mono (Kd.S_far (p := ⟨gb337, 2, none⟩) (Kd.S_far (p := ⟨gb337, 1, none⟩) (Kd.S_far (p := ⟨gb337, 0, none⟩) (Kd.S_types HO_303001.out BK337.out (by decide)) (fun _ hk => hk.2) (.int .i64 t329)) (fun _ hk => hk.2) (.slice Ao145 t330.length co145)) (fun _ hk => hk.2) (.slice Ao146 t333.length co146)) (fun _ h_ => h_.1))) hb); have n4_ := Aside0.mk (Kd.R_below (by (with_reducible repeat (first | apply Kd.R_alloc | apply Kd.R_drewN | apply Kd.R_drew)); exact (Kd.R_mono (Kd.R_far (p := ⟨gb337, 2, none⟩) (Kd.R_far (p := ⟨gb337, 1, none⟩) (Kd.R_far (p := ⟨gb337, 0, none⟩) (Kd.R_types HO_303002.out BK337.out (by decide)) (fun _ hk => hk.2) (.int .i64 t329)) (fun _ hk => hk.2) (.slice Ao145 t330.length co145)) (fun _ hk => hk.2) (.slice Ao146 t333.length co146)) (fun _ h_ => h_.1))) hb); have n5_ := Aside0.mk (Kd.S_below (by (with_reducible repeat (first | apply Kd.S_alloc | apply Kd.S_drewN | apply Kd.S_drew)); exact (Kd.S_mono (Kd.S_far (p := ⟨gb337, 2, none⟩) (Kd.S_far (p := ⟨gb337, 1, none⟩) (Kd.S_far (p := ⟨gb337, 0, none⟩) (Kd.S_types HO325.out BK337.out (by decide)) (fun _ hk => hk.2) (.int .i64 t329)) (fun _ hk => hk.2) (.slice Ao145 t330.length co145)) (fun _ hk => hk.2) (.slice Ao146 t333.length co146)) (fun _ h_ => h_.1))) hb); have n6_ := Aside0.mk (Kd.R_below (by (with_reducible repeat (first | apply Kd.R_alloc | apply Kd.R_drewN | apply Kd.R_drew)); exact (Kd.R_mono (Kd.R_far (p := ⟨gb337, 2, none⟩) (Kd.R_far (p := ⟨gb337, 1, none⟩) (Kd.R_far (p := ⟨gb337, 0, none⟩) (Kd.R_types HO328.out BK337.out (by decide)) (fun _ hk => hk.2) (.int .i64 t329)) (fun _ hk => hk.2) (.slice Ao145 t330.length co145)) (fun _ hk => hk.2) (.slice Ao146 t333.length co146)) (fun _ h_ => h_.1))) hb); have n7_ := Aside0.mk (Kd.S_below (by (with_reducible repeat (first | apply Kd.S_alloc | apply Kd.S_drewN | apply Kd.S_drew)); exact (Kd.S_mono (Kd.S_far (p := ⟨gb337, 2, none⟩) (Kd.S_far (p := ⟨gb337, 1, none⟩) (Kd.S_far (p := ⟨gb337, 0, none⟩) (Kd.S_types HO332.out BK337.out (by decide)) (fun _ hk => hk.2) (.int .i64 t329)) (fun _ hk => hk.2) (.slice Ao145 t330.length co145)) (fun _ hk => hk.2) (.slice Ao146 t333.length co146)) (fun _ h_ => h_.1))) hb); have n8_ := Aside0.mk (Kd.R_below (by (with_reducible repeat (first | apply Kd.R_alloc | apply Kd.R_drewN | apply Kd.R_drew)); exact (Kd.R_mono (Kd.R_far (p := ⟨gb337, 2, none⟩) (Kd.R_far (p := ⟨gb337, 1, none⟩) (Kd.R_far (p := ⟨gb337, 0, none⟩) (Kd.R_types HO335.out BK337.out (by decide)) (fun _ hk => hk.2) (.int .i64 t329)) (fun _ hk => hk.2) (.slice Ao145 t330.length co145)) (fun _ hk => hk.2) (.slice Ao146 t333.length co146)) (fun _ h_ => h_.1))) hb); have n9_ := Aside0.mk (blk_below (g := gb268) (o := .cells #[.int .i64 a0_0, .slice A0_1 l0_1.length c0_1] 38 (0, 0)) (by refine uW ?_; refine blk_far ?_ NB268_337.out _; refine uW ?_; refine blk_far ?_ NB268_337.out _; refine uW ?_; refine blk_far ?_ NB268_337.out _; refine uW ?_; exact BK268.out) hb); have n10_ := Aside0.mk (blk_below (g := gb285) (o := .cells #[.int .i64 t277, .slice Ao29 t278.length co29, .slice Ao30 t281.length co30] 29 (0, 0)) (by refine uW ?_; refine blk_far ?_ NB285_337.out _; refine uW ?_; refine blk_far ?_ NB285_337.out _; refine uW ?_; refine blk_far ?_ NB285_337.out _; refine uW ?_; exact BK285.out) hb); have n11_ := Aside0.mk (blk_below (g := gb290) (o := .cells #[.int .i64 t286, .slice Ao37 t314.length co37] 41 (0, 0)) (by refine uW ?_; refine blk_far ?_ NB290_337.out _; refine uW ?_; refine blk_far ?_ NB290_337.out _; refine uW ?_; refine blk_far ?_ NB290_337.out _; refine uW ?_; exact BK290.out) hb); have n12_ := Aside0.mk (blk_below (g := gb302) (o := .cells #[.int .i64 t294, .slice Ao47 t295.length co47, .slice Ao48 t298.length co48] 29 (0, 0)) (by refine uW ?_; refine blk_far ?_ NB302_337.out _; refine uW ?_; refine blk_far ?_ NB302_337.out _; refine uW ?_; refine blk_far ?_ NB302_337.out _; refine uW ?_; exact BK302.out) hb); have n13_ := Aside0.mk (blk_below (g := gb337) (o := .cells #[.int .i64 t329, .slice Ao145 t330.length co145, .slice Ao146 t333.length co146] 29 (0, 0)) (by refine uW ?_; refine blk_put (cs := #[.int .i64 t329, .slice Ao145 t330.length co145, .slice none 0 0]) ?_ 2 _ rfl; refine uW ?_; refine blk_put (cs := #[.int .i64 t329, .slice none 0 0, .slice none 0 0]) ?_ 1 _ rfl; refine uW ?_; refine blk_put (cs := #[.int .i64 0, .slice none 0 0, .slice none 0 0]) ?_ 0 _ rfl; refine uW ?_; exact BK337.out) hb); have n14_ := Aside0.mk (below_step (by first | exact uB HB | exact uS HB (gC GE268 (gC GE285 (gC GE290 (gC GE302 (gC GE337 gN)))))) hb); clear HO_286001 HO_286002 HO_291001 HO_303001 HO_303002 HO325 HO328 HO332 HO335 BK268 BK285 BK290 BK302 BK337 HB; have HO_286001 := n0_; have HO_286002 := n1_; have HO_291001 := n2_; have HO_303001 := n3_; have HO_303002 := n4_; have HO325 := n5_; have HO328 := n6_; have HO332 := n7_; have HO335 := n8_; have BK268 := n9_; have BK285 := n10_; have BK290 := n11_; have BK302 := n12_; have BK337 := n13_; have HB := n14_; clear n0_ n1_ n2_ n3_ n4_ n5_ n6_ n7_ n8_ n9_ n10_ n11_ n12_ n13_ n14_; (try clear hb); (try clear hb2); (try clear hk); (try clear hi)))
               go_meet
               case rel => exact ⟨_, ((t336 != t284)), (by first | rfl | (simp; done) | (simp [*]; done)), H', ⟨by have := HJ15.out; have := HJ75.out; first | omega | exact Nat.le_refl _⟩, ⟨by (try simp only [hl291001_75]); (with_reducible repeat (first | apply Kd.S_alloc | apply Kd.S_drewN | apply Kd.S_drew)); exact HO_286001.out⟩, ⟨by (try simp only [hl291001_75]); (with_reducible repeat (first | apply Kd.R_alloc | apply Kd.R_drewN | apply Kd.R_drew)); exact Kd.R_mono HO_286002.out (fun _ hk => ⟨hk.1.1, hk.2⟩)⟩, ⟨by (try simp only [hl291001_75]); (with_reducible repeat (first | apply Kd.S_alloc | apply Kd.S_drewN | apply Kd.S_drew)); exact HO_291001.out⟩, ⟨by (try simp only [hl291001_75]); (with_reducible repeat (first | apply Kd.S_alloc | apply Kd.S_drewN | apply Kd.S_drew)); exact HO_303001.out⟩, ⟨by (try simp only [hl291001_75]); (with_reducible repeat (first | apply Kd.R_alloc | apply Kd.R_drewN | apply Kd.R_drew)); exact Kd.R_mono HO_303002.out (fun _ hk => ⟨hk.1.1, hk.2⟩)⟩, ⟨by (try simp only [hl291001_75]); (with_reducible repeat (first | apply Kd.S_alloc | apply Kd.S_drewN | apply Kd.S_drew)); exact Kd.S_mono HO332.out (fun _ hk => ⟨hk.1.2, hk.2⟩)⟩, ⟨by (try simp only [hl291001_75]); (with_reducible repeat (first | apply Kd.R_alloc | apply Kd.R_drewN | apply Kd.R_drew)); exact Kd.R_mono HO335.out (fun _ hk => ⟨hk.1.1.2, hk.1.2⟩)⟩, ⟨by (try simp only [hl291001_75]); refine uW ?_; exact BK268.out⟩, ⟨by (try simp only [hl291001_75]); refine uW ?_; exact BK285.out⟩, ⟨by (try simp only [hl291001_75]); refine uW ?_; exact BK290.out⟩, ⟨by (try simp only [hl291001_75]); refine uW ?_; exact BK302.out⟩, ⟨by (try simp only [hl291001_75]); refine uW ?_; exact BK337.out⟩, ⟨by first | exact uB HB | exact uS HB (gC GE268 (gC GE285 (gC GE290 (gC GE302 (gC GE337 gN)))))⟩⟩
              ·
               replace c148 := Bool.eq_false_iff.mpr c148
               subst c148
               have H1 : (laws_FnExactSystemOf.j2 kj75 t318 true t294 t319 t320) = some r := by rw [if_neg (show ¬ (false = true) by decide)] at H; exact H
               clear H
               have H := H1
               clear H1
               have H' := Aside0.mk H
               clear H
               have hnb159 := NB337_268.out
               have hnc159 := NB268_337.out
               have hnb160 := NB337_285.out
               have hnc160 := NB285_337.out
               have hnb161 := NB337_290.out
               have hnc161 := NB290_337.out
               have hnb162 := NB337_302.out
               have hnc162 := NB302_337.out
               have hcz163_0 : w139.cell? ⟨gb337, 0, none⟩ = some (.int .i64 0) := (blk_cell BK337.out 0).trans rfl
               have hcz163_1 : w139.cell? ⟨gb337, 1, none⟩ = some (.slice none 0 0) := (blk_cell BK337.out 1).trans rfl
               have hcz163_2 : w139.cell? ⟨gb337, 2, none⟩ = some (.slice none 0 0) := (blk_cell BK337.out 2).trans rfl
               have hfz163_0 := blk_frozen BK337.out 0
               have hfz163_1 := blk_frozen BK337.out 1
               have hfz163_2 := blk_frozen BK337.out 2
               have hnb164 := NB285_268.out
               have hnc164 := NB268_285.out
               have hnb165 := NB285_290.out
               have hnc165 := NB290_285.out
               have hnb166 := NB285_302.out
               have hnc166 := NB302_285.out
               have hcz167_0 : w139.cell? ⟨gb285, 0, none⟩ = some (.int .i64 t277) := (blk_cell BK285.out 0).trans rfl
               have hcz167_1 : w139.cell? ⟨gb285, 1, none⟩ = some (.slice Ao29 t278.length co29) := (blk_cell BK285.out 1).trans rfl
               have hcz167_2 : w139.cell? ⟨gb285, 2, none⟩ = some (.slice Ao30 t281.length co30) := (blk_cell BK285.out 2).trans rfl
               have hfz167_0 := blk_frozen BK285.out 0
               have hfz167_1 := blk_frozen BK285.out 1
               have hfz167_2 := blk_frozen BK285.out 2
               go_wp2_with (first | ((with_reducible refine gate_callee (f := 9) rfl ?_); refine goesL_ (some 102) rfl rfl Try.func9 (by kernel_rfl) rfl #[.agg #[.int .i64 t329, .slice Ao145 t330.length co145, .slice Ao146 t333.length co146], .agg #[.int .i64 t277, .slice Ao29 t278.length co29, .slice Ao30 t281.length co30]] rfl (by (try simp only [List.map_toArray, List.map_cons, List.map_nil]); first | done | rfl | (simp only [List.length_drop, List.length_take]; rfl)) ?_; (with_reducible refine (laws_eqSystem.calls kj75 t329 _ _ t330 _ _ t333 t277 _ _ t278 _ _ t281 false _ ?side1 ?side2 ?side3 ?side4 ?side5 ?side6 ?side7 ?side8 A147.out).mono ?_); (case side1 => refine (Kd.S_reads' (e := 53) (base := w.heap.size) (ok := fun k_ => ((True ∧ some k_ ≠ (.slice Ao29 t278.length co29 : Value).ownBlock) ∧ some k_ ≠ (.slice Ao47 t295.length co47 : Value).ownBlock)) (n := t330.length) (c := co145) ?_).2.2; exact (by (with_reducible repeat (first | apply Kd.S_alloc | apply Kd.S_drewN | apply Kd.S_drew)); exact (Kd.S_mono (Kd.S_far (p := ⟨gb337, 2, none⟩) (Kd.S_far (p := ⟨gb337, 1, none⟩) (Kd.S_far (p := ⟨gb337, 0, none⟩) (Kd.S_types HO332.out BK337.out (by decide)) (fun _ hk => hk.2) (.int .i64 t329)) (fun _ hk => hk.2) (.slice Ao145 t330.length co145)) (fun _ hk => hk.2) (.slice Ao146 t333.length co146)) (fun _ h_ => h_.1)))); (case side2 => exact (Kd.S_reads' HO332.out).2.1); (case side3 => refine (Kd.R_reads' (e := 4) (base := w.heap.size) (ok := fun k_ => (((True ∧ some k_ ≠ (.slice Ao30 t281.length co30 : Value).ownBlock) ∧ some k_ ≠ (.slice Ao48 t298.length co48 : Value).ownBlock) ∧ some k_ ≠ (.slice Ao137 t326.length co137 : Value).ownBlock)) (n := t333.length) (c := co146) ?_).2.2; exact (by (with_reducible repeat (first | apply Kd.R_alloc | apply Kd.R_drewN | apply Kd.R_drew)); exact (Kd.R_mono (Kd.R_far (p := ⟨gb337, 2, none⟩) (Kd.R_far (p := ⟨gb337, 1, none⟩) (Kd.R_far (p := ⟨gb337, 0, none⟩) (Kd.R_types HO335.out BK337.out (by decide)) (fun _ hk => hk.2) (.int .i64 t329)) (fun _ hk => hk.2) (.slice Ao145 t330.length co145)) (fun _ hk => hk.2) (.slice Ao146 t333.length co146)) (fun _ h_ => h_.1)))); (case side4 => exact (Kd.R_reads' HO335.out).2.1); (case side5 => refine (Kd.S_reads' (e := 53) (base := w.heap.size) (ok := fun k_ => k_ < n1 ∧ k_ < n2) (n := t278.length) (c := co29) ?_).2.2; exact (by (with_reducible repeat (first | apply Kd.S_alloc | apply Kd.S_drewN | apply Kd.S_drew)); exact (Kd.S_mono (Kd.S_far (p := ⟨gb337, 2, none⟩) (Kd.S_far (p := ⟨gb337, 1, none⟩) (Kd.S_far (p := ⟨gb337, 0, none⟩) (Kd.S_types HO_286001.out BK337.out (by decide)) (fun _ hk => hk.2) (.int .i64 t329)) (fun _ hk => hk.2) (.slice Ao145 t330.length co145)) (fun _ hk => hk.2) (.slice Ao146 t333.length co146)) (fun _ h_ => h_.1)))); (case side6 => exact (Kd.S_reads' HO_286001.out).2.1); (case side7 => refine (Kd.R_reads' (e := 4) (base := w.heap.size) (ok := fun k_ => ((some k_ ≠ (.slice Ao48 t298.length co48 : Value).ownBlock ∧ some k_ ≠ (.slice Ao137 t326.length co137 : Value).ownBlock) ∧ some k_ ≠ (.slice Ao146 t333.length co146 : Value).ownBlock)) (n := t281.length) (c := co30) ?_).2.2; exact (by (with_reducible repeat (first | apply Kd.R_alloc | apply Kd.R_drewN | apply Kd.R_drew)); exact (Kd.R_mono (Kd.R_far (p := ⟨gb337, 2, none⟩) (Kd.R_far (p := ⟨gb337, 1, none⟩) (Kd.R_far (p := ⟨gb337, 0, none⟩) (Kd.R_types HO_286002.out BK337.out (by decide)) (fun _ hk => hk.2) (.int .i64 t329)) (fun _ hk => hk.2) (.slice Ao145 t330.length co145)) (fun _ hk => hk.2) (.slice Ao146 t333.length co146)) (fun _ h_ => h_.1)))); (case side8 => exact (Kd.R_reads' HO_286002.out).2.1); rintro e w168 ⟨rfl, hb⟩; refine ⟨_, rfl, ?_⟩; have n0_ := Aside0.mk (Kd.S_below (by (with_reducible repeat (first | apply Kd.S_alloc | apply Kd.S_drewN | apply Kd.S_drew)); exact (Kd.S_mono (Kd.S_far (p := ⟨gb337, 2, none⟩) (Kd.S_far (p := ⟨gb337, 1, none⟩) (Kd.S_far (p := ⟨gb337, 0, none⟩) (Kd.S_types HO_286001.out BK337.out (by decide)) (fun _ hk => hk.2) (.int .i64 t329)) (fun _ hk => hk.2) (.slice Ao145 t330.length co145)) (fun _ hk => hk.2) (.slice Ao146 t333.length co146)) (fun _ h_ => h_.1))) hb); have n1_ := Aside0.mk (Kd.R_below (by (with_reducible repeat (first | apply Kd.R_alloc | apply Kd.R_drewN | apply Kd.R_drew)); exact (Kd.R_mono (Kd.R_far (p := ⟨gb337, 2, none⟩) (Kd.R_far (p := ⟨gb337, 1, none⟩) (Kd.R_far (p := ⟨gb337, 0, none⟩) (Kd.R_types HO_286002.out BK337.out (by decide)) (fun _ hk => hk.2) (.int .i64 t329)) (fun _ hk => hk.2) (.slice Ao145 t330.length co145)) (fun _ hk => hk.2) (.slice Ao146 t333.length co146)) (fun _ h_ => h_.1))) hb); have n2_ := Aside0.mk (Kd.S_below (by (with_reducible repeat (first | apply Kd.S_alloc | apply Kd.S_drewN | apply Kd.S_drew)); exact (Kd.S_mono (Kd.S_far (p := ⟨gb337, 2, none⟩) (Kd.S_far (p := ⟨gb337, 1, none⟩) (Kd.S_far (p := ⟨gb337, 0, none⟩) (Kd.S_types HO_291001.out BK337.out (by decide)) (fun _ hk => hk.2) (.int .i64 t329)) (fun _ hk => hk.2) (.slice Ao145 t330.length co145)) (fun _ hk => hk.2) (.slice Ao146 t333.length co146)) (fun _ h_ => h_.1))) hb); have n3_ := Aside0.mk (Kd.S_below (by (with_reducible repeat (first | apply Kd.S_alloc | apply Kd.S_drewN | apply Kd.S_drew)); exact (Kd.S_mono (Kd.S_far (p := ⟨gb337, 2, none⟩) (Kd.S_far (p := ⟨gb337, 1, none⟩) (Kd.S_far (p := ⟨gb337, 0, none⟩) (Kd.S_types HO_303001.out BK337.out (by decide)) (fun _ hk => hk.2) (.int .i64 t329)) (fun _ hk => hk.2) (.slice Ao145 t330.length co145)) (fun _ hk => hk.2) (.slice Ao146 t333.length co146)) (fun _ h_ => h_.1))) hb); have n4_ := Aside0.mk (Kd.R_below (by (with_reducible repeat (first | apply Kd.R_alloc | apply Kd.R_drewN | apply Kd.R_drew)); exact (Kd.R_mono (Kd.R_far (p := ⟨gb337, 2, none⟩) (Kd.R_far (p := ⟨gb337, 1, none⟩) (Kd.R_far (p := ⟨gb337, 0, none⟩) (Kd.R_types HO_303002.out BK337.out (by decide)) (fun _ hk => hk.2) (.int .i64 t329)) (fun _ hk => hk.2) (.slice Ao145 t330.length co145)) (fun _ hk => hk.2) (.slice Ao146 t333.length co146)) (fun _ h_ => h_.1))) hb); have n5_ := Aside0.mk (Kd.S_below (by (with_reducible repeat (first | apply Kd.S_alloc | apply Kd.S_drewN | apply Kd.S_drew)); exact (Kd.S_mono (Kd.S_far (p := ⟨gb337, 2, none⟩) (Kd.S_far (p := ⟨gb337, 1, none⟩) (Kd.S_far (p := ⟨gb337, 0, none⟩) (Kd.S_types HO325.out BK337.out (by decide)) (fun _ hk => hk.2) (.int .i64 t329)) (fun _ hk => hk.2) (.slice Ao145 t330.length co145)) (fun _ hk => hk.2) (.slice Ao146 t333.length co146)) (fun _ h_ => h_.1))) hb); have n6_ := Aside0.mk (Kd.R_below (by (with_reducible repeat (first | apply Kd.R_alloc | apply Kd.R_drewN | apply Kd.R_drew)); exact (Kd.R_mono (Kd.R_far (p := ⟨gb337, 2, none⟩) (Kd.R_far (p := ⟨gb337, 1, none⟩) (Kd.R_far (p := ⟨gb337, 0, none⟩) (Kd.R_types HO328.out BK337.out (by decide)) (fun _ hk => hk.2) (.int .i64 t329)) (fun _ hk => hk.2) (.slice Ao145 t330.length co145)) (fun _ hk => hk.2) (.slice Ao146 t333.length co146)) (fun _ h_ => h_.1))) hb); have n7_ := Aside0.mk (Kd.S_below (by (with_reducible repeat (first | apply Kd.S_alloc | apply Kd.S_drewN | apply Kd.S_drew)); exact (Kd.S_mono (Kd.S_far (p := ⟨gb337, 2, none⟩) (Kd.S_far (p := ⟨gb337, 1, none⟩) (Kd.S_far (p := ⟨gb337, 0, none⟩) (Kd.S_types HO332.out BK337.out (by decide)) (fun _ hk => hk.2) (.int .i64 t329)) (fun _ hk => hk.2) (.slice Ao145 t330.length co145)) (fun _ hk => hk.2) (.slice Ao146 t333.length co146)) (fun _ h_ => h_.1))) hb); have n8_ := Aside0.mk (Kd.R_below (by (with_reducible repeat (first | apply Kd.R_alloc | apply Kd.R_drewN | apply Kd.R_drew)); exact (Kd.R_mono (Kd.R_far (p := ⟨gb337, 2, none⟩) (Kd.R_far (p := ⟨gb337, 1, none⟩) (Kd.R_far (p := ⟨gb337, 0, none⟩) (Kd.R_types HO335.out BK337.out (by decide)) (fun _ hk => hk.2) (.int .i64 t329)) (fun _ hk => hk.2) (.slice Ao145 t330.length co145)) (fun _ hk => hk.2) (.slice Ao146 t333.length co146)) (fun _ h_ => h_.1))) hb); have n9_ := Aside0.mk (blk_below (g := gb268) (o := .cells #[.int .i64 a0_0, .slice A0_1 l0_1.length c0_1] 38 (0, 0)) (by refine uW ?_; refine blk_far ?_ NB268_337.out _; refine uW ?_; refine blk_far ?_ NB268_337.out _; refine uW ?_; refine blk_far ?_ NB268_337.out _; refine uW ?_; exact BK268.out) hb); have n10_ := Aside0.mk (blk_below (g := gb285) (o := .cells #[.int .i64 t277, .slice Ao29 t278.length co29, .slice Ao30 t281.length co30] 29 (0, 0)) (by refine uW ?_; refine blk_far ?_ NB285_337.out _; refine uW ?_; refine blk_far ?_ NB285_337.out _; refine uW ?_; refine blk_far ?_ NB285_337.out _; refine uW ?_; exact BK285.out) hb); have n11_ := Aside0.mk (blk_below (g := gb290) (o := .cells #[.int .i64 t286, .slice Ao37 t314.length co37] 41 (0, 0)) (by refine uW ?_; refine blk_far ?_ NB290_337.out _; refine uW ?_; refine blk_far ?_ NB290_337.out _; refine uW ?_; refine blk_far ?_ NB290_337.out _; refine uW ?_; exact BK290.out) hb); have n12_ := Aside0.mk (blk_below (g := gb302) (o := .cells #[.int .i64 t294, .slice Ao47 t295.length co47, .slice Ao48 t298.length co48] 29 (0, 0)) (by refine uW ?_; refine blk_far ?_ NB302_337.out _; refine uW ?_; refine blk_far ?_ NB302_337.out _; refine uW ?_; refine blk_far ?_ NB302_337.out _; refine uW ?_; exact BK302.out) hb); have n13_ := Aside0.mk (blk_below (g := gb337) (o := .cells #[.int .i64 t329, .slice Ao145 t330.length co145, .slice Ao146 t333.length co146] 29 (0, 0)) (by refine uW ?_; refine blk_put (cs := #[.int .i64 t329, .slice Ao145 t330.length co145, .slice none 0 0]) ?_ 2 _ rfl; refine uW ?_; refine blk_put (cs := #[.int .i64 t329, .slice none 0 0, .slice none 0 0]) ?_ 1 _ rfl; refine uW ?_; refine blk_put (cs := #[.int .i64 0, .slice none 0 0, .slice none 0 0]) ?_ 0 _ rfl; refine uW ?_; exact BK337.out) hb); have n14_ := Aside0.mk (below_step (by first | exact uB HB | exact uS HB (gC GE268 (gC GE285 (gC GE290 (gC GE302 (gC GE337 gN)))))) hb); clear HO_286001 HO_286002 HO_291001 HO_303001 HO_303002 HO325 HO328 HO332 HO335 BK268 BK285 BK290 BK302 BK337 HB; have HO_286001 := n0_; have HO_286002 := n1_; have HO_291001 := n2_; have HO_303001 := n3_; have HO_303002 := n4_; have HO325 := n5_; have HO328 := n6_; have HO332 := n7_; have HO335 := n8_; have BK268 := n9_; have BK285 := n10_; have BK290 := n11_; have BK302 := n12_; have BK337 := n13_; have HB := n14_; clear n0_ n1_ n2_ n3_ n4_ n5_ n6_ n7_ n8_ n9_ n10_ n11_ n12_ n13_ n14_; (try clear hb); (try clear hb2); (try clear hk); (try clear hi)))
               go_meet
               case rel => exact ⟨_, (true), (by first | rfl | (simp; done) | (simp [*]; done)), H', ⟨by have := HJ15.out; have := HJ75.out; first | omega | exact Nat.le_refl _⟩, ⟨by (try simp only [hl291001_75]); (with_reducible repeat (first | apply Kd.S_alloc | apply Kd.S_drewN | apply Kd.S_drew)); exact HO_286001.out⟩, ⟨by (try simp only [hl291001_75]); (with_reducible repeat (first | apply Kd.R_alloc | apply Kd.R_drewN | apply Kd.R_drew)); exact Kd.R_mono HO_286002.out (fun _ hk => ⟨hk.1.1, hk.2⟩)⟩, ⟨by (try simp only [hl291001_75]); (with_reducible repeat (first | apply Kd.S_alloc | apply Kd.S_drewN | apply Kd.S_drew)); exact HO_291001.out⟩, ⟨by (try simp only [hl291001_75]); (with_reducible repeat (first | apply Kd.S_alloc | apply Kd.S_drewN | apply Kd.S_drew)); exact HO_303001.out⟩, ⟨by (try simp only [hl291001_75]); (with_reducible repeat (first | apply Kd.R_alloc | apply Kd.R_drewN | apply Kd.R_drew)); exact Kd.R_mono HO_303002.out (fun _ hk => ⟨hk.1.1, hk.2⟩)⟩, ⟨by (try simp only [hl291001_75]); (with_reducible repeat (first | apply Kd.S_alloc | apply Kd.S_drewN | apply Kd.S_drew)); exact Kd.S_mono HO332.out (fun _ hk => ⟨hk.1.2, hk.2⟩)⟩, ⟨by (try simp only [hl291001_75]); (with_reducible repeat (first | apply Kd.R_alloc | apply Kd.R_drewN | apply Kd.R_drew)); exact Kd.R_mono HO335.out (fun _ hk => ⟨hk.1.1.2, hk.1.2⟩)⟩, ⟨by (try simp only [hl291001_75]); refine uW ?_; exact BK268.out⟩, ⟨by (try simp only [hl291001_75]); refine uW ?_; exact BK285.out⟩, ⟨by (try simp only [hl291001_75]); refine uW ?_; exact BK290.out⟩, ⟨by (try simp only [hl291001_75]); refine uW ?_; exact BK302.out⟩, ⟨by (try simp only [hl291001_75]); refine uW ?_; exact BK337.out⟩, ⟨by first | exact uB HB | exact uS HB (gC GE268 (gC GE285 (gC GE290 (gC GE302 (gC GE337 gN)))))⟩⟩
             case rest =>
              clear HC123
              try clear c1
              try clear c2
              try clear p2
              try clear c3
              try clear c3b0
              try clear c3b1
              try clear c4
              try clear c5
              try clear c6
              try clear c6b0
              try clear c7
              try clear c8
              try clear c9
              try clear c10
              try clear c11
              try clear c12
              try clear c13
              try clear c14
              try clear c15
              try clear c16
              try clear c17
              try clear c18
              try clear c19
              try clear c20
              try clear c27
              try clear c34
              try clear c35
              try clear c43
              try clear c44
              try clear c45
              try clear c50
              try clear c51
              try clear c52
              try clear c53
              try clear c55
              try clear c56
              try clear c59
              try clear c60
              try clear c61
              try clear c63
              try clear c64
              try clear c67
              try clear c70
              try clear c73
              try clear c83
              try clear c84
              try clear c85
              try clear c89
              try clear c89b0
              try clear c91
              try clear c92
              try clear c93
              try clear c94
              try clear c96
              try clear c97
              try clear c100
              try clear c101
              try clear c102
              try clear c104
              try clear c105
              try clear c108
              try clear c111
              try clear c111b0
              try clear c112
              try clear c113
              try clear c114
              try clear c119
              try clear c119b0
              try clear c119b1
              try clear c124
              try clear c125
              try clear c126
              try clear c131
              try clear c132
              try clear c140
              try clear c141
              try clear c142
              try clear c143
              try clear c148
              try clear c149
              try clear c150
              try clear c151
              try clear c152
              try clear c154
              try clear c155
              try clear c156
              try clear c159
              try clear c160
              try clear c161
              try clear c162
              try clear c164
              try clear c165
              try clear c166
              try clear hcz103_0
              try clear hcz103_1
              try clear hcz103_2
              try clear hcz106_0
              try clear hcz106_1
              try clear hcz106_2
              try clear hcz115_0
              try clear hcz115_1
              try clear hcz115_2
              try clear hcz117_0
              try clear hcz117_1
              try clear hcz117_2
              try clear hcz127_0
              try clear hcz127_1
              try clear hcz127_2
              try clear hcz129_0
              try clear hcz129_1
              try clear hcz129_2
              try clear hcz133_0
              try clear hcz133_1
              try clear hcz144_0
              try clear hcz144_1
              try clear hcz144_2
              try clear hcz153_0
              try clear hcz153_1
              try clear hcz153_2
              try clear hcz157_0
              try clear hcz157_1
              try clear hcz157_2
              try clear hcz163_0
              try clear hcz163_1
              try clear hcz163_2
              try clear hcz167_0
              try clear hcz167_1
              try clear hcz167_2
              try clear hcz18_0
              try clear hcz18_1
              try clear hcz20_0
              try clear hcz20_1
              try clear hcz28_0
              try clear hcz28_1
              try clear hcz28_2
              try clear hcz31_0
              try clear hcz31_1
              try clear hcz36_0
              try clear hcz36_1
              try clear hcz39_0
              try clear hcz39_1
              try clear hcz46_0
              try clear hcz46_1
              try clear hcz46_2
              try clear hcz54_0
              try clear hcz54_1
              try clear hcz54_2
              try clear hcz57_0
              try clear hcz57_1
              try clear hcz57_2
              try clear hcz62_0
              try clear hcz62_1
              try clear hcz62_2
              try clear hcz65_0
              try clear hcz65_1
              try clear hcz65_2
              try clear hcz86_0
              try clear hcz86_1
              try clear hcz8_0
              try clear hcz8_1
              try clear hcz95_0
              try clear hcz95_1
              try clear hcz95_2
              try clear hcz98_0
              try clear hcz98_1
              try clear hcz98_2
              try clear hfz103_0
              try clear hfz103_1
              try clear hfz103_2
              try clear hfz106_0
              try clear hfz106_1
              try clear hfz106_2
              try clear hfz115_0
              try clear hfz115_1
              try clear hfz115_2
              try clear hfz117_0
              try clear hfz117_1
              try clear hfz117_2
              try clear hfz127_0
              try clear hfz127_1
              try clear hfz127_2
              try clear hfz129_0
              try clear hfz129_1
              try clear hfz129_2
              try clear hfz133_0
              try clear hfz133_1
              try clear hfz144_0
              try clear hfz144_1
              try clear hfz144_2
              try clear hfz153_0
              try clear hfz153_1
              try clear hfz153_2
              try clear hfz157_0
              try clear hfz157_1
              try clear hfz157_2
              try clear hfz163_0
              try clear hfz163_1
              try clear hfz163_2
              try clear hfz167_0
              try clear hfz167_1
              try clear hfz167_2
              try clear hfz18_0
              try clear hfz18_1
              try clear hfz20_0
              try clear hfz20_1
              try clear hfz28_0
              try clear hfz28_1
              try clear hfz28_2
              try clear hfz31_0
              try clear hfz31_1
              try clear hfz36_0
              try clear hfz36_1
              try clear hfz39_0
              try clear hfz39_1
              try clear hfz46_0
              try clear hfz46_1
              try clear hfz46_2
              try clear hfz54_0
              try clear hfz54_1
              try clear hfz54_2
              try clear hfz57_0
              try clear hfz57_1
              try clear hfz57_2
              try clear hfz62_0
              try clear hfz62_1
              try clear hfz62_2
              try clear hfz65_0
              try clear hfz65_1
              try clear hfz65_2
              try clear hfz86_0
              try clear hfz86_1
              try clear hfz8_0
              try clear hfz8_1
              try clear hfz95_0
              try clear hfz95_1
              try clear hfz95_2
              try clear hfz98_0
              try clear hfz98_1
              try clear hfz98_2
              try clear p2
              obtain ⟨kq, x108_122, rfl, HA, HJ122, HO_286001, HO_286002, HO_291001, HO_303001, HO_303002, HO_338001, HO_338002, BK268, BK285, BK290, BK302, BK337, HB⟩ := hcut
              have hl303001_122 := (Kd.S_reads' HO_303001.out).1
              rw [hl303001_122] at HO_303001
              (try simp only [hl303001_122])
              (try simp only [hl303001_122] at BK268)
              (try simp only [hl303001_122] at BK285)
              (try simp only [hl303001_122] at BK290)
              (try simp only [hl303001_122] at BK302)
              (try simp only [hl303001_122] at BK337)
              (try simp only [hl303001_122] at HO_286001)
              (try simp only [hl303001_122] at HO_286002)
              (try simp only [hl303001_122] at HO_291001)
              (try simp only [hl303001_122] at HO_303002)
              (try simp only [hl303001_122] at HO_338001)
              (try simp only [hl303001_122] at HO_338002)
              have hl303002_122 := (Kd.R_reads' HO_303002.out).1
              rw [hl303002_122] at HO_303002
              (try simp only [hl303002_122])
              (try simp only [hl303002_122] at BK268)
              (try simp only [hl303002_122] at BK285)
              (try simp only [hl303002_122] at BK290)
              (try simp only [hl303002_122] at BK302)
              (try simp only [hl303002_122] at BK337)
              (try simp only [hl303002_122] at HO_286001)
              (try simp only [hl303002_122] at HO_286002)
              (try simp only [hl303002_122] at HO_291001)
              (try simp only [hl303002_122] at HO_303001)
              (try simp only [hl303002_122] at HO_338001)
              (try simp only [hl303002_122] at HO_338002)
              cases kq with
              | zero => exact absurd HA.out (by simp [laws_FnExactSystemOf.j2])
              | succ kj122 =>
               have H := HA.out
               clear HA
               simp only [laws_FnExactSystemOf.j2] at H
               by_cases c169 : x108_122 = true
               ·
                subst c169
                have H1 : (some false) = some r := by rw [if_pos rfl] at H; exact H
                clear H
                have H := H1
                clear H1
                obtain rfl := Option.some.inj H
                go_wp2
                go_ret
                exact ⟨by first | rfl | (simp [errW_none, errW_some] <;> rfl) | (simp [*, errW_none, errW_some] <;> rfl), by first | exact uB HB | exact uS HB (gC GE268 (gC GE285 (gC GE290 (gC GE302 (gC GE337 gN)))))⟩
               ·
                replace c169 := Bool.eq_false_iff.mpr c169
                subst c169
                have H1 : ((laws_heldSystem.f kj122 t294 t319 t320 1).bind fun t339 => (if t339 < 0 then (some false) else (if t339 = t318 then (some true) else (some false)))) = some r := by rw [if_neg (show ¬ (false = true) by decide)] at H; exact H
                clear H
                have H := H1
                clear H1
                replace H := Option.bind_eq_some_iff.mp H
                obtain ⟨t339, A1700, H⟩ := H
                replace H : (if t339 < 0 then (some false) else (if t339 = t318 then (some true) else (some false))) = some r := H
                have A170 := Aside0.mk A1700
                clear A1700
                by_cases c171 : t339 < 0
                ·
                 rw [if_pos c171] at H
                 have c171b0 : decide (t339 < 0) = true := decide_eq_true c171
                 clear c171
                 obtain rfl := Option.some.inj H
                 have hnb172 := NB302_268.out
                 have hnc172 := NB268_302.out
                 have hnb173 := NB302_285.out
                 have hnc173 := NB285_302.out
                 have hnb174 := NB302_290.out
                 have hnc174 := NB290_302.out
                 have hnb175 := NB302_337.out
                 have hnc175 := NB337_302.out
                 have hcz176_0 : wc.cell? ⟨gb302, 0, none⟩ = some (.int .i64 t294) := (blk_cell BK302.out 0).trans rfl
                 have hcz176_1 : wc.cell? ⟨gb302, 1, none⟩ = some (.slice Ao47 t319.length co47) := (blk_cell BK302.out 1).trans rfl
                 have hcz176_2 : wc.cell? ⟨gb302, 2, none⟩ = some (.slice Ao48 t320.length co48) := (blk_cell BK302.out 2).trans rfl
                 have hfz176_0 := blk_frozen BK302.out 0
                 have hfz176_1 := blk_frozen BK302.out 1
                 have hfz176_2 := blk_frozen BK302.out 2
                 go_wp2_with (first | ((with_reducible refine gate_callee (f := 11) rfl ?_); refine goesL_ (some 111) rfl rfl Try.func11 (by kernel_rfl) rfl #[.agg #[.int .i64 t294, .slice Ao47 t319.length co47, .slice Ao48 t320.length co48], .int .i64 1] rfl (by (try simp only [List.map_toArray, List.map_cons, List.map_nil]); first | done | rfl | (simp only [List.length_drop, List.length_take]; rfl)) ?_; (with_reducible refine (laws_heldSystem.calls kj122 t294 _ _ t319 _ _ t320 1 t339 _ ?side1 ?side2 ?side3 ?side4 A170.out).mono ?_); (case side1 => repeat (first | exact (Kd.S_reads' HO_303001.out).2.2 | (with_reducible refine Kd.C_alloc ?_ _) | (with_reducible refine Kd.C_drewN ?_ _) | (with_reducible refine Kd.C_drew ?_))); (case side2 => exact (Kd.S_reads' HO_303001.out).2.1); (case side3 => exact uD HO_303002); (case side4 => exact (Kd.R_reads' HO_303002.out).2.1); rintro e w177 ⟨rfl, hb⟩; refine ⟨_, rfl, ?_⟩; have n0_ := Aside0.mk (Kd.S_below (by (with_reducible repeat (first | apply Kd.S_alloc | apply Kd.S_drewN | apply Kd.S_drew)); exact HO_286001.out) hb); have n1_ := Aside0.mk (Kd.R_below (uR HO_286002) hb); have n2_ := Aside0.mk (Kd.S_below (by (with_reducible repeat (first | apply Kd.S_alloc | apply Kd.S_drewN | apply Kd.S_drew)); exact HO_291001.out) hb); have n3_ := Aside0.mk (Kd.S_below (by (with_reducible repeat (first | apply Kd.S_alloc | apply Kd.S_drewN | apply Kd.S_drew)); exact HO_303001.out) hb); have n4_ := Aside0.mk (Kd.R_below (uR HO_303002) hb); have n5_ := Aside0.mk (Kd.S_below (by (with_reducible repeat (first | apply Kd.S_alloc | apply Kd.S_drewN | apply Kd.S_drew)); exact HO_338001.out) hb); have n6_ := Aside0.mk (Kd.R_below (uR HO_338002) hb); have n7_ := Aside0.mk (blk_below (g := gb268) (o := .cells #[.int .i64 a0_0, .slice A0_1 l0_1.length c0_1] 38 (0, 0)) (uK BK268) hb); have n8_ := Aside0.mk (blk_below (g := gb285) (o := .cells #[.int .i64 t277, .slice Ao29 t278.length co29, .slice Ao30 t281.length co30] 29 (0, 0)) (uK BK285) hb); have n9_ := Aside0.mk (blk_below (g := gb290) (o := .cells #[.int .i64 t286, .slice Ao37 t314.length co37] 41 (0, 0)) (uK BK290) hb); have n10_ := Aside0.mk (blk_below (g := gb302) (o := .cells #[.int .i64 t294, .slice Ao47 t319.length co47, .slice Ao48 t320.length co48] 29 (0, 0)) (uK BK302) hb); have n11_ := Aside0.mk (blk_below (g := gb337) (o := .cells #[.int .i64 t329, .slice Ao145 t330.length co145, .slice Ao146 t333.length co146] 29 (0, 0)) (uK BK337) hb); have n12_ := Aside0.mk (below_step (by first | exact uB HB | exact uS HB (gC GE268 (gC GE285 (gC GE290 (gC GE302 (gC GE337 gN)))))) hb); clear HO_286001 HO_286002 HO_291001 HO_303001 HO_303002 HO_338001 HO_338002 BK268 BK285 BK290 BK302 BK337 HB; have HO_286001 := n0_; have HO_286002 := n1_; have HO_291001 := n2_; have HO_303001 := n3_; have HO_303002 := n4_; have HO_338001 := n5_; have HO_338002 := n6_; have BK268 := n7_; have BK285 := n8_; have BK290 := n9_; have BK302 := n10_; have BK337 := n11_; have HB := n12_; clear n0_ n1_ n2_ n3_ n4_ n5_ n6_ n7_ n8_ n9_ n10_ n11_ n12_; (try clear hb); (try clear hb2); (try clear hk); (try clear hi)))
                 go_ret
                 exact ⟨by first | rfl | (simp [errW_none, errW_some] <;> rfl) | (simp [*, errW_none, errW_some] <;> rfl), by first | exact uB HB | exact uS HB (gC GE268 (gC GE285 (gC GE290 (gC GE302 (gC GE337 gN)))))⟩
                ·
                 rw [if_neg c171] at H
                 have c171b0 : decide (t339 < 0) = false := decide_eq_false c171
                 clear c171
                 by_cases c178 : t339 = t318
                 ·
                  rw [if_pos c178] at H
                  have c178b0 : (t339 == t318) = true := beq_iff_eq.mpr c178
                  have c178b1 : (t339 != t318) = false := bne_eq_false_iff_eq.mpr c178
                  clear c178
                  obtain rfl := Option.some.inj H
                  have hnb179 := NB302_268.out
                  have hnc179 := NB268_302.out
                  have hnb180 := NB302_285.out
                  have hnc180 := NB285_302.out
                  have hnb181 := NB302_290.out
                  have hnc181 := NB290_302.out
                  have hnb182 := NB302_337.out
                  have hnc182 := NB337_302.out
                  have hcz183_0 : wc.cell? ⟨gb302, 0, none⟩ = some (.int .i64 t294) := (blk_cell BK302.out 0).trans rfl
                  have hcz183_1 : wc.cell? ⟨gb302, 1, none⟩ = some (.slice Ao47 t319.length co47) := (blk_cell BK302.out 1).trans rfl
                  have hcz183_2 : wc.cell? ⟨gb302, 2, none⟩ = some (.slice Ao48 t320.length co48) := (blk_cell BK302.out 2).trans rfl
                  have hfz183_0 := blk_frozen BK302.out 0
                  have hfz183_1 := blk_frozen BK302.out 1
                  have hfz183_2 := blk_frozen BK302.out 2
                  go_wp2_with (first | ((with_reducible refine gate_callee (f := 11) rfl ?_); refine goesL_ (some 111) rfl rfl Try.func11 (by kernel_rfl) rfl #[.agg #[.int .i64 t294, .slice Ao47 t319.length co47, .slice Ao48 t320.length co48], .int .i64 1] rfl (by (try simp only [List.map_toArray, List.map_cons, List.map_nil]); first | done | rfl | (simp only [List.length_drop, List.length_take]; rfl)) ?_; (with_reducible refine (laws_heldSystem.calls kj122 t294 _ _ t319 _ _ t320 1 t339 _ ?side1 ?side2 ?side3 ?side4 A170.out).mono ?_); (case side1 => repeat (first | exact (Kd.S_reads' HO_303001.out).2.2 | (with_reducible refine Kd.C_alloc ?_ _) | (with_reducible refine Kd.C_drewN ?_ _) | (with_reducible refine Kd.C_drew ?_))); (case side2 => exact (Kd.S_reads' HO_303001.out).2.1); (case side3 => exact uD HO_303002); (case side4 => exact (Kd.R_reads' HO_303002.out).2.1); rintro e w184 ⟨rfl, hb⟩; refine ⟨_, rfl, ?_⟩; have n0_ := Aside0.mk (Kd.S_below (by (with_reducible repeat (first | apply Kd.S_alloc | apply Kd.S_drewN | apply Kd.S_drew)); exact HO_286001.out) hb); have n1_ := Aside0.mk (Kd.R_below (uR HO_286002) hb); have n2_ := Aside0.mk (Kd.S_below (by (with_reducible repeat (first | apply Kd.S_alloc | apply Kd.S_drewN | apply Kd.S_drew)); exact HO_291001.out) hb); have n3_ := Aside0.mk (Kd.S_below (by (with_reducible repeat (first | apply Kd.S_alloc | apply Kd.S_drewN | apply Kd.S_drew)); exact HO_303001.out) hb); have n4_ := Aside0.mk (Kd.R_below (uR HO_303002) hb); have n5_ := Aside0.mk (Kd.S_below (by (with_reducible repeat (first | apply Kd.S_alloc | apply Kd.S_drewN | apply Kd.S_drew)); exact HO_338001.out) hb); have n6_ := Aside0.mk (Kd.R_below (uR HO_338002) hb); have n7_ := Aside0.mk (blk_below (g := gb268) (o := .cells #[.int .i64 a0_0, .slice A0_1 l0_1.length c0_1] 38 (0, 0)) (uK BK268) hb); have n8_ := Aside0.mk (blk_below (g := gb285) (o := .cells #[.int .i64 t277, .slice Ao29 t278.length co29, .slice Ao30 t281.length co30] 29 (0, 0)) (uK BK285) hb); have n9_ := Aside0.mk (blk_below (g := gb290) (o := .cells #[.int .i64 t286, .slice Ao37 t314.length co37] 41 (0, 0)) (uK BK290) hb); have n10_ := Aside0.mk (blk_below (g := gb302) (o := .cells #[.int .i64 t294, .slice Ao47 t319.length co47, .slice Ao48 t320.length co48] 29 (0, 0)) (uK BK302) hb); have n11_ := Aside0.mk (blk_below (g := gb337) (o := .cells #[.int .i64 t329, .slice Ao145 t330.length co145, .slice Ao146 t333.length co146] 29 (0, 0)) (uK BK337) hb); have n12_ := Aside0.mk (below_step (by first | exact uB HB | exact uS HB (gC GE268 (gC GE285 (gC GE290 (gC GE302 (gC GE337 gN)))))) hb); clear HO_286001 HO_286002 HO_291001 HO_303001 HO_303002 HO_338001 HO_338002 BK268 BK285 BK290 BK302 BK337 HB; have HO_286001 := n0_; have HO_286002 := n1_; have HO_291001 := n2_; have HO_303001 := n3_; have HO_303002 := n4_; have HO_338001 := n5_; have HO_338002 := n6_; have BK268 := n7_; have BK285 := n8_; have BK290 := n9_; have BK302 := n10_; have BK337 := n11_; have HB := n12_; clear n0_ n1_ n2_ n3_ n4_ n5_ n6_ n7_ n8_ n9_ n10_ n11_ n12_; (try clear hb); (try clear hb2); (try clear hk); (try clear hi)))
                  go_ret
                  exact ⟨by first | rfl | (simp [errW_none, errW_some] <;> rfl) | (simp [*, errW_none, errW_some] <;> rfl), by first | exact uB HB | exact uS HB (gC GE268 (gC GE285 (gC GE290 (gC GE302 (gC GE337 gN)))))⟩
                 ·
                  rw [if_neg c178] at H
                  have c178b0 : (t339 == t318) = false := beq_eq_false_iff_ne.mpr c178
                  have c178b1 : (t339 != t318) = true := bne_iff_ne.mpr c178
                  obtain rfl := Option.some.inj H
                  have hnb185 := NB302_268.out
                  have hnc185 := NB268_302.out
                  have hnb186 := NB302_285.out
                  have hnc186 := NB285_302.out
                  have hnb187 := NB302_290.out
                  have hnc187 := NB290_302.out
                  have hnb188 := NB302_337.out
                  have hnc188 := NB337_302.out
                  have hcz189_0 : wc.cell? ⟨gb302, 0, none⟩ = some (.int .i64 t294) := (blk_cell BK302.out 0).trans rfl
                  have hcz189_1 : wc.cell? ⟨gb302, 1, none⟩ = some (.slice Ao47 t319.length co47) := (blk_cell BK302.out 1).trans rfl
                  have hcz189_2 : wc.cell? ⟨gb302, 2, none⟩ = some (.slice Ao48 t320.length co48) := (blk_cell BK302.out 2).trans rfl
                  have hfz189_0 := blk_frozen BK302.out 0
                  have hfz189_1 := blk_frozen BK302.out 1
                  have hfz189_2 := blk_frozen BK302.out 2
                  go_wp2_with (first | ((with_reducible refine gate_callee (f := 11) rfl ?_); refine goesL_ (some 111) rfl rfl Try.func11 (by kernel_rfl) rfl #[.agg #[.int .i64 t294, .slice Ao47 t319.length co47, .slice Ao48 t320.length co48], .int .i64 1] rfl (by (try simp only [List.map_toArray, List.map_cons, List.map_nil]); first | done | rfl | (simp only [List.length_drop, List.length_take]; rfl)) ?_; (with_reducible refine (laws_heldSystem.calls kj122 t294 _ _ t319 _ _ t320 1 t339 _ ?side1 ?side2 ?side3 ?side4 A170.out).mono ?_); (case side1 => repeat (first | exact (Kd.S_reads' HO_303001.out).2.2 | (with_reducible refine Kd.C_alloc ?_ _) | (with_reducible refine Kd.C_drewN ?_ _) | (with_reducible refine Kd.C_drew ?_))); (case side2 => exact (Kd.S_reads' HO_303001.out).2.1); (case side3 => exact uD HO_303002); (case side4 => exact (Kd.R_reads' HO_303002.out).2.1); rintro e w190 ⟨rfl, hb⟩; refine ⟨_, rfl, ?_⟩; have n0_ := Aside0.mk (Kd.S_below (by (with_reducible repeat (first | apply Kd.S_alloc | apply Kd.S_drewN | apply Kd.S_drew)); exact HO_286001.out) hb); have n1_ := Aside0.mk (Kd.R_below (uR HO_286002) hb); have n2_ := Aside0.mk (Kd.S_below (by (with_reducible repeat (first | apply Kd.S_alloc | apply Kd.S_drewN | apply Kd.S_drew)); exact HO_291001.out) hb); have n3_ := Aside0.mk (Kd.S_below (by (with_reducible repeat (first | apply Kd.S_alloc | apply Kd.S_drewN | apply Kd.S_drew)); exact HO_303001.out) hb); have n4_ := Aside0.mk (Kd.R_below (uR HO_303002) hb); have n5_ := Aside0.mk (Kd.S_below (by (with_reducible repeat (first | apply Kd.S_alloc | apply Kd.S_drewN | apply Kd.S_drew)); exact HO_338001.out) hb); have n6_ := Aside0.mk (Kd.R_below (uR HO_338002) hb); have n7_ := Aside0.mk (blk_below (g := gb268) (o := .cells #[.int .i64 a0_0, .slice A0_1 l0_1.length c0_1] 38 (0, 0)) (uK BK268) hb); have n8_ := Aside0.mk (blk_below (g := gb285) (o := .cells #[.int .i64 t277, .slice Ao29 t278.length co29, .slice Ao30 t281.length co30] 29 (0, 0)) (uK BK285) hb); have n9_ := Aside0.mk (blk_below (g := gb290) (o := .cells #[.int .i64 t286, .slice Ao37 t314.length co37] 41 (0, 0)) (uK BK290) hb); have n10_ := Aside0.mk (blk_below (g := gb302) (o := .cells #[.int .i64 t294, .slice Ao47 t319.length co47, .slice Ao48 t320.length co48] 29 (0, 0)) (uK BK302) hb); have n11_ := Aside0.mk (blk_below (g := gb337) (o := .cells #[.int .i64 t329, .slice Ao145 t330.length co145, .slice Ao146 t333.length co146] 29 (0, 0)) (uK BK337) hb); have n12_ := Aside0.mk (below_step (by first | exact uB HB | exact uS HB (gC GE268 (gC GE285 (gC GE290 (gC GE302 (gC GE337 gN)))))) hb); clear HO_286001 HO_286002 HO_291001 HO_303001 HO_303002 HO_338001 HO_338002 BK268 BK285 BK290 BK302 BK337 HB; have HO_286001 := n0_; have HO_286002 := n1_; have HO_291001 := n2_; have HO_303001 := n3_; have HO_303002 := n4_; have HO_338001 := n5_; have HO_338002 := n6_; have BK268 := n7_; have BK285 := n8_; have BK290 := n9_; have BK302 := n10_; have BK337 := n11_; have HB := n12_; clear n0_ n1_ n2_ n3_ n4_ n5_ n6_ n7_ n8_ n9_ n10_ n11_ n12_; (try clear hb); (try clear hb2); (try clear hk); (try clear hi)))
                  go_ret
                  exact ⟨by first | rfl | (simp [errW_none, errW_some] <;> rfl) | (simp [*, errW_none, errW_some] <;> rfl), by first | exact uB HB | exact uS HB (gC GE268 (gC GE285 (gC GE290 (gC GE302 (gC GE337 gN)))))⟩
            ·
             rw [if_neg c119] at H
             have c119b0 : (t321 == t318) = false := beq_eq_false_iff_ne.mpr c119
             have c119b1 : (t321 != t318) = true := bne_iff_ne.mpr c119
             obtain rfl := Option.some.inj H
             have hnb191 := NB302_268.out
             have hnc191 := NB268_302.out
             have hnb192 := NB302_285.out
             have hnc192 := NB285_302.out
             have hnb193 := NB302_290.out
             have hnc193 := NB290_302.out
             have hcz194_0 : wc.cell? ⟨gb302, 0, none⟩ = some (.int .i64 t294) := (blk_cell BK302.out 0).trans rfl
             have hcz194_1 : wc.cell? ⟨gb302, 1, none⟩ = some (.slice Ao47 t295.length co47) := (blk_cell BK302.out 1).trans rfl
             have hcz194_2 : wc.cell? ⟨gb302, 2, none⟩ = some (.slice Ao48 t298.length co48) := (blk_cell BK302.out 2).trans rfl
             have hfz194_0 := blk_frozen BK302.out 0
             have hfz194_1 := blk_frozen BK302.out 1
             have hfz194_2 := blk_frozen BK302.out 2
             go_wp2_with (first | ((with_reducible refine gate_callee (f := 10) rfl ?_); refine goesL_ (some 83) rfl rfl Try.func10 (by kernel_rfl) rfl #[.agg #[.int .i64 t294, .slice Ao47 t295.length co47, .slice Ao48 t298.length co48], .int .i64 1] rfl (by (try simp only [List.map_toArray, List.map_cons, List.map_nil]); first | done | rfl | (simp only [List.length_drop, List.length_take]; rfl)) ?_; (with_reducible refine (laws_markSystem.callsT kj75 t294 (fun k_ => n2 ≤ k_) (.slice Ao47 t295.length co47) t295 (fun k_ => some k_ = (.slice Ao48 t298.length co48 : Value).ownBlock) (.slice Ao48 t298.length co48) t298 1 t318 t319 t320 w _ ?side1 ?side2 ?side3 A109.out).mono ?_); (case side1 => first | exact uB HB | exact uS HB (gC GE268 (gC GE285 (gC GE290 (gC GE302 gN))))); (case side2 => exact HO_303001.out); (case side3 => exact Kd.R_tight rfl HO_303002.out); rintro e w195 ⟨rfl, hy0, hy1, hb, hkp⟩; refine ⟨_, rfl, ?_⟩; have n0_ := Aside0.mk (Kd.S_mono (ok' := fun k_ => k_ < n1 ∧ k_ < n2) (Kd.S_kept (Kd.S_apart' HO_286001.out (Kd.R_typed HO_303002.out) (by decide)) hkp (fun k_ hk_ hs_ => Or.elim hs_ (fun e_ => absurd e_.1 (Nat.not_le.2 hk_.1.2)) (fun e_ => hk_.2 e_))) (fun k_ hk_ => hk_.1)); have n1_ := Aside0.mk (Kd.R_mono (ok' := fun k_ => some k_ ≠ (.slice Ao48 t298.length co48 : Value).ownBlock) (so_Rk2 rfl HO_286002.out hkp (by decide) (fun _ h_ => h_)) (fun k_ hk_ => hk_.1.1)); have n2_ := Aside0.mk (Kd.S_mono (ok' := fun k_ => n1 ≤ k_ ∧ k_ < n2) (Kd.S_kept (Kd.S_apart' HO_291001.out (Kd.R_typed HO_303002.out) (by decide)) hkp (fun k_ hk_ hs_ => Or.elim hs_ (fun e_ => absurd e_.1 (Nat.not_le.2 hk_.1.2)) (fun e_ => hk_.2 e_))) (fun k_ hk_ => hk_.1)); have n3_ := Aside0.mk hy0; have n4_ := Aside0.mk (Kd.R_reok rfl hy1 (fun k_ e_ => HO_303002.out.1 k_ e_)); have n5_ := Aside0.mk (blk_kept (uK BK268) hkp (fun hs_ => Or.elim hs_ (fun e_ => so_ne e_.2 (uK BK268) (by decide)) (fun e_ => (fun e_ => (Kd.R_ne HO_303002.out BK268.out (by decide)) e_) e_))); have n6_ := Aside0.mk (blk_kept (uK BK285) hkp (fun hs_ => Or.elim hs_ (fun e_ => so_ne e_.2 (uK BK285) (by decide)) (fun e_ => (fun e_ => (Kd.R_ne HO_303002.out BK285.out (by decide)) e_) e_))); have n7_ := Aside0.mk (blk_kept (uK BK290) hkp (fun hs_ => Or.elim hs_ (fun e_ => so_ne e_.2 (uK BK290) (by decide)) (fun e_ => (fun e_ => (Kd.R_ne HO_303002.out BK290.out (by decide)) e_) e_))); have n8_ := Aside0.mk (blk_kept (uK BK302) hkp (fun hs_ => Or.elim hs_ (fun e_ => so_ne e_.2 (uK BK302) (by decide)) (fun e_ => (fun e_ => (Kd.R_ne HO_303002.out BK302.out (by decide)) e_) e_))); have n9_ := Aside0.mk (hb); clear HO_286001 HO_286002 HO_291001 HO_303001 HO_303002 BK268 BK285 BK290 BK302 HB; have HO_286001 := n0_; have HO_286002 := n1_; have HO_291001 := n2_; have HO_303001 := n3_; have HO_303002 := n4_; have BK268 := n5_; have BK285 := n6_; have BK290 := n7_; have BK302 := n8_; have HB := n9_; clear n0_ n1_ n2_ n3_ n4_ n5_ n6_ n7_ n8_ n9_; (try clear hb); (try clear hkp); (try clear hy0); (try clear hy1); have hcz196_0 : w195.cell? ⟨gb302, 0, none⟩ = some (.int .i64 t294) := (blk_cell BK302.out 0).trans rfl; have hcz196_1 : w195.cell? ⟨gb302, 1, none⟩ = some (.slice Ao47 t295.length co47) := (blk_cell BK302.out 1).trans rfl; have hcz196_2 : w195.cell? ⟨gb302, 2, none⟩ = some (.slice Ao48 t298.length co48) := (blk_cell BK302.out 2).trans rfl; have hfz196_0 := blk_frozen BK302.out 0; have hfz196_1 := blk_frozen BK302.out 1; have hfz196_2 := blk_frozen BK302.out 2) | ((with_reducible refine gate_callee (f := 11) rfl ?_); refine goesL_ (some 86) rfl rfl Try.func11 (by kernel_rfl) rfl #[.agg #[.int .i64 t294, .slice Ao47 t319.length co47, .slice Ao48 t320.length co48], .int .i64 1] rfl (by (try simp only [List.map_toArray, List.map_cons, List.map_nil]); first | done | (rw [show t319.length = t295.length from (Kd.S_reads' HO_303001.out).1.symm, show t320.length = t298.length from (Kd.R_reads' HO_303002.out).1.symm] <;> rfl) | rfl | (simp only [List.length_drop, List.length_take]; rfl)) ?_; (with_reducible refine (laws_heldSystem.calls kj75 t294 _ _ t319 _ _ t320 1 t321 _ ?side1 ?side2 ?side3 ?side4 A110.out).mono ?_); (case side1 => repeat (first | exact (Kd.S_reads' HO_303001.out).2.2 | (with_reducible refine Kd.C_alloc ?_ _) | (with_reducible refine Kd.C_drewN ?_ _) | (with_reducible refine Kd.C_drew ?_))); (case side2 => rw [show t319.length = t295.length from (Kd.S_reads' HO_303001.out).1.symm]; exact (Kd.S_reads' HO_303001.out).2.1); (case side3 => exact uD HO_303002); (case side4 => rw [show t320.length = t298.length from (Kd.R_reads' HO_303002.out).1.symm]; exact (Kd.R_reads' HO_303002.out).2.1); rintro e w197 ⟨rfl, hb⟩; refine ⟨_, rfl, ?_⟩; have n0_ := Aside0.mk (Kd.S_below (by (with_reducible repeat (first | apply Kd.S_alloc | apply Kd.S_drewN | apply Kd.S_drew)); exact HO_286001.out) hb); have n1_ := Aside0.mk (Kd.R_below (uR HO_286002) hb); have n2_ := Aside0.mk (Kd.S_below (by (with_reducible repeat (first | apply Kd.S_alloc | apply Kd.S_drewN | apply Kd.S_drew)); exact HO_291001.out) hb); have n3_ := Aside0.mk (Kd.S_below (by (with_reducible repeat (first | apply Kd.S_alloc | apply Kd.S_drewN | apply Kd.S_drew)); exact HO_303001.out) hb); have n4_ := Aside0.mk (Kd.R_below (uR HO_303002) hb); have n5_ := Aside0.mk (blk_below (g := gb268) (o := .cells #[.int .i64 a0_0, .slice A0_1 l0_1.length c0_1] 38 (0, 0)) (uK BK268) hb); have n6_ := Aside0.mk (blk_below (g := gb285) (o := .cells #[.int .i64 t277, .slice Ao29 t278.length co29, .slice Ao30 t281.length co30] 29 (0, 0)) (uK BK285) hb); have n7_ := Aside0.mk (blk_below (g := gb290) (o := .cells #[.int .i64 t286, .slice Ao37 t314.length co37] 41 (0, 0)) (uK BK290) hb); have n8_ := Aside0.mk (blk_below (g := gb302) (o := .cells #[.int .i64 t294, .slice Ao47 t295.length co47, .slice Ao48 t298.length co48] 29 (0, 0)) (uK BK302) hb); have n9_ := Aside0.mk (below_step (by first | exact uB HB | exact uS HB (gC GE268 (gC GE285 (gC GE290 (gC GE302 gN))))) hb); clear HO_286001 HO_286002 HO_291001 HO_303001 HO_303002 BK268 BK285 BK290 BK302 HB; have HO_286001 := n0_; have HO_286002 := n1_; have HO_291001 := n2_; have HO_303001 := n3_; have HO_303002 := n4_; have BK268 := n5_; have BK285 := n6_; have BK290 := n7_; have BK302 := n8_; have HB := n9_; clear n0_ n1_ n2_ n3_ n4_ n5_ n6_ n7_ n8_ n9_; (try clear hb); (try clear hb2); (try clear hk); (try clear hi)))
             go_ret
             exact ⟨by first | rfl | (simp [errW_none, errW_some] <;> rfl) | (simp [*, errW_none, errW_some] <;> rfl), by first | exact uB HB | exact uS HB (gC GE268 (gC GE285 (gC GE290 (gC GE302 gN))))⟩
       ·
        replace c73 := Bool.eq_false_iff.mpr c73
        subst c73
        have H1 : (some false) = some r := by rw [if_neg (show ¬ (false = true) by decide)] at H; exact H
        clear H
        have H := H1
        clear H1
        obtain rfl := Option.some.inj H
        try go_wp2
        have n0_ := Aside0.mk (Kd.R_drew HO_9.out)
        have n1_ := Aside0.mk (Kd.S_drew HO_286001.out)
        have n2_ := Aside0.mk (Kd.R_drew HO_286002.out)
        have n3_ := Aside0.mk (Kd.S_drew HO_291001.out)
        have n4_ := Aside0.mk (Kd.S_drew HO_303001.out)
        have n5_ := Aside0.mk (Kd.R_drew HO_303002.out)
        have n6_ := Aside0.mk (blk_drew BK268.out)
        have n7_ := Aside0.mk (blk_drew BK285.out)
        have n8_ := Aside0.mk (blk_drew BK290.out)
        have n9_ := Aside0.mk (blk_drew BK302.out)
        have n10_ := Aside0.mk (below_drew1 HB.out)
        clear HO_9
        clear HO_286001
        clear HO_286002
        clear HO_291001
        clear HO_303001
        clear HO_303002
        clear BK268
        clear BK285
        clear BK290
        clear BK302
        clear HB
        have HO_9 := n0_
        have HO_286001 := n1_
        have HO_286002 := n2_
        have HO_291001 := n3_
        have HO_303001 := n4_
        have HO_303002 := n5_
        have BK268 := n6_
        have BK285 := n7_
        have BK290 := n8_
        have BK302 := n9_
        have HB := n10_
        clear n0_ n1_ n2_ n3_ n4_ n5_ n6_ n7_ n8_ n9_ n10_
        refine start_ (n := 5) (S := fun w' => w'.cell? ⟨gb290, 0, none⟩ = some (.int .i64 t286) ∧ w'.cell? ⟨gb290, 1, none⟩ = some (.slice Ao37 t287.length co37) ∧ w'.cell? ⟨gb268, 0, none⟩ = some (.int .i64 a0_0) ∧ w'.cell? ⟨gb268, 1, none⟩ = some (.slice A0_1 l0_1.length c0_1)) (ds := []) #[false, false, false, false, false] (by kernel_rfl) rfl rfl ⟨(blk_cell BK290.out 0).trans rfl, (blk_cell BK290.out 1).trans rfl, (blk_cell BK268.out 0).trans rfl, (blk_cell BK268.out 1).trans rfl⟩ (fun hHeld => ?_)
        generalize wc.drew = w198 at HO_9 HO_286001 HO_286002 HO_291001 HO_303001 HO_303002 BK268 BK285 BK290 BK302 HB hHeld ⊢
        refine take_ (i := 0) (N := some 52) (v := ?_) (a' := ?_) #[true, false, false, false, false] rfl rfl (by kernel_rfl) (fun _ _ _ h => h) (Or.inl ⟨by rfl, ?_⟩) hHeld ?_ ?_
        rotate_left
        ·
         rintro w' ⟨s0, s1, s2, s3⟩
         go_simp
         with_reducible rfl
        rotate_left
        ·
         simp only [Act.put, List.setIfInBounds_toArray, List.set_cons_zero, List.set_cons_succ, i64_w, i32_w]
         rfl
        refine take_ (i := 1) (N := some 53) (v := ?_) (a' := ?_) #[true, true, false, false, false] rfl rfl (by kernel_rfl) (fun _ _ _ h => h) (Or.inl ⟨by rfl, ?_⟩) hHeld ?_ ?_
        rotate_left
        ·
         rintro w' ⟨s0, s1, s2, s3⟩
         go_simp
         with_reducible rfl
        rotate_left
        ·
         simp only [Act.put, List.setIfInBounds_toArray, List.set_cons_zero, List.set_cons_succ, i64_w, i32_w]
         rfl
        refine one_ (i := 2) (N := some 54) #[true, true, true, false, false] rfl rfl (by kernel_rfl) (by decide) (fun K hK => ?_)
        refine goes_ Try.func14 (by kernel_rfl) rfl #[.agg #[.int .i64 a0_0, .slice A0_1 l0_1.length c0_1]] (by rfl) rfl rfl (by (try simp only [List.map_toArray, List.map_cons, List.map_nil]); first | done | rfl | (simp only [List.length_drop, List.length_take]; rfl)) ?_
        with_reducible refine (laws_toHyper.calls kj15 a0_0 _ _ l0_1 t304 t305 _ ?side1 ?side2 A68.out).mono ?_
        (case side1 => exact uC HR0_1 HB)
        (case side2 => exact HC0_1.out)
        rintro e w199 ⟨v306, rfl, ho0, hb⟩
        refine ⟨_, rfl, ?_⟩
        have n0_ := Aside0.mk (Kd.R_below (uR HO_9) hb)
        have n1_ := Aside0.mk (Kd.S_below (by (with_reducible repeat (first | apply Kd.S_alloc | apply Kd.S_drewN | apply Kd.S_drew)); exact HO_286001.out) hb)
        have n2_ := Aside0.mk (Kd.R_below (uR HO_286002) hb)
        have n3_ := Aside0.mk (Kd.S_below (by (with_reducible repeat (first | apply Kd.S_alloc | apply Kd.S_drewN | apply Kd.S_drew)); exact HO_291001.out) hb)
        have n4_ := Aside0.mk (Kd.S_below (by (with_reducible repeat (first | apply Kd.S_alloc | apply Kd.S_drewN | apply Kd.S_drew)); exact HO_303001.out) hb)
        have n5_ := Aside0.mk (Kd.R_below (uR HO_303002) hb)
        have n6_ := Aside0.mk (Kd.S_lower (Kd.S_new' ho0 (Kd.S_lt (by (with_reducible repeat (first | apply Kd.S_alloc | apply Kd.S_drewN | apply Kd.S_drew)); exact HO_291001.out))) (below_size (by first | exact uB HB | exact uS HB (gC GE268 (gC GE285 (gC GE290 (gC GE302 gN)))))))
        have n7_ := Aside0.mk (blk_below (g := gb268) (o := .cells #[.int .i64 a0_0, .slice A0_1 l0_1.length c0_1] 38 (0, 0)) (uK BK268) hb)
        have n8_ := Aside0.mk (blk_below (g := gb285) (o := .cells #[.int .i64 t277, .slice Ao29 t278.length co29, .slice Ao30 t281.length co30] 29 (0, 0)) (uK BK285) hb)
        have n9_ := Aside0.mk (blk_below (g := gb290) (o := .cells #[.int .i64 t286, .slice Ao37 t287.length co37] 41 (0, 0)) (uK BK290) hb)
        have n10_ := Aside0.mk (blk_below (g := gb302) (o := .cells #[.int .i64 t294, .slice Ao47 t295.length co47, .slice Ao48 t298.length co48] 29 (0, 0)) (uK BK302) hb)
        have n11_ := Aside0.mk (below_step (by first | exact uB HB | exact uS HB (gC GE268 (gC GE285 (gC GE290 (gC GE302 gN))))) hb)
        clear HO_9
        clear HO_286001
        clear HO_286002
        clear HO_291001
        clear HO_303001
        clear HO_303002
        clear BK268
        clear BK285
        clear BK290
        clear BK302
        clear HB
        have HO_9 := n0_
        have HO_286001 := n1_
        have HO_286002 := n2_
        have HO_291001 := n3_
        have HO_303001 := n4_
        have HO_303002 := n5_
        have HO307 := n6_
        have BK268 := n7_
        have BK285 := n8_
        have BK290 := n9_
        have BK302 := n10_
        have HB := n11_
        clear n0_ n1_ n2_ n3_ n4_ n5_ n6_ n7_ n8_ n9_ n10_ n11_
        (try clear hb)
        (try clear hb2)
        (try clear hk)
        (try clear hi)
        (try clear ho0)
        obtain ⟨Ao200, co200, eo200⟩ := Kd.S_slice HO307.out
        (first | subst eo200 | (injection eo200 with f1_ f2_ f3_; have f4_ := f1_.symm; have f5_ := f3_.symm; clear f1_ f2_ f3_; subst f4_; subst f5_))
        refine hK.out _ _ ⟨(blk_cell BK290.out 0).trans rfl, (blk_cell BK290.out 1).trans rfl, (blk_cell BK268.out 0).trans rfl, (blk_cell BK268.out 1).trans rfl⟩ (fun hHeld => ?_)
        clear hK K
        refine norm_ (a' := ?_) ?_ ?_
        rotate_left
        ·
         show Act.put _ (some 54) _ = _
         simp only [Act.put, List.setIfInBounds_toArray, List.set_cons_zero, List.set_cons_succ, i64_w, i32_w]
         rfl
        refine one_ (i := 3) (N := some 55) #[true, true, true, true, false] rfl rfl (by kernel_rfl) (by decide) (fun K hK => ?_)
        refine goes_ Try.func17 (by kernel_rfl) rfl #[.agg #[.int .i64 t286, .slice Ao37 t287.length co37], .agg #[.int .i64 t304, .slice Ao200 t305.length co200]] (by rfl) rfl rfl (by (try simp only [List.map_toArray, List.map_cons, List.map_nil]); first | done | rfl | (simp only [List.length_drop, List.length_take]; rfl)) ?_
        with_reducible refine (laws_eqHyper.calls kj15 t286 _ _ t287 t304 _ _ t305 true _ ?side1 ?side2 ?side3 ?side4 A69.out).mono ?_
        (case side1 => repeat (first | exact (Kd.S_reads' HO_291001.out).2.2 | (with_reducible refine Kd.C_alloc ?_ _) | (with_reducible refine Kd.C_drewN ?_ _) | (with_reducible refine Kd.C_drew ?_)))
        (case side2 => exact (Kd.S_reads' HO_291001.out).2.1)
        (case side3 => repeat (first | exact (Kd.S_reads' HO307.out).2.2 | (with_reducible refine Kd.C_alloc ?_ _) | (with_reducible refine Kd.C_drewN ?_ _) | (with_reducible refine Kd.C_drew ?_)))
        (case side4 => exact (Kd.S_reads' HO307.out).2.1)
        rintro e w201 ⟨rfl, hb⟩
        refine ⟨_, rfl, ?_⟩
        have n0_ := Aside0.mk (Kd.R_below (uR HO_9) hb)
        have n1_ := Aside0.mk (Kd.S_below (by (with_reducible repeat (first | apply Kd.S_alloc | apply Kd.S_drewN | apply Kd.S_drew)); exact HO_286001.out) hb)
        have n2_ := Aside0.mk (Kd.R_below (uR HO_286002) hb)
        have n3_ := Aside0.mk (Kd.S_below (by (with_reducible repeat (first | apply Kd.S_alloc | apply Kd.S_drewN | apply Kd.S_drew)); exact HO_291001.out) hb)
        have n4_ := Aside0.mk (Kd.S_below (by (with_reducible repeat (first | apply Kd.S_alloc | apply Kd.S_drewN | apply Kd.S_drew)); exact HO_303001.out) hb)
        have n5_ := Aside0.mk (Kd.R_below (uR HO_303002) hb)
        have n6_ := Aside0.mk (Kd.S_below (by (with_reducible repeat (first | apply Kd.S_alloc | apply Kd.S_drewN | apply Kd.S_drew)); exact HO307.out) hb)
        have n7_ := Aside0.mk (blk_below (g := gb268) (o := .cells #[.int .i64 a0_0, .slice A0_1 l0_1.length c0_1] 38 (0, 0)) (uK BK268) hb)
        have n8_ := Aside0.mk (blk_below (g := gb285) (o := .cells #[.int .i64 t277, .slice Ao29 t278.length co29, .slice Ao30 t281.length co30] 29 (0, 0)) (uK BK285) hb)
        have n9_ := Aside0.mk (blk_below (g := gb290) (o := .cells #[.int .i64 t286, .slice Ao37 t287.length co37] 41 (0, 0)) (uK BK290) hb)
        have n10_ := Aside0.mk (blk_below (g := gb302) (o := .cells #[.int .i64 t294, .slice Ao47 t295.length co47, .slice Ao48 t298.length co48] 29 (0, 0)) (uK BK302) hb)
        have n11_ := Aside0.mk (below_step (by first | exact uB HB | exact uS HB (gC GE268 (gC GE285 (gC GE290 (gC GE302 gN))))) hb)
        clear HO_9
        clear HO_286001
        clear HO_286002
        clear HO_291001
        clear HO_303001
        clear HO_303002
        clear HO307
        clear BK268
        clear BK285
        clear BK290
        clear BK302
        clear HB
        have HO_9 := n0_
        have HO_286001 := n1_
        have HO_286002 := n2_
        have HO_291001 := n3_
        have HO_303001 := n4_
        have HO_303002 := n5_
        have HO307 := n6_
        have BK268 := n7_
        have BK285 := n8_
        have BK290 := n9_
        have BK302 := n10_
        have HB := n11_
        clear n0_ n1_ n2_ n3_ n4_ n5_ n6_ n7_ n8_ n9_ n10_ n11_
        (try clear hb)
        (try clear hb2)
        (try clear hk)
        (try clear hi)
        refine hK.out _ _ ⟨(blk_cell BK290.out 0).trans rfl, (blk_cell BK290.out 1).trans rfl, (blk_cell BK268.out 0).trans rfl, (blk_cell BK268.out 1).trans rfl⟩ (fun hHeld => ?_)
        clear hK K
        refine norm_ (a' := ?_) ?_ ?_
        rotate_left
        ·
         show Act.put _ (some 55) _ = _
         simp only [Act.put, List.setIfInBounds_toArray, List.set_cons_zero, List.set_cons_succ, i64_w, i32_w]
         rfl
        refine pure_ (i := 4) (N := some 56) (v := ?_) (a' := ?_) #[true, true, true, true, true] rfl rfl (by kernel_rfl) (fun _ _ _ h => h) (Or.inl ⟨by rfl, ?_⟩) ?_ ?_
        rotate_left
        ·
         intro w'
         go_simp
         with_reducible rfl
        rotate_left
        ·
         simp only [Act.put, List.setIfInBounds_toArray, List.set_cons_zero, List.set_cons_succ, i64_w, i32_w]
         rfl
        refine done_ (by kernel_rfl) ?_
        try go_wp2_with (first | ((with_reducible refine gate_callee (f := 15) rfl ?_); refine goesL_ (some 59) rfl rfl Try.func15 (by kernel_rfl) rfl #[.slice A1 l1.length c1] rfl (by (try simp only [List.map_toArray, List.map_cons, List.map_nil]); first | done | rfl | (simp only [List.length_drop, List.length_take]; rfl)) ?_; (with_reducible refine (laws_toBoolS.calls kj15 _ _ l1 t309 _ ?side1 ?side2 A71.out).mono ?_); (case side1 => exact uC HR1 HB); (case side2 => exact HC1.out); rintro e w202 ⟨v310, rfl, ho0, hb⟩; refine ⟨_, rfl, ?_⟩; have n0_ := Aside0.mk (Kd.R_elder' (uR HO_9) (Kd.R_base ho0) hb); have n1_ := Aside0.mk (Kd.S_below (by (with_reducible repeat (first | apply Kd.S_alloc | apply Kd.S_drewN | apply Kd.S_drew)); exact HO_286001.out) hb); have n2_ := Aside0.mk (Kd.R_elder' (uR HO_286002) (Kd.R_base ho0) hb); have n3_ := Aside0.mk (Kd.S_below (by (with_reducible repeat (first | apply Kd.S_alloc | apply Kd.S_drewN | apply Kd.S_drew)); exact HO_291001.out) hb); have n4_ := Aside0.mk (Kd.S_below (by (with_reducible repeat (first | apply Kd.S_alloc | apply Kd.S_drewN | apply Kd.S_drew)); exact HO_303001.out) hb); have n5_ := Aside0.mk (Kd.R_elder' (uR HO_303002) (Kd.R_base ho0) hb); have n6_ := Aside0.mk (Kd.S_below (by (with_reducible repeat (first | apply Kd.S_alloc | apply Kd.S_drewN | apply Kd.S_drew)); exact HO307.out) hb); have n7_ := Aside0.mk (Kd.R_lower (Kd.R_new' (Kd.R_new' (Kd.R_new' ho0 (Kd.R_lt (uR HO_9))) (Kd.R_lt (uR HO_286002))) (Kd.R_lt (uR HO_303002))) (below_size (by first | exact uB HB | exact uS HB (gC GE268 (gC GE285 (gC GE290 (gC GE302 gN))))))); have n8_ := Aside0.mk (blk_below (g := gb268) (o := .cells #[.int .i64 a0_0, .slice A0_1 l0_1.length c0_1] 38 (0, 0)) (uK BK268) hb); have n9_ := Aside0.mk (blk_below (g := gb285) (o := .cells #[.int .i64 t277, .slice Ao29 t278.length co29, .slice Ao30 t281.length co30] 29 (0, 0)) (uK BK285) hb); have n10_ := Aside0.mk (blk_below (g := gb290) (o := .cells #[.int .i64 t286, .slice Ao37 t287.length co37] 41 (0, 0)) (uK BK290) hb); have n11_ := Aside0.mk (blk_below (g := gb302) (o := .cells #[.int .i64 t294, .slice Ao47 t295.length co47, .slice Ao48 t298.length co48] 29 (0, 0)) (uK BK302) hb); have n12_ := Aside0.mk (below_step (by first | exact uB HB | exact uS HB (gC GE268 (gC GE285 (gC GE290 (gC GE302 gN))))) hb); clear HO_9 HO_286001 HO_286002 HO_291001 HO_303001 HO_303002 HO307 BK268 BK285 BK290 BK302 HB; have HO_9 := n0_; have HO_286001 := n1_; have HO_286002 := n2_; have HO_291001 := n3_; have HO_303001 := n4_; have HO_303002 := n5_; have HO307 := n6_; have HO311 := n7_; have BK268 := n8_; have BK285 := n9_; have BK290 := n10_; have BK302 := n11_; have HB := n12_; clear n0_ n1_ n2_ n3_ n4_ n5_ n6_ n7_ n8_ n9_ n10_ n11_ n12_; (try clear hb); (try clear hb2); (try clear hk); (try clear hi); (try clear ho0); obtain ⟨Ao203, co203, eo203⟩ := Kd.R_slice HO311.out; subst eo203) | ((with_reducible refine gate_callee (f := 18) rfl ?_); refine goesL_ (some 60) rfl rfl Try.func18 (by kernel_rfl) rfl #[.slice Ao40 t291.length co40, .slice Ao203 t309.length co203] rfl (by (try simp only [List.map_toArray, List.map_cons, List.map_nil]); first | done | rfl | (simp only [List.length_drop, List.length_take]; rfl)) ?_; (with_reducible refine (laws_eqBoolS.calls kj15 _ _ t291 _ _ t309 false _ ?side1 ?side2 ?side3 ?side4 A72.out).mono ?_); (case side1 => exact uD HO_9); (case side2 => exact (Kd.R_reads' HO_9.out).2.1); (case side3 => exact uD HO311); (case side4 => exact (Kd.R_reads' HO311.out).2.1); rintro e w' ⟨rfl, ⟨nd, rfl⟩⟩; refine ⟨_, rfl, ?_⟩))
        go_ret
        exact ⟨by first | rfl | (simp [errW_none, errW_some] <;> rfl) | (simp [*, errW_none, errW_some] <;> rfl), by first | exact uB HB | exact uS HB (gC GE268 (gC GE285 (gC GE290 (gC GE302 gN))))⟩
      ·
       replace c70 := Bool.eq_false_iff.mpr c70
       subst c70
       have H1 : (some false) = some r := by rw [if_neg (show ¬ (false = true) by decide)] at H; exact H
       clear H
       have H := H1
       clear H1
       obtain rfl := Option.some.inj H
       try go_wp2
       have n0_ := Aside0.mk (Kd.R_drew HO_9.out)
       have n1_ := Aside0.mk (Kd.S_drew HO_286001.out)
       have n2_ := Aside0.mk (Kd.R_drew HO_286002.out)
       have n3_ := Aside0.mk (Kd.S_drew HO_291001.out)
       have n4_ := Aside0.mk (Kd.S_drew HO_303001.out)
       have n5_ := Aside0.mk (Kd.R_drew HO_303002.out)
       have n6_ := Aside0.mk (blk_drew BK268.out)
       have n7_ := Aside0.mk (blk_drew BK285.out)
       have n8_ := Aside0.mk (blk_drew BK290.out)
       have n9_ := Aside0.mk (blk_drew BK302.out)
       have n10_ := Aside0.mk (below_drew1 HB.out)
       clear HO_9
       clear HO_286001
       clear HO_286002
       clear HO_291001
       clear HO_303001
       clear HO_303002
       clear BK268
       clear BK285
       clear BK290
       clear BK302
       clear HB
       have HO_9 := n0_
       have HO_286001 := n1_
       have HO_286002 := n2_
       have HO_291001 := n3_
       have HO_303001 := n4_
       have HO_303002 := n5_
       have BK268 := n6_
       have BK285 := n7_
       have BK290 := n8_
       have BK302 := n9_
       have HB := n10_
       clear n0_ n1_ n2_ n3_ n4_ n5_ n6_ n7_ n8_ n9_ n10_
       refine start_ (n := 5) (S := fun w' => w'.cell? ⟨gb290, 0, none⟩ = some (.int .i64 t286) ∧ w'.cell? ⟨gb290, 1, none⟩ = some (.slice Ao37 t287.length co37) ∧ w'.cell? ⟨gb268, 0, none⟩ = some (.int .i64 a0_0) ∧ w'.cell? ⟨gb268, 1, none⟩ = some (.slice A0_1 l0_1.length c0_1)) (ds := []) #[false, false, false, false, false] (by kernel_rfl) rfl rfl ⟨(blk_cell BK290.out 0).trans rfl, (blk_cell BK290.out 1).trans rfl, (blk_cell BK268.out 0).trans rfl, (blk_cell BK268.out 1).trans rfl⟩ (fun hHeld => ?_)
       generalize wc.drew = w204 at HO_9 HO_286001 HO_286002 HO_291001 HO_303001 HO_303002 BK268 BK285 BK290 BK302 HB hHeld ⊢
       refine take_ (i := 0) (N := some 52) (v := ?_) (a' := ?_) #[true, false, false, false, false] rfl rfl (by kernel_rfl) (fun _ _ _ h => h) (Or.inl ⟨by rfl, ?_⟩) hHeld ?_ ?_
       rotate_left
       ·
        rintro w' ⟨s0, s1, s2, s3⟩
        go_simp
        with_reducible rfl
       rotate_left
       ·
        simp only [Act.put, List.setIfInBounds_toArray, List.set_cons_zero, List.set_cons_succ, i64_w, i32_w]
        rfl
       refine take_ (i := 1) (N := some 53) (v := ?_) (a' := ?_) #[true, true, false, false, false] rfl rfl (by kernel_rfl) (fun _ _ _ h => h) (Or.inl ⟨by rfl, ?_⟩) hHeld ?_ ?_
       rotate_left
       ·
        rintro w' ⟨s0, s1, s2, s3⟩
        go_simp
        with_reducible rfl
       rotate_left
       ·
        simp only [Act.put, List.setIfInBounds_toArray, List.set_cons_zero, List.set_cons_succ, i64_w, i32_w]
        rfl
       refine one_ (i := 2) (N := some 54) #[true, true, true, false, false] rfl rfl (by kernel_rfl) (by decide) (fun K hK => ?_)
       refine goes_ Try.func14 (by kernel_rfl) rfl #[.agg #[.int .i64 a0_0, .slice A0_1 l0_1.length c0_1]] (by rfl) rfl rfl (by (try simp only [List.map_toArray, List.map_cons, List.map_nil]); first | done | rfl | (simp only [List.length_drop, List.length_take]; rfl)) ?_
       with_reducible refine (laws_toHyper.calls kj15 a0_0 _ _ l0_1 t304 t305 _ ?side1 ?side2 A68.out).mono ?_
       (case side1 => exact uC HR0_1 HB)
       (case side2 => exact HC0_1.out)
       rintro e w205 ⟨v306, rfl, ho0, hb⟩
       refine ⟨_, rfl, ?_⟩
       have n0_ := Aside0.mk (Kd.R_below (uR HO_9) hb)
       have n1_ := Aside0.mk (Kd.S_below (by (with_reducible repeat (first | apply Kd.S_alloc | apply Kd.S_drewN | apply Kd.S_drew)); exact HO_286001.out) hb)
       have n2_ := Aside0.mk (Kd.R_below (uR HO_286002) hb)
       have n3_ := Aside0.mk (Kd.S_below (by (with_reducible repeat (first | apply Kd.S_alloc | apply Kd.S_drewN | apply Kd.S_drew)); exact HO_291001.out) hb)
       have n4_ := Aside0.mk (Kd.S_below (by (with_reducible repeat (first | apply Kd.S_alloc | apply Kd.S_drewN | apply Kd.S_drew)); exact HO_303001.out) hb)
       have n5_ := Aside0.mk (Kd.R_below (uR HO_303002) hb)
       have n6_ := Aside0.mk (Kd.S_lower (Kd.S_new' ho0 (Kd.S_lt (by (with_reducible repeat (first | apply Kd.S_alloc | apply Kd.S_drewN | apply Kd.S_drew)); exact HO_291001.out))) (below_size (by first | exact uB HB | exact uS HB (gC GE268 (gC GE285 (gC GE290 (gC GE302 gN)))))))
       have n7_ := Aside0.mk (blk_below (g := gb268) (o := .cells #[.int .i64 a0_0, .slice A0_1 l0_1.length c0_1] 38 (0, 0)) (uK BK268) hb)
       have n8_ := Aside0.mk (blk_below (g := gb285) (o := .cells #[.int .i64 t277, .slice Ao29 t278.length co29, .slice Ao30 t281.length co30] 29 (0, 0)) (uK BK285) hb)
       have n9_ := Aside0.mk (blk_below (g := gb290) (o := .cells #[.int .i64 t286, .slice Ao37 t287.length co37] 41 (0, 0)) (uK BK290) hb)
       have n10_ := Aside0.mk (blk_below (g := gb302) (o := .cells #[.int .i64 t294, .slice Ao47 t295.length co47, .slice Ao48 t298.length co48] 29 (0, 0)) (uK BK302) hb)
       have n11_ := Aside0.mk (below_step (by first | exact uB HB | exact uS HB (gC GE268 (gC GE285 (gC GE290 (gC GE302 gN))))) hb)
       clear HO_9
       clear HO_286001
       clear HO_286002
       clear HO_291001
       clear HO_303001
       clear HO_303002
       clear BK268
       clear BK285
       clear BK290
       clear BK302
       clear HB
       have HO_9 := n0_
       have HO_286001 := n1_
       have HO_286002 := n2_
       have HO_291001 := n3_
       have HO_303001 := n4_
       have HO_303002 := n5_
       have HO307 := n6_
       have BK268 := n7_
       have BK285 := n8_
       have BK290 := n9_
       have BK302 := n10_
       have HB := n11_
       clear n0_ n1_ n2_ n3_ n4_ n5_ n6_ n7_ n8_ n9_ n10_ n11_
       (try clear hb)
       (try clear hb2)
       (try clear hk)
       (try clear hi)
       (try clear ho0)
       obtain ⟨Ao206, co206, eo206⟩ := Kd.S_slice HO307.out
       (first | subst eo206 | (injection eo206 with f1_ f2_ f3_; have f4_ := f1_.symm; have f5_ := f3_.symm; clear f1_ f2_ f3_; subst f4_; subst f5_))
       refine hK.out _ _ ⟨(blk_cell BK290.out 0).trans rfl, (blk_cell BK290.out 1).trans rfl, (blk_cell BK268.out 0).trans rfl, (blk_cell BK268.out 1).trans rfl⟩ (fun hHeld => ?_)
       clear hK K
       refine norm_ (a' := ?_) ?_ ?_
       rotate_left
       ·
        show Act.put _ (some 54) _ = _
        simp only [Act.put, List.setIfInBounds_toArray, List.set_cons_zero, List.set_cons_succ, i64_w, i32_w]
        rfl
       refine one_ (i := 3) (N := some 55) #[true, true, true, true, false] rfl rfl (by kernel_rfl) (by decide) (fun K hK => ?_)
       refine goes_ Try.func17 (by kernel_rfl) rfl #[.agg #[.int .i64 t286, .slice Ao37 t287.length co37], .agg #[.int .i64 t304, .slice Ao206 t305.length co206]] (by rfl) rfl rfl (by (try simp only [List.map_toArray, List.map_cons, List.map_nil]); first | done | rfl | (simp only [List.length_drop, List.length_take]; rfl)) ?_
       with_reducible refine (laws_eqHyper.calls kj15 t286 _ _ t287 t304 _ _ t305 false _ ?side1 ?side2 ?side3 ?side4 A69.out).mono ?_
       (case side1 => repeat (first | exact (Kd.S_reads' HO_291001.out).2.2 | (with_reducible refine Kd.C_alloc ?_ _) | (with_reducible refine Kd.C_drewN ?_ _) | (with_reducible refine Kd.C_drew ?_)))
       (case side2 => exact (Kd.S_reads' HO_291001.out).2.1)
       (case side3 => repeat (first | exact (Kd.S_reads' HO307.out).2.2 | (with_reducible refine Kd.C_alloc ?_ _) | (with_reducible refine Kd.C_drewN ?_ _) | (with_reducible refine Kd.C_drew ?_)))
       (case side4 => exact (Kd.S_reads' HO307.out).2.1)
       rintro e w207 ⟨rfl, hb⟩
       refine ⟨_, rfl, ?_⟩
       have n0_ := Aside0.mk (Kd.R_below (uR HO_9) hb)
       have n1_ := Aside0.mk (Kd.S_below (by (with_reducible repeat (first | apply Kd.S_alloc | apply Kd.S_drewN | apply Kd.S_drew)); exact HO_286001.out) hb)
       have n2_ := Aside0.mk (Kd.R_below (uR HO_286002) hb)
       have n3_ := Aside0.mk (Kd.S_below (by (with_reducible repeat (first | apply Kd.S_alloc | apply Kd.S_drewN | apply Kd.S_drew)); exact HO_291001.out) hb)
       have n4_ := Aside0.mk (Kd.S_below (by (with_reducible repeat (first | apply Kd.S_alloc | apply Kd.S_drewN | apply Kd.S_drew)); exact HO_303001.out) hb)
       have n5_ := Aside0.mk (Kd.R_below (uR HO_303002) hb)
       have n6_ := Aside0.mk (Kd.S_below (by (with_reducible repeat (first | apply Kd.S_alloc | apply Kd.S_drewN | apply Kd.S_drew)); exact HO307.out) hb)
       have n7_ := Aside0.mk (blk_below (g := gb268) (o := .cells #[.int .i64 a0_0, .slice A0_1 l0_1.length c0_1] 38 (0, 0)) (uK BK268) hb)
       have n8_ := Aside0.mk (blk_below (g := gb285) (o := .cells #[.int .i64 t277, .slice Ao29 t278.length co29, .slice Ao30 t281.length co30] 29 (0, 0)) (uK BK285) hb)
       have n9_ := Aside0.mk (blk_below (g := gb290) (o := .cells #[.int .i64 t286, .slice Ao37 t287.length co37] 41 (0, 0)) (uK BK290) hb)
       have n10_ := Aside0.mk (blk_below (g := gb302) (o := .cells #[.int .i64 t294, .slice Ao47 t295.length co47, .slice Ao48 t298.length co48] 29 (0, 0)) (uK BK302) hb)
       have n11_ := Aside0.mk (below_step (by first | exact uB HB | exact uS HB (gC GE268 (gC GE285 (gC GE290 (gC GE302 gN))))) hb)
       clear HO_9
       clear HO_286001
       clear HO_286002
       clear HO_291001
       clear HO_303001
       clear HO_303002
       clear HO307
       clear BK268
       clear BK285
       clear BK290
       clear BK302
       clear HB
       have HO_9 := n0_
       have HO_286001 := n1_
       have HO_286002 := n2_
       have HO_291001 := n3_
       have HO_303001 := n4_
       have HO_303002 := n5_
       have HO307 := n6_
       have BK268 := n7_
       have BK285 := n8_
       have BK290 := n9_
       have BK302 := n10_
       have HB := n11_
       clear n0_ n1_ n2_ n3_ n4_ n5_ n6_ n7_ n8_ n9_ n10_ n11_
       (try clear hb)
       (try clear hb2)
       (try clear hk)
       (try clear hi)
       refine hK.out _ _ ⟨(blk_cell BK290.out 0).trans rfl, (blk_cell BK290.out 1).trans rfl, (blk_cell BK268.out 0).trans rfl, (blk_cell BK268.out 1).trans rfl⟩ (fun hHeld => ?_)
       clear hK K
       refine norm_ (a' := ?_) ?_ ?_
       rotate_left
       ·
        show Act.put _ (some 55) _ = _
        simp only [Act.put, List.setIfInBounds_toArray, List.set_cons_zero, List.set_cons_succ, i64_w, i32_w]
        rfl
       refine pure_ (i := 4) (N := some 56) (v := ?_) (a' := ?_) #[true, true, true, true, true] rfl rfl (by kernel_rfl) (fun _ _ _ h => h) (Or.inl ⟨by rfl, ?_⟩) ?_ ?_
       rotate_left
       ·
        intro w'
        go_simp
        with_reducible rfl
       rotate_left
       ·
        simp only [Act.put, List.setIfInBounds_toArray, List.set_cons_zero, List.set_cons_succ, i64_w, i32_w]
        rfl
       refine done_ (by kernel_rfl) ?_
       try go_wp2
       go_ret
       exact ⟨by first | rfl | (simp [errW_none, errW_some] <;> rfl) | (simp [*, errW_none, errW_some] <;> rfl), by first | exact uB HB | exact uS HB (gC GE268 (gC GE285 (gC GE290 (gC GE302 gN))))⟩

end Go.Proofs.Ytgbpbhplehmedaa.PFnExactSystemOf
