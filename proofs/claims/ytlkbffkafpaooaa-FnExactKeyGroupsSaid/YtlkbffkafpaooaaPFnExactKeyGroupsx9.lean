-- made by wip/tools/myprint.py over the kit's print, for this claim
import Derived.Test.YtlkbffkafpaooaaPFnExactKeyGroupsx0
import Derived.Test.YtlkbffkafpaooaaPFnExactKeyGroupsx1
import Derived.Test.YtlkbffkafpaooaaPFnExactKeyGroupsx5
import Derived.Test.YtlkbffkafpaooaaPFnExactKeyGroupsx8
namespace Go.Proofs.Ytlkbffkafpaooaa.PFnExactKeyGroups
open Go.RowKit Go.Proofs.YtlkbffkafpaooaaW.PrintWords Go.Proofs.YtlkbffkafpaooaaW.PrintLast Go.Proofs.YtlkbffkafpaooaaW.PrintMore
attribute [local go_sem] max2_int min2_int max_two min_two max_three min_three max_four min_four   -- for this text's walks alone
set_option linter.unusedVariables false
set_option linter.unusedSimpArgs false

/-! ### laws_FnExactKeyGroups: function 8 -/
mutual
def laws_FnExactKeyGroups.j0 : Nat → Int → List ByteArray → Int → List (List Int) → Bool → List ByteArray → List (List Int) → Bool → Bool → Option (Bool)
 | 0, _, _, _, _, _, _, _, _, _ => none
 | k + 1, x0, x1, x2, x8, x9, x10, x11, x12, x48 => if x48 = true then (some false) else ((laws_toStringS.f k x1).bind fun t254 => ((laws_eqStringS.f k x10 t254).bind fun t257 => (if t257 = true then ((laws_markStringS.f k x10 1).bind fun bt258 => (if bt258.1 < 0 then (laws_FnExactKeyGroups.j1 k x0 x1 x2 x8 x9 x11 true) else ((laws_eqIntSS.f k x11 x8).bind fun t260 => (if t260 = true then (laws_FnExactKeyGroups.j1 k x0 x1 x2 x8 x9 x11 (x12 != x9)) else (laws_FnExactKeyGroups.j1 k x0 x1 x2 x8 x9 x11 true))))) else (some false))))
def laws_FnExactKeyGroups.j1 : Nat → Int → List ByteArray → Int → List (List Int) → Bool → List (List Int) → Bool → Option (Bool)
 | 0, _, _, _, _, _, _, _ => none
 | k + 1, x0, x1, x2, x8, x9, x11, x69 => if x69 = true then (some false) else ((laws_markIntSS.f k x11 1).bind fun bt261 => ((laws_heldIntSS.f k bt261.2 1).bind fun t263 => (if t263 < 0 then (some false) else (if t263 = bt261.1 then ((laws_toStringS.f k x1).bind fun t264 => ((impl_KeyGroups.f k x0 t264 x2).bind fun bt267 => ((laws_eqIntSS.f k bt267.1 x8).bind fun t271 => (if t271 = true then (laws_FnExactKeyGroups.j2 k bt261.2 bt261.1 (bt267.2 != x9)) else (laws_FnExactKeyGroups.j2 k bt261.2 bt261.1 true))))) else (some false)))))
def laws_FnExactKeyGroups.j2 : Nat → List (List Int) → Int → Bool → Option (Bool)
 | 0, _, _, _ => none
 | k + 1, x11, x14, x97 => if x97 = true then (some false) else ((laws_heldIntSS.f k x11 1).bind fun t272 => (if t272 < 0 then (some false) else (if t272 = x14 then (some true) else (some false))))
end
def laws_FnExactKeyGroups.f (k : Nat) (a0 : Int) (l1 : List ByteArray) (a2 : Int) : Option (Bool) := (laws_szStringS.f k l1 1048576).bind fun t238 => (if t238 < 0 then (some true) else ((laws_toStringS.f k l1).bind fun t239 => ((spec_KeyGroups.f k a0 t239 a2).bind fun bt242 => ((laws_toStringS.f k l1).bind fun t246 => ((impl_KeyGroups.f k a0 t246 a2).bind fun bt249 => ((laws_eqIntSS.f k bt249.1 bt242.1).bind fun t253 => (if t253 = true then (laws_FnExactKeyGroups.j0 k a0 l1 a2 bt242.1 bt242.2 t246 bt249.1 bt249.2 (bt249.2 != bt242.2)) else (laws_FnExactKeyGroups.j0 k a0 l1 a2 bt242.1 bt242.2 t246 bt249.1 bt249.2 true))))))))
theorem kg_size {w w1 : World} {n : Nat} (_ : Below n w w1) : ∃ q : Nat, q = n := ⟨_, rfl⟩
theorem kg_old {α : Type} {d : Kd α} {e base n : Nat} {ok : Nat → Prop} {W w1 : World} {v : Value} {xs : List α} (h : Kd.N d e W base ok v xs) (hb : Below W.heap.size W w1) (hn : n = W.heap.size) : Kd.N d e w1 base (fun k => ok k ∧ k < n) v xs := by subst hn; exact Kd.N_old h hb
theorem laws_FnExactKeyGroups.mono_l : ∀ k, (∀ y0 y1 y2 y3 y4 y5 y6 y7 y8, LeO (laws_FnExactKeyGroups.j0 k y0 y1 y2 y3 y4 y5 y6 y7 y8) (laws_FnExactKeyGroups.j0 (k + 1) y0 y1 y2 y3 y4 y5 y6 y7 y8)) ∧ (∀ y0 y1 y2 y3 y4 y5 y6, LeO (laws_FnExactKeyGroups.j1 k y0 y1 y2 y3 y4 y5 y6) (laws_FnExactKeyGroups.j1 (k + 1) y0 y1 y2 y3 y4 y5 y6)) ∧ (∀ y0 y1 y2, LeO (laws_FnExactKeyGroups.j2 k y0 y1 y2) (laws_FnExactKeyGroups.j2 (k + 1) y0 y1 y2))
 | 0 => ⟨fun _ _ _ _ _ _ _ _ _ r h => by simp [laws_FnExactKeyGroups.j0] at h, fun _ _ _ _ _ _ _ r h => by simp [laws_FnExactKeyGroups.j1] at h, fun _ _ _ r h => by simp [laws_FnExactKeyGroups.j2] at h⟩
 | k + 1 => by
  obtain ⟨ih0, ih1, ih2⟩ := laws_FnExactKeyGroups.mono_l k
  refine ⟨?_, ?_, ?_⟩
  ·
   intro y0 y1 y2 y3 y4 y5 y6 y7 y8
   unfold laws_FnExactKeyGroups.j0
   repeat' first
   | (with_reducible exact ih0 _ _ _ _ _ _ _ _ _)
   | (with_reducible exact ih1 _ _ _ _ _ _ _)
   | (with_reducible exact ih2 _ _ _)
   | (with_reducible exact impl_KeyGroups.mono _ _ _ _)
   | (with_reducible exact laws_eqIntSS.mono _ _ _)
   | (with_reducible exact laws_eqStringS.mono _ _ _)
   | (with_reducible exact laws_heldIntSS.mono _ _ _)
   | (with_reducible exact laws_markIntSS.mono _ _ _)
   | (with_reducible exact laws_markStringS.mono _ _ _)
   | (with_reducible exact laws_szStringS.mono _ _ _)
   | (with_reducible exact laws_toStringS.mono _ _)
   | (with_reducible exact spec_KeyGroups.mono _ _ _ _)
   | (with_reducible exact LeO.refl _)
   | (with_reducible exact LeO.none _)
   | (with_reducible refine LeO.ite ?_ ?_)
   | (with_reducible refine LeO.bind ?_ (fun _ => ?_))
   | exact ih0 _ _ _ _ _ _ _ _ _
   | exact ih1 _ _ _ _ _ _ _
   | exact ih2 _ _ _
   | exact impl_KeyGroups.mono _ _ _ _
   | exact laws_eqIntSS.mono _ _ _
   | exact laws_eqStringS.mono _ _ _
   | exact laws_heldIntSS.mono _ _ _
   | exact laws_markIntSS.mono _ _ _
   | exact laws_markStringS.mono _ _ _
   | exact laws_szStringS.mono _ _ _
   | exact laws_toStringS.mono _ _
   | exact spec_KeyGroups.mono _ _ _ _
   | exact LeO.none _
   | refine LeO.ite ?_ ?_
   | refine LeO.bind ?_ (fun _ => ?_)
  ·
   intro y0 y1 y2 y3 y4 y5 y6
   unfold laws_FnExactKeyGroups.j1
   repeat' first
   | (with_reducible exact ih0 _ _ _ _ _ _ _ _ _)
   | (with_reducible exact ih1 _ _ _ _ _ _ _)
   | (with_reducible exact ih2 _ _ _)
   | (with_reducible exact impl_KeyGroups.mono _ _ _ _)
   | (with_reducible exact laws_eqIntSS.mono _ _ _)
   | (with_reducible exact laws_eqStringS.mono _ _ _)
   | (with_reducible exact laws_heldIntSS.mono _ _ _)
   | (with_reducible exact laws_markIntSS.mono _ _ _)
   | (with_reducible exact laws_markStringS.mono _ _ _)
   | (with_reducible exact laws_szStringS.mono _ _ _)
   | (with_reducible exact laws_toStringS.mono _ _)
   | (with_reducible exact spec_KeyGroups.mono _ _ _ _)
   | (with_reducible exact LeO.refl _)
   | (with_reducible exact LeO.none _)
   | (with_reducible refine LeO.ite ?_ ?_)
   | (with_reducible refine LeO.bind ?_ (fun _ => ?_))
   | exact ih0 _ _ _ _ _ _ _ _ _
   | exact ih1 _ _ _ _ _ _ _
   | exact ih2 _ _ _
   | exact impl_KeyGroups.mono _ _ _ _
   | exact laws_eqIntSS.mono _ _ _
   | exact laws_eqStringS.mono _ _ _
   | exact laws_heldIntSS.mono _ _ _
   | exact laws_markIntSS.mono _ _ _
   | exact laws_markStringS.mono _ _ _
   | exact laws_szStringS.mono _ _ _
   | exact laws_toStringS.mono _ _
   | exact spec_KeyGroups.mono _ _ _ _
   | exact LeO.none _
   | refine LeO.ite ?_ ?_
   | refine LeO.bind ?_ (fun _ => ?_)
  ·
   intro y0 y1 y2
   unfold laws_FnExactKeyGroups.j2
   repeat' first
   | (with_reducible exact ih0 _ _ _ _ _ _ _ _ _)
   | (with_reducible exact ih1 _ _ _ _ _ _ _)
   | (with_reducible exact ih2 _ _ _)
   | (with_reducible exact impl_KeyGroups.mono _ _ _ _)
   | (with_reducible exact laws_eqIntSS.mono _ _ _)
   | (with_reducible exact laws_eqStringS.mono _ _ _)
   | (with_reducible exact laws_heldIntSS.mono _ _ _)
   | (with_reducible exact laws_markIntSS.mono _ _ _)
   | (with_reducible exact laws_markStringS.mono _ _ _)
   | (with_reducible exact laws_szStringS.mono _ _ _)
   | (with_reducible exact laws_toStringS.mono _ _)
   | (with_reducible exact spec_KeyGroups.mono _ _ _ _)
   | (with_reducible exact LeO.refl _)
   | (with_reducible exact LeO.none _)
   | (with_reducible refine LeO.ite ?_ ?_)
   | (with_reducible refine LeO.bind ?_ (fun _ => ?_))
   | exact ih0 _ _ _ _ _ _ _ _ _
   | exact ih1 _ _ _ _ _ _ _
   | exact ih2 _ _ _
   | exact impl_KeyGroups.mono _ _ _ _
   | exact laws_eqIntSS.mono _ _ _
   | exact laws_eqStringS.mono _ _ _
   | exact laws_heldIntSS.mono _ _ _
   | exact laws_markIntSS.mono _ _ _
   | exact laws_markStringS.mono _ _ _
   | exact laws_szStringS.mono _ _ _
   | exact laws_toStringS.mono _ _
   | exact spec_KeyGroups.mono _ _ _ _
   | exact LeO.none _
   | refine LeO.ite ?_ ?_
   | refine LeO.bind ?_ (fun _ => ?_)
theorem laws_FnExactKeyGroups.mono : ∀ a0 a1 a2 k, LeO (laws_FnExactKeyGroups.f k a0 a1 a2) (laws_FnExactKeyGroups.f (k + 1) a0 a1 a2) := by
 intro a0 a1 a2 k
 obtain ⟨ih0, ih1, ih2⟩ := laws_FnExactKeyGroups.mono_l k
 unfold laws_FnExactKeyGroups.f
 repeat' first
   | (with_reducible exact ih0 _ _ _ _ _ _ _ _ _)
   | (with_reducible exact ih1 _ _ _ _ _ _ _)
   | (with_reducible exact ih2 _ _ _)
   | (with_reducible exact impl_KeyGroups.mono _ _ _ _)
   | (with_reducible exact laws_eqIntSS.mono _ _ _)
   | (with_reducible exact laws_eqStringS.mono _ _ _)
   | (with_reducible exact laws_heldIntSS.mono _ _ _)
   | (with_reducible exact laws_markIntSS.mono _ _ _)
   | (with_reducible exact laws_markStringS.mono _ _ _)
   | (with_reducible exact laws_szStringS.mono _ _ _)
   | (with_reducible exact laws_toStringS.mono _ _)
   | (with_reducible exact spec_KeyGroups.mono _ _ _ _)
   | (with_reducible exact LeO.refl _)
   | (with_reducible exact LeO.none _)
   | (with_reducible refine LeO.ite ?_ ?_)
   | (with_reducible refine LeO.bind ?_ (fun _ => ?_))
   | exact ih0 _ _ _ _ _ _ _ _ _
   | exact ih1 _ _ _ _ _ _ _
   | exact ih2 _ _ _
   | exact impl_KeyGroups.mono _ _ _ _
   | exact laws_eqIntSS.mono _ _ _
   | exact laws_eqStringS.mono _ _ _
   | exact laws_heldIntSS.mono _ _ _
   | exact laws_markIntSS.mono _ _ _
   | exact laws_markStringS.mono _ _ _
   | exact laws_szStringS.mono _ _ _
   | exact laws_toStringS.mono _ _
   | exact spec_KeyGroups.mono _ _ _ _
   | exact LeO.none _
   | refine LeO.ite ?_ ?_
   | refine LeO.bind ?_ (fun _ => ?_)
set_option maxHeartbeats 8000000 in
set_option maxRecDepth 100000 in
theorem laws_FnExactKeyGroups.calls (k : Nat) (a0 : Int) (A1 : Option Addr) (c1 : Nat) (l1 : List ByteArray) (a2 : Int) (r : Bool) (w : World) (hr1 : Kd.C Kd.string w A1 l1.length l1) (hc1 : l1.length ≤ c1) (h : laws_FnExactKeyGroups.f k a0 l1 a2 = some r) :
  Calls Try.prog 8 #[.int .i64 a0, .slice A1 l1.length c1, .int .i64 a2] w fun e w' => e = .returned (.bool r) ∧ Below w.heap.size w w' := by
 have HR1 := Aside0.mk hr1
 have HC1 := Aside0.mk hc1
 clear hr1 hc1
 have HB := Aside0.mk (Below.refl w.heap.size w)
 have H : ((laws_szStringS.f k l1 1048576).bind fun t238 => (if t238 < 0 then (some true) else ((laws_toStringS.f k l1).bind fun t239 => ((spec_KeyGroups.f k a0 t239 a2).bind fun bt242 => ((laws_toStringS.f k l1).bind fun t246 => ((impl_KeyGroups.f k a0 t246 a2).bind fun bt249 => ((laws_eqIntSS.f k bt249.1 bt242.1).bind fun t253 => (if t253 = true then (laws_FnExactKeyGroups.j0 k a0 l1 a2 bt242.1 bt242.2 t246 bt249.1 bt249.2 (bt249.2 != bt242.2)) else (laws_FnExactKeyGroups.j0 k a0 l1 a2 bt242.1 bt242.2 t246 bt249.1 bt249.2 true))))))))) = some r := h
 clear h
 replace H := Option.bind_eq_some_iff.mp H
 obtain ⟨t238, A40, H⟩ := H
 replace H : (if t238 < 0 then (some true) else ((laws_toStringS.f k l1).bind fun t239 => ((spec_KeyGroups.f k a0 t239 a2).bind fun bt242 => ((laws_toStringS.f k l1).bind fun t246 => ((impl_KeyGroups.f k a0 t246 a2).bind fun bt249 => ((laws_eqIntSS.f k bt249.1 bt242.1).bind fun t253 => (if t253 = true then (laws_FnExactKeyGroups.j0 k a0 l1 a2 bt242.1 bt242.2 t246 bt249.1 bt249.2 (bt249.2 != bt242.2)) else (laws_FnExactKeyGroups.j0 k a0 l1 a2 bt242.1 bt242.2 t246 bt249.1 bt249.2 true)))))))) = some r := H
 have A4 := Aside0.mk A40
 clear A40
 by_cases c5 : t238 < 0
 ·
  rw [if_pos c5] at H
  have c5b0 : decide (t238 < 0) = true := decide_eq_true c5
  clear c5
  obtain rfl := Option.some.inj H
  go_enter Try.func8, Try.ntmps8
  go_wp2_with (first | ((with_reducible refine gate_callee (f := 10) rfl ?_); refine goesL_ (some 20) rfl rfl Try.func10 (by kernel_rfl) rfl #[.slice A1 l1.length c1, .int .i64 1048576] rfl (by (try simp only [List.map_toArray, List.map_cons, List.map_nil]); first | done | rfl | (simp only [List.length_drop, List.length_take]; rfl)) ?_; (with_reducible refine (laws_szStringS.calls k _ _ l1 1048576 t238 _ ?side1 ?side2 A4.out).mono ?_); (case side1 => repeat (first | exact HR1.out | (with_reducible refine Kd.C_alloc ?_ _) | (with_reducible refine Kd.C_drewN ?_ _) | (with_reducible refine Kd.C_drew ?_))); (case side2 => exact HC1.out); rintro e w' ⟨rfl, ⟨nd, rfl⟩⟩; refine ⟨_, rfl, ?_⟩))
  go_ret
  exact ⟨by first | rfl | (simp [errW_none, errW_some] <;> rfl) | (simp [*, errW_none, errW_some] <;> rfl), uB HB⟩
 ·
  rw [if_neg c5] at H
  have c5b0 : decide (t238 < 0) = false := decide_eq_false c5
  clear c5
  replace H := Option.bind_eq_some_iff.mp H
  obtain ⟨t239, A60, H⟩ := H
  replace H : ((spec_KeyGroups.f k a0 t239 a2).bind fun bt242 => ((laws_toStringS.f k l1).bind fun t246 => ((impl_KeyGroups.f k a0 t246 a2).bind fun bt249 => ((laws_eqIntSS.f k bt249.1 bt242.1).bind fun t253 => (if t253 = true then (laws_FnExactKeyGroups.j0 k a0 l1 a2 bt242.1 bt242.2 t246 bt249.1 bt249.2 (bt249.2 != bt242.2)) else (laws_FnExactKeyGroups.j0 k a0 l1 a2 bt242.1 bt242.2 t246 bt249.1 bt249.2 true)))))) = some r := H
  have A6 := Aside0.mk A60
  clear A60
  replace H := Option.bind_eq_some_iff.mp H
  obtain ⟨⟨t242, t245⟩, A70, H⟩ := H
  replace H : ((laws_toStringS.f k l1).bind fun t246 => ((impl_KeyGroups.f k a0 t246 a2).bind fun bt249 => ((laws_eqIntSS.f k bt249.1 t242).bind fun t253 => (if t253 = true then (laws_FnExactKeyGroups.j0 k a0 l1 a2 t242 t245 t246 bt249.1 bt249.2 (bt249.2 != t245)) else (laws_FnExactKeyGroups.j0 k a0 l1 a2 t242 t245 t246 bt249.1 bt249.2 true))))) = some r := H
  have A7 := Aside0.mk A70
  clear A70
  replace H := Option.bind_eq_some_iff.mp H
  obtain ⟨t246, A80, H⟩ := H
  replace H : ((impl_KeyGroups.f k a0 t246 a2).bind fun bt249 => ((laws_eqIntSS.f k bt249.1 t242).bind fun t253 => (if t253 = true then (laws_FnExactKeyGroups.j0 k a0 l1 a2 t242 t245 t246 bt249.1 bt249.2 (bt249.2 != t245)) else (laws_FnExactKeyGroups.j0 k a0 l1 a2 t242 t245 t246 bt249.1 bt249.2 true)))) = some r := H
  have A8 := Aside0.mk A80
  clear A80
  replace H := Option.bind_eq_some_iff.mp H
  obtain ⟨⟨t249, t250⟩, A90, H⟩ := H
  replace H : ((laws_eqIntSS.f k t249 t242).bind fun t253 => (if t253 = true then (laws_FnExactKeyGroups.j0 k a0 l1 a2 t242 t245 t246 t249 t250 (t250 != t245)) else (laws_FnExactKeyGroups.j0 k a0 l1 a2 t242 t245 t246 t249 t250 true))) = some r := H
  have A9 := Aside0.mk A90
  clear A90
  have HC10 := Aside0.mk H
  clear H
  go_enter Try.func8, Try.ntmps8
  go_upto_region 8 with (first | ((with_reducible refine gate_callee (f := 10) rfl ?_); refine goesL_ (some 20) rfl rfl Try.func10 (by kernel_rfl) rfl #[.slice A1 l1.length c1, .int .i64 1048576] rfl (by (try simp only [List.map_toArray, List.map_cons, List.map_nil]); first | done | rfl | (simp only [List.length_drop, List.length_take]; rfl)) ?_; (with_reducible refine (laws_szStringS.calls k _ _ l1 1048576 t238 _ ?side1 ?side2 A4.out).mono ?_); (case side1 => repeat (first | exact HR1.out | (with_reducible refine Kd.C_alloc ?_ _) | (with_reducible refine Kd.C_drewN ?_ _) | (with_reducible refine Kd.C_drew ?_))); (case side2 => exact HC1.out); rintro e w' ⟨rfl, ⟨nd, rfl⟩⟩; refine ⟨_, rfl, ?_⟩) | ((with_reducible refine gate_callee (f := 12) rfl ?_); refine goesL_ (some 26) rfl rfl Try.func12 (by kernel_rfl) rfl #[.slice A1 l1.length c1] rfl (by (try simp only [List.map_toArray, List.map_cons, List.map_nil]); first | done | rfl | (simp only [List.length_drop, List.length_take]; rfl)) ?_; (with_reducible refine (laws_toStringS.calls k _ _ l1 t239 _ ?side1 ?side2 A6.out).mono ?_); (case side1 => repeat (first | exact HR1.out | (with_reducible refine Kd.C_alloc ?_ _) | (with_reducible refine Kd.C_drewN ?_ _) | (with_reducible refine Kd.C_drew ?_))); (case side2 => exact HC1.out); rintro e w11 ⟨v240, rfl, ho0, hb⟩; refine ⟨_, rfl, ?_⟩; have n0_ := Aside0.mk (Kd.R_lower ho0 (below_size (uB HB))); have n1_ := Aside0.mk (below_step (uB HB) hb); clear HB; have HO241 := n0_; have HB := n1_; clear n0_ n1_; (try clear hb); (try clear hb2); (try clear hk); (try clear hi); (try clear ho0); obtain ⟨Ao12, co12, eo12⟩ := Kd.R_slice HO241.out; subst eo12) | ((with_reducible refine gate_callee (f := 28) rfl ?_); refine goesL_ (some 28) rfl rfl Try.func28 (by kernel_rfl) rfl #[.int .i64 a0, .slice Ao12 t239.length co12, .int .i64 a2] rfl (by (try simp only [List.map_toArray, List.map_cons, List.map_nil]); first | done | rfl | (simp only [List.length_drop, List.length_take]; rfl)) ?_; (with_reducible refine (spec_KeyGroups.calls k a0 _ _ t239 a2 t242 t245 _ ?side1 ?side2 A7.out).mono ?_); (case side1 => exact uD HO241); (case side2 => exact (Kd.R_reads' HO241.out).2.1); rintro e w13 ⟨v243, rfl, ho0, hb⟩; refine ⟨_, rfl, ?_⟩; have n0_ := Aside0.mk (Kd.R_below (uR HO241) hb); have n1_ := Aside0.mk (Kd.N_lower (Kd.N_mono (ok' := fun k_ => some k_ ≠ (.slice Ao12 t239.length co12 : Value).ownBlock) ho0 (fun k_ hk_ => (Kd.fresh' (Kd.R_lt (uR HO241)) k_ hk_))) (below_size (uB HB))); have n2_ := Aside0.mk (below_step (uB HB) hb); clear HO241 HB; have HO241 := n0_; have HO244 := n1_; have HB := n2_; clear n0_ n1_ n2_; (try clear hb); (try clear hb2); (try clear hk); (try clear hi); (try clear ho0)) | ((with_reducible refine gate_callee (f := 12) rfl ?_); refine goesL_ (some 32) rfl rfl Try.func12 (by kernel_rfl) rfl #[.slice A1 l1.length c1] rfl (by (try simp only [List.map_toArray, List.map_cons, List.map_nil]); first | done | rfl | (simp only [List.length_drop, List.length_take]; rfl)) ?_; (with_reducible refine (laws_toStringS.calls k _ _ l1 t246 _ ?side1 ?side2 A8.out).mono ?_); (case side1 => exact uC HR1 HB); (case side2 => exact HC1.out); rintro e w14 ⟨v247, rfl, ho0, hb⟩; refine ⟨_, rfl, ?_⟩; have n0_ := Aside0.mk (Kd.R_elder' (uR HO241) (Kd.R_base ho0) hb); have n1_ := Aside0.mk (Kd.N_elder' (by (with_reducible repeat (first | apply Kd.N_alloc | apply Kd.N_drewN | apply Kd.N_drew)); exact HO244.out) (Kd.R_base ho0) hb); have n2_ := Aside0.mk (Kd.R_lower (Kd.R_new' ho0 (Kd.R_lt (uR HO241))) (below_size (uB HB))); have n3_ := Aside0.mk (below_step (uB HB) hb); clear HO241 HO244 HB; have HO241 := n0_; have HO244 := n1_; have HO248 := n2_; have HB := n3_; clear n0_ n1_ n2_ n3_; (try clear hb); (try clear hb2); (try clear hk); (try clear hi); (try clear ho0); obtain ⟨Ao15, co15, eo15⟩ := Kd.R_slice HO248.out; subst eo15) | ((with_reducible refine gate_callee (f := 29) rfl ?_); refine goesL_ (some 37) rfl rfl Try.func29 (by kernel_rfl) rfl #[.int .i64 a0, .slice Ao15 t246.length co15, .int .i64 a2] rfl (by (try simp only [List.map_toArray, List.map_cons, List.map_nil]); first | done | rfl | (simp only [List.length_drop, List.length_take]; rfl)) ?_; (with_reducible refine (impl_KeyGroups.calls k a0 _ _ t246 a2 t249 t250 _ ?side1 ?side2 A9.out).mono ?_); (case side1 => exact uD HO248); (case side2 => exact (Kd.R_reads' HO248.out).2.1); rintro e w16 ⟨v251, rfl, ho0, hb⟩; refine ⟨_, rfl, ?_⟩; obtain ⟨nq, hnq⟩ := kg_size hb; have n0_ := Aside0.mk (Kd.R_below (uR HO241) hb); have n1_ := Aside0.mk (kg_old (by (with_reducible repeat (first | apply Kd.N_alloc | apply Kd.N_drewN | apply Kd.N_drew)); exact HO244.out) hb hnq); have n2_ := Aside0.mk (Kd.R_below (uR HO248) hb); have n3_ := Aside0.mk (Kd.S_lower (Kd.S_mono (ok' := fun k_ => some k_ ≠ (.slice Ao12 t239.length co12 : Value).ownBlock ∧ nq ≤ k_ ∧ some k_ ≠ (.slice Ao15 t246.length co15 : Value).ownBlock) (Kd.S_bound ho0) (fun k_ hk_ => ⟨(Kd.fresh' (Kd.R_lt (uR HO241)) k_ hk_.2.1), (hnq ▸ hk_.2.1), (Kd.fresh' (Kd.R_lt (uR HO248)) k_ hk_.2.1)⟩)) (below_size (uB HB))); have n4_ := Aside0.mk (below_step (uB HB) hb); clear HO241 HO244 HO248 HB; have HO241 := n0_; have HO244 := n1_; have HO248 := n2_; have HO252 := n3_; have HB := n4_; clear n0_ n1_ n2_ n3_ n4_; (try clear hb); (try clear hb2); (try clear hk); (try clear hi); (try clear ho0)))
  (try simp only [Act.put, List.setIfInBounds_toArray, List.set_cons_zero, List.set_cons_succ])
  go_cut [48] (fun v48 wc => ∃ (kq : Nat) (x48_9 : Bool), v48 = .bool x48_9 ∧ Aside0 (laws_FnExactKeyGroups.j0 kq a0 l1 a2 t242 t245 t246 t249 t250 x48_9 = some r) ∧ Aside0 (kq ≤ k) ∧ Aside0 (Kd.N (Kd.slice 3 (Kd.int .i64)) 23 wc w.heap.size (fun k_ => some k_ ≠ ((.slice Ao15 t246.length co15) : Value).ownBlock ∧ k_ < nq) v243 t242) ∧ Aside0 (Kd.R Kd.string 9 wc w.heap.size (fun _ => True) (.slice Ao15 t246.length co15) t246) ∧ Aside0 (Kd.S (Kd.slice 3 (Kd.int .i64)) 23 wc w.heap.size (fun k_ => nq ≤ k_ ∧ some k_ ≠ ((.slice Ao15 t246.length co15) : Value).ownBlock) v251 t249) ∧ Aside0 (Below w.heap.size w wc))
  case first =>
   have H := HC10.out
   clear HC10
   replace H := Option.bind_eq_some_iff.mp H
   obtain ⟨t253, A170, H⟩ := H
   replace H : (if t253 = true then (laws_FnExactKeyGroups.j0 k a0 l1 a2 t242 t245 t246 t249 t250 (t250 != t245)) else (laws_FnExactKeyGroups.j0 k a0 l1 a2 t242 t245 t246 t249 t250 true)) = some r := H
   have A17 := Aside0.mk A170
   clear A170
   by_cases c18 : t253 = true
   ·
    subst c18
    have H1 : (laws_FnExactKeyGroups.j0 k a0 l1 a2 t242 t245 t246 t249 t250 (t250 != t245)) = some r := by rw [if_pos rfl] at H; exact H
    clear H
    have H := H1
    clear H1
    have H' := Aside0.mk H
    clear H
    obtain ⟨Ao19, co19, eo19⟩ := Kd.S_slice HO252.out
    subst eo19
    obtain ⟨Ao20, co20, eo20⟩ := Kd.N_slice HO244.out
    subst eo20
    go_wp2_with (first | ((with_reducible refine gate_callee (f := 30) rfl ?_); refine goesL_ (some 42) rfl rfl Try.func30 (by kernel_rfl) rfl #[.slice Ao19 t249.length co19, .slice Ao20 t242.length co20] rfl (by (try simp only [List.map_toArray, List.map_cons, List.map_nil]); first | done | rfl | (simp only [List.length_drop, List.length_take]; rfl)) ?_; (with_reducible refine (laws_eqIntSS.calls k _ _ t249 _ _ t242 true _ ?side1 ?side2 ?side3 ?side4 A17.out).mono ?_); (case side1 => repeat (first | exact (Kd.S_reads' HO252.out).2.2 | (with_reducible refine Kd.C_alloc ?_ _) | (with_reducible refine Kd.C_drewN ?_ _) | (with_reducible refine Kd.C_drew ?_))); (case side2 => exact (Kd.S_reads' HO252.out).2.1); (case side3 => repeat (first | exact (Kd.N_reads' HO244.out).2.2 | (with_reducible refine Kd.C_alloc ?_ _) | (with_reducible refine Kd.C_drewN ?_ _) | (with_reducible refine Kd.C_drew ?_))); (case side4 => exact (Kd.N_reads' HO244.out).2.1); rintro e w' ⟨rfl, ⟨nd, rfl⟩⟩; refine ⟨_, rfl, ?_⟩))
    go_meet
    case rel => exact ⟨_, ((t250 != t245)), (by first | rfl | (simp; done) | (simp [*]; done)), H', ⟨by first | omega | exact Nat.le_refl _⟩, ⟨by (with_reducible repeat (first | apply Kd.N_alloc | apply Kd.N_drewN | apply Kd.N_drew)); exact Kd.N_mono HO244.out (fun _ hk => ⟨hk.1.2, hk.2⟩)⟩, ⟨by (with_reducible repeat (first | apply Kd.R_alloc | apply Kd.R_drewN | apply Kd.R_drew)); exact Kd.R_mono HO248.out (fun _ hk => trivial)⟩, ⟨by (with_reducible repeat (first | apply Kd.S_alloc | apply Kd.S_drewN | apply Kd.S_drew)); exact Kd.S_mono HO252.out (fun _ hk => ⟨hk.2.1, hk.2.2⟩)⟩, ⟨uB HB⟩⟩
   ·
    replace c18 := Bool.eq_false_iff.mpr c18
    subst c18
    have H1 : (laws_FnExactKeyGroups.j0 k a0 l1 a2 t242 t245 t246 t249 t250 true) = some r := by rw [if_neg (show ¬ (false = true) by decide)] at H; exact H
    clear H
    have H := H1
    clear H1
    have H' := Aside0.mk H
    clear H
    obtain ⟨Ao21, co21, eo21⟩ := Kd.S_slice HO252.out
    subst eo21
    obtain ⟨Ao22, co22, eo22⟩ := Kd.N_slice HO244.out
    subst eo22
    go_wp2_with (first | ((with_reducible refine gate_callee (f := 30) rfl ?_); refine goesL_ (some 42) rfl rfl Try.func30 (by kernel_rfl) rfl #[.slice Ao21 t249.length co21, .slice Ao22 t242.length co22] rfl (by (try simp only [List.map_toArray, List.map_cons, List.map_nil]); first | done | rfl | (simp only [List.length_drop, List.length_take]; rfl)) ?_; (with_reducible refine (laws_eqIntSS.calls k _ _ t249 _ _ t242 false _ ?side1 ?side2 ?side3 ?side4 A17.out).mono ?_); (case side1 => repeat (first | exact (Kd.S_reads' HO252.out).2.2 | (with_reducible refine Kd.C_alloc ?_ _) | (with_reducible refine Kd.C_drewN ?_ _) | (with_reducible refine Kd.C_drew ?_))); (case side2 => exact (Kd.S_reads' HO252.out).2.1); (case side3 => repeat (first | exact (Kd.N_reads' HO244.out).2.2 | (with_reducible refine Kd.C_alloc ?_ _) | (with_reducible refine Kd.C_drewN ?_ _) | (with_reducible refine Kd.C_drew ?_))); (case side4 => exact (Kd.N_reads' HO244.out).2.1); rintro e w' ⟨rfl, ⟨nd, rfl⟩⟩; refine ⟨_, rfl, ?_⟩))
    go_meet
    case rel => exact ⟨_, (true), (by first | rfl | (simp; done) | (simp [*]; done)), H', ⟨by first | omega | exact Nat.le_refl _⟩, ⟨by (with_reducible repeat (first | apply Kd.N_alloc | apply Kd.N_drewN | apply Kd.N_drew)); exact Kd.N_mono HO244.out (fun _ hk => ⟨hk.1.2, hk.2⟩)⟩, ⟨by (with_reducible repeat (first | apply Kd.R_alloc | apply Kd.R_drewN | apply Kd.R_drew)); exact Kd.R_mono HO248.out (fun _ hk => trivial)⟩, ⟨by (with_reducible repeat (first | apply Kd.S_alloc | apply Kd.S_drewN | apply Kd.S_drew)); exact Kd.S_mono HO252.out (fun _ hk => ⟨hk.2.1, hk.2.2⟩)⟩, ⟨uB HB⟩⟩
  case rest =>
   clear HC10
   try clear c1
   try clear c2
   try clear p2
   try clear c3
   try clear c5
   try clear c5b0
   try clear c8
   try clear c10
   try clear c12
   try clear c18
   obtain ⟨kq, x48_9, rfl, HA, HJ9, HO_8, HO_10, HO_11, HB⟩ := hcut
   cases kq with
   | zero => exact absurd HA.out (by simp [laws_FnExactKeyGroups.j0])
   | succ kj9 =>
    have H := HA.out
    clear HA
    simp only [laws_FnExactKeyGroups.j0] at H
    by_cases c23 : x48_9 = true
    ·
     subst c23
     have H1 : (some false) = some r := by rw [if_pos rfl] at H; exact H
     clear H
     have H := H1
     clear H1
     obtain rfl := Option.some.inj H
     go_wp2
     go_ret
     exact ⟨by first | rfl | (simp [errW_none, errW_some] <;> rfl) | (simp [*, errW_none, errW_some] <;> rfl), uB HB⟩
    ·
     replace c23 := Bool.eq_false_iff.mpr c23
     subst c23
     have H1 : ((laws_toStringS.f kj9 l1).bind fun t254 => ((laws_eqStringS.f kj9 t246 t254).bind fun t257 => (if t257 = true then ((laws_markStringS.f kj9 t246 1).bind fun bt258 => (if bt258.1 < 0 then (laws_FnExactKeyGroups.j1 kj9 a0 l1 a2 t242 t245 t249 true) else ((laws_eqIntSS.f kj9 t249 t242).bind fun t260 => (if t260 = true then (laws_FnExactKeyGroups.j1 kj9 a0 l1 a2 t242 t245 t249 (t250 != t245)) else (laws_FnExactKeyGroups.j1 kj9 a0 l1 a2 t242 t245 t249 true))))) else (some false)))) = some r := by rw [if_neg (show ¬ (false = true) by decide)] at H; exact H
     clear H
     have H := H1
     clear H1
     replace H := Option.bind_eq_some_iff.mp H
     obtain ⟨t254, A240, H⟩ := H
     replace H : ((laws_eqStringS.f kj9 t246 t254).bind fun t257 => (if t257 = true then ((laws_markStringS.f kj9 t246 1).bind fun bt258 => (if bt258.1 < 0 then (laws_FnExactKeyGroups.j1 kj9 a0 l1 a2 t242 t245 t249 true) else ((laws_eqIntSS.f kj9 t249 t242).bind fun t260 => (if t260 = true then (laws_FnExactKeyGroups.j1 kj9 a0 l1 a2 t242 t245 t249 (t250 != t245)) else (laws_FnExactKeyGroups.j1 kj9 a0 l1 a2 t242 t245 t249 true))))) else (some false))) = some r := H
     have A24 := Aside0.mk A240
     clear A240
     replace H := Option.bind_eq_some_iff.mp H
     obtain ⟨t257, A250, H⟩ := H
     replace H : (if t257 = true then ((laws_markStringS.f kj9 t246 1).bind fun bt258 => (if bt258.1 < 0 then (laws_FnExactKeyGroups.j1 kj9 a0 l1 a2 t242 t245 t249 true) else ((laws_eqIntSS.f kj9 t249 t242).bind fun t260 => (if t260 = true then (laws_FnExactKeyGroups.j1 kj9 a0 l1 a2 t242 t245 t249 (t250 != t245)) else (laws_FnExactKeyGroups.j1 kj9 a0 l1 a2 t242 t245 t249 true))))) else (some false)) = some r := H
     have A25 := Aside0.mk A250
     clear A250
     by_cases c26 : t257 = true
     ·
      subst c26
      have H1 : ((laws_markStringS.f kj9 t246 1).bind fun bt258 => (if bt258.1 < 0 then (laws_FnExactKeyGroups.j1 kj9 a0 l1 a2 t242 t245 t249 true) else ((laws_eqIntSS.f kj9 t249 t242).bind fun t260 => (if t260 = true then (laws_FnExactKeyGroups.j1 kj9 a0 l1 a2 t242 t245 t249 (t250 != t245)) else (laws_FnExactKeyGroups.j1 kj9 a0 l1 a2 t242 t245 t249 true))))) = some r := by rw [if_pos rfl] at H; exact H
      clear H
      have H := H1
      clear H1
      replace H := Option.bind_eq_some_iff.mp H
      obtain ⟨⟨t258, t259⟩, A270, H⟩ := H
      replace H : (if t258 < 0 then (laws_FnExactKeyGroups.j1 kj9 a0 l1 a2 t242 t245 t249 true) else ((laws_eqIntSS.f kj9 t249 t242).bind fun t260 => (if t260 = true then (laws_FnExactKeyGroups.j1 kj9 a0 l1 a2 t242 t245 t249 (t250 != t245)) else (laws_FnExactKeyGroups.j1 kj9 a0 l1 a2 t242 t245 t249 true)))) = some r := H
      have A27 := Aside0.mk A270
      clear A270
      have HC28 := Aside0.mk H
      clear H
      go_upto_region 14 with (first | ((with_reducible refine gate_callee (f := 12) rfl ?_); refine goesL_ (some 51) rfl rfl Try.func12 (by kernel_rfl) rfl #[.slice A1 l1.length c1] rfl (by (try simp only [List.map_toArray, List.map_cons, List.map_nil]); first | done | rfl | (simp only [List.length_drop, List.length_take]; rfl)) ?_; (with_reducible refine (laws_toStringS.calls kj9 _ _ l1 t254 _ ?side1 ?side2 A24.out).mono ?_); (case side1 => exact uC HR1 HB); (case side2 => exact HC1.out); rintro e w29 ⟨v255, rfl, ho0, hb⟩; refine ⟨_, rfl, ?_⟩; have n0_ := Aside0.mk (Kd.N_elder' (by (with_reducible repeat (first | apply Kd.N_alloc | apply Kd.N_drewN | apply Kd.N_drew)); exact HO_8.out) (Kd.R_base ho0) hb); have n1_ := Aside0.mk (Kd.R_elder' (uR HO_10) (Kd.R_base ho0) hb); have n2_ := Aside0.mk (Kd.S_elder' (by (with_reducible repeat (first | apply Kd.S_alloc | apply Kd.S_drewN | apply Kd.S_drew)); exact HO_11.out) (Kd.R_base ho0) hb); have n3_ := Aside0.mk (Kd.R_lower (Kd.R_new' ho0 (Kd.R_lt (uR HO_10))) (below_size (uB HB))); have n4_ := Aside0.mk (below_step (uB HB) hb); clear HO_8 HO_10 HO_11 HB; have HO_8 := n0_; have HO_10 := n1_; have HO_11 := n2_; have HO256 := n3_; have HB := n4_; clear n0_ n1_ n2_ n3_ n4_; (try clear hb); (try clear hb2); (try clear hk); (try clear hi); (try clear ho0); obtain ⟨Ao30, co30, eo30⟩ := Kd.R_slice HO256.out; subst eo30) | ((with_reducible refine gate_callee (f := 15) rfl ?_); refine goesL_ (some 52) rfl rfl Try.func15 (by kernel_rfl) rfl #[.slice Ao15 t246.length co15, .slice Ao30 t254.length co30] rfl (by (try simp only [List.map_toArray, List.map_cons, List.map_nil]); first | done | rfl | (simp only [List.length_drop, List.length_take]; rfl)) ?_; (with_reducible refine (laws_eqStringS.calls kj9 _ _ t246 _ _ t254 true _ ?side1 ?side2 ?side3 ?side4 A25.out).mono ?_); (case side1 => exact uD HO_10); (case side2 => exact (Kd.R_reads' HO_10.out).2.1); (case side3 => exact uD HO256); (case side4 => exact (Kd.R_reads' HO256.out).2.1); rintro e w' ⟨rfl, ⟨nd, rfl⟩⟩; refine ⟨_, rfl, ?_⟩) | ((with_reducible refine gate_callee (f := 25) rfl ?_); refine goesL_ (some 56) rfl rfl Try.func25 (by kernel_rfl) rfl #[.slice Ao15 t246.length co15, .int .i64 1] rfl (by (try simp only [List.map_toArray, List.map_cons, List.map_nil]); first | done | rfl | (simp only [List.length_drop, List.length_take]; rfl)) ?_; (with_reducible refine (laws_markStringS.calls kj9 (fun k_ => some k_ = (.slice Ao15 t246.length co15 : Value).ownBlock) (.slice Ao15 t246.length co15) t246 1 t258 t259 w _ ?side1 ?side2 A27.out).mono ?_); (case side1 => exact uB HB); (case side2 => exact Kd.R_tight rfl HO_10.out); rintro e w31 ⟨rfl, hy0, hb, hkp⟩; refine ⟨_, rfl, ?_⟩; have n0_ := Aside0.mk (Kd.N_mono (ok' := fun k_ => some k_ ≠ (.slice Ao15 t246.length co15 : Value).ownBlock ∧ k_ < nq ∧ some k_ ≠ (.slice Ao30 t254.length co30 : Value).ownBlock) (Kd.N_keptB (HO_8.out) hkp (fun k_ hk_ hs_ => (hk_.1.1) hs_)) (fun k_ hk_ => ⟨hk_.1.1.1, hk_.1.1.2, hk_.1.2⟩)); have n1_ := Aside0.mk (Kd.R_reok rfl hy0 (fun k_ e_ => HO_10.out.1 k_ e_)); have n2_ := Aside0.mk (Kd.S_mono (ok' := fun k_ => nq ≤ k_ ∧ some k_ ≠ (.slice Ao15 t246.length co15 : Value).ownBlock ∧ some k_ ≠ (.slice Ao30 t254.length co30 : Value).ownBlock) (Kd.S_keptB (HO_11.out) hkp (fun k_ hk_ hs_ => (hk_.1.2) hs_)) (fun k_ hk_ => ⟨hk_.1.1.1, hk_.1.1.2, hk_.1.2⟩)); have n3_ := Aside0.mk (Kd.R_mono (ok' := fun k_ => some k_ ≠ (.slice Ao15 t246.length co15 : Value).ownBlock) (Kd.R_keptB (HO256.out) hkp (fun k_ hk_ hs_ => (hk_.2) hs_)) (fun k_ hk_ => hk_.1.2)); have n4_ := Aside0.mk (hb); clear HO_8 HO_10 HO_11 HO256 HB; have HO_8 := n0_; have HO_10 := n1_; have HO_11 := n2_; have HO256 := n3_; have HB := n4_; clear n0_ n1_ n2_ n3_ n4_; (try clear hb); (try clear hkp); (try clear hy0)))
      (try simp only [Act.put, List.setIfInBounds_toArray, List.set_cons_zero, List.set_cons_succ])
      go_cut [69] (fun v69 wc => ∃ (kq : Nat) (x69_27 : Bool), v69 = .bool x69_27 ∧ Aside0 (laws_FnExactKeyGroups.j1 kq a0 l1 a2 t242 t245 t249 x69_27 = some r) ∧ Aside0 (kq ≤ kj9) ∧ Aside0 (Kd.N (Kd.slice 3 (Kd.int .i64)) 23 wc w.heap.size (fun k_ => k_ < nq) v243 t242) ∧ Aside0 (Kd.S (Kd.slice 3 (Kd.int .i64)) 23 wc w.heap.size (fun k_ => nq ≤ k_) v251 t249) ∧ Aside0 (Below w.heap.size w wc))
      case first =>
       have H := HC28.out
       clear HC28
       by_cases c32 : t258 < 0
       ·
        rw [if_pos c32] at H
        have c32b0 : decide (t258 < 0) = true := decide_eq_true c32
        clear c32
        (first | rw [c32b0] | (simp only [i64_w, i32_w]; rw [c32b0]) | skip)
        have H' := Aside0.mk H
        clear H
        go_wp2
        go_meet
        case rel => exact ⟨_, (true), (by first | rfl | (simp; done) | (simp [*]; done)), H', ⟨by have := HJ9.out; first | omega | exact Nat.le_refl _⟩, ⟨by (with_reducible repeat (first | apply Kd.N_alloc | apply Kd.N_drewN | apply Kd.N_drew)); exact Kd.N_mono HO_8.out (fun _ hk => hk.2.1)⟩, ⟨by (with_reducible repeat (first | apply Kd.S_alloc | apply Kd.S_drewN | apply Kd.S_drew)); exact Kd.S_mono HO_11.out (fun _ hk => hk.1)⟩, ⟨uB HB⟩⟩
       ·
        rw [if_neg c32] at H
        have c32b0 : decide (t258 < 0) = false := decide_eq_false c32
        clear c32
        (first | rw [c32b0] | (simp only [i64_w, i32_w]; rw [c32b0]) | skip)
        replace H := Option.bind_eq_some_iff.mp H
        obtain ⟨t260, A330, H⟩ := H
        replace H : (if t260 = true then (laws_FnExactKeyGroups.j1 kj9 a0 l1 a2 t242 t245 t249 (t250 != t245)) else (laws_FnExactKeyGroups.j1 kj9 a0 l1 a2 t242 t245 t249 true)) = some r := H
        have A33 := Aside0.mk A330
        clear A330
        by_cases c34 : t260 = true
        ·
         subst c34
         have H1 : (laws_FnExactKeyGroups.j1 kj9 a0 l1 a2 t242 t245 t249 (t250 != t245)) = some r := by rw [if_pos rfl] at H; exact H
         clear H
         have H := H1
         clear H1
         have H' := Aside0.mk H
         clear H
         obtain ⟨Ao35, co35, eo35⟩ := Kd.S_slice HO_11.out
         subst eo35
         obtain ⟨Ao36, co36, eo36⟩ := Kd.N_slice HO_8.out
         subst eo36
         go_wp2_with (first | (go_at_call 30; (with_reducible refine (laws_eqIntSS.calls kj9 _ _ t249 _ _ t242 true _ ?side1 ?side2 ?side3 ?side4 A33.out).mono ?_); (case side1 => repeat (first | exact (Kd.S_reads' HO_11.out).2.2 | (with_reducible refine Kd.C_alloc ?_ _) | (with_reducible refine Kd.C_drewN ?_ _) | (with_reducible refine Kd.C_drew ?_))); (case side2 => exact (Kd.S_reads' HO_11.out).2.1); (case side3 => repeat (first | exact (Kd.N_reads' HO_8.out).2.2 | (with_reducible refine Kd.C_alloc ?_ _) | (with_reducible refine Kd.C_drewN ?_ _) | (with_reducible refine Kd.C_drew ?_))); (case side4 => exact (Kd.N_reads' HO_8.out).2.1); rintro e w' ⟨rfl, ⟨nd, rfl⟩⟩))
         go_meet
         case rel => exact ⟨_, ((t250 != t245)), (by first | rfl | (simp; done) | (simp [*]; done)), H', ⟨by have := HJ9.out; first | omega | exact Nat.le_refl _⟩, ⟨by (with_reducible repeat (first | apply Kd.N_alloc | apply Kd.N_drewN | apply Kd.N_drew)); exact Kd.N_mono HO_8.out (fun _ hk => hk.2.1)⟩, ⟨by (with_reducible repeat (first | apply Kd.S_alloc | apply Kd.S_drewN | apply Kd.S_drew)); exact Kd.S_mono HO_11.out (fun _ hk => hk.1)⟩, ⟨uB HB⟩⟩
        ·
         replace c34 := Bool.eq_false_iff.mpr c34
         subst c34
         have H1 : (laws_FnExactKeyGroups.j1 kj9 a0 l1 a2 t242 t245 t249 true) = some r := by rw [if_neg (show ¬ (false = true) by decide)] at H; exact H
         clear H
         have H := H1
         clear H1
         have H' := Aside0.mk H
         clear H
         obtain ⟨Ao37, co37, eo37⟩ := Kd.S_slice HO_11.out
         subst eo37
         obtain ⟨Ao38, co38, eo38⟩ := Kd.N_slice HO_8.out
         subst eo38
         go_wp2_with (first | (go_at_call 30; (with_reducible refine (laws_eqIntSS.calls kj9 _ _ t249 _ _ t242 false _ ?side1 ?side2 ?side3 ?side4 A33.out).mono ?_); (case side1 => repeat (first | exact (Kd.S_reads' HO_11.out).2.2 | (with_reducible refine Kd.C_alloc ?_ _) | (with_reducible refine Kd.C_drewN ?_ _) | (with_reducible refine Kd.C_drew ?_))); (case side2 => exact (Kd.S_reads' HO_11.out).2.1); (case side3 => repeat (first | exact (Kd.N_reads' HO_8.out).2.2 | (with_reducible refine Kd.C_alloc ?_ _) | (with_reducible refine Kd.C_drewN ?_ _) | (with_reducible refine Kd.C_drew ?_))); (case side4 => exact (Kd.N_reads' HO_8.out).2.1); rintro e w' ⟨rfl, ⟨nd, rfl⟩⟩))
         go_meet
         case rel => exact ⟨_, (true), (by first | rfl | (simp; done) | (simp [*]; done)), H', ⟨by have := HJ9.out; first | omega | exact Nat.le_refl _⟩, ⟨by (with_reducible repeat (first | apply Kd.N_alloc | apply Kd.N_drewN | apply Kd.N_drew)); exact Kd.N_mono HO_8.out (fun _ hk => hk.2.1)⟩, ⟨by (with_reducible repeat (first | apply Kd.S_alloc | apply Kd.S_drewN | apply Kd.S_drew)); exact Kd.S_mono HO_11.out (fun _ hk => hk.1)⟩, ⟨uB HB⟩⟩
      case rest =>
       clear HC28
       try clear c1
       try clear c2
       try clear p2
       try clear c3
       try clear c5
       try clear c5b0
       try clear c8
       try clear c10
       try clear c12
       try clear c15
       try clear c18
       try clear c23
       try clear c25
       try clear c26
       try clear c28
       try clear c29
       try clear c30
       try clear c32
       try clear c32b0
       try clear c34
       try clear p2
       obtain ⟨kq, x69_27, rfl, HA, HJ27, HO_8, HO_11, HB⟩ := hcut
       cases kq with
       | zero => exact absurd HA.out (by simp [laws_FnExactKeyGroups.j1])
       | succ kj27 =>
        have H := HA.out
        clear HA
        simp only [laws_FnExactKeyGroups.j1] at H
        by_cases c39 : x69_27 = true
        ·
         subst c39
         have H1 : (some false) = some r := by rw [if_pos rfl] at H; exact H
         clear H
         have H := H1
         clear H1
         obtain rfl := Option.some.inj H
         go_wp2
         go_ret
         exact ⟨by first | rfl | (simp [errW_none, errW_some] <;> rfl) | (simp [*, errW_none, errW_some] <;> rfl), uB HB⟩
        ·
         replace c39 := Bool.eq_false_iff.mpr c39
         subst c39
         have H1 : ((laws_markIntSS.f kj27 t249 1).bind fun bt261 => ((laws_heldIntSS.f kj27 bt261.2 1).bind fun t263 => (if t263 < 0 then (some false) else (if t263 = bt261.1 then ((laws_toStringS.f kj27 l1).bind fun t264 => ((impl_KeyGroups.f kj27 a0 t264 a2).bind fun bt267 => ((laws_eqIntSS.f kj27 bt267.1 t242).bind fun t271 => (if t271 = true then (laws_FnExactKeyGroups.j2 kj27 bt261.2 bt261.1 (bt267.2 != t245)) else (laws_FnExactKeyGroups.j2 kj27 bt261.2 bt261.1 true))))) else (some false))))) = some r := by rw [if_neg (show ¬ (false = true) by decide)] at H; exact H
         clear H
         have H := H1
         clear H1
         replace H := Option.bind_eq_some_iff.mp H
         obtain ⟨⟨t261, t262⟩, A400, H⟩ := H
         replace H : ((laws_heldIntSS.f kj27 t262 1).bind fun t263 => (if t263 < 0 then (some false) else (if t263 = t261 then ((laws_toStringS.f kj27 l1).bind fun t264 => ((impl_KeyGroups.f kj27 a0 t264 a2).bind fun bt267 => ((laws_eqIntSS.f kj27 bt267.1 t242).bind fun t271 => (if t271 = true then (laws_FnExactKeyGroups.j2 kj27 t262 t261 (bt267.2 != t245)) else (laws_FnExactKeyGroups.j2 kj27 t262 t261 true))))) else (some false)))) = some r := H
         have A40 := Aside0.mk A400
         clear A400
         replace H := Option.bind_eq_some_iff.mp H
         obtain ⟨t263, A410, H⟩ := H
         replace H : (if t263 < 0 then (some false) else (if t263 = t261 then ((laws_toStringS.f kj27 l1).bind fun t264 => ((impl_KeyGroups.f kj27 a0 t264 a2).bind fun bt267 => ((laws_eqIntSS.f kj27 bt267.1 t242).bind fun t271 => (if t271 = true then (laws_FnExactKeyGroups.j2 kj27 t262 t261 (bt267.2 != t245)) else (laws_FnExactKeyGroups.j2 kj27 t262 t261 true))))) else (some false))) = some r := H
         have A41 := Aside0.mk A410
         clear A410
         by_cases c42 : t263 < 0
         ·
          rw [if_pos c42] at H
          have c42b0 : decide (t263 < 0) = true := decide_eq_true c42
          clear c42
          obtain rfl := Option.some.inj H
          obtain ⟨Ao43, co43, eo43⟩ := Kd.S_slice HO_11.out
          subst eo43
          go_wp2_with (first | ((with_reducible refine gate_callee (f := 31) rfl ?_); refine goesL_ (some 72) rfl rfl Try.func31 (by kernel_rfl) rfl #[.slice Ao43 t249.length co43, .int .i64 1] rfl (by (try simp only [List.map_toArray, List.map_cons, List.map_nil]); first | done | rfl | (simp only [List.length_drop, List.length_take]; rfl)) ?_; (with_reducible refine (laws_markIntSS.calls kj27 (fun k_ => nq ≤ k_) (.slice Ao43 t249.length co43) t249 1 t261 t262 w _ ?side1 ?side2 A40.out).mono ?_); (case side1 => exact uB HB); (case side2 => exact HO_11.out); rintro e w44 ⟨rfl, hy0, hb, hkp⟩; refine ⟨_, rfl, ?_⟩; have n0_ := Aside0.mk (Kd.N_mono (ok' := fun k_ => k_ < nq) (Kd.N_keptB (HO_8.out) hkp (fun k_ hk_ hs_ => absurd hk_ (Nat.not_lt.2 hs_))) (fun k_ hk_ => hk_.1)); have n1_ := Aside0.mk (hy0); have n2_ := Aside0.mk (hb); clear HO_8 HO_11 HB; have HO_8 := n0_; have HO_11 := n1_; have HB := n2_; clear n0_ n1_ n2_; (try clear hb); (try clear hkp); (try clear hy0)) | ((with_reducible refine gate_callee (f := 32) rfl ?_); refine goesL_ (some 75) rfl rfl Try.func32 (by kernel_rfl) rfl #[.slice Ao43 t262.length co43, .int .i64 1] rfl (by (try simp only [List.map_toArray, List.map_cons, List.map_nil]); first | done | (rw [show t262.length = t249.length from (Kd.S_reads' HO_11.out).1.symm] <;> rfl) | rfl | (simp only [List.length_drop, List.length_take]; rfl)) ?_; (with_reducible refine (laws_heldIntSS.calls kj27 _ _ t262 1 t263 _ ?side1 ?side2 A41.out).mono ?_); (case side1 => repeat (first | exact (Kd.S_reads' HO_11.out).2.2 | (with_reducible refine Kd.C_alloc ?_ _) | (with_reducible refine Kd.C_drewN ?_ _) | (with_reducible refine Kd.C_drew ?_))); (case side2 => rw [show t262.length = t249.length from (Kd.S_reads' HO_11.out).1.symm]; exact (Kd.S_reads' HO_11.out).2.1); rintro e w' ⟨rfl, ⟨nd, rfl⟩⟩; refine ⟨_, rfl, ?_⟩))
          go_ret
          exact ⟨by first | rfl | (simp [errW_none, errW_some] <;> rfl) | (simp [*, errW_none, errW_some] <;> rfl), uB HB⟩
         ·
          rw [if_neg c42] at H
          have c42b0 : decide (t263 < 0) = false := decide_eq_false c42
          clear c42
          by_cases c45 : t263 = t261
          ·
           rw [if_pos c45] at H
           have c45b0 : (t263 == t261) = true := beq_iff_eq.mpr c45
           have c45b1 : (t263 != t261) = false := bne_eq_false_iff_eq.mpr c45
           clear c45
           replace H := Option.bind_eq_some_iff.mp H
           obtain ⟨t264, A460, H⟩ := H
           replace H : ((impl_KeyGroups.f kj27 a0 t264 a2).bind fun bt267 => ((laws_eqIntSS.f kj27 bt267.1 t242).bind fun t271 => (if t271 = true then (laws_FnExactKeyGroups.j2 kj27 t262 t261 (bt267.2 != t245)) else (laws_FnExactKeyGroups.j2 kj27 t262 t261 true)))) = some r := H
           have A46 := Aside0.mk A460
           clear A460
           replace H := Option.bind_eq_some_iff.mp H
           obtain ⟨⟨t267, t268⟩, A470, H⟩ := H
           replace H : ((laws_eqIntSS.f kj27 t267 t242).bind fun t271 => (if t271 = true then (laws_FnExactKeyGroups.j2 kj27 t262 t261 (t268 != t245)) else (laws_FnExactKeyGroups.j2 kj27 t262 t261 true))) = some r := H
           have A47 := Aside0.mk A470
           clear A470
           have HC48 := Aside0.mk H
           clear H
           obtain ⟨Ao49, co49, eo49⟩ := Kd.S_slice HO_11.out
           subst eo49
           go_upto_region 25 with (first | ((with_reducible refine gate_callee (f := 31) rfl ?_); refine goesL_ (some 72) rfl rfl Try.func31 (by kernel_rfl) rfl #[.slice Ao49 t249.length co49, .int .i64 1] rfl (by (try simp only [List.map_toArray, List.map_cons, List.map_nil]); first | done | rfl | (simp only [List.length_drop, List.length_take]; rfl)) ?_; (with_reducible refine (laws_markIntSS.calls kj27 (fun k_ => nq ≤ k_) (.slice Ao49 t249.length co49) t249 1 t261 t262 w _ ?side1 ?side2 A40.out).mono ?_); (case side1 => exact uB HB); (case side2 => exact HO_11.out); rintro e w50 ⟨rfl, hy0, hb, hkp⟩; refine ⟨_, rfl, ?_⟩; have n0_ := Aside0.mk (Kd.N_mono (ok' := fun k_ => k_ < nq) (Kd.N_keptB (HO_8.out) hkp (fun k_ hk_ hs_ => absurd hk_ (Nat.not_lt.2 hs_))) (fun k_ hk_ => hk_.1)); have n1_ := Aside0.mk (hy0); have n2_ := Aside0.mk (hb); clear HO_8 HO_11 HB; have HO_8 := n0_; have HO_11 := n1_; have HB := n2_; clear n0_ n1_ n2_; (try clear hb); (try clear hkp); (try clear hy0)) | ((with_reducible refine gate_callee (f := 32) rfl ?_); refine goesL_ (some 75) rfl rfl Try.func32 (by kernel_rfl) rfl #[.slice Ao49 t262.length co49, .int .i64 1] rfl (by (try simp only [List.map_toArray, List.map_cons, List.map_nil]); first | done | (rw [show t262.length = t249.length from (Kd.S_reads' HO_11.out).1.symm] <;> rfl) | rfl | (simp only [List.length_drop, List.length_take]; rfl)) ?_; (with_reducible refine (laws_heldIntSS.calls kj27 _ _ t262 1 t263 _ ?side1 ?side2 A41.out).mono ?_); (case side1 => repeat (first | exact (Kd.S_reads' HO_11.out).2.2 | (with_reducible refine Kd.C_alloc ?_ _) | (with_reducible refine Kd.C_drewN ?_ _) | (with_reducible refine Kd.C_drew ?_))); (case side2 => rw [show t262.length = t249.length from (Kd.S_reads' HO_11.out).1.symm]; exact (Kd.S_reads' HO_11.out).2.1); rintro e w' ⟨rfl, ⟨nd, rfl⟩⟩; refine ⟨_, rfl, ?_⟩) | ((with_reducible refine gate_callee (f := 12) rfl ?_); refine goesL_ (some 84) rfl rfl Try.func12 (by kernel_rfl) rfl #[.slice A1 l1.length c1] rfl (by (try simp only [List.map_toArray, List.map_cons, List.map_nil]); first | done | rfl | (simp only [List.length_drop, List.length_take]; rfl)) ?_; (with_reducible refine (laws_toStringS.calls kj27 _ _ l1 t264 _ ?side1 ?side2 A46.out).mono ?_); (case side1 => repeat (first | exact (Kd.C_below HR1.out (uB HB)) | (with_reducible refine Kd.C_alloc ?_ _) | (with_reducible refine Kd.C_drewN ?_ _) | (with_reducible refine Kd.C_drew ?_))); (case side2 => exact HC1.out); rintro e w51 ⟨v265, rfl, ho0, hb⟩; refine ⟨_, rfl, ?_⟩; have n0_ := Aside0.mk (Kd.N_elder' (by (with_reducible repeat (first | apply Kd.N_alloc | apply Kd.N_drewN | apply Kd.N_drew)); exact HO_8.out) (Kd.R_base ho0) hb); have n1_ := Aside0.mk (Kd.S_elder' (by (with_reducible repeat (first | apply Kd.S_alloc | apply Kd.S_drewN | apply Kd.S_drew)); exact HO_11.out) (Kd.R_base ho0) hb); have n2_ := Aside0.mk (Kd.R_lower ho0 (below_size (uB HB))); have n3_ := Aside0.mk (below_step (uB HB) hb); clear HO_8 HO_11 HB; have HO_8 := n0_; have HO_11 := n1_; have HO266 := n2_; have HB := n3_; clear n0_ n1_ n2_ n3_; (try clear hb); (try clear hb2); (try clear hk); (try clear hi); (try clear ho0); obtain ⟨Ao52, co52, eo52⟩ := Kd.R_slice HO266.out; subst eo52) | ((with_reducible refine gate_callee (f := 29) rfl ?_); refine goesL_ (some 86) rfl rfl Try.func29 (by kernel_rfl) rfl #[.int .i64 a0, .slice Ao52 t264.length co52, .int .i64 a2] rfl (by (try simp only [List.map_toArray, List.map_cons, List.map_nil]); first | done | rfl | (simp only [List.length_drop, List.length_take]; rfl)) ?_; (with_reducible refine (impl_KeyGroups.calls kj27 a0 _ _ t264 a2 t267 t268 _ ?side1 ?side2 A47.out).mono ?_); (case side1 => exact uD HO266); (case side2 => exact (Kd.R_reads' HO266.out).2.1); rintro e w53 ⟨v269, rfl, ho0, hb⟩; refine ⟨_, rfl, ?_⟩; have n0_ := Aside0.mk (Kd.N_elder' (by (with_reducible repeat (first | apply Kd.N_alloc | apply Kd.N_drewN | apply Kd.N_drew)); exact HO_8.out) (Kd.S_base ho0) hb); have n1_ := Aside0.mk (Kd.S_elder' (by (with_reducible repeat (first | apply Kd.S_alloc | apply Kd.S_drewN | apply Kd.S_drew)); exact HO_11.out) (Kd.S_base ho0) hb); have n2_ := Aside0.mk (Kd.R_below (uR HO266) hb); have n3_ := Aside0.mk (Kd.N_lower (Kd.N_mono (ok' := fun k_ => some k_ ≠ (v243 : Value).ownBlock ∧ some k_ ≠ (.slice Ao49 t249.length co49 : Value).ownBlock ∧ some k_ ≠ (.slice Ao52 t264.length co52 : Value).ownBlock) (Kd.S_N (Kd.S_bound ho0)) (fun k_ hk_ => ⟨(Kd.fresh' (Kd.N_lt (by (with_reducible repeat (first | apply Kd.N_alloc | apply Kd.N_drewN | apply Kd.N_drew)); exact HO_8.out)) k_ hk_.2.1), (Kd.fresh' (Kd.S_lt (by (with_reducible repeat (first | apply Kd.S_alloc | apply Kd.S_drewN | apply Kd.S_drew)); exact HO_11.out)) k_ hk_.2.1), (Kd.fresh' (Kd.R_lt (uR HO266)) k_ hk_.2.1)⟩)) (below_size (uB HB))); have n4_ := Aside0.mk (below_step (uB HB) hb); clear HO_8 HO_11 HO266 HB; have HO_8 := n0_; have HO_11 := n1_; have HO266 := n2_; have HO270 := n3_; have HB := n4_; clear n0_ n1_ n2_ n3_ n4_; (try clear hb); (try clear hb2); (try clear hk); (try clear hi); (try clear ho0)))
           (try simp only [Act.put, List.setIfInBounds_toArray, List.set_cons_zero, List.set_cons_succ])
           go_cut [97] (fun v97 wc => ∃ (kq : Nat) (x97_47 : Bool), v97 = .bool x97_47 ∧ Aside0 (laws_FnExactKeyGroups.j2 kq t262 t261 x97_47 = some r) ∧ Aside0 (kq ≤ kj27) ∧ Aside0 (Kd.S (Kd.slice 3 (Kd.int .i64)) 23 wc w.heap.size (fun _ => True) (.slice Ao49 t249.length co49) t262) ∧ Aside0 (Below w.heap.size w wc))
           case first =>
            have H := HC48.out
            clear HC48
            replace H := Option.bind_eq_some_iff.mp H
            obtain ⟨t271, A540, H⟩ := H
            replace H : (if t271 = true then (laws_FnExactKeyGroups.j2 kj27 t262 t261 (t268 != t245)) else (laws_FnExactKeyGroups.j2 kj27 t262 t261 true)) = some r := H
            have A54 := Aside0.mk A540
            clear A540
            by_cases c55 : t271 = true
            ·
             subst c55
             have H1 : (laws_FnExactKeyGroups.j2 kj27 t262 t261 (t268 != t245)) = some r := by rw [if_pos rfl] at H; exact H
             clear H
             have H := H1
             clear H1
             have H' := Aside0.mk H
             clear H
             obtain ⟨Ao56, co56, eo56⟩ := Kd.N_slice HO270.out
             subst eo56
             obtain ⟨Ao57, co57, eo57⟩ := Kd.N_slice HO_8.out
             subst eo57
             go_wp2_with (first | ((with_reducible refine gate_callee (f := 30) rfl ?_); refine goesL_ (some 91) rfl rfl Try.func30 (by kernel_rfl) rfl #[.slice Ao56 t267.length co56, .slice Ao57 t242.length co57] rfl (by (try simp only [List.map_toArray, List.map_cons, List.map_nil]); first | done | rfl | (simp only [List.length_drop, List.length_take]; rfl)) ?_; (with_reducible refine (laws_eqIntSS.calls kj27 _ _ t267 _ _ t242 true _ ?side1 ?side2 ?side3 ?side4 A54.out).mono ?_); (case side1 => repeat (first | exact (Kd.N_reads' HO270.out).2.2 | (with_reducible refine Kd.C_alloc ?_ _) | (with_reducible refine Kd.C_drewN ?_ _) | (with_reducible refine Kd.C_drew ?_))); (case side2 => exact (Kd.N_reads' HO270.out).2.1); (case side3 => repeat (first | exact (Kd.N_reads' HO_8.out).2.2 | (with_reducible refine Kd.C_alloc ?_ _) | (with_reducible refine Kd.C_drewN ?_ _) | (with_reducible refine Kd.C_drew ?_))); (case side4 => exact (Kd.N_reads' HO_8.out).2.1); rintro e w' ⟨rfl, ⟨nd, rfl⟩⟩; refine ⟨_, rfl, ?_⟩))
             go_meet
             case rel => exact ⟨_, ((t268 != t245)), (by first | rfl | (simp; done) | (simp [*]; done)), H', ⟨by have := HJ9.out; have := HJ27.out; first | omega | exact Nat.le_refl _⟩, ⟨by (with_reducible repeat (first | apply Kd.S_alloc | apply Kd.S_drewN | apply Kd.S_drew)); exact Kd.S_mono HO_11.out (fun _ hk => trivial)⟩, ⟨uB HB⟩⟩
            ·
             replace c55 := Bool.eq_false_iff.mpr c55
             subst c55
             have H1 : (laws_FnExactKeyGroups.j2 kj27 t262 t261 true) = some r := by rw [if_neg (show ¬ (false = true) by decide)] at H; exact H
             clear H
             have H := H1
             clear H1
             have H' := Aside0.mk H
             clear H
             obtain ⟨Ao58, co58, eo58⟩ := Kd.N_slice HO270.out
             subst eo58
             obtain ⟨Ao59, co59, eo59⟩ := Kd.N_slice HO_8.out
             subst eo59
             go_wp2_with (first | ((with_reducible refine gate_callee (f := 30) rfl ?_); refine goesL_ (some 91) rfl rfl Try.func30 (by kernel_rfl) rfl #[.slice Ao58 t267.length co58, .slice Ao59 t242.length co59] rfl (by (try simp only [List.map_toArray, List.map_cons, List.map_nil]); first | done | rfl | (simp only [List.length_drop, List.length_take]; rfl)) ?_; (with_reducible refine (laws_eqIntSS.calls kj27 _ _ t267 _ _ t242 false _ ?side1 ?side2 ?side3 ?side4 A54.out).mono ?_); (case side1 => repeat (first | exact (Kd.N_reads' HO270.out).2.2 | (with_reducible refine Kd.C_alloc ?_ _) | (with_reducible refine Kd.C_drewN ?_ _) | (with_reducible refine Kd.C_drew ?_))); (case side2 => exact (Kd.N_reads' HO270.out).2.1); (case side3 => repeat (first | exact (Kd.N_reads' HO_8.out).2.2 | (with_reducible refine Kd.C_alloc ?_ _) | (with_reducible refine Kd.C_drewN ?_ _) | (with_reducible refine Kd.C_drew ?_))); (case side4 => exact (Kd.N_reads' HO_8.out).2.1); rintro e w' ⟨rfl, ⟨nd, rfl⟩⟩; refine ⟨_, rfl, ?_⟩))
             go_meet
             case rel => exact ⟨_, (true), (by first | rfl | (simp; done) | (simp [*]; done)), H', ⟨by have := HJ9.out; have := HJ27.out; first | omega | exact Nat.le_refl _⟩, ⟨by (with_reducible repeat (first | apply Kd.S_alloc | apply Kd.S_drewN | apply Kd.S_drew)); exact Kd.S_mono HO_11.out (fun _ hk => trivial)⟩, ⟨uB HB⟩⟩
           case rest =>
            clear HC48
            try clear c1
            try clear c2
            try clear p2
            try clear c3
            try clear c4
            try clear c5
            try clear c5b0
            try clear c8
            try clear c10
            try clear c12
            try clear c15
            try clear c18
            try clear c23
            try clear c25
            try clear c26
            try clear c28
            try clear c29
            try clear c30
            try clear c31
            try clear c32
            try clear c32b0
            try clear c34
            try clear c39
            try clear c42
            try clear c42b0
            try clear c45
            try clear c45b0
            try clear c45b1
            try clear c55
            try clear p2
            obtain ⟨kq, x97_47, rfl, HA, HJ47, HO_11, HB⟩ := hcut
            have hl11_47 := (Kd.S_reads' HO_11.out).1
            rw [hl11_47] at HO_11
            (try simp only [hl11_47])
            cases kq with
            | zero => exact absurd HA.out (by simp [laws_FnExactKeyGroups.j2])
            | succ kj47 =>
             have H := HA.out
             clear HA
             simp only [laws_FnExactKeyGroups.j2] at H
             by_cases c60 : x97_47 = true
             ·
              subst c60
              have H1 : (some false) = some r := by rw [if_pos rfl] at H; exact H
              clear H
              have H := H1
              clear H1
              obtain rfl := Option.some.inj H
              go_wp2
              go_ret
              exact ⟨by first | rfl | (simp [errW_none, errW_some] <;> rfl) | (simp [*, errW_none, errW_some] <;> rfl), uB HB⟩
             ·
              replace c60 := Bool.eq_false_iff.mpr c60
              subst c60
              have H1 : ((laws_heldIntSS.f kj47 t262 1).bind fun t272 => (if t272 < 0 then (some false) else (if t272 = t261 then (some true) else (some false)))) = some r := by rw [if_neg (show ¬ (false = true) by decide)] at H; exact H
              clear H
              have H := H1
              clear H1
              replace H := Option.bind_eq_some_iff.mp H
              obtain ⟨t272, A610, H⟩ := H
              replace H : (if t272 < 0 then (some false) else (if t272 = t261 then (some true) else (some false))) = some r := H
              have A61 := Aside0.mk A610
              clear A610
              by_cases c62 : t272 < 0
              ·
               rw [if_pos c62] at H
               have c62b0 : decide (t272 < 0) = true := decide_eq_true c62
               clear c62
               obtain rfl := Option.some.inj H
               go_wp2_with (first | ((with_reducible refine gate_callee (f := 32) rfl ?_); refine goesL_ (some 100) rfl rfl Try.func32 (by kernel_rfl) rfl #[.slice Ao49 t262.length co49, .int .i64 1] rfl (by (try simp only [List.map_toArray, List.map_cons, List.map_nil]); first | done | rfl | (simp only [List.length_drop, List.length_take]; rfl)) ?_; (with_reducible refine (laws_heldIntSS.calls kj47 _ _ t262 1 t272 _ ?side1 ?side2 A61.out).mono ?_); (case side1 => repeat (first | exact (Kd.S_reads' HO_11.out).2.2 | (with_reducible refine Kd.C_alloc ?_ _) | (with_reducible refine Kd.C_drewN ?_ _) | (with_reducible refine Kd.C_drew ?_))); (case side2 => exact (Kd.S_reads' HO_11.out).2.1); rintro e w' ⟨rfl, ⟨nd, rfl⟩⟩; refine ⟨_, rfl, ?_⟩))
               go_ret
               exact ⟨by first | rfl | (simp [errW_none, errW_some] <;> rfl) | (simp [*, errW_none, errW_some] <;> rfl), uB HB⟩
              ·
               rw [if_neg c62] at H
               have c62b0 : decide (t272 < 0) = false := decide_eq_false c62
               clear c62
               by_cases c63 : t272 = t261
               ·
                rw [if_pos c63] at H
                have c63b0 : (t272 == t261) = true := beq_iff_eq.mpr c63
                have c63b1 : (t272 != t261) = false := bne_eq_false_iff_eq.mpr c63
                clear c63
                obtain rfl := Option.some.inj H
                go_wp2_with (first | ((with_reducible refine gate_callee (f := 32) rfl ?_); refine goesL_ (some 100) rfl rfl Try.func32 (by kernel_rfl) rfl #[.slice Ao49 t262.length co49, .int .i64 1] rfl (by (try simp only [List.map_toArray, List.map_cons, List.map_nil]); first | done | rfl | (simp only [List.length_drop, List.length_take]; rfl)) ?_; (with_reducible refine (laws_heldIntSS.calls kj47 _ _ t262 1 t272 _ ?side1 ?side2 A61.out).mono ?_); (case side1 => repeat (first | exact (Kd.S_reads' HO_11.out).2.2 | (with_reducible refine Kd.C_alloc ?_ _) | (with_reducible refine Kd.C_drewN ?_ _) | (with_reducible refine Kd.C_drew ?_))); (case side2 => exact (Kd.S_reads' HO_11.out).2.1); rintro e w' ⟨rfl, ⟨nd, rfl⟩⟩; refine ⟨_, rfl, ?_⟩))
                go_ret
                exact ⟨by first | rfl | (simp [errW_none, errW_some] <;> rfl) | (simp [*, errW_none, errW_some] <;> rfl), uB HB⟩
               ·
                rw [if_neg c63] at H
                have c63b0 : (t272 == t261) = false := beq_eq_false_iff_ne.mpr c63
                have c63b1 : (t272 != t261) = true := bne_iff_ne.mpr c63
                obtain rfl := Option.some.inj H
                go_wp2_with (first | ((with_reducible refine gate_callee (f := 32) rfl ?_); refine goesL_ (some 100) rfl rfl Try.func32 (by kernel_rfl) rfl #[.slice Ao49 t262.length co49, .int .i64 1] rfl (by (try simp only [List.map_toArray, List.map_cons, List.map_nil]); first | done | rfl | (simp only [List.length_drop, List.length_take]; rfl)) ?_; (with_reducible refine (laws_heldIntSS.calls kj47 _ _ t262 1 t272 _ ?side1 ?side2 A61.out).mono ?_); (case side1 => repeat (first | exact (Kd.S_reads' HO_11.out).2.2 | (with_reducible refine Kd.C_alloc ?_ _) | (with_reducible refine Kd.C_drewN ?_ _) | (with_reducible refine Kd.C_drew ?_))); (case side2 => exact (Kd.S_reads' HO_11.out).2.1); rintro e w' ⟨rfl, ⟨nd, rfl⟩⟩; refine ⟨_, rfl, ?_⟩))
                go_ret
                exact ⟨by first | rfl | (simp [errW_none, errW_some] <;> rfl) | (simp [*, errW_none, errW_some] <;> rfl), uB HB⟩
          ·
           rw [if_neg c45] at H
           have c45b0 : (t263 == t261) = false := beq_eq_false_iff_ne.mpr c45
           have c45b1 : (t263 != t261) = true := bne_iff_ne.mpr c45
           obtain rfl := Option.some.inj H
           obtain ⟨Ao64, co64, eo64⟩ := Kd.S_slice HO_11.out
           subst eo64
           go_wp2_with (first | ((with_reducible refine gate_callee (f := 31) rfl ?_); refine goesL_ (some 72) rfl rfl Try.func31 (by kernel_rfl) rfl #[.slice Ao64 t249.length co64, .int .i64 1] rfl (by (try simp only [List.map_toArray, List.map_cons, List.map_nil]); first | done | rfl | (simp only [List.length_drop, List.length_take]; rfl)) ?_; (with_reducible refine (laws_markIntSS.calls kj27 (fun k_ => nq ≤ k_) (.slice Ao64 t249.length co64) t249 1 t261 t262 w _ ?side1 ?side2 A40.out).mono ?_); (case side1 => exact uB HB); (case side2 => exact HO_11.out); rintro e w65 ⟨rfl, hy0, hb, hkp⟩; refine ⟨_, rfl, ?_⟩; have n0_ := Aside0.mk (Kd.N_mono (ok' := fun k_ => k_ < nq) (Kd.N_keptB (HO_8.out) hkp (fun k_ hk_ hs_ => absurd hk_ (Nat.not_lt.2 hs_))) (fun k_ hk_ => hk_.1)); have n1_ := Aside0.mk (hy0); have n2_ := Aside0.mk (hb); clear HO_8 HO_11 HB; have HO_8 := n0_; have HO_11 := n1_; have HB := n2_; clear n0_ n1_ n2_; (try clear hb); (try clear hkp); (try clear hy0)) | ((with_reducible refine gate_callee (f := 32) rfl ?_); refine goesL_ (some 75) rfl rfl Try.func32 (by kernel_rfl) rfl #[.slice Ao64 t262.length co64, .int .i64 1] rfl (by (try simp only [List.map_toArray, List.map_cons, List.map_nil]); first | done | (rw [show t262.length = t249.length from (Kd.S_reads' HO_11.out).1.symm] <;> rfl) | rfl | (simp only [List.length_drop, List.length_take]; rfl)) ?_; (with_reducible refine (laws_heldIntSS.calls kj27 _ _ t262 1 t263 _ ?side1 ?side2 A41.out).mono ?_); (case side1 => repeat (first | exact (Kd.S_reads' HO_11.out).2.2 | (with_reducible refine Kd.C_alloc ?_ _) | (with_reducible refine Kd.C_drewN ?_ _) | (with_reducible refine Kd.C_drew ?_))); (case side2 => rw [show t262.length = t249.length from (Kd.S_reads' HO_11.out).1.symm]; exact (Kd.S_reads' HO_11.out).2.1); rintro e w' ⟨rfl, ⟨nd, rfl⟩⟩; refine ⟨_, rfl, ?_⟩))
           go_ret
           exact ⟨by first | rfl | (simp [errW_none, errW_some] <;> rfl) | (simp [*, errW_none, errW_some] <;> rfl), uB HB⟩
     ·
      replace c26 := Bool.eq_false_iff.mpr c26
      subst c26
      have H1 : (some false) = some r := by rw [if_neg (show ¬ (false = true) by decide)] at H; exact H
      clear H
      have H := H1
      clear H1
      obtain rfl := Option.some.inj H
      go_wp2_with (first | ((with_reducible refine gate_callee (f := 12) rfl ?_); refine goesL_ (some 51) rfl rfl Try.func12 (by kernel_rfl) rfl #[.slice A1 l1.length c1] rfl (by (try simp only [List.map_toArray, List.map_cons, List.map_nil]); first | done | rfl | (simp only [List.length_drop, List.length_take]; rfl)) ?_; (with_reducible refine (laws_toStringS.calls kj9 _ _ l1 t254 _ ?side1 ?side2 A24.out).mono ?_); (case side1 => exact uC HR1 HB); (case side2 => exact HC1.out); rintro e w66 ⟨v255, rfl, ho0, hb⟩; refine ⟨_, rfl, ?_⟩; have n0_ := Aside0.mk (Kd.N_elder' (by (with_reducible repeat (first | apply Kd.N_alloc | apply Kd.N_drewN | apply Kd.N_drew)); exact HO_8.out) (Kd.R_base ho0) hb); have n1_ := Aside0.mk (Kd.R_elder' (uR HO_10) (Kd.R_base ho0) hb); have n2_ := Aside0.mk (Kd.S_elder' (by (with_reducible repeat (first | apply Kd.S_alloc | apply Kd.S_drewN | apply Kd.S_drew)); exact HO_11.out) (Kd.R_base ho0) hb); have n3_ := Aside0.mk (Kd.R_lower (Kd.R_new' ho0 (Kd.R_lt (uR HO_10))) (below_size (uB HB))); have n4_ := Aside0.mk (below_step (uB HB) hb); clear HO_8 HO_10 HO_11 HB; have HO_8 := n0_; have HO_10 := n1_; have HO_11 := n2_; have HO256 := n3_; have HB := n4_; clear n0_ n1_ n2_ n3_ n4_; (try clear hb); (try clear hb2); (try clear hk); (try clear hi); (try clear ho0); obtain ⟨Ao67, co67, eo67⟩ := Kd.R_slice HO256.out; subst eo67) | ((with_reducible refine gate_callee (f := 15) rfl ?_); refine goesL_ (some 52) rfl rfl Try.func15 (by kernel_rfl) rfl #[.slice Ao15 t246.length co15, .slice Ao67 t254.length co67] rfl (by (try simp only [List.map_toArray, List.map_cons, List.map_nil]); first | done | rfl | (simp only [List.length_drop, List.length_take]; rfl)) ?_; (with_reducible refine (laws_eqStringS.calls kj9 _ _ t246 _ _ t254 false _ ?side1 ?side2 ?side3 ?side4 A25.out).mono ?_); (case side1 => exact uD HO_10); (case side2 => exact (Kd.R_reads' HO_10.out).2.1); (case side3 => exact uD HO256); (case side4 => exact (Kd.R_reads' HO256.out).2.1); rintro e w' ⟨rfl, ⟨nd, rfl⟩⟩; refine ⟨_, rfl, ?_⟩))
      go_ret
      exact ⟨by first | rfl | (simp [errW_none, errW_some] <;> rfl) | (simp [*, errW_none, errW_some] <;> rfl), uB HB⟩

end Go.Proofs.Ytlkbffkafpaooaa.PFnExactKeyGroups
