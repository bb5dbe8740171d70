-- made by wip/tools/myprint.py over the kit's print, for this claim
import Derived.Test.YtgnpledbeohjgaaPFnExactUnionBloomx0
import Derived.Test.YtgnpledbeohjgaaPFnExactUnionBloomx1
import Derived.Test.YtgnpledbeohjgaaPFnExactUnionBloomx2
import Derived.Test.YtgnpledbeohjgaaPFnExactUnionBloomx5
import Derived.Test.YtgnpledbeohjgaaPFnExactUnionBloomx6
namespace Go.Proofs.Ytgnpledbeohjgaa.PFnExactUnionBloom
open Go.RowKit Go.Proofs.YtgnpledbeohjgaaW.PrintWords Go.Proofs.YtgnpledbeohjgaaW.PrintLast Go.Proofs.YtgnpledbeohjgaaW.PrintMore
attribute [local go_sem] max2_int min2_int max_two min_two max_three min_three max_four min_four   -- for this text's walks alone
set_option linter.unusedVariables false
set_option linter.unusedSimpArgs false

open List (setIfInBounds_toArray set_cons_zero set_cons_succ)
/-! ### laws_FnExactUnionBloom: function 4 -/
mutual
def laws_FnExactUnionBloom.j0 : Nat → Bool → Bool → Bool → Int → Int → Int → List Int → Int → Int → Int → List Int → Int → Int → Int → List Int → Int → Int → Int → List Int → Int → Int → Int → List Int → Int → Int → Int → List Int → Option (Bool)
 | 0, _, _, _, _, _, _, _, _, _, _, _, _, _, _, _, _, _, _, _, _, _, _, _, _, _, _, _ => none
 | k + 1, x7, x11, x53, x240000, x240001, x240002, x240003, x241000, x241001, x241002, x241003, x263000, x263001, x263002, x263003, x270000, x270001, x270002, x270003, x277000, x277001, x277002, x277003, x285000, x285001, x285002, x285003 => if x53 = true then (some false) else ((laws_toBloom.f k x240000 x240001 x240002 x240003).bind fun bt286 => ((laws_eqBloom.f k x270000 x270001 x270002 x270003 bt286.1 bt286.2.1 bt286.2.2.1 bt286.2.2.2).bind fun t292 => (if t292 = true then ((laws_toBloom.f k x241000 x241001 x241002 x241003).bind fun bt293 => ((laws_eqBloom.f k x277000 x277001 x277002 x277003 bt293.1 bt293.2.1 bt293.2.2.1 bt293.2.2.2).bind fun t299 => (if t299 = true then ((laws_markBloom.f k x270000 x270001 x270002 x270003 1).bind fun bt300 => ((laws_markBloom.f k x277000 x277001 x277002 x277003 bt300.1).bind fun bt302 => (if bt302.1 < 0 then (laws_FnExactUnionBloom.j1 k x7 true x240000 x240001 x240002 x240003 x241000 x241001 x241002 x241003 x263000 x263001 x263002 x263003 x285000 x285001 x285002 x285003) else ((laws_eqBloom.f k x285000 x285001 x285002 x285003 x263000 x263001 x263002 x263003).bind fun t304 => (if t304 = true then (laws_FnExactUnionBloom.j1 k x7 (x11 != x7) x240000 x240001 x240002 x240003 x241000 x241001 x241002 x241003 x263000 x263001 x263002 x263003 x285000 x285001 x285002 x285003) else (laws_FnExactUnionBloom.j1 k x7 true x240000 x240001 x240002 x240003 x241000 x241001 x241002 x241003 x263000 x263001 x263002 x263003 x285000 x285001 x285002 x285003)))))) else (some false)))) else (some false))))
def laws_FnExactUnionBloom.j1 : Nat → Bool → Bool → Int → Int → Int → List Int → Int → Int → Int → List Int → Int → Int → Int → List Int → Int → Int → Int → List Int → Option (Bool)
 | 0, _, _, _, _, _, _, _, _, _, _, _, _, _, _, _, _, _, _ => none
 | k + 1, x7, x82, x240000, x240001, x240002, x240003, x241000, x241001, x241002, x241003, x263000, x263001, x263002, x263003, x285000, x285001, x285002, x285003 => if x82 = true then (some false) else ((laws_markBloom.f k x285000 x285001 x285002 x285003 1).bind fun bt305 => ((laws_heldBloom.f k x285000 x285001 x285002 bt305.2 1).bind fun t307 => (if t307 < 0 then (some false) else (if t307 = bt305.1 then ((laws_toBloom.f k x240000 x240001 x240002 x240003).bind fun bt308 => ((laws_toBloom.f k x241000 x241001 x241002 x241003).bind fun bt314 => ((impl_UnionBloom.f k bt308.1 bt308.2.1 bt308.2.2.1 bt308.2.2.2 bt314.1 bt314.2.1 bt314.2.2.1 bt314.2.2.2).bind fun bt320 => ((laws_eqBloom.f k bt320.1 bt320.2.1 bt320.2.2.1 bt320.2.2.2.1 x263000 x263001 x263002 x263003).bind fun t328 => (if t328 = true then (laws_FnExactUnionBloom.j2 k bt305.1 (bt320.2.2.2.2 != x7) x285000 x285001 x285002 bt305.2) else (laws_FnExactUnionBloom.j2 k bt305.1 true x285000 x285001 x285002 bt305.2)))))) else (some false)))))
def laws_FnExactUnionBloom.j2 : Nat → Int → Bool → Int → Int → Int → List Int → Option (Bool)
 | 0, _, _, _, _, _, _ => none
 | k + 1, x13, x110, x285000, x285001, x285002, x285003 => if x110 = true then (some false) else ((laws_heldBloom.f k x285000 x285001 x285002 x285003 1).bind fun t329 => (if t329 < 0 then (some false) else (if t329 = x13 then (some true) else (some false))))
end
def laws_FnExactUnionBloom.f (k : Nat) (a0_0 : Int) (a0_1 : Int) (a0_2 : Int) (l0_3 : List Int) (a1_0 : Int) (a1_1 : Int) (a1_2 : Int) (l1_3 : List Int) : Option (Bool) := (laws_szBloom.f a0_0 a0_1 a0_2 l0_3 1048576).bind fun t241 => (if t241 < 0 then (some true) else ((laws_szBloom.f a1_0 a1_1 a1_2 l1_3 t241).bind fun t242 => (if t242 < 0 then (some true) else ((laws_toBloom.f k a0_0 a0_1 a0_2 l0_3).bind fun bt243 => ((laws_toBloom.f k a1_0 a1_1 a1_2 l1_3).bind fun bt249 => ((spec_UnionBloom.f k bt243.1 bt243.2.1 bt243.2.2.1 bt243.2.2.2 bt249.1 bt249.2.1 bt249.2.2.1 bt249.2.2.2).bind fun bt255 => ((laws_toBloom.f k a0_0 a0_1 a0_2 l0_3).bind fun bt263 => ((laws_toBloom.f k a1_0 a1_1 a1_2 l1_3).bind fun bt270 => ((impl_UnionBloom.f k bt263.1 bt263.2.1 bt263.2.2.1 bt263.2.2.2 bt270.1 bt270.2.1 bt270.2.2.1 bt270.2.2.2).bind fun bt277 => ((laws_eqBloom.f k bt277.1 bt277.2.1 bt277.2.2.1 bt277.2.2.2.1 bt255.1 bt255.2.1 bt255.2.2.1 bt255.2.2.2.1).bind fun t285 => (if t285 = true then (laws_FnExactUnionBloom.j0 k bt255.2.2.2.2 bt277.2.2.2.2 (bt277.2.2.2.2 != bt255.2.2.2.2) a0_0 a0_1 a0_2 l0_3 a1_0 a1_1 a1_2 l1_3 bt255.1 bt255.2.1 bt255.2.2.1 bt255.2.2.2.1 bt263.1 bt263.2.1 bt263.2.2.1 bt263.2.2.2 bt270.1 bt270.2.1 bt270.2.2.1 bt270.2.2.2 bt277.1 bt277.2.1 bt277.2.2.1 bt277.2.2.2.1) else (laws_FnExactUnionBloom.j0 k bt255.2.2.2.2 bt277.2.2.2.2 true a0_0 a0_1 a0_2 l0_3 a1_0 a1_1 a1_2 l1_3 bt255.1 bt255.2.1 bt255.2.2.1 bt255.2.2.2.1 bt263.1 bt263.2.1 bt263.2.2.1 bt263.2.2.2 bt270.1 bt270.2.1 bt270.2.2.1 bt270.2.2.2 bt277.1 bt277.2.1 bt277.2.2.1 bt277.2.2.2.1))))))))))))
theorem laws_FnExactUnionBloom.mono_l : ∀ k, (∀ y0 y1 y2 y3 y4 y5 y6 y7 y8 y9 y10 y11 y12 y13 y14 y15 y16 y17 y18 y19 y20 y21 y22 y23 y24 y25 y26, LeO (laws_FnExactUnionBloom.j0 k y0 y1 y2 y3 y4 y5 y6 y7 y8 y9 y10 y11 y12 y13 y14 y15 y16 y17 y18 y19 y20 y21 y22 y23 y24 y25 y26) (laws_FnExactUnionBloom.j0 (k + 1) y0 y1 y2 y3 y4 y5 y6 y7 y8 y9 y10 y11 y12 y13 y14 y15 y16 y17 y18 y19 y20 y21 y22 y23 y24 y25 y26)) ∧ (∀ y0 y1 y2 y3 y4 y5 y6 y7 y8 y9 y10 y11 y12 y13 y14 y15 y16 y17, LeO (laws_FnExactUnionBloom.j1 k y0 y1 y2 y3 y4 y5 y6 y7 y8 y9 y10 y11 y12 y13 y14 y15 y16 y17) (laws_FnExactUnionBloom.j1 (k + 1) y0 y1 y2 y3 y4 y5 y6 y7 y8 y9 y10 y11 y12 y13 y14 y15 y16 y17)) ∧ (∀ y0 y1 y2 y3 y4 y5, LeO (laws_FnExactUnionBloom.j2 k y0 y1 y2 y3 y4 y5) (laws_FnExactUnionBloom.j2 (k + 1) y0 y1 y2 y3 y4 y5))
 | 0 => ⟨fun _ _ _ _ _ _ _ _ _ _ _ _ _ _ _ _ _ _ _ _ _ _ _ _ _ _ _ r h => by simp [laws_FnExactUnionBloom.j0] at h, fun _ _ _ _ _ _ _ _ _ _ _ _ _ _ _ _ _ _ r h => by simp [laws_FnExactUnionBloom.j1] at h, fun _ _ _ _ _ _ r h => by simp [laws_FnExactUnionBloom.j2] at h⟩
 | k + 1 => by
  obtain ⟨ih0, ih1, ih2⟩ := laws_FnExactUnionBloom.mono_l k
  refine ⟨?_, ?_, ?_⟩
  ·
   intro y0 y1 y2 y3 y4 y5 y6 y7 y8 y9 y10 y11 y12 y13 y14 y15 y16 y17 y18 y19 y20 y21 y22 y23 y24 y25 y26
   unfold laws_FnExactUnionBloom.j0
   repeat' first
   | (with_reducible exact ih0 _ _ _ _ _ _ _ _ _ _ _ _ _ _ _ _ _ _ _ _ _ _ _ _ _ _ _)
   | (with_reducible exact ih1 _ _ _ _ _ _ _ _ _ _ _ _ _ _ _ _ _ _)
   | (with_reducible exact ih2 _ _ _ _ _ _)
   | (with_reducible exact impl_UnionBloom.mono _ _ _ _ _ _ _ _ _)
   | (with_reducible exact laws_eqBloom.mono _ _ _ _ _ _ _ _ _)
   | (with_reducible exact laws_heldBloom.mono _ _ _ _ _ _)
   | (with_reducible exact laws_markBloom.mono _ _ _ _ _ _)
   | (with_reducible exact laws_toBloom.mono _ _ _ _ _)
   | (with_reducible exact spec_UnionBloom.mono _ _ _ _ _ _ _ _ _)
   | (with_reducible exact LeO.refl _)
   | (with_reducible exact LeO.none _)
   | (with_reducible refine LeO.ite ?_ ?_)
   | (with_reducible refine LeO.bind ?_ (fun _ => ?_))
   | exact ih0 _ _ _ _ _ _ _ _ _ _ _ _ _ _ _ _ _ _ _ _ _ _ _ _ _ _ _
   | exact ih1 _ _ _ _ _ _ _ _ _ _ _ _ _ _ _ _ _ _
   | exact ih2 _ _ _ _ _ _
   | exact impl_UnionBloom.mono _ _ _ _ _ _ _ _ _
   | exact laws_eqBloom.mono _ _ _ _ _ _ _ _ _
   | exact laws_heldBloom.mono _ _ _ _ _ _
   | exact laws_markBloom.mono _ _ _ _ _ _
   | exact laws_toBloom.mono _ _ _ _ _
   | exact spec_UnionBloom.mono _ _ _ _ _ _ _ _ _
   | exact LeO.none _
   | refine LeO.ite ?_ ?_
   | refine LeO.bind ?_ (fun _ => ?_)
  ·
   intro y0 y1 y2 y3 y4 y5 y6 y7 y8 y9 y10 y11 y12 y13 y14 y15 y16 y17
   unfold laws_FnExactUnionBloom.j1
   repeat' first
   | (with_reducible exact ih0 _ _ _ _ _ _ _ _ _ _ _ _ _ _ _ _ _ _ _ _ _ _ _ _ _ _ _)
   | (with_reducible exact ih1 _ _ _ _ _ _ _ _ _ _ _ _ _ _ _ _ _ _)
   | (with_reducible exact ih2 _ _ _ _ _ _)
   | (with_reducible exact impl_UnionBloom.mono _ _ _ _ _ _ _ _ _)
   | (with_reducible exact laws_eqBloom.mono _ _ _ _ _ _ _ _ _)
   | (with_reducible exact laws_heldBloom.mono _ _ _ _ _ _)
   | (with_reducible exact laws_markBloom.mono _ _ _ _ _ _)
   | (with_reducible exact laws_toBloom.mono _ _ _ _ _)
   | (with_reducible exact spec_UnionBloom.mono _ _ _ _ _ _ _ _ _)
   | (with_reducible exact LeO.refl _)
   | (with_reducible exact LeO.none _)
   | (with_reducible refine LeO.ite ?_ ?_)
   | (with_reducible refine LeO.bind ?_ (fun _ => ?_))
   | exact ih0 _ _ _ _ _ _ _ _ _ _ _ _ _ _ _ _ _ _ _ _ _ _ _ _ _ _ _
   | exact ih1 _ _ _ _ _ _ _ _ _ _ _ _ _ _ _ _ _ _
   | exact ih2 _ _ _ _ _ _
   | exact impl_UnionBloom.mono _ _ _ _ _ _ _ _ _
   | exact laws_eqBloom.mono _ _ _ _ _ _ _ _ _
   | exact laws_heldBloom.mono _ _ _ _ _ _
   | exact laws_markBloom.mono _ _ _ _ _ _
   | exact laws_toBloom.mono _ _ _ _ _
   | exact spec_UnionBloom.mono _ _ _ _ _ _ _ _ _
   | exact LeO.none _
   | refine LeO.ite ?_ ?_
   | refine LeO.bind ?_ (fun _ => ?_)
  intro y0 y1 y2 y3 y4 y5
  unfold laws_FnExactUnionBloom.j2
  repeat' first
  | (with_reducible exact ih0 _ _ _ _ _ _ _ _ _ _ _ _ _ _ _ _ _ _ _ _ _ _ _ _ _ _ _)
  | (with_reducible exact ih1 _ _ _ _ _ _ _ _ _ _ _ _ _ _ _ _ _ _)
  | (with_reducible exact ih2 _ _ _ _ _ _)
  | (with_reducible exact impl_UnionBloom.mono _ _ _ _ _ _ _ _ _)
  | (with_reducible exact laws_eqBloom.mono _ _ _ _ _ _ _ _ _)
  | (with_reducible exact laws_heldBloom.mono _ _ _ _ _ _)
  | (with_reducible exact laws_markBloom.mono _ _ _ _ _ _)
  | (with_reducible exact laws_toBloom.mono _ _ _ _ _)
  | (with_reducible exact spec_UnionBloom.mono _ _ _ _ _ _ _ _ _)
  | (with_reducible exact LeO.refl _)
  | (with_reducible exact LeO.none _)
  | (with_reducible refine LeO.ite ?_ ?_)
  | (with_reducible refine LeO.bind ?_ (fun _ => ?_))
  | exact ih0 _ _ _ _ _ _ _ _ _ _ _ _ _ _ _ _ _ _ _ _ _ _ _ _ _ _ _
  | exact ih1 _ _ _ _ _ _ _ _ _ _ _ _ _ _ _ _ _ _
  | exact ih2 _ _ _ _ _ _
  | exact impl_UnionBloom.mono _ _ _ _ _ _ _ _ _
  | exact laws_eqBloom.mono _ _ _ _ _ _ _ _ _
  | exact laws_heldBloom.mono _ _ _ _ _ _
  | exact laws_markBloom.mono _ _ _ _ _ _
  | exact laws_toBloom.mono _ _ _ _ _
  | exact spec_UnionBloom.mono _ _ _ _ _ _ _ _ _
  | exact LeO.none _
  | refine LeO.ite ?_ ?_
  | refine LeO.bind ?_ (fun _ => ?_)
theorem laws_FnExactUnionBloom.mono : ∀ a0 a1 a2 a3 a4 a5 a6 a7 k, LeO (laws_FnExactUnionBloom.f k a0 a1 a2 a3 a4 a5 a6 a7) (laws_FnExactUnionBloom.f (k + 1) a0 a1 a2 a3 a4 a5 a6 a7) := by
 intro a0 a1 a2 a3 a4 a5 a6 a7 k
 obtain ⟨ih0, ih1, ih2⟩ := laws_FnExactUnionBloom.mono_l k
 unfold laws_FnExactUnionBloom.f
 repeat' first
   | (with_reducible exact ih0 _ _ _ _ _ _ _ _ _ _ _ _ _ _ _ _ _ _ _ _ _ _ _ _ _ _ _)
   | (with_reducible exact ih1 _ _ _ _ _ _ _ _ _ _ _ _ _ _ _ _ _ _)
   | (with_reducible exact ih2 _ _ _ _ _ _)
   | (with_reducible exact impl_UnionBloom.mono _ _ _ _ _ _ _ _ _)
   | (with_reducible exact laws_eqBloom.mono _ _ _ _ _ _ _ _ _)
   | (with_reducible exact laws_heldBloom.mono _ _ _ _ _ _)
   | (with_reducible exact laws_markBloom.mono _ _ _ _ _ _)
   | (with_reducible exact laws_toBloom.mono _ _ _ _ _)
   | (with_reducible exact spec_UnionBloom.mono _ _ _ _ _ _ _ _ _)
   | (with_reducible exact LeO.refl _)
   | (with_reducible exact LeO.none _)
   | (with_reducible refine LeO.ite ?_ ?_)
   | (with_reducible refine LeO.bind ?_ (fun _ => ?_))
   | exact ih0 _ _ _ _ _ _ _ _ _ _ _ _ _ _ _ _ _ _ _ _ _ _ _ _ _ _ _
   | exact ih1 _ _ _ _ _ _ _ _ _ _ _ _ _ _ _ _ _ _
   | exact ih2 _ _ _ _ _ _
   | exact impl_UnionBloom.mono _ _ _ _ _ _ _ _ _
   | exact laws_eqBloom.mono _ _ _ _ _ _ _ _ _
   | exact laws_heldBloom.mono _ _ _ _ _ _
   | exact laws_markBloom.mono _ _ _ _ _ _
   | exact laws_toBloom.mono _ _ _ _ _
   | exact spec_UnionBloom.mono _ _ _ _ _ _ _ _ _
   | exact LeO.none _
   | refine LeO.ite ?_ ?_
   | refine LeO.bind ?_ (fun _ => ?_)
def laws_FnExactUnionBloom.T8 : Bool × List (List Nat × List Nat) := (true, [([], []), ([0], [0]), ([], []), ([2, 1], [2]), ([1, 3, 3], [1, 3]), ([4], [4]), ([5], [5]), ([5], [5]), ([], []), ([8, 6, 4, 0, 1, 2, 3, 4, 5, 6, 8], [6, 8]), ([7, 9, 0, 1, 2, 3, 4, 5, 6, 7, 8, 9], [7])])
def laws_FnExactUnionBloom.B8 : List Nat := [0, 1, 0, 7, 15, 31, 63, 63, 0, 383, 1023]
theorem laws_FnExactUnionBloom.tab8 : rtab .any (opsOf Try.f4 8) = laws_FnExactUnionBloom.T8 := by kernel_rfl
theorem laws_FnExactUnionBloom.bits8 : waitsOk laws_FnExactUnionBloom.T8.2 laws_FnExactUnionBloom.B8 = true := by kernel_rfl
def laws_FnExactUnionBloom.T31 : Bool × List (List Nat × List Nat) := (true, [([], []), ([0], [0]), ([], []), ([2, 1], [2]), ([1, 3, 3], [1, 3]), ([4], [4]), ([5], [5]), ([5], [5]), ([], []), ([8, 6, 4, 0, 1, 2, 3, 4, 5, 6, 8], [6, 8]), ([7, 9, 0, 1, 2, 3, 4, 5, 6, 7, 8, 9], [7])])
def laws_FnExactUnionBloom.B31 : List Nat := [0, 1, 0, 7, 15, 31, 63, 63, 0, 383, 1023]
theorem laws_FnExactUnionBloom.tab31 : rtab .any (opsOf Try.f4 31) = laws_FnExactUnionBloom.T31 := by kernel_rfl
theorem laws_FnExactUnionBloom.bits31 : waitsOk laws_FnExactUnionBloom.T31.2 laws_FnExactUnionBloom.B31 = true := by kernel_rfl
set_option maxHeartbeats 8000000 in
set_option maxRecDepth 100000 in
theorem laws_FnExactUnionBloom.calls (k : Nat) (a0_0 : Int) (a0_1 : Int) (a0_2 : Int) (A0_3 : Option Addr) (c0_3 : Nat) (l0_3 : List Int) (a1_0 : Int) (a1_1 : Int) (a1_2 : Int) (A1_3 : Option Addr) (c1_3 : Nat) (l1_3 : List Int) (r : Bool) (w : World) (hr0_3 : Kd.C (Kd.int .i64) w A0_3 l0_3.length l0_3) (hc0_3 : l0_3.length ≤ c0_3) (hr1_3 : Kd.C (Kd.int .i64) w A1_3 l1_3.length l1_3) (hc1_3 : l1_3.length ≤ c1_3) (h : laws_FnExactUnionBloom.f k a0_0 a0_1 a0_2 l0_3 a1_0 a1_1 a1_2 l1_3 = some r) :
  Calls Try.prog 4 #[.agg #[.int .i64 a0_0, .int .i64 a0_1, .int .i64 a0_2, .slice A0_3 l0_3.length c0_3], .agg #[.int .i64 a1_0, .int .i64 a1_1, .int .i64 a1_2, .slice A1_3 l1_3.length c1_3]] w fun e w' => e = .returned (.bool r) ∧ Below w.heap.size w w' := by
 have hu36 := Try.underlying36
 have hu40 := Try.underlying40
 have HR0_3 := Aside0.mk hr0_3
 have HC0_3 := Aside0.mk hc0_3
 clear hr0_3 hc0_3
 have HR1_3 := Aside0.mk hr1_3
 have HC1_3 := Aside0.mk hc1_3
 clear hr1_3 hc1_3
 have HB := Aside0.mk (Below.refl w.heap.size w)
 have H : ((laws_szBloom.f a0_0 a0_1 a0_2 l0_3 1048576).bind fun t241 => (if t241 < 0 then (some true) else ((laws_szBloom.f a1_0 a1_1 a1_2 l1_3 t241).bind fun t242 => (if t242 < 0 then (some true) else ((laws_toBloom.f k a0_0 a0_1 a0_2 l0_3).bind fun bt243 => ((laws_toBloom.f k a1_0 a1_1 a1_2 l1_3).bind fun bt249 => ((spec_UnionBloom.f k bt243.1 bt243.2.1 bt243.2.2.1 bt243.2.2.2 bt249.1 bt249.2.1 bt249.2.2.1 bt249.2.2.2).bind fun bt255 => ((laws_toBloom.f k a0_0 a0_1 a0_2 l0_3).bind fun bt263 => ((laws_toBloom.f k a1_0 a1_1 a1_2 l1_3).bind fun bt270 => ((impl_UnionBloom.f k bt263.1 bt263.2.1 bt263.2.2.1 bt263.2.2.2 bt270.1 bt270.2.1 bt270.2.2.1 bt270.2.2.2).bind fun bt277 => ((laws_eqBloom.f k bt277.1 bt277.2.1 bt277.2.2.1 bt277.2.2.2.1 bt255.1 bt255.2.1 bt255.2.2.1 bt255.2.2.2.1).bind fun t285 => (if t285 = true then (laws_FnExactUnionBloom.j0 k bt255.2.2.2.2 bt277.2.2.2.2 (bt277.2.2.2.2 != bt255.2.2.2.2) a0_0 a0_1 a0_2 l0_3 a1_0 a1_1 a1_2 l1_3 bt255.1 bt255.2.1 bt255.2.2.1 bt255.2.2.2.1 bt263.1 bt263.2.1 bt263.2.2.1 bt263.2.2.2 bt270.1 bt270.2.1 bt270.2.2.1 bt270.2.2.2 bt277.1 bt277.2.1 bt277.2.2.1 bt277.2.2.2.1) else (laws_FnExactUnionBloom.j0 k bt255.2.2.2.2 bt277.2.2.2.2 true a0_0 a0_1 a0_2 l0_3 a1_0 a1_1 a1_2 l1_3 bt255.1 bt255.2.1 bt255.2.2.1 bt255.2.2.2.1 bt263.1 bt263.2.1 bt263.2.2.1 bt263.2.2.2 bt270.1 bt270.2.1 bt270.2.2.1 bt270.2.2.2 bt277.1 bt277.2.1 bt277.2.2.1 bt277.2.2.2.1))))))))))))) = some r := h
 clear h
 replace H := Option.bind_eq_some_iff.mp H
 obtain ⟨t241, A30, H⟩ := H
 try dsimp only at H
 have A3 := Aside0.mk A30
 clear A30
 by_cases c4 : t241 < 0
 ·
  rw [if_pos c4] at H
  have c4b0 : decide (t241 < 0) = true := decide_eq_true c4
  clear c4
  obtain rfl := Option.some.inj H
  go_enter Try.func4, Try.ntmps4
  go_wp2_with (first | ((with_reducible refine gate_dst (N := 2) rfl ?_); refine box_event ?hg (N := 2) ?hd (cs := #[.int .i64 a0_0, .int .i64 a0_1, .int .i64 a0_2, .slice A0_3 l0_3.length c0_3]) (t := 36) ?hr ?_; (case hd => rfl); (case hg => rfl); (case hr => first | (go_simp; done) | (go_simp; rfl)); intro gb239 hg w5 hbox hb; have BK239 := Aside0.mk (hbox); have GW239 := nG HB hg; have GE239 := nG HB hg; have GI239 := gI GE239; replace HB := Aside0.mk (below_step (uN HB) hb); clear hb hbox hg) | ((with_reducible refine gate_dst (N := 3) rfl ?_); refine box_event ?hg (N := 3) ?hd (cs := #[.int .i64 a1_0, .int .i64 a1_1, .int .i64 a1_2, .slice A1_3 l1_3.length c1_3]) (t := 36) ?hr ?_; (case hd => rfl); (case hg => rfl); (case hr => first | (go_simp; done) | (go_simp; rfl)); intro gb240 hg w6 hbox hb; have BK240 := Aside0.mk (hbox); have GW240 := nG HB hg; have GE240 := nG HB hg; have GI240 := gI GE240; replace HB := Aside0.mk (below_step (uN HB) hb); have NB239_240 := nL BK239 hg; have NB240_239 := nR BK239 hg; replace BK239 := kB BK239 hb; clear hb hbox hg; have hnb7 := NB239_240.out; have hnc7 := NB240_239.out; obtain ⟨hcz8_0, hcz8_1, hcz8_2, hcz8_3, hfz8_0, hfz8_1, hfz8_2, hfz8_3⟩ := ce4 BK239) | ((with_reducible refine gate_callee (f := 16) rfl ?_); refine goesL_ (some 19) rfl rfl Try.func16 (by kernel_rfl) rfl #[.agg #[.int .i64 a0_0, .int .i64 a0_1, .int .i64 a0_2, .slice A0_3 l0_3.length c0_3], .int .i64 1048576] rfl (by (try simp only [List.map_toArray, List.map_cons, List.map_nil]); first | done | rfl) ?_; (with_reducible refine (laws_szBloom.calls a0_0 a0_1 a0_2 _ _ l0_3 1048576 t241 _ ?side1 ?side2 A3.out).mono ?_); (case side1 => exact uC HR0_3 HB); (case side2 => exact HC0_3.out); rintro e w9 ⟨rfl, hb⟩; refine ⟨_, rfl, ?_⟩; replace BK239 := kB BK239 hb; replace BK240 := kB BK240 hb; replace HB := Aside0.mk (below_step (uN HB) hb); (try clear hb); (try clear hb2); (try clear hk); (try clear hi)))
  go_ret
  exact ⟨by first | rfl | (simp [errW_none, errW_some] <;> rfl) | (simp [*, errW_none, errW_some] <;> rfl), uN HB⟩
 rw [if_neg c4] at H
 have c4b0 : decide (t241 < 0) = false := decide_eq_false c4
 clear c4
 replace H := Option.bind_eq_some_iff.mp H
 obtain ⟨t242, A100, H⟩ := H
 try dsimp only at H
 have A10 := Aside0.mk A100
 clear A100
 by_cases c11 : t242 < 0
 ·
  rw [if_pos c11] at H
  have c11b0 : decide (t242 < 0) = true := decide_eq_true c11
  clear c11
  obtain rfl := Option.some.inj H
  go_enter Try.func4, Try.ntmps4
  go_wp2_with (first | ((with_reducible refine gate_dst (N := 2) rfl ?_); refine box_event ?hg (N := 2) ?hd (cs := #[.int .i64 a0_0, .int .i64 a0_1, .int .i64 a0_2, .slice A0_3 l0_3.length c0_3]) (t := 36) ?hr ?_; (case hd => rfl); (case hg => rfl); (case hr => first | (go_simp; done) | (go_simp; rfl)); intro gb239 hg w12 hbox hb; have BK239 := Aside0.mk (hbox); have GW239 := nG HB hg; have GE239 := nG HB hg; have GI239 := gI GE239; replace HB := Aside0.mk (below_step (uN HB) hb); clear hb hbox hg) | ((with_reducible refine gate_dst (N := 3) rfl ?_); refine box_event ?hg (N := 3) ?hd (cs := #[.int .i64 a1_0, .int .i64 a1_1, .int .i64 a1_2, .slice A1_3 l1_3.length c1_3]) (t := 36) ?hr ?_; (case hd => rfl); (case hg => rfl); (case hr => first | (go_simp; done) | (go_simp; rfl)); intro gb240 hg w13 hbox hb; have BK240 := Aside0.mk (hbox); have GW240 := nG HB hg; have GE240 := nG HB hg; have GI240 := gI GE240; replace HB := Aside0.mk (below_step (uN HB) hb); have NB239_240 := nL BK239 hg; have NB240_239 := nR BK239 hg; replace BK239 := kB BK239 hb; clear hb hbox hg; have hnb14 := NB239_240.out; have hnc14 := NB240_239.out; obtain ⟨hcz15_0, hcz15_1, hcz15_2, hcz15_3, hfz15_0, hfz15_1, hfz15_2, hfz15_3⟩ := ce4 BK239) | ((with_reducible refine gate_callee (f := 16) rfl ?_); refine goesL_ (some 19) rfl rfl Try.func16 (by kernel_rfl) rfl #[.agg #[.int .i64 a0_0, .int .i64 a0_1, .int .i64 a0_2, .slice A0_3 l0_3.length c0_3], .int .i64 1048576] rfl (by (try simp only [List.map_toArray, List.map_cons, List.map_nil]); first | done | rfl) ?_; (with_reducible refine (laws_szBloom.calls a0_0 a0_1 a0_2 _ _ l0_3 1048576 t241 _ ?side1 ?side2 A3.out).mono ?_); (case side1 => exact uC HR0_3 HB); (case side2 => exact HC0_3.out); rintro e w16 ⟨rfl, hb⟩; refine ⟨_, rfl, ?_⟩; replace BK239 := kB BK239 hb; replace BK240 := kB BK240 hb; replace HB := Aside0.mk (below_step (uN HB) hb); (try clear hb); (try clear hb2); (try clear hk); (try clear hi); obtain ⟨hcz17_0, hcz17_1, hcz17_2, hcz17_3, hfz17_0, hfz17_1, hfz17_2, hfz17_3⟩ := ce4 BK240) | ((with_reducible refine gate_callee (f := 16) rfl ?_); refine goesL_ (some 24) rfl rfl Try.func16 (by kernel_rfl) rfl #[.agg #[.int .i64 a1_0, .int .i64 a1_1, .int .i64 a1_2, .slice A1_3 l1_3.length c1_3], .int .i64 t241] rfl (by (try simp only [List.map_toArray, List.map_cons, List.map_nil]); first | done | rfl) ?_; (with_reducible refine (laws_szBloom.calls a1_0 a1_1 a1_2 _ _ l1_3 t241 t242 _ ?side1 ?side2 A10.out).mono ?_); (case side1 => exact uC HR1_3 HB); (case side2 => exact HC1_3.out); rintro e w18 ⟨rfl, hb⟩; refine ⟨_, rfl, ?_⟩; replace BK239 := kB BK239 hb; replace BK240 := kB BK240 hb; replace HB := Aside0.mk (below_step (uN HB) hb); (try clear hb); (try clear hb2); (try clear hk); (try clear hi)))
  go_ret
  exact ⟨by first | rfl | (simp [errW_none, errW_some] <;> rfl) | (simp [*, errW_none, errW_some] <;> rfl), uN HB⟩
 rw [if_neg c11] at H
 have c11b0 : decide (t242 < 0) = false := decide_eq_false c11
 clear c11
 replace H := Option.bind_eq_some_iff.mp H
 obtain ⟨⟨t243, t244, t245, t246⟩, A190, H⟩ := H
 try dsimp only at H
 have A19 := Aside0.mk A190
 clear A190
 replace H := Option.bind_eq_some_iff.mp H
 obtain ⟨⟨t249, t250, t251, t252⟩, A200, H⟩ := H
 try dsimp only at H
 have A20 := Aside0.mk A200
 clear A200
 replace H := Option.bind_eq_some_iff.mp H
 obtain ⟨⟨t255, t256, t257, t258, t261⟩, A210, H⟩ := H
 try dsimp only at H
 have A21 := Aside0.mk A210
 clear A210
 replace H := Option.bind_eq_some_iff.mp H
 obtain ⟨⟨t263, t264, t265, t266⟩, A220, H⟩ := H
 try dsimp only at H
 have A22 := Aside0.mk A220
 clear A220
 replace H := Option.bind_eq_some_iff.mp H
 obtain ⟨⟨t270, t271, t272, t273⟩, A230, H⟩ := H
 try dsimp only at H
 have A23 := Aside0.mk A230
 clear A230
 replace H := Option.bind_eq_some_iff.mp H
 obtain ⟨⟨t277, t278, t279, t280, t283⟩, A240, H⟩ := H
 try dsimp only at H
 have A24 := Aside0.mk A240
 clear A240
 have HC25 := Aside0.mk H
 clear H
 go_enter Try.func4, Try.ntmps4
 try go_wp2_with (first | ((with_reducible refine gate_dst (N := 2) rfl ?_); refine box_event ?hg (N := 2) ?hd (cs := #[.int .i64 a0_0, .int .i64 a0_1, .int .i64 a0_2, .slice A0_3 l0_3.length c0_3]) (t := 36) ?hr ?_; (case hd => rfl); (case hg => rfl); (case hr => first | (go_simp; done) | (go_simp; rfl)); intro gb239 hg w26 hbox hb; have BK239 := Aside0.mk (hbox); have GW239 := nG HB hg; have GE239 := nG HB hg; have GI239 := gI GE239; replace HB := Aside0.mk (below_step (uN HB) hb); clear hb hbox hg) | ((with_reducible refine gate_dst (N := 3) rfl ?_); refine box_event ?hg (N := 3) ?hd (cs := #[.int .i64 a1_0, .int .i64 a1_1, .int .i64 a1_2, .slice A1_3 l1_3.length c1_3]) (t := 36) ?hr ?_; (case hd => rfl); (case hg => rfl); (case hr => first | (go_simp; done) | (go_simp; rfl)); intro gb240 hg w27 hbox hb; have BK240 := Aside0.mk (hbox); have GW240 := nG HB hg; have GE240 := nG HB hg; have GI240 := gI GE240; replace HB := Aside0.mk (below_step (uN HB) hb); have NB239_240 := nL BK239 hg; have NB240_239 := nR BK239 hg; replace BK239 := kB BK239 hb; clear hb hbox hg; have hnb28 := NB239_240.out; have hnc28 := NB240_239.out; obtain ⟨hcz29_0, hcz29_1, hcz29_2, hcz29_3, hfz29_0, hfz29_1, hfz29_2, hfz29_3⟩ := ce4 BK239) | ((with_reducible refine gate_callee (f := 16) rfl ?_); refine goesL_ (some 19) rfl rfl Try.func16 (by kernel_rfl) rfl #[.agg #[.int .i64 a0_0, .int .i64 a0_1, .int .i64 a0_2, .slice A0_3 l0_3.length c0_3], .int .i64 1048576] rfl (by (try simp only [List.map_toArray, List.map_cons, List.map_nil]); first | done | rfl) ?_; (with_reducible refine (laws_szBloom.calls a0_0 a0_1 a0_2 _ _ l0_3 1048576 t241 _ ?side1 ?side2 A3.out).mono ?_); (case side1 => exact uC HR0_3 HB); (case side2 => exact HC0_3.out); rintro e w30 ⟨rfl, hb⟩; refine ⟨_, rfl, ?_⟩; replace BK239 := kB BK239 hb; replace BK240 := kB BK240 hb; replace HB := Aside0.mk (below_step (uN HB) hb); (try clear hb); (try clear hb2); (try clear hk); (try clear hi); obtain ⟨hcz31_0, hcz31_1, hcz31_2, hcz31_3, hfz31_0, hfz31_1, hfz31_2, hfz31_3⟩ := ce4 BK240) | ((with_reducible refine gate_callee (f := 16) rfl ?_); refine goesL_ (some 24) rfl rfl Try.func16 (by kernel_rfl) rfl #[.agg #[.int .i64 a1_0, .int .i64 a1_1, .int .i64 a1_2, .slice A1_3 l1_3.length c1_3], .int .i64 t241] rfl (by (try simp only [List.map_toArray, List.map_cons, List.map_nil]); first | done | rfl) ?_; (with_reducible refine (laws_szBloom.calls a1_0 a1_1 a1_2 _ _ l1_3 t241 t242 _ ?side1 ?side2 A10.out).mono ?_); (case side1 => exact uC HR1_3 HB); (case side2 => exact HC1_3.out); rintro e w32 ⟨rfl, hb⟩; refine ⟨_, rfl, ?_⟩; replace BK239 := kB BK239 hb; replace BK240 := kB BK240 hb; replace HB := Aside0.mk (below_step (uN HB) hb); (try clear hb); (try clear hb2); (try clear hk); (try clear hi)))
 replace BK239 := Aside0.mk (blk_drew BK239.out)
 replace BK240 := Aside0.mk (blk_drew BK240.out)
 replace HB := Aside0.mk (below_drew1 HB.out)
 refine start_ (n := 11) (S := fun w' => w'.cell? ⟨gb239, 0, none⟩ = some (.int .i64 a0_0) ∧ w'.cell? ⟨gb239, 1, none⟩ = some (.int .i64 a0_1) ∧ w'.cell? ⟨gb239, 2, none⟩ = some (.int .i64 a0_2) ∧ w'.cell? ⟨gb239, 3, none⟩ = some (.slice A0_3 l0_3.length c0_3) ∧ w'.cell? ⟨gb240, 0, none⟩ = some (.int .i64 a1_0) ∧ w'.cell? ⟨gb240, 1, none⟩ = some (.int .i64 a1_1) ∧ w'.cell? ⟨gb240, 2, none⟩ = some (.int .i64 a1_2) ∧ w'.cell? ⟨gb240, 3, none⟩ = some (.slice A1_3 l1_3.length c1_3)) (ds := []) #[false, false, false, false, false, false, false, false, false, false, false] (by kernel_rfl) rfl rfl ⟨bc BK239 0, bc BK239 1, bc BK239 2, bc BK239 3, bc BK240 0, bc BK240 1, bc BK240 2, bc BK240 3⟩ (fun hHeld => ?_); refine with_tabW laws_FnExactUnionBloom.tab8 laws_FnExactUnionBloom.bits8 (fun HT_ HW_ => ?_)
 generalize w32.drew = w33 at BK239 BK240 HB hHeld ⊢
 refine take_ (i := 0) (N := some 28) (v := ?_) (a' := ?_) #[true, false, false, false, false, false, false, false, false, false, false] rfl rfl (take_ofW HT_.out HW_.out (by kernel_rfl)) (fun _ _ _ h => h) (Or.inl ⟨by rfl, ?_⟩) hHeld ?_ ?_
 rotate_left
 ·
  rintro w' ⟨s0, s1, s2, s3, s4, s5, s6, s7⟩
  go_simp
  with_reducible rfl
 rotate_left
 ·
  simp only [Act.put, setIfInBounds_toArray, set_cons_zero, set_cons_succ, i64_w, i32_w]
  rfl
 refine take_ (i := 2) (N := some 30) (v := ?_) (a' := ?_) #[true, false, true, false, false, false, false, false, false, false, false] rfl rfl (take_ofW HT_.out HW_.out (by kernel_rfl)) (fun _ _ _ h => h) (Or.inl ⟨by rfl, ?_⟩) hHeld ?_ ?_
 rotate_left
 ·
  rintro w' ⟨s0, s1, s2, s3, s4, s5, s6, s7⟩
  go_simp
  with_reducible rfl
 rotate_left
 ·
  simp only [Act.put, setIfInBounds_toArray, set_cons_zero, set_cons_succ, i64_w, i32_w]
  rfl
 refine join_ (σ := Value × Value × Value × Nat) 2 #[true, true, true, true, true, true, true, true, true, false, false] (fun s_ => [(29, .agg #[.int .i64 t243, .int .i64 t244, .int .i64 t245, s_.1]), (31, .agg #[.int .i64 t249, .int .i64 t250, .int .i64 t251, s_.2.1]), (32, .tuple #[.agg #[.int .i64 t255, .int .i64 t256, .int .i64 t257, s_.2.2.1], .bool t261]), (6, .pointer (some ⟨s_.2.2.2, 0, none⟩)), (27, .tuple #[.agg #[.int .i64 t255, .int .i64 t256, .int .i64 t257, s_.2.2.1], .bool t261]), (33, .agg #[.int .i64 t255, .int .i64 t256, .int .i64 t257, s_.2.2.1]), (34, .bool t261)]) (fun s_ w' => (w'.cell? ⟨gb239, 0, none⟩ = some (.int .i64 a0_0) ∧ w'.cell? ⟨gb239, 1, none⟩ = some (.int .i64 a0_1) ∧ w'.cell? ⟨gb239, 2, none⟩ = some (.int .i64 a0_2) ∧ w'.cell? ⟨gb239, 3, none⟩ = some (.slice A0_3 l0_3.length c0_3) ∧ w'.cell? ⟨gb240, 0, none⟩ = some (.int .i64 a1_0) ∧ w'.cell? ⟨gb240, 1, none⟩ = some (.int .i64 a1_1) ∧ w'.cell? ⟨gb240, 2, none⟩ = some (.int .i64 a1_2) ∧ w'.cell? ⟨gb240, 3, none⟩ = some (.slice A1_3 l1_3.length c1_3)) ∧ (Kd.R (Kd.int .i64) 3 w' w.heap.size (fun k_ => some k_ ≠ (s_.2.1 : Value).ownBlock ∧ some k_ ≠ (s_.2.2.1 : Value).ownBlock) s_.1 t246) ∧ (Kd.R (Kd.int .i64) 3 w' w.heap.size (fun k_ => some k_ ≠ (s_.1 : Value).ownBlock ∧ some k_ ≠ (s_.2.2.1 : Value).ownBlock) s_.2.1 t252) ∧ (Kd.R (Kd.int .i64) 3 w' w.heap.size (fun k_ => some k_ ≠ (s_.1 : Value).ownBlock ∧ some k_ ≠ (s_.2.1 : Value).ownBlock) s_.2.2.1 t258) ∧ (w'.heap[gb239]? = some (.cells #[.int .i64 a0_0, .int .i64 a0_1, .int .i64 a0_2, .slice A0_3 l0_3.length c0_3] 36 (0, 0))) ∧ (w'.heap[gb240]? = some (.cells #[.int .i64 a1_0, .int .i64 a1_1, .int .i64 a1_2, .slice A1_3 l1_3.length c1_3] 36 (0, 0))) ∧ (w'.heap[s_.2.2.2]? = some (.cells #[.int .i64 0, .int .i64 0, .int .i64 0, .slice none 0 0] 40 (0, 0))) ∧ (w.heap.size ≤ s_.2.2.2) ∧ (w.heap.size ≤ s_.2.2.2) ∧ (gb239 ≠ s_.2.2.2) ∧ (s_.2.2.2 ≠ gb239) ∧ (gb240 ≠ s_.2.2.2) ∧ (s_.2.2.2 ≠ gb240) ∧ (Below w.heap.size w w')) ?_ ?_
 rotate_left
 ·
  intro hCont
  refine two_ (i := 1) (j := 8) (Ni := some 29) (Nj := some 6) #[true, true, true, false, false, false, false, false, false, false, false] #[true, false, true, false, false, false, false, false, true, false, false] rfl rfl rfl rfl (two_of HT_.out (by kernel_rfl)) (by decide) (by decide) (fun K hK => ?_) (fun K hK => ?_)
  ·
   skip
   refine goes_ Try.func18 (by kernel_rfl) rfl #[.agg #[.int .i64 a0_0, .int .i64 a0_1, .int .i64 a0_2, .slice A0_3 l0_3.length c0_3]] (by rfl) rfl rfl (by (try simp only [List.map_toArray, List.map_cons, List.map_nil]); first | done | rfl) ?_
   with_reducible refine (laws_toBloom.calls k a0_0 a0_1 a0_2 _ _ l0_3 t243 t244 t245 t246 _ ?side1 ?side2 A19.out).mono ?_
   (case side1 => exact uC HR0_3 HB)
   (case side2 => exact HC0_3.out)
   rintro e w34 ⟨v247, rfl, ho0, hb⟩
   refine ⟨_, rfl, ?_⟩
   have HO248 := Aside0.mk (Kd.R_lower ho0 (below_size (uN HB)))
   replace BK239 := kB BK239 hb
   replace BK240 := kB BK240 hb
   replace HB := Aside0.mk (below_step (uN HB) hb)
   (try clear hb)
   (try clear hb2)
   (try clear hk)
   (try clear hi)
   (try clear ho0)
   refine hK.out _ _ ⟨bc BK239 0, bc BK239 1, bc BK239 2, bc BK239 3, bc BK240 0, bc BK240 1, bc BK240 2, bc BK240 3⟩ (fun hHeld => ?_)
   clear hK K
   refine norm_ (a' := ?_) ?_ ?_
   rotate_left
   ·
    show Act.put _ (some 29) _ = _
    simp only [Act.put, setIfInBounds_toArray, set_cons_zero, set_cons_succ, i64_w, i32_w]
    rfl
   refine two_ (i := 3) (j := 8) (Ni := some 31) (Nj := some 6) #[true, true, true, true, false, false, false, false, false, false, false] #[true, true, true, false, false, false, false, false, true, false, false] rfl rfl rfl rfl (two_of HT_.out (by kernel_rfl)) (by decide) (by decide) (fun K hK => ?_) (fun K hK => ?_)
   ·
    skip
    refine goes_ Try.func18 (by kernel_rfl) rfl #[.agg #[.int .i64 a1_0, .int .i64 a1_1, .int .i64 a1_2, .slice A1_3 l1_3.length c1_3]] (by rfl) rfl rfl (by (try simp only [List.map_toArray, List.map_cons, List.map_nil]); first | done | rfl) ?_
    with_reducible refine (laws_toBloom.calls k a1_0 a1_1 a1_2 _ _ l1_3 t249 t250 t251 t252 _ ?side1 ?side2 A20.out).mono ?_
    (case side1 => exact uC HR1_3 HB)
    (case side2 => exact HC1_3.out)
    rintro e w35 ⟨v253, rfl, ho0, hb⟩
    refine ⟨_, rfl, ?_⟩
    have HO254 := Aside0.mk (Kd.R_lower (Kd.R_new' ho0 (Kd.R_lt (uR HO248))) (below_size (uN HB)))
    replace HO248 := Aside0.mk (Kd.R_elder' (uR HO248) (Kd.R_base ho0) hb)
    replace BK239 := kB BK239 hb
    replace BK240 := kB BK240 hb
    replace HB := Aside0.mk (below_step (uN HB) hb)
    (try clear hb)
    (try clear hb2)
    (try clear hk)
    (try clear hi)
    (try clear ho0)
    obtain ⟨Ao36, co36, eo36⟩ := Kd.R_slice HO248.out
    (first | subst eo36 | (injection eo36 with f1_ f2_ f3_; have f4_ := f1_.symm; have f5_ := f3_.symm; clear f1_ f2_ f3_; subst f4_; subst f5_))
    obtain ⟨Ao37, co37, eo37⟩ := Kd.R_slice HO254.out
    (first | subst eo37 | (injection eo37 with f1_ f2_ f3_; have f4_ := f1_.symm; have f5_ := f3_.symm; clear f1_ f2_ f3_; subst f4_; subst f5_))
    refine hK.out _ _ ⟨bc BK239 0, bc BK239 1, bc BK239 2, bc BK239 3, bc BK240 0, bc BK240 1, bc BK240 2, bc BK240 3⟩ (fun hHeld => ?_)
    clear hK K
    refine norm_ (a' := ?_) ?_ ?_
    rotate_left
    ·
     show Act.put _ (some 31) _ = _
     simp only [Act.put, setIfInBounds_toArray, set_cons_zero, set_cons_succ, i64_w, i32_w]
     rfl
    refine two_ (i := 4) (j := 8) (Ni := some 32) (Nj := some 6) #[true, true, true, true, true, false, false, false, false, false, false] #[true, true, true, true, false, false, false, false, true, false, false] rfl rfl rfl rfl (two_of HT_.out (by kernel_rfl)) (by decide) (by decide) (fun K hK => ?_) (fun K hK => ?_)
    ·
     skip
     refine goes_ Try.func17 (by kernel_rfl) rfl #[.agg #[.int .i64 t243, .int .i64 t244, .int .i64 t245, .slice Ao36 t246.length co36], .agg #[.int .i64 t249, .int .i64 t250, .int .i64 t251, .slice Ao37 t252.length co37]] (by rfl) rfl rfl (by (try simp only [List.map_toArray, List.map_cons, List.map_nil]); first | done | rfl) ?_
     with_reducible refine (spec_UnionBloom.calls k t243 t244 t245 _ _ t246 t249 t250 t251 _ _ t252 t255 t256 t257 t258 t261 _ ?side1 ?side2 ?side3 ?side4 A21.out).mono ?_
     (case side1 => exact uD HO248)
     (case side2 => exact (Kd.R_reads' HO248.out).2.1)
     (case side3 => exact uD HO254)
     (case side4 => exact (Kd.R_reads' HO254.out).2.1)
     rintro e w38 ⟨v259, rfl, ho0, hb⟩
     refine ⟨_, rfl, ?_⟩
     have HO260 := Aside0.mk (Kd.R_lower (Kd.R_new' (Kd.R_new' ho0 (Kd.R_lt (uR HO248))) (Kd.R_lt (uR HO254))) (below_size (uN HB)))
     replace HO248 := Aside0.mk (Kd.R_elder' (uR HO248) (Kd.R_base ho0) hb)
     replace HO254 := Aside0.mk (Kd.R_elder' (uR HO254) (Kd.R_base ho0) hb)
     replace BK239 := kB BK239 hb
     replace BK240 := kB BK240 hb
     replace HB := Aside0.mk (below_step (uN HB) hb)
     (try clear hb)
     (try clear hb2)
     (try clear hk)
     (try clear hi)
     (try clear ho0)
     refine hK.out _ _ ⟨bc BK239 0, bc BK239 1, bc BK239 2, bc BK239 3, bc BK240 0, bc BK240 1, bc BK240 2, bc BK240 3⟩ (fun hHeld => ?_)
     clear hK K
     refine norm_ (a' := ?_) ?_ ?_
     rotate_left
     ·
      show Act.put _ (some 32) _ = _
      simp only [Act.put, setIfInBounds_toArray, set_cons_zero, set_cons_succ, i64_w, i32_w]
      rfl
     refine pure_ (i := 5) (N := some 27) (v := ?_) (a' := ?_) #[true, true, true, true, true, true, false, false, false, false, false] rfl rfl (any_of HT_.out (by kernel_rfl)) (fun _ _ _ h => h) (Or.inl ⟨by rfl, ?_⟩) ?_ ?_
     rotate_left
     ·
      intro w'
      go_simp
      with_reducible rfl
     rotate_left
     ·
      simp only [Act.put, setIfInBounds_toArray, set_cons_zero, set_cons_succ, i64_w, i32_w]
      rfl
     refine pure_ (i := 6) (N := some 33) (v := ?_) (a' := ?_) #[true, true, true, true, true, true, true, false, false, false, false] rfl rfl (any_of HT_.out (by kernel_rfl)) (fun _ _ _ h => h) (Or.inl ⟨by rfl, ?_⟩) ?_ ?_
     rotate_left
     ·
      intro w'
      go_simp
      with_reducible rfl
     rotate_left
     ·
      simp only [Act.put, setIfInBounds_toArray, set_cons_zero, set_cons_succ, i64_w, i32_w]
      rfl
     refine pure_ (i := 7) (N := some 34) (v := ?_) (a' := ?_) #[true, true, true, true, true, true, true, true, false, false, false] rfl rfl (any_of HT_.out (by kernel_rfl)) (fun _ _ _ h => h) (Or.inl ⟨by rfl, ?_⟩) ?_ ?_
     rotate_left
     ·
      intro w'
      go_simp
      with_reducible rfl
     rotate_left
     ·
      simp only [Act.put, setIfInBounds_toArray, set_cons_zero, set_cons_succ, i64_w, i32_w]
      rfl
     refine one_ (i := 8) (N := some 6) #[true, true, true, true, true, true, true, true, true, false, false] rfl rfl (one_of HT_.out (by kernel_rfl)) (by decide) (fun K hK => ?_)
     refine box_step ?hg (N := 6) ?hd (cs := #[.int .i64 0, .int .i64 0, .int .i64 0, .slice none 0 0]) (t := 40) ?hr ?_; (case hd => rfl); (case hg => rfl); (case hr => first | (go_simp; done) | (go_simp; rfl))
     intro gb262 hg w39 hbox hb
     replace HO248 := Aside0.mk (Kd.R_below (uR HO248) hb)
     replace HO254 := Aside0.mk (Kd.R_below (uR HO254) hb)
     replace HO260 := Aside0.mk (Kd.R_below (uR HO260) hb)
     have BK262 := Aside0.mk (hbox)
     have GW262 := nG HB hg
     have GE262 := nG HB hg
     have GI262 := gI GE262
     replace HB := Aside0.mk (below_step (uN HB) hb)
     have NB239_262 := nL BK239 hg
     have NB262_239 := nR BK239 hg
     replace BK239 := kB BK239 hb
     have NB240_262 := nL BK240 hg
     have NB262_240 := nR BK240 hg
     replace BK240 := kB BK240 hb
     clear hb hbox hg
     refine hK.out _ _ ⟨bc BK239 0, bc BK239 1, bc BK239 2, bc BK239 3, bc BK240 0, bc BK240 1, bc BK240 2, bc BK240 3⟩ (fun hHeld => ?_)
     clear hK K
     refine norm_ (a' := ?_) ?_ ?_
     rotate_left
     ·
      show Act.put _ (some 6) _ = _
      simp only [Act.put, setIfInBounds_toArray, set_cons_zero, set_cons_succ, i64_w, i32_w]
      rfl
     exact norm_ (by simp only [putAll, Act.put, setIfInBounds_toArray, set_cons_zero, set_cons_succ]) (hCont (.slice Ao36 t246.length co36, .slice Ao37 t252.length co37, v259, gb262) _ ⟨hHeld, (by (with_reducible repeat (first | apply Kd.R_alloc | apply Kd.R_drewN | apply Kd.R_drew)); exact Kd.R_mono HO248.out (fun _ hk => ⟨hk.1.2, hk.2⟩)), (by (with_reducible repeat (first | apply Kd.R_alloc | apply Kd.R_drewN | apply Kd.R_drew)); exact Kd.R_mono HO254.out (fun _ hk => ⟨hk.1.2, hk.2⟩)), (by (with_reducible repeat (first | apply Kd.R_alloc | apply Kd.R_drewN | apply Kd.R_drew)); exact Kd.R_mono HO260.out (fun _ hk => ⟨hk.1.2, hk.2⟩)), (uK BK239), (uK BK240), (uK BK262), GW262.out, GE262.out, NB239_262.out, NB262_239.out, NB240_262.out, NB262_240.out, (uN HB)⟩)
    skip
    refine box_step ?hg (N := 6) ?hd (cs := #[.int .i64 0, .int .i64 0, .int .i64 0, .slice none 0 0]) (t := 40) ?hr ?_; (case hd => rfl); (case hg => rfl); (case hr => first | (go_simp; done) | (go_simp; rfl))
    intro gb262 hg w36 hbox hb
    replace HO248 := Aside0.mk (Kd.R_below (uR HO248) hb)
    replace HO254 := Aside0.mk (Kd.R_below (uR HO254) hb)
    have BK262 := Aside0.mk (hbox)
    have GW262 := nG HB hg
    have GE262 := nG HB hg
    have GI262 := gI GE262
    replace HB := Aside0.mk (below_step (uN HB) hb)
    have NB239_262 := nL BK239 hg
    have NB262_239 := nR BK239 hg
    replace BK239 := kB BK239 hb
    have NB240_262 := nL BK240 hg
    have NB262_240 := nR BK240 hg
    replace BK240 := kB BK240 hb
    clear hb hbox hg
    obtain ⟨Ao37, co37, eo37⟩ := Kd.R_slice HO248.out
    (first | subst eo37 | (injection eo37 with f1_ f2_ f3_; have f4_ := f1_.symm; have f5_ := f3_.symm; clear f1_ f2_ f3_; subst f4_; subst f5_))
    obtain ⟨Ao38, co38, eo38⟩ := Kd.R_slice HO254.out
    (first | subst eo38 | (injection eo38 with f1_ f2_ f3_; have f4_ := f1_.symm; have f5_ := f3_.symm; clear f1_ f2_ f3_; subst f4_; subst f5_))
    refine hK.out _ _ ⟨bc BK239 0, bc BK239 1, bc BK239 2, bc BK239 3, bc BK240 0, bc BK240 1, bc BK240 2, bc BK240 3⟩ (fun hHeld => ?_)
    clear hK K
    refine norm_ (a' := ?_) ?_ ?_
    rotate_left
    ·
     show Act.put _ (some 6) _ = _
     simp only [Act.put, setIfInBounds_toArray, set_cons_zero, set_cons_succ, i64_w, i32_w]
     rfl
    refine one_ (i := 4) (N := some 32) #[true, true, true, true, true, false, false, false, true, false, false] rfl rfl (one_of HT_.out (by kernel_rfl)) (by decide) (fun K hK => ?_)
    refine goes_ Try.func17 (by kernel_rfl) rfl #[.agg #[.int .i64 t243, .int .i64 t244, .int .i64 t245, .slice Ao37 t246.length co37], .agg #[.int .i64 t249, .int .i64 t250, .int .i64 t251, .slice Ao38 t252.length co38]] (by rfl) rfl rfl (by (try simp only [List.map_toArray, List.map_cons, List.map_nil]); first | done | rfl) ?_
    with_reducible refine (spec_UnionBloom.calls k t243 t244 t245 _ _ t246 t249 t250 t251 _ _ t252 t255 t256 t257 t258 t261 _ ?side1 ?side2 ?side3 ?side4 A21.out).mono ?_
    (case side1 => exact uD HO248)
    (case side2 => exact (Kd.R_reads' HO248.out).2.1)
    (case side3 => exact uD HO254)
    (case side4 => exact (Kd.R_reads' HO254.out).2.1)
    rintro e w39 ⟨v259, rfl, ho0, hb⟩
    refine ⟨_, rfl, ?_⟩
    have HO260 := Aside0.mk (Kd.R_lower (Kd.R_new' (Kd.R_new' ho0 (Kd.R_lt (uR HO248))) (Kd.R_lt (uR HO254))) (below_size (uN HB)))
    replace HO248 := Aside0.mk (Kd.R_elder' (uR HO248) (Kd.R_base ho0) hb)
    replace HO254 := Aside0.mk (Kd.R_elder' (uR HO254) (Kd.R_base ho0) hb)
    replace BK239 := kB BK239 hb
    replace BK240 := kB BK240 hb
    replace BK262 := kB BK262 hb
    replace HB := Aside0.mk (below_step (uN HB) hb)
    (try clear hb)
    (try clear hb2)
    (try clear hk)
    (try clear hi)
    (try clear ho0)
    refine hK.out _ _ ⟨bc BK239 0, bc BK239 1, bc BK239 2, bc BK239 3, bc BK240 0, bc BK240 1, bc BK240 2, bc BK240 3⟩ (fun hHeld => ?_)
    clear hK K
    refine norm_ (a' := ?_) ?_ ?_
    rotate_left
    ·
     show Act.put _ (some 32) _ = _
     simp only [Act.put, setIfInBounds_toArray, set_cons_zero, set_cons_succ, i64_w, i32_w]
     rfl
    refine pure_ (i := 5) (N := some 27) (v := ?_) (a' := ?_) #[true, true, true, true, true, true, false, false, true, false, false] rfl rfl (any_of HT_.out (by kernel_rfl)) (fun _ _ _ h => h) (Or.inl ⟨by rfl, ?_⟩) ?_ ?_
    rotate_left
    ·
     intro w'
     go_simp
     with_reducible rfl
    rotate_left
    ·
     simp only [Act.put, setIfInBounds_toArray, set_cons_zero, set_cons_succ, i64_w, i32_w]
     rfl
    refine pure_ (i := 6) (N := some 33) (v := ?_) (a' := ?_) #[true, true, true, true, true, true, true, false, true, false, false] rfl rfl (any_of HT_.out (by kernel_rfl)) (fun _ _ _ h => h) (Or.inl ⟨by rfl, ?_⟩) ?_ ?_
    rotate_left
    ·
     intro w'
     go_simp
     with_reducible rfl
    rotate_left
    ·
     simp only [Act.put, setIfInBounds_toArray, set_cons_zero, set_cons_succ, i64_w, i32_w]
     rfl
    refine pure_ (i := 7) (N := some 34) (v := ?_) (a' := ?_) #[true, true, true, true, true, true, true, true, true, false, false] rfl rfl (any_of HT_.out (by kernel_rfl)) (fun _ _ _ h => h) (Or.inl ⟨by rfl, ?_⟩) ?_ ?_
    rotate_left
    ·
     intro w'
     go_simp
     with_reducible rfl
    rotate_left
    ·
     simp only [Act.put, setIfInBounds_toArray, set_cons_zero, set_cons_succ, i64_w, i32_w]
     rfl
    exact norm_ (by simp only [putAll, Act.put, setIfInBounds_toArray, set_cons_zero, set_cons_succ]) (hCont (.slice Ao37 t246.length co37, .slice Ao38 t252.length co38, v259, gb262) _ ⟨hHeld, (by (with_reducible repeat (first | apply Kd.R_alloc | apply Kd.R_drewN | apply Kd.R_drew)); exact Kd.R_mono HO248.out (fun _ hk => ⟨hk.1.2, hk.2⟩)), (by (with_reducible repeat (first | apply Kd.R_alloc | apply Kd.R_drewN | apply Kd.R_drew)); exact Kd.R_mono HO254.out (fun _ hk => ⟨hk.1.2, hk.2⟩)), (by (with_reducible repeat (first | apply Kd.R_alloc | apply Kd.R_drewN | apply Kd.R_drew)); exact Kd.R_mono HO260.out (fun _ hk => ⟨hk.1.2, hk.2⟩)), (uK BK239), (uK BK240), (uK BK262), GW262.out, GE262.out, NB239_262.out, NB262_239.out, NB240_262.out, NB262_240.out, (uN HB)⟩)
   skip
   refine box_step ?hg (N := 6) ?hd (cs := #[.int .i64 0, .int .i64 0, .int .i64 0, .slice none 0 0]) (t := 40) ?hr ?_; (case hd => rfl); (case hg => rfl); (case hr => first | (go_simp; done) | (go_simp; rfl))
   intro gb262 hg w35 hbox hb
   replace HO248 := Aside0.mk (Kd.R_below (uR HO248) hb)
   have BK262 := Aside0.mk (hbox)
   have GW262 := nG HB hg
   have GE262 := nG HB hg
   have GI262 := gI GE262
   replace HB := Aside0.mk (below_step (uN HB) hb)
   have NB239_262 := nL BK239 hg
   have NB262_239 := nR BK239 hg
   replace BK239 := kB BK239 hb
   have NB240_262 := nL BK240 hg
   have NB262_240 := nR BK240 hg
   replace BK240 := kB BK240 hb
   clear hb hbox hg
   refine hK.out _ _ ⟨bc BK239 0, bc BK239 1, bc BK239 2, bc BK239 3, bc BK240 0, bc BK240 1, bc BK240 2, bc BK240 3⟩ (fun hHeld => ?_)
   clear hK K
   refine norm_ (a' := ?_) ?_ ?_
   rotate_left
   ·
    show Act.put _ (some 6) _ = _
    simp only [Act.put, setIfInBounds_toArray, set_cons_zero, set_cons_succ, i64_w, i32_w]
    rfl
   refine one_ (i := 3) (N := some 31) #[true, true, true, true, false, false, false, false, true, false, false] rfl rfl (one_of HT_.out (by kernel_rfl)) (by decide) (fun K hK => ?_)
   refine goes_ Try.func18 (by kernel_rfl) rfl #[.agg #[.int .i64 a1_0, .int .i64 a1_1, .int .i64 a1_2, .slice A1_3 l1_3.length c1_3]] (by rfl) rfl rfl (by (try simp only [List.map_toArray, List.map_cons, List.map_nil]); first | done | rfl) ?_
   with_reducible refine (laws_toBloom.calls k a1_0 a1_1 a1_2 _ _ l1_3 t249 t250 t251 t252 _ ?side1 ?side2 A20.out).mono ?_
   (case side1 => exact uC HR1_3 HB)
   (case side2 => exact HC1_3.out)
   rintro e w36 ⟨v253, rfl, ho0, hb⟩
   refine ⟨_, rfl, ?_⟩
   have HO254 := Aside0.mk (Kd.R_lower (Kd.R_new' ho0 (Kd.R_lt (uR HO248))) (below_size (uN HB)))
   replace HO248 := Aside0.mk (Kd.R_elder' (uR HO248) (Kd.R_base ho0) hb)
   replace BK239 := kB BK239 hb
   replace BK240 := kB BK240 hb
   replace BK262 := kB BK262 hb
   replace HB := Aside0.mk (below_step (uN HB) hb)
   (try clear hb)
   (try clear hb2)
   (try clear hk)
   (try clear hi)
   (try clear ho0)
   obtain ⟨Ao37, co37, eo37⟩ := Kd.R_slice HO248.out
   (first | subst eo37 | (injection eo37 with f1_ f2_ f3_; have f4_ := f1_.symm; have f5_ := f3_.symm; clear f1_ f2_ f3_; subst f4_; subst f5_))
   obtain ⟨Ao38, co38, eo38⟩ := Kd.R_slice HO254.out
   (first | subst eo38 | (injection eo38 with f1_ f2_ f3_; have f4_ := f1_.symm; have f5_ := f3_.symm; clear f1_ f2_ f3_; subst f4_; subst f5_))
   refine hK.out _ _ ⟨bc BK239 0, bc BK239 1, bc BK239 2, bc BK239 3, bc BK240 0, bc BK240 1, bc BK240 2, bc BK240 3⟩ (fun hHeld => ?_)
   clear hK K
   refine norm_ (a' := ?_) ?_ ?_
   rotate_left
   ·
    show Act.put _ (some 31) _ = _
    simp only [Act.put, setIfInBounds_toArray, set_cons_zero, set_cons_succ, i64_w, i32_w]
    rfl
   refine one_ (i := 4) (N := some 32) #[true, true, true, true, true, false, false, false, true, false, false] rfl rfl (one_of HT_.out (by kernel_rfl)) (by decide) (fun K hK => ?_)
   refine goes_ Try.func17 (by kernel_rfl) rfl #[.agg #[.int .i64 t243, .int .i64 t244, .int .i64 t245, .slice Ao37 t246.length co37], .agg #[.int .i64 t249, .int .i64 t250, .int .i64 t251, .slice Ao38 t252.length co38]] (by rfl) rfl rfl (by (try simp only [List.map_toArray, List.map_cons, List.map_nil]); first | done | rfl) ?_
   with_reducible refine (spec_UnionBloom.calls k t243 t244 t245 _ _ t246 t249 t250 t251 _ _ t252 t255 t256 t257 t258 t261 _ ?side1 ?side2 ?side3 ?side4 A21.out).mono ?_
   (case side1 => exact uD HO248)
   (case side2 => exact (Kd.R_reads' HO248.out).2.1)
   (case side3 => exact uD HO254)
   (case side4 => exact (Kd.R_reads' HO254.out).2.1)
   rintro e w39 ⟨v259, rfl, ho0, hb⟩
   refine ⟨_, rfl, ?_⟩
   have HO260 := Aside0.mk (Kd.R_lower (Kd.R_new' (Kd.R_new' ho0 (Kd.R_lt (uR HO248))) (Kd.R_lt (uR HO254))) (below_size (uN HB)))
   replace HO248 := Aside0.mk (Kd.R_elder' (uR HO248) (Kd.R_base ho0) hb)
   replace HO254 := Aside0.mk (Kd.R_elder' (uR HO254) (Kd.R_base ho0) hb)
   replace BK239 := kB BK239 hb
   replace BK240 := kB BK240 hb
   replace BK262 := kB BK262 hb
   replace HB := Aside0.mk (below_step (uN HB) hb)
   (try clear hb)
   (try clear hb2)
   (try clear hk)
   (try clear hi)
   (try clear ho0)
   refine hK.out _ _ ⟨bc BK239 0, bc BK239 1, bc BK239 2, bc BK239 3, bc BK240 0, bc BK240 1, bc BK240 2, bc BK240 3⟩ (fun hHeld => ?_)
   clear hK K
   refine norm_ (a' := ?_) ?_ ?_
   rotate_left
   ·
    show Act.put _ (some 32) _ = _
    simp only [Act.put, setIfInBounds_toArray, set_cons_zero, set_cons_succ, i64_w, i32_w]
    rfl
   refine pure_ (i := 5) (N := some 27) (v := ?_) (a' := ?_) #[true, true, true, true, true, true, false, false, true, false, false] rfl rfl (any_of HT_.out (by kernel_rfl)) (fun _ _ _ h => h) (Or.inl ⟨by rfl, ?_⟩) ?_ ?_
   rotate_left
   ·
    intro w'
    go_simp
    with_reducible rfl
   rotate_left
   ·
    simp only [Act.put, setIfInBounds_toArray, set_cons_zero, set_cons_succ, i64_w, i32_w]
    rfl
   refine pure_ (i := 6) (N := some 33) (v := ?_) (a' := ?_) #[true, true, true, true, true, true, true, false, true, false, false] rfl rfl (any_of HT_.out (by kernel_rfl)) (fun _ _ _ h => h) (Or.inl ⟨by rfl, ?_⟩) ?_ ?_
   rotate_left
   ·
    intro w'
    go_simp
    with_reducible rfl
   rotate_left
   ·
    simp only [Act.put, setIfInBounds_toArray, set_cons_zero, set_cons_succ, i64_w, i32_w]
    rfl
   refine pure_ (i := 7) (N := some 34) (v := ?_) (a' := ?_) #[true, true, true, true, true, true, true, true, true, false, false] rfl rfl (any_of HT_.out (by kernel_rfl)) (fun _ _ _ h => h) (Or.inl ⟨by rfl, ?_⟩) ?_ ?_
   rotate_left
   ·
    intro w'
    go_simp
    with_reducible rfl
   rotate_left
   ·
    simp only [Act.put, setIfInBounds_toArray, set_cons_zero, set_cons_succ, i64_w, i32_w]
    rfl
   exact norm_ (by simp only [putAll, Act.put, setIfInBounds_toArray, set_cons_zero, set_cons_succ]) (hCont (.slice Ao37 t246.length co37, .slice Ao38 t252.length co38, v259, gb262) _ ⟨hHeld, (by (with_reducible repeat (first | apply Kd.R_alloc | apply Kd.R_drewN | apply Kd.R_drew)); exact Kd.R_mono HO248.out (fun _ hk => ⟨hk.1.2, hk.2⟩)), (by (with_reducible repeat (first | apply Kd.R_alloc | apply Kd.R_drewN | apply Kd.R_drew)); exact Kd.R_mono HO254.out (fun _ hk => ⟨hk.1.2, hk.2⟩)), (by (with_reducible repeat (first | apply Kd.R_alloc | apply Kd.R_drewN | apply Kd.R_drew)); exact Kd.R_mono HO260.out (fun _ hk => ⟨hk.1.2, hk.2⟩)), (uK BK239), (uK BK240), (uK BK262), GW262.out, GE262.out, NB239_262.out, NB262_239.out, NB240_262.out, NB262_240.out, (uN HB)⟩)
  skip
  refine box_step ?hg (N := 6) ?hd (cs := #[.int .i64 0, .int .i64 0, .int .i64 0, .slice none 0 0]) (t := 40) ?hr ?_; (case hd => rfl); (case hg => rfl); (case hr => first | (go_simp; done) | (go_simp; rfl))
  intro gb262 hg w34 hbox hb
  have BK262 := Aside0.mk (hbox)
  have GW262 := nG HB hg
  have GE262 := nG HB hg
  have GI262 := gI GE262
  replace HB := Aside0.mk (below_step (uN HB) hb)
  have NB239_262 := nL BK239 hg
  have NB262_239 := nR BK239 hg
  replace BK239 := kB BK239 hb
  have NB240_262 := nL BK240 hg
  have NB262_240 := nR BK240 hg
  replace BK240 := kB BK240 hb
  clear hb hbox hg
  refine hK.out _ _ ⟨bc BK239 0, bc BK239 1, bc BK239 2, bc BK239 3, bc BK240 0, bc BK240 1, bc BK240 2, bc BK240 3⟩ (fun hHeld => ?_)
  clear hK K
  refine norm_ (a' := ?_) ?_ ?_
  rotate_left
  ·
   show Act.put _ (some 6) _ = _
   simp only [Act.put, setIfInBounds_toArray, set_cons_zero, set_cons_succ, i64_w, i32_w]
   rfl
  refine one_ (i := 1) (N := some 29) #[true, true, true, false, false, false, false, false, true, false, false] rfl rfl (one_of HT_.out (by kernel_rfl)) (by decide) (fun K hK => ?_)
  refine goes_ Try.func18 (by kernel_rfl) rfl #[.agg #[.int .i64 a0_0, .int .i64 a0_1, .int .i64 a0_2, .slice A0_3 l0_3.length c0_3]] (by rfl) rfl rfl (by (try simp only [List.map_toArray, List.map_cons, List.map_nil]); first | done | rfl) ?_
  with_reducible refine (laws_toBloom.calls k a0_0 a0_1 a0_2 _ _ l0_3 t243 t244 t245 t246 _ ?side1 ?side2 A19.out).mono ?_
  (case side1 => exact uC HR0_3 HB)
  (case side2 => exact HC0_3.out)
  rintro e w35 ⟨v247, rfl, ho0, hb⟩
  refine ⟨_, rfl, ?_⟩
  have HO248 := Aside0.mk (Kd.R_lower ho0 (below_size (uN HB)))
  replace BK239 := kB BK239 hb
  replace BK240 := kB BK240 hb
  replace BK262 := kB BK262 hb
  replace HB := Aside0.mk (below_step (uN HB) hb)
  (try clear hb)
  (try clear hb2)
  (try clear hk)
  (try clear hi)
  (try clear ho0)
  refine hK.out _ _ ⟨bc BK239 0, bc BK239 1, bc BK239 2, bc BK239 3, bc BK240 0, bc BK240 1, bc BK240 2, bc BK240 3⟩ (fun hHeld => ?_)
  clear hK K
  refine norm_ (a' := ?_) ?_ ?_
  rotate_left
  ·
   show Act.put _ (some 29) _ = _
   simp only [Act.put, setIfInBounds_toArray, set_cons_zero, set_cons_succ, i64_w, i32_w]
   rfl
  refine one_ (i := 3) (N := some 31) #[true, true, true, true, false, false, false, false, true, false, false] rfl rfl (one_of HT_.out (by kernel_rfl)) (by decide) (fun K hK => ?_)
  refine goes_ Try.func18 (by kernel_rfl) rfl #[.agg #[.int .i64 a1_0, .int .i64 a1_1, .int .i64 a1_2, .slice A1_3 l1_3.length c1_3]] (by rfl) rfl rfl (by (try simp only [List.map_toArray, List.map_cons, List.map_nil]); first | done | rfl) ?_
  with_reducible refine (laws_toBloom.calls k a1_0 a1_1 a1_2 _ _ l1_3 t249 t250 t251 t252 _ ?side1 ?side2 A20.out).mono ?_
  (case side1 => exact uC HR1_3 HB)
  (case side2 => exact HC1_3.out)
  rintro e w36 ⟨v253, rfl, ho0, hb⟩
  refine ⟨_, rfl, ?_⟩
  have HO254 := Aside0.mk (Kd.R_lower (Kd.R_new' ho0 (Kd.R_lt (uR HO248))) (below_size (uN HB)))
  replace HO248 := Aside0.mk (Kd.R_elder' (uR HO248) (Kd.R_base ho0) hb)
  replace BK239 := kB BK239 hb
  replace BK240 := kB BK240 hb
  replace BK262 := kB BK262 hb
  replace HB := Aside0.mk (below_step (uN HB) hb)
  (try clear hb)
  (try clear hb2)
  (try clear hk)
  (try clear hi)
  (try clear ho0)
  obtain ⟨Ao37, co37, eo37⟩ := Kd.R_slice HO248.out
  (first | subst eo37 | (injection eo37 with f1_ f2_ f3_; have f4_ := f1_.symm; have f5_ := f3_.symm; clear f1_ f2_ f3_; subst f4_; subst f5_))
  obtain ⟨Ao38, co38, eo38⟩ := Kd.R_slice HO254.out
  (first | subst eo38 | (injection eo38 with f1_ f2_ f3_; have f4_ := f1_.symm; have f5_ := f3_.symm; clear f1_ f2_ f3_; subst f4_; subst f5_))
  refine hK.out _ _ ⟨bc BK239 0, bc BK239 1, bc BK239 2, bc BK239 3, bc BK240 0, bc BK240 1, bc BK240 2, bc BK240 3⟩ (fun hHeld => ?_)
  clear hK K
  refine norm_ (a' := ?_) ?_ ?_
  rotate_left
  ·
   show Act.put _ (some 31) _ = _
   simp only [Act.put, setIfInBounds_toArray, set_cons_zero, set_cons_succ, i64_w, i32_w]
   rfl
  refine one_ (i := 4) (N := some 32) #[true, true, true, true, true, false, false, false, true, false, false] rfl rfl (one_of HT_.out (by kernel_rfl)) (by decide) (fun K hK => ?_)
  refine goes_ Try.func17 (by kernel_rfl) rfl #[.agg #[.int .i64 t243, .int .i64 t244, .int .i64 t245, .slice Ao37 t246.length co37], .agg #[.int .i64 t249, .int .i64 t250, .int .i64 t251, .slice Ao38 t252.length co38]] (by rfl) rfl rfl (by (try simp only [List.map_toArray, List.map_cons, List.map_nil]); first | done | rfl) ?_
  with_reducible refine (spec_UnionBloom.calls k t243 t244 t245 _ _ t246 t249 t250 t251 _ _ t252 t255 t256 t257 t258 t261 _ ?side1 ?side2 ?side3 ?side4 A21.out).mono ?_
  (case side1 => exact uD HO248)
  (case side2 => exact (Kd.R_reads' HO248.out).2.1)
  (case side3 => exact uD HO254)
  (case side4 => exact (Kd.R_reads' HO254.out).2.1)
  rintro e w39 ⟨v259, rfl, ho0, hb⟩
  refine ⟨_, rfl, ?_⟩
  have HO260 := Aside0.mk (Kd.R_lower (Kd.R_new' (Kd.R_new' ho0 (Kd.R_lt (uR HO248))) (Kd.R_lt (uR HO254))) (below_size (uN HB)))
  replace HO248 := Aside0.mk (Kd.R_elder' (uR HO248) (Kd.R_base ho0) hb)
  replace HO254 := Aside0.mk (Kd.R_elder' (uR HO254) (Kd.R_base ho0) hb)
  replace BK239 := kB BK239 hb
  replace BK240 := kB BK240 hb
  replace BK262 := kB BK262 hb
  replace HB := Aside0.mk (below_step (uN HB) hb)
  (try clear hb)
  (try clear hb2)
  (try clear hk)
  (try clear hi)
  (try clear ho0)
  refine hK.out _ _ ⟨bc BK239 0, bc BK239 1, bc BK239 2, bc BK239 3, bc BK240 0, bc BK240 1, bc BK240 2, bc BK240 3⟩ (fun hHeld => ?_)
  clear hK K
  refine norm_ (a' := ?_) ?_ ?_
  rotate_left
  ·
   show Act.put _ (some 32) _ = _
   simp only [Act.put, setIfInBounds_toArray, set_cons_zero, set_cons_succ, i64_w, i32_w]
   rfl
  refine pure_ (i := 5) (N := some 27) (v := ?_) (a' := ?_) #[true, true, true, true, true, true, false, false, true, false, false] rfl rfl (any_of HT_.out (by kernel_rfl)) (fun _ _ _ h => h) (Or.inl ⟨by rfl, ?_⟩) ?_ ?_
  rotate_left
  ·
   intro w'
   go_simp
   with_reducible rfl
  rotate_left
  ·
   simp only [Act.put, setIfInBounds_toArray, set_cons_zero, set_cons_succ, i64_w, i32_w]
   rfl
  refine pure_ (i := 6) (N := some 33) (v := ?_) (a' := ?_) #[true, true, true, true, true, true, true, false, true, false, false] rfl rfl (any_of HT_.out (by kernel_rfl)) (fun _ _ _ h => h) (Or.inl ⟨by rfl, ?_⟩) ?_ ?_
  rotate_left
  ·
   intro w'
   go_simp
   with_reducible rfl
  rotate_left
  ·
   simp only [Act.put, setIfInBounds_toArray, set_cons_zero, set_cons_succ, i64_w, i32_w]
   rfl
  refine pure_ (i := 7) (N := some 34) (v := ?_) (a' := ?_) #[true, true, true, true, true, true, true, true, true, false, false] rfl rfl (any_of HT_.out (by kernel_rfl)) (fun _ _ _ h => h) (Or.inl ⟨by rfl, ?_⟩) ?_ ?_
  rotate_left
  ·
   intro w'
   go_simp
   with_reducible rfl
  rotate_left
  ·
   simp only [Act.put, setIfInBounds_toArray, set_cons_zero, set_cons_succ, i64_w, i32_w]
   rfl
  exact norm_ (by simp only [putAll, Act.put, setIfInBounds_toArray, set_cons_zero, set_cons_succ]) (hCont (.slice Ao37 t246.length co37, .slice Ao38 t252.length co38, v259, gb262) _ ⟨hHeld, (by (with_reducible repeat (first | apply Kd.R_alloc | apply Kd.R_drewN | apply Kd.R_drew)); exact Kd.R_mono HO248.out (fun _ hk => ⟨hk.1.2, hk.2⟩)), (by (with_reducible repeat (first | apply Kd.R_alloc | apply Kd.R_drewN | apply Kd.R_drew)); exact Kd.R_mono HO254.out (fun _ hk => ⟨hk.1.2, hk.2⟩)), (by (with_reducible repeat (first | apply Kd.R_alloc | apply Kd.R_drewN | apply Kd.R_drew)); exact Kd.R_mono HO260.out (fun _ hk => ⟨hk.1.2, hk.2⟩)), (uK BK239), (uK BK240), (uK BK262), GW262.out, GE262.out, NB239_262.out, NB262_239.out, NB240_262.out, NB262_240.out, (uN HB)⟩)
 rintro ⟨v247, v253, v259, gb262⟩ w40 ⟨hS_, h0_, h1_, h2_, h3_, h4_, h5_, h6_, h7_, h8_, h9_, h10_, h11_, h12_⟩
 have n0_ : Aside0 (Kd.R (Kd.int .i64) 3 w40 w.heap.size (fun k_ => some k_ ≠ (v253 : Value).ownBlock ∧ some k_ ≠ (v259 : Value).ownBlock) v247 t246) := ⟨h0_⟩
 have n1_ : Aside0 (Kd.R (Kd.int .i64) 3 w40 w.heap.size (fun k_ => some k_ ≠ (v247 : Value).ownBlock ∧ some k_ ≠ (v259 : Value).ownBlock) v253 t252) := ⟨h1_⟩
 have n2_ : Aside0 (Kd.R (Kd.int .i64) 3 w40 w.heap.size (fun k_ => some k_ ≠ (v247 : Value).ownBlock ∧ some k_ ≠ (v253 : Value).ownBlock) v259 t258) := ⟨h2_⟩
 have n3_ : Aside0 (w40.heap[gb239]? = some (.cells #[.int .i64 a0_0, .int .i64 a0_1, .int .i64 a0_2, .slice A0_3 l0_3.length c0_3] 36 (0, 0))) := ⟨h3_⟩
 have n4_ : Aside0 (w40.heap[gb240]? = some (.cells #[.int .i64 a1_0, .int .i64 a1_1, .int .i64 a1_2, .slice A1_3 l1_3.length c1_3] 36 (0, 0))) := ⟨h4_⟩
 have n5_ : Aside0 (w40.heap[gb262]? = some (.cells #[.int .i64 0, .int .i64 0, .int .i64 0, .slice none 0 0] 40 (0, 0))) := ⟨h5_⟩
 have n6_ : Aside0 (w.heap.size ≤ gb262) := ⟨h6_⟩
 have n7_ : Aside0 (w.heap.size ≤ gb262) := ⟨h7_⟩
 have n8_ : Aside0 (gb239 ≠ gb262) := ⟨h8_⟩
 have n9_ : Aside0 (gb262 ≠ gb239) := ⟨h9_⟩
 have n10_ : Aside0 (gb240 ≠ gb262) := ⟨h10_⟩
 have n11_ : Aside0 (gb262 ≠ gb240) := ⟨h11_⟩
 have n12_ : Aside0 (Below w.heap.size w w40) := ⟨h12_⟩
 clear BK239
 clear BK240
 clear HB
 clear h0_ h1_ h2_ h3_ h4_ h5_ h6_ h7_ h8_ h9_ h10_ h11_ h12_
 have HO248 := n0_
 have HO254 := n1_
 have HO260 := n2_
 have BK239 := n3_
 have BK240 := n4_
 have BK262 := n5_
 have GW262 := n6_
 have GE262 := n7_
 have GI262 := gI GE262
 have NB239_262 := n8_
 have NB262_239 := n9_
 have NB240_262 := n10_
 have NB262_240 := n11_
 have HB := n12_
 clear n0_ n1_ n2_ n3_ n4_ n5_ n6_ n7_ n8_ n9_ n10_ n11_ n12_
 have hHeld : w40.cell? ⟨gb239, 0, none⟩ = some (.int .i64 a0_0) ∧ w40.cell? ⟨gb239, 1, none⟩ = some (.int .i64 a0_1) ∧ w40.cell? ⟨gb239, 2, none⟩ = some (.int .i64 a0_2) ∧ w40.cell? ⟨gb239, 3, none⟩ = some (.slice A0_3 l0_3.length c0_3) ∧ w40.cell? ⟨gb240, 0, none⟩ = some (.int .i64 a1_0) ∧ w40.cell? ⟨gb240, 1, none⟩ = some (.int .i64 a1_1) ∧ w40.cell? ⟨gb240, 2, none⟩ = some (.int .i64 a1_2) ∧ w40.cell? ⟨gb240, 3, none⟩ = some (.slice A1_3 l1_3.length c1_3) := hS_
 obtain ⟨Ao44, co44, eo44⟩ := Kd.R_slice HO260.out
 (first | subst eo44 | (injection eo44 with f1_ f2_ f3_; have f4_ := f1_.symm; have f5_ := f3_.symm; clear f1_ f2_ f3_; subst f4_; subst f5_))
 refine norm_ (a' := ?_) ?_ ?_
 rotate_left
 ·
  simp only [putAll, Act.put, setIfInBounds_toArray, set_cons_zero, set_cons_succ]
  rfl
 refine one_ (i := 9) (N := none) #[true, true, true, true, true, true, true, true, true, true, false] rfl rfl (one_of HT_.out (by kernel_rfl)) (by decide) (fun K hK => ?_)
 have hs41 : w40.cell? ⟨gb262, 0, none⟩ = some (.int .i64 0) := bc BK262 0
 have hfs41 := blk_frozen BK262.out 0
 have hns41_0 := NB239_262.out
 have hns41_1 := NB240_262.out
 have hms41_0 := NB262_239.out
 have hms41_1 := NB262_240.out
 have hs42 : w40.cell? ⟨gb262, 1, none⟩ = some (.int .i64 0) := bc BK262 1
 have hfs42 := blk_frozen BK262.out 1
 have hns42_0 := NB239_262.out
 have hns42_1 := NB240_262.out
 have hms42_0 := NB262_239.out
 have hms42_1 := NB262_240.out
 have hs43 : w40.cell? ⟨gb262, 2, none⟩ = some (.int .i64 0) := bc BK262 2
 have hfs43 := blk_frozen BK262.out 2
 have hns43_0 := NB239_262.out
 have hns43_1 := NB240_262.out
 have hms43_0 := NB262_239.out
 have hms43_1 := NB262_240.out
 have hs45 : w40.cell? ⟨gb262, 3, none⟩ = some (.slice none 0 0) := bc BK262 3
 have hfs45 := blk_frozen BK262.out 3
 have hns45_0 := NB239_262.out
 have hns45_1 := NB240_262.out
 have hms45_0 := NB262_239.out
 have hms45_1 := NB262_240.out
 refine skip_ (w1 := ?_) (by rfl) rfl ?_ ?_
 rotate_left
 ·
  go_simp
  rfl
 refine hK.out _ _ ⟨((cell_far (p := ⟨gb262, _, none⟩) NB239_262.out _).trans (((cell_far (p := ⟨gb262, _, none⟩) NB239_262.out _).trans (((cell_far (p := ⟨gb262, _, none⟩) NB239_262.out _).trans (((cell_far (p := ⟨gb262, _, none⟩) NB239_262.out _).trans (hHeld.1)))))))), ((cell_far (p := ⟨gb262, _, none⟩) NB239_262.out _).trans (((cell_far (p := ⟨gb262, _, none⟩) NB239_262.out _).trans (((cell_far (p := ⟨gb262, _, none⟩) NB239_262.out _).trans (((cell_far (p := ⟨gb262, _, none⟩) NB239_262.out _).trans (hHeld.2.1)))))))), ((cell_far (p := ⟨gb262, _, none⟩) NB239_262.out _).trans (((cell_far (p := ⟨gb262, _, none⟩) NB239_262.out _).trans (((cell_far (p := ⟨gb262, _, none⟩) NB239_262.out _).trans (((cell_far (p := ⟨gb262, _, none⟩) NB239_262.out _).trans (hHeld.2.2.1)))))))), ((cell_far (p := ⟨gb262, _, none⟩) NB239_262.out _).trans (((cell_far (p := ⟨gb262, _, none⟩) NB239_262.out _).trans (((cell_far (p := ⟨gb262, _, none⟩) NB239_262.out _).trans (((cell_far (p := ⟨gb262, _, none⟩) NB239_262.out _).trans (hHeld.2.2.2.1)))))))), ((cell_far (p := ⟨gb262, _, none⟩) NB240_262.out _).trans (((cell_far (p := ⟨gb262, _, none⟩) NB240_262.out _).trans (((cell_far (p := ⟨gb262, _, none⟩) NB240_262.out _).trans (((cell_far (p := ⟨gb262, _, none⟩) NB240_262.out _).trans (hHeld.2.2.2.2.1)))))))), ((cell_far (p := ⟨gb262, _, none⟩) NB240_262.out _).trans (((cell_far (p := ⟨gb262, _, none⟩) NB240_262.out _).trans (((cell_far (p := ⟨gb262, _, none⟩) NB240_262.out _).trans (((cell_far (p := ⟨gb262, _, none⟩) NB240_262.out _).trans (hHeld.2.2.2.2.2.1)))))))), ((cell_far (p := ⟨gb262, _, none⟩) NB240_262.out _).trans (((cell_far (p := ⟨gb262, _, none⟩) NB240_262.out _).trans (((cell_far (p := ⟨gb262, _, none⟩) NB240_262.out _).trans (((cell_far (p := ⟨gb262, _, none⟩) NB240_262.out _).trans (hHeld.2.2.2.2.2.2.1)))))))), ((cell_far (p := ⟨gb262, _, none⟩) NB240_262.out _).trans (((cell_far (p := ⟨gb262, _, none⟩) NB240_262.out _).trans (((cell_far (p := ⟨gb262, _, none⟩) NB240_262.out _).trans (((cell_far (p := ⟨gb262, _, none⟩) NB240_262.out _).trans (hHeld.2.2.2.2.2.2.2))))))))⟩ (fun hHeld => ?_)
 clear hK K
 refine pure_ (i := 10) (N := some 7) (v := ?_) (a' := ?_) #[true, true, true, true, true, true, true, true, true, true, true] rfl rfl (any_of HT_.out (by kernel_rfl)) (fun _ _ _ h => h) (Or.inl ⟨by rfl, ?_⟩) ?_ ?_
 rotate_left
 ·
  intro w'
  go_simp
  with_reducible rfl
 rotate_left
 ·
  simp only [Act.put, setIfInBounds_toArray, set_cons_zero, set_cons_succ, i64_w, i32_w]
  rfl
 refine done_ (done_of HT_.out (by kernel_rfl)) ?_
 have hnb46 := NB239_262.out
 have hnc46 := NB262_239.out
 obtain ⟨hcz47_0, hcz47_1, hcz47_2, hcz47_3, hfz47_0, hfz47_1, hfz47_2, hfz47_3⟩ := ce4 BK239
 go_upto_region 12 with (first | ((with_reducible refine gate_callee (f := 18) rfl ?_); refine goesL_ (some 36) rfl rfl Try.func18 (by kernel_rfl) rfl #[.agg #[.int .i64 a0_0, .int .i64 a0_1, .int .i64 a0_2, .slice A0_3 l0_3.length c0_3]] rfl (by (try simp only [List.map_toArray, List.map_cons, List.map_nil]); first | done | rfl) ?_; (with_reducible refine (laws_toBloom.calls k a0_0 a0_1 a0_2 _ _ l0_3 t263 t264 t265 t266 _ ?side1 ?side2 A22.out).mono ?_); (case side1 => exact Kd.C_below HR0_3.out (uN HB)); (case side2 => exact HC0_3.out); rintro e w48 ⟨v267, rfl, ho0, hb⟩; refine ⟨_, rfl, ?_⟩; have HO268 := Aside0.mk (Kd.R_lower (Kd.R_new' (Kd.R_new' (Kd.R_new' ho0 (Kd.R_lt (fS HO248 BK262 (by decide)))) (Kd.R_lt (fS HO254 BK262 (by decide)))) (Kd.R_lt (fS HO260 BK262 (by decide)))) (below_size (uN HB))); replace HO248 := Aside0.mk (Kd.R_elder' (fS HO248 BK262 (by decide)) (Kd.R_base ho0) hb); replace HO254 := Aside0.mk (Kd.R_elder' (fS HO254 BK262 (by decide)) (Kd.R_base ho0) hb); replace HO260 := Aside0.mk (Kd.R_elder' (fS HO260 BK262 (by decide)) (Kd.R_base ho0) hb); replace BK239 := Aside0.mk (blk_below (g := gb239) (o := .cells #[.int .i64 a0_0, .int .i64 a0_1, .int .i64 a0_2, .slice A0_3 l0_3.length c0_3] 36 (0, 0)) (by refine uW ?_; refine blk_far ?_ NB239_262.out _; refine uW ?_; refine blk_far ?_ NB239_262.out _; refine uW ?_; refine blk_far ?_ NB239_262.out _; refine uW ?_; refine blk_far ?_ NB239_262.out _; refine uW ?_; exact BK239.out) hb); replace BK240 := Aside0.mk (blk_below (g := gb240) (o := .cells #[.int .i64 a1_0, .int .i64 a1_1, .int .i64 a1_2, .slice A1_3 l1_3.length c1_3] 36 (0, 0)) (by refine uW ?_; refine blk_far ?_ NB240_262.out _; refine uW ?_; refine blk_far ?_ NB240_262.out _; refine uW ?_; refine blk_far ?_ NB240_262.out _; refine uW ?_; refine blk_far ?_ NB240_262.out _; refine uW ?_; exact BK240.out) hb); replace BK262 := Aside0.mk (blk_below (g := gb262) (o := .cells #[.int .i64 t255, .int .i64 t256, .int .i64 t257, .slice Ao44 t258.length co44] 40 (0, 0)) (by refine uW ?_; refine blk_put (cs := #[.int .i64 t255, .int .i64 t256, .int .i64 t257, .slice none 0 0]) ?_ 3 _ rfl; refine uW ?_; refine blk_put (cs := #[.int .i64 t255, .int .i64 t256, .int .i64 0, .slice none 0 0]) ?_ 2 _ rfl; refine uW ?_; refine blk_put (cs := #[.int .i64 t255, .int .i64 0, .int .i64 0, .slice none 0 0]) ?_ 1 _ rfl; refine uW ?_; refine blk_put (cs := #[.int .i64 0, .int .i64 0, .int .i64 0, .slice none 0 0]) ?_ 0 _ rfl; refine uW ?_; exact BK262.out) hb); replace HB := Aside0.mk (below_step (uN HB) hb); (try clear hb); (try clear hb2); (try clear hk); (try clear hi); (try clear ho0)) | ((with_reducible refine gate_dst (N := 8) rfl ?_); refine box_event ?hg (N := 8) ?hd (cs := #[.int .i64 0, .int .i64 0, .int .i64 0, .slice none 0 0]) (t := 40) ?hr ?_; (case hd => rfl); (case hg => rfl); (case hr => first | (go_simp; done) | (go_simp; rfl)); intro gb269 hg w49 hbox hb; replace HO248 := Aside0.mk (Kd.R_below (uR HO248) hb); replace HO254 := Aside0.mk (Kd.R_below (uR HO254) hb); replace HO260 := Aside0.mk (Kd.R_below (uR HO260) hb); replace HO268 := Aside0.mk (Kd.R_below (uR HO268) hb); have BK269 := Aside0.mk (hbox); have GW269 := nG HB hg; have GE269 := nG HB hg; have GI269 := gI GE269; replace HB := Aside0.mk (below_step (uN HB) hb); have NB239_269 := nL BK239 hg; have NB269_239 := nR BK239 hg; replace BK239 := kB BK239 hb; have NB240_269 := nL BK240 hg; have NB269_240 := nR BK240 hg; replace BK240 := kB BK240 hb; have NB262_269 := nL BK262 hg; have NB269_262 := nR BK262 hg; replace BK262 := kB BK262 hb; clear hb hbox hg; have hnb50 := NB269_239.out; have hnc50 := NB239_269.out; have hnb51 := NB269_240.out; have hnc51 := NB240_269.out; have hnb52 := NB269_262.out; have hnc52 := NB262_269.out; obtain ⟨hcz53_0, hcz53_1, hcz53_2, hcz53_3, hfz53_0, hfz53_1, hfz53_2, hfz53_3⟩ := ce4 BK269; obtain ⟨Ao54, co54, eo54⟩ := Kd.R_slice HO268.out; subst eo54; have hnb55 := NB240_262.out; have hnc55 := NB262_240.out; obtain ⟨hcz56_0, hcz56_1, hcz56_2, hcz56_3, hfz56_0, hfz56_1, hfz56_2, hfz56_3⟩ := ce4 BK240) | ((with_reducible refine gate_callee (f := 18) rfl ?_); refine goesL_ (some 38) rfl rfl Try.func18 (by kernel_rfl) rfl #[.agg #[.int .i64 a1_0, .int .i64 a1_1, .int .i64 a1_2, .slice A1_3 l1_3.length c1_3]] rfl (by (try simp only [List.map_toArray, List.map_cons, List.map_nil]); first | done | rfl) ?_; (with_reducible refine (laws_toBloom.calls k a1_0 a1_1 a1_2 _ _ l1_3 t270 t271 t272 t273 _ ?side1 ?side2 A23.out).mono ?_); (case side1 => exact Kd.C_below HR1_3.out (uN HB)); (case side2 => exact HC1_3.out); rintro e w57 ⟨v274, rfl, ho0, hb⟩; refine ⟨_, rfl, ?_⟩; have HO275 := Aside0.mk (Kd.R_lower (Kd.R_new' (Kd.R_new' (Kd.R_new' (Kd.R_new' ho0 (Kd.R_lt (fS HO248 BK269 (by decide)))) (Kd.R_lt (fS HO254 BK269 (by decide)))) (Kd.R_lt (fS HO260 BK269 (by decide)))) (Kd.R_lt (fS HO268 BK269 (by decide)))) (below_size (uN HB))); replace HO248 := Aside0.mk (Kd.R_elder' (fS HO248 BK269 (by decide)) (Kd.R_base ho0) hb); replace HO254 := Aside0.mk (Kd.R_elder' (fS HO254 BK269 (by decide)) (Kd.R_base ho0) hb); replace HO260 := Aside0.mk (Kd.R_elder' (fS HO260 BK269 (by decide)) (Kd.R_base ho0) hb); replace HO268 := Aside0.mk (Kd.R_elder' (fS HO268 BK269 (by decide)) (Kd.R_base ho0) hb); replace BK239 := Aside0.mk (blk_below (g := gb239) (o := .cells #[.int .i64 a0_0, .int .i64 a0_1, .int .i64 a0_2, .slice A0_3 l0_3.length c0_3] 36 (0, 0)) (by refine uW ?_; refine blk_far ?_ NB239_269.out _; refine uW ?_; refine blk_far ?_ NB239_269.out _; refine uW ?_; refine blk_far ?_ NB239_269.out _; refine uW ?_; refine blk_far ?_ NB239_269.out _; refine uW ?_; exact BK239.out) hb); replace BK240 := Aside0.mk (blk_below (g := gb240) (o := .cells #[.int .i64 a1_0, .int .i64 a1_1, .int .i64 a1_2, .slice A1_3 l1_3.length c1_3] 36 (0, 0)) (by refine uW ?_; refine blk_far ?_ NB240_269.out _; refine uW ?_; refine blk_far ?_ NB240_269.out _; refine uW ?_; refine blk_far ?_ NB240_269.out _; refine uW ?_; refine blk_far ?_ NB240_269.out _; refine uW ?_; exact BK240.out) hb); replace BK262 := Aside0.mk (blk_below (g := gb262) (o := .cells #[.int .i64 t255, .int .i64 t256, .int .i64 t257, .slice Ao44 t258.length co44] 40 (0, 0)) (by refine uW ?_; refine blk_far ?_ NB262_269.out _; refine uW ?_; refine blk_far ?_ NB262_269.out _; refine uW ?_; refine blk_far ?_ NB262_269.out _; refine uW ?_; refine blk_far ?_ NB262_269.out _; refine uW ?_; exact BK262.out) hb); replace BK269 := Aside0.mk (blk_below (g := gb269) (o := .cells #[.int .i64 t263, .int .i64 t264, .int .i64 t265, .slice Ao54 t266.length co54] 40 (0, 0)) (by refine uW ?_; refine blk_put (cs := #[.int .i64 t263, .int .i64 t264, .int .i64 t265, .slice none 0 0]) ?_ 3 _ rfl; refine uW ?_; refine blk_put (cs := #[.int .i64 t263, .int .i64 t264, .int .i64 0, .slice none 0 0]) ?_ 2 _ rfl; refine uW ?_; refine blk_put (cs := #[.int .i64 t263, .int .i64 0, .int .i64 0, .slice none 0 0]) ?_ 1 _ rfl; refine uW ?_; refine blk_put (cs := #[.int .i64 0, .int .i64 0, .int .i64 0, .slice none 0 0]) ?_ 0 _ rfl; refine uW ?_; exact BK269.out) hb); replace HB := Aside0.mk (below_step (uN HB) hb); (try clear hb); (try clear hb2); (try clear hk); (try clear hi); (try clear ho0)) | ((with_reducible refine gate_dst (N := 9) rfl ?_); refine box_event ?hg (N := 9) ?hd (cs := #[.int .i64 0, .int .i64 0, .int .i64 0, .slice none 0 0]) (t := 40) ?hr ?_; (case hd => rfl); (case hg => rfl); (case hr => first | (go_simp; done) | (go_simp; rfl)); intro gb276 hg w58 hbox hb; replace HO248 := Aside0.mk (Kd.R_below (uR HO248) hb); replace HO254 := Aside0.mk (Kd.R_below (uR HO254) hb); replace HO260 := Aside0.mk (Kd.R_below (uR HO260) hb); replace HO268 := Aside0.mk (Kd.R_below (uR HO268) hb); replace HO275 := Aside0.mk (Kd.R_below (uR HO275) hb); have BK276 := Aside0.mk (hbox); have GW276 := nG HB hg; have GE276 := nG HB hg; have GI276 := gI GE276; replace HB := Aside0.mk (below_step (uN HB) hb); have NB239_276 := nL BK239 hg; have NB276_239 := nR BK239 hg; replace BK239 := kB BK239 hb; have NB240_276 := nL BK240 hg; have NB276_240 := nR BK240 hg; replace BK240 := kB BK240 hb; have NB262_276 := nL BK262 hg; have NB276_262 := nR BK262 hg; replace BK262 := kB BK262 hb; have NB269_276 := nL BK269 hg; have NB276_269 := nR BK269 hg; replace BK269 := kB BK269 hb; clear hb hbox hg; have hnb59 := NB276_239.out; have hnc59 := NB239_276.out; have hnb60 := NB276_240.out; have hnc60 := NB240_276.out; have hnb61 := NB276_262.out; have hnc61 := NB262_276.out; have hnb62 := NB276_269.out; have hnc62 := NB269_276.out; obtain ⟨hcz63_0, hcz63_1, hcz63_2, hcz63_3, hfz63_0, hfz63_1, hfz63_2, hfz63_3⟩ := ce4 BK276; obtain ⟨Ao64, co64, eo64⟩ := Kd.R_slice HO275.out; subst eo64; obtain ⟨hcz65_0, hcz65_1, hcz65_2, hcz65_3, hfz65_0, hfz65_1, hfz65_2, hfz65_3⟩ := ce4 BK269) | ((with_reducible refine gate_callee (f := 19) rfl ?_); refine goesL_ (some 42) rfl rfl Try.func19 (by kernel_rfl) rfl #[.agg #[.int .i64 t263, .int .i64 t264, .int .i64 t265, .slice Ao54 t266.length co54], .agg #[.int .i64 t270, .int .i64 t271, .int .i64 t272, .slice Ao64 t273.length co64]] rfl (by (try simp only [List.map_toArray, List.map_cons, List.map_nil]); first | done | rfl) ?_; (with_reducible refine (impl_UnionBloom.calls k t263 t264 t265 _ _ t266 t270 t271 t272 _ _ t273 t277 t278 t279 t280 t283 _ ?side1 ?side2 ?side3 ?side4 A24.out).mono ?_); (case side1 => refine (Kd.R_reads' (e := 3) (base := w.heap.size) (ok := fun k_ => ((((True ∧ some k_ ≠ (v247 : Value).ownBlock) ∧ some k_ ≠ (v253 : Value).ownBlock) ∧ some k_ ≠ (.slice Ao44 t258.length co44 : Value).ownBlock) ∧ some k_ ≠ (.slice Ao64 t273.length co64 : Value).ownBlock)) (n := t266.length) (c := co54) ?_).2.2; exact (fS HO268 BK276 (by decide))); (case side2 => exact (Kd.R_reads' HO268.out).2.1); (case side3 => refine (Kd.R_reads' (e := 3) (base := w.heap.size) (ok := fun k_ => ((((True ∧ some k_ ≠ (v247 : Value).ownBlock) ∧ some k_ ≠ (v253 : Value).ownBlock) ∧ some k_ ≠ (.slice Ao44 t258.length co44 : Value).ownBlock) ∧ some k_ ≠ (.slice Ao54 t266.length co54 : Value).ownBlock)) (n := t273.length) (c := co64) ?_).2.2; exact (fS HO275 BK276 (by decide))); (case side4 => exact (Kd.R_reads' HO275.out).2.1); rintro e w66 ⟨v281, rfl, ho0, hb⟩; refine ⟨_, rfl, ?_⟩; have HO282 := Aside0.mk (Kd.R_lower (Kd.R_new' (Kd.R_new' (Kd.R_new' (Kd.R_new' (Kd.R_new' ho0 (Kd.R_lt (fS HO248 BK276 (by decide)))) (Kd.R_lt (fS HO254 BK276 (by decide)))) (Kd.R_lt (fS HO260 BK276 (by decide)))) (Kd.R_lt (fS HO268 BK276 (by decide)))) (Kd.R_lt (fS HO275 BK276 (by decide)))) (below_size (uN HB))); replace HO248 := Aside0.mk (Kd.R_elder' (fS HO248 BK276 (by decide)) (Kd.R_base ho0) hb); replace HO254 := Aside0.mk (Kd.R_elder' (fS HO254 BK276 (by decide)) (Kd.R_base ho0) hb); replace HO260 := Aside0.mk (Kd.R_elder' (fS HO260 BK276 (by decide)) (Kd.R_base ho0) hb); replace HO268 := Aside0.mk (Kd.R_elder' (fS HO268 BK276 (by decide)) (Kd.R_base ho0) hb); replace HO275 := Aside0.mk (Kd.R_elder' (fS HO275 BK276 (by decide)) (Kd.R_base ho0) hb); replace BK239 := Aside0.mk (blk_below (g := gb239) (o := .cells #[.int .i64 a0_0, .int .i64 a0_1, .int .i64 a0_2, .slice A0_3 l0_3.length c0_3] 36 (0, 0)) (by refine uW ?_; refine blk_far ?_ NB239_276.out _; refine uW ?_; refine blk_far ?_ NB239_276.out _; refine uW ?_; refine blk_far ?_ NB239_276.out _; refine uW ?_; refine blk_far ?_ NB239_276.out _; refine uW ?_; exact BK239.out) hb); replace BK240 := Aside0.mk (blk_below (g := gb240) (o := .cells #[.int .i64 a1_0, .int .i64 a1_1, .int .i64 a1_2, .slice A1_3 l1_3.length c1_3] 36 (0, 0)) (by refine uW ?_; refine blk_far ?_ NB240_276.out _; refine uW ?_; refine blk_far ?_ NB240_276.out _; refine uW ?_; refine blk_far ?_ NB240_276.out _; refine uW ?_; refine blk_far ?_ NB240_276.out _; refine uW ?_; exact BK240.out) hb); replace BK262 := Aside0.mk (blk_below (g := gb262) (o := .cells #[.int .i64 t255, .int .i64 t256, .int .i64 t257, .slice Ao44 t258.length co44] 40 (0, 0)) (by refine uW ?_; refine blk_far ?_ NB262_276.out _; refine uW ?_; refine blk_far ?_ NB262_276.out _; refine uW ?_; refine blk_far ?_ NB262_276.out _; refine uW ?_; refine blk_far ?_ NB262_276.out _; refine uW ?_; exact BK262.out) hb); replace BK269 := Aside0.mk (blk_below (g := gb269) (o := .cells #[.int .i64 t263, .int .i64 t264, .int .i64 t265, .slice Ao54 t266.length co54] 40 (0, 0)) (by refine uW ?_; refine blk_far ?_ NB269_276.out _; refine uW ?_; refine blk_far ?_ NB269_276.out _; refine uW ?_; refine blk_far ?_ NB269_276.out _; refine uW ?_; refine blk_far ?_ NB269_276.out _; refine uW ?_; exact BK269.out) hb); replace BK276 := Aside0.mk (blk_below (g := gb276) (o := .cells #[.int .i64 t270, .int .i64 t271, .int .i64 t272, .slice Ao64 t273.length co64] 40 (0, 0)) (by refine uW ?_; refine blk_put (cs := #[.int .i64 t270, .int .i64 t271, .int .i64 t272, .slice none 0 0]) ?_ 3 _ rfl; refine uW ?_; refine blk_put (cs := #[.int .i64 t270, .int .i64 t271, .int .i64 0, .slice none 0 0]) ?_ 2 _ rfl; refine uW ?_; refine blk_put (cs := #[.int .i64 t270, .int .i64 0, .int .i64 0, .slice none 0 0]) ?_ 1 _ rfl; refine uW ?_; refine blk_put (cs := #[.int .i64 0, .int .i64 0, .int .i64 0, .slice none 0 0]) ?_ 0 _ rfl; refine uW ?_; exact BK276.out) hb); replace HB := Aside0.mk (below_step (uN HB) hb); (try clear hb); (try clear hb2); (try clear hk); (try clear hi); (try clear ho0)) | ((with_reducible refine gate_dst (N := 10) rfl ?_); refine box_event ?hg (N := 10) ?hd (cs := #[.int .i64 0, .int .i64 0, .int .i64 0, .slice none 0 0]) (t := 40) ?hr ?_; (case hd => rfl); (case hg => rfl); (case hr => first | (go_simp; done) | (go_simp; rfl)); intro gb284 hg w67 hbox hb; replace HO248 := Aside0.mk (Kd.R_below (uR HO248) hb); replace HO254 := Aside0.mk (Kd.R_below (uR HO254) hb); replace HO260 := Aside0.mk (Kd.R_below (uR HO260) hb); replace HO268 := Aside0.mk (Kd.R_below (uR HO268) hb); replace HO275 := Aside0.mk (Kd.R_below (uR HO275) hb); replace HO282 := Aside0.mk (Kd.R_below (uR HO282) hb); have BK284 := Aside0.mk (hbox); have GW284 := nG HB hg; have GE284 := nG HB hg; have GI284 := gI GE284; replace HB := Aside0.mk (below_step (uN HB) hb); have NB239_284 := nL BK239 hg; have NB284_239 := nR BK239 hg; replace BK239 := kB BK239 hb; have NB240_284 := nL BK240 hg; have NB284_240 := nR BK240 hg; replace BK240 := kB BK240 hb; have NB262_284 := nL BK262 hg; have NB284_262 := nR BK262 hg; replace BK262 := kB BK262 hb; have NB269_284 := nL BK269 hg; have NB284_269 := nR BK269 hg; replace BK269 := kB BK269 hb; have NB276_284 := nL BK276 hg; have NB284_276 := nR BK276 hg; replace BK276 := kB BK276 hb; clear hb hbox hg; have hnb68 := NB284_239.out; have hnc68 := NB239_284.out; have hnb69 := NB284_240.out; have hnc69 := NB240_284.out; have hnb70 := NB284_262.out; have hnc70 := NB262_284.out; have hnb71 := NB284_269.out; have hnc71 := NB269_284.out; have hnb72 := NB284_276.out; have hnc72 := NB276_284.out; obtain ⟨hcz73_0, hcz73_1, hcz73_2, hcz73_3, hfz73_0, hfz73_1, hfz73_2, hfz73_3⟩ := ce4 BK284; obtain ⟨Ao74, co74, eo74⟩ := Kd.R_slice HO282.out; subst eo74))
 (try simp only [Act.put, setIfInBounds_toArray, set_cons_zero, set_cons_succ])
 go_cut [53] (fun v53 wc => ∃ (kq : Nat) (x53_24 : Bool), v53 = .bool x53_24 ∧ Aside0 (laws_FnExactUnionBloom.j0 kq t261 t283 x53_24 a0_0 a0_1 a0_2 l0_3 a1_0 a1_1 a1_2 l1_3 t255 t256 t257 t258 t263 t264 t265 t266 t270 t271 t272 t273 t277 t278 t279 t280 = some r) ∧ Aside0 (kq ≤ k) ∧ Aside0 (Kd.R (Kd.int .i64) 3 wc w.heap.size (fun k_ => some k_ ≠ ((.slice Ao54 t266.length co54) : Value).ownBlock ∧ some k_ ≠ ((.slice Ao64 t273.length co64) : Value).ownBlock ∧ some k_ ≠ ((.slice Ao74 t280.length co74) : Value).ownBlock) (.slice Ao44 t258.length co44) t258) ∧ Aside0 (Kd.R (Kd.int .i64) 3 wc w.heap.size (fun k_ => some k_ ≠ ((.slice Ao44 t258.length co44) : Value).ownBlock ∧ some k_ ≠ ((.slice Ao64 t273.length co64) : Value).ownBlock ∧ some k_ ≠ ((.slice Ao74 t280.length co74) : Value).ownBlock) (.slice Ao54 t266.length co54) t266) ∧ Aside0 (Kd.R (Kd.int .i64) 3 wc w.heap.size (fun k_ => some k_ ≠ ((.slice Ao44 t258.length co44) : Value).ownBlock ∧ some k_ ≠ ((.slice Ao54 t266.length co54) : Value).ownBlock ∧ some k_ ≠ ((.slice Ao74 t280.length co74) : Value).ownBlock) (.slice Ao64 t273.length co64) t273) ∧ Aside0 (Kd.R (Kd.int .i64) 3 wc w.heap.size (fun k_ => some k_ ≠ ((.slice Ao44 t258.length co44) : Value).ownBlock ∧ some k_ ≠ ((.slice Ao54 t266.length co54) : Value).ownBlock ∧ some k_ ≠ ((.slice Ao64 t273.length co64) : Value).ownBlock) (.slice Ao74 t280.length co74) t280) ∧ Aside0 (wc.heap[gb239]? = some (.cells #[.int .i64 a0_0, .int .i64 a0_1, .int .i64 a0_2, (.slice A0_3 l0_3.length c0_3)] 36 (0, 0))) ∧ Aside0 (wc.heap[gb240]? = some (.cells #[.int .i64 a1_0, .int .i64 a1_1, .int .i64 a1_2, (.slice A1_3 l1_3.length c1_3)] 36 (0, 0))) ∧ Aside0 (wc.heap[gb262]? = some (.cells #[.int .i64 t255, .int .i64 t256, .int .i64 t257, (.slice Ao44 t258.length co44)] 40 (0, 0))) ∧ Aside0 (wc.heap[gb269]? = some (.cells #[.int .i64 t263, .int .i64 t264, .int .i64 t265, (.slice Ao54 t266.length co54)] 40 (0, 0))) ∧ Aside0 (wc.heap[gb276]? = some (.cells #[.int .i64 t270, .int .i64 t271, .int .i64 t272, (.slice Ao64 t273.length co64)] 40 (0, 0))) ∧ Aside0 (wc.heap[gb284]? = some (.cells #[.int .i64 t277, .int .i64 t278, .int .i64 t279, (.slice Ao74 t280.length co74)] 40 (0, 0))) ∧ Aside0 (Below w.heap.size w wc))
 case first =>
  have H := HC25.out
  clear HC25
  replace H := Option.bind_eq_some_iff.mp H
  obtain ⟨t285, A750, H⟩ := H
  try dsimp only at H
  have A75 := Aside0.mk A750
  clear A750
  by_cases c76 : t285 = true
  ·
   subst c76
   rw [if_pos rfl] at H
   have H' := Aside0.mk H
   clear H
   have hnb77 := NB284_239.out
   have hnc77 := NB239_284.out
   have hnb78 := NB284_240.out
   have hnc78 := NB240_284.out
   have hnb79 := NB284_262.out
   have hnc79 := NB262_284.out
   have hnb80 := NB284_269.out
   have hnc80 := NB269_284.out
   have hnb81 := NB284_276.out
   have hnc81 := NB276_284.out
   obtain ⟨hcz82_0, hcz82_1, hcz82_2, hcz82_3, hfz82_0, hfz82_1, hfz82_2, hfz82_3⟩ := ce4 BK284
   have hnb83 := NB262_239.out
   have hnc83 := NB239_262.out
   have hnb84 := NB262_240.out
   have hnc84 := NB240_262.out
   have hnb85 := NB262_269.out
   have hnc85 := NB269_262.out
   have hnb86 := NB262_276.out
   have hnc86 := NB276_262.out
   obtain ⟨hcz87_0, hcz87_1, hcz87_2, hcz87_3, hfz87_0, hfz87_1, hfz87_2, hfz87_3⟩ := ce4 BK262
   go_wp2_with (first | ((with_reducible refine gate_callee (f := 20) rfl ?_); refine goesL_ (some 47) rfl rfl Try.func20 (by kernel_rfl) rfl #[.agg #[.int .i64 t277, .int .i64 t278, .int .i64 t279, .slice Ao74 t280.length co74], .agg #[.int .i64 t255, .int .i64 t256, .int .i64 t257, .slice Ao44 t258.length co44]] rfl (by (try simp only [List.map_toArray, List.map_cons, List.map_nil]); first | done | rfl) ?_; (with_reducible refine (laws_eqBloom.calls k t277 t278 t279 _ _ t280 t255 t256 t257 _ _ t258 true _ ?side1 ?side2 ?side3 ?side4 A75.out).mono ?_); (case side1 => refine (Kd.R_reads' (e := 3) (base := w.heap.size) (ok := fun k_ => (((((True ∧ some k_ ≠ (v247 : Value).ownBlock) ∧ some k_ ≠ (v253 : Value).ownBlock) ∧ some k_ ≠ (.slice Ao44 t258.length co44 : Value).ownBlock) ∧ some k_ ≠ (.slice Ao54 t266.length co54 : Value).ownBlock) ∧ some k_ ≠ (.slice Ao64 t273.length co64 : Value).ownBlock)) (n := t280.length) (c := co74) ?_).2.2; exact (fS HO282 BK284 (by decide))); (case side2 => exact (Kd.R_reads' HO282.out).2.1); (case side3 => refine (Kd.R_reads' (e := 3) (base := w.heap.size) (ok := fun k_ => ((((some k_ ≠ (v247 : Value).ownBlock ∧ some k_ ≠ (v253 : Value).ownBlock) ∧ some k_ ≠ (.slice Ao54 t266.length co54 : Value).ownBlock) ∧ some k_ ≠ (.slice Ao64 t273.length co64 : Value).ownBlock) ∧ some k_ ≠ (.slice Ao74 t280.length co74 : Value).ownBlock)) (n := t258.length) (c := co44) ?_).2.2; exact (fS HO260 BK284 (by decide))); (case side4 => exact (Kd.R_reads' HO260.out).2.1); rintro e w88 ⟨rfl, hb⟩; refine ⟨_, rfl, ?_⟩; replace HO248 := Aside0.mk (Kd.R_below (fS HO248 BK284 (by decide)) hb); replace HO254 := Aside0.mk (Kd.R_below (fS HO254 BK284 (by decide)) hb); replace HO260 := Aside0.mk (Kd.R_below (fS HO260 BK284 (by decide)) hb); replace HO268 := Aside0.mk (Kd.R_below (fS HO268 BK284 (by decide)) hb); replace HO275 := Aside0.mk (Kd.R_below (fS HO275 BK284 (by decide)) hb); replace HO282 := Aside0.mk (Kd.R_below (fS HO282 BK284 (by decide)) hb); replace BK239 := Aside0.mk (blk_below (g := gb239) (o := .cells #[.int .i64 a0_0, .int .i64 a0_1, .int .i64 a0_2, .slice A0_3 l0_3.length c0_3] 36 (0, 0)) (by refine uW ?_; refine blk_far ?_ NB239_284.out _; refine uW ?_; refine blk_far ?_ NB239_284.out _; refine uW ?_; refine blk_far ?_ NB239_284.out _; refine uW ?_; refine blk_far ?_ NB239_284.out _; refine uW ?_; exact BK239.out) hb); replace BK240 := Aside0.mk (blk_below (g := gb240) (o := .cells #[.int .i64 a1_0, .int .i64 a1_1, .int .i64 a1_2, .slice A1_3 l1_3.length c1_3] 36 (0, 0)) (by refine uW ?_; refine blk_far ?_ NB240_284.out _; refine uW ?_; refine blk_far ?_ NB240_284.out _; refine uW ?_; refine blk_far ?_ NB240_284.out _; refine uW ?_; refine blk_far ?_ NB240_284.out _; refine uW ?_; exact BK240.out) hb); replace BK262 := Aside0.mk (blk_below (g := gb262) (o := .cells #[.int .i64 t255, .int .i64 t256, .int .i64 t257, .slice Ao44 t258.length co44] 40 (0, 0)) (by refine uW ?_; refine blk_far ?_ NB262_284.out _; refine uW ?_; refine blk_far ?_ NB262_284.out _; refine uW ?_; refine blk_far ?_ NB262_284.out _; refine uW ?_; refine blk_far ?_ NB262_284.out _; refine uW ?_; exact BK262.out) hb); replace BK269 := Aside0.mk (blk_below (g := gb269) (o := .cells #[.int .i64 t263, .int .i64 t264, .int .i64 t265, .slice Ao54 t266.length co54] 40 (0, 0)) (by refine uW ?_; refine blk_far ?_ NB269_284.out _; refine uW ?_; refine blk_far ?_ NB269_284.out _; refine uW ?_; refine blk_far ?_ NB269_284.out _; refine uW ?_; refine blk_far ?_ NB269_284.out _; refine uW ?_; exact BK269.out) hb); replace BK276 := Aside0.mk (blk_below (g := gb276) (o := .cells #[.int .i64 t270, .int .i64 t271, .int .i64 t272, .slice Ao64 t273.length co64] 40 (0, 0)) (by refine uW ?_; refine blk_far ?_ NB276_284.out _; refine uW ?_; refine blk_far ?_ NB276_284.out _; refine uW ?_; refine blk_far ?_ NB276_284.out _; refine uW ?_; refine blk_far ?_ NB276_284.out _; refine uW ?_; exact BK276.out) hb); replace BK284 := Aside0.mk (blk_below (g := gb284) (o := .cells #[.int .i64 t277, .int .i64 t278, .int .i64 t279, .slice Ao74 t280.length co74] 40 (0, 0)) (by refine uW ?_; refine blk_put (cs := #[.int .i64 t277, .int .i64 t278, .int .i64 t279, .slice none 0 0]) ?_ 3 _ rfl; refine uW ?_; refine blk_put (cs := #[.int .i64 t277, .int .i64 t278, .int .i64 0, .slice none 0 0]) ?_ 2 _ rfl; refine uW ?_; refine blk_put (cs := #[.int .i64 t277, .int .i64 0, .int .i64 0, .slice none 0 0]) ?_ 1 _ rfl; refine uW ?_; refine blk_put (cs := #[.int .i64 0, .int .i64 0, .int .i64 0, .slice none 0 0]) ?_ 0 _ rfl; refine uW ?_; exact BK284.out) hb); replace HB := Aside0.mk (below_step (uN HB) hb); (try clear hb); (try clear hb2); (try clear hk); (try clear hi)))
   go_meet
   case rel => exact ⟨_, ((t283 != t261)), (by first | rfl | (simp; done) | (simp [*]; done)), H', ⟨by first | omega | exact Nat.le_refl _⟩, ⟨by (with_reducible repeat (first | apply Kd.R_alloc | apply Kd.R_drewN | apply Kd.R_drew)); exact Kd.R_mono HO260.out (fun _ hk => ⟨hk.1.1.2, ⟨hk.1.2, hk.2⟩⟩)⟩, ⟨by (with_reducible repeat (first | apply Kd.R_alloc | apply Kd.R_drewN | apply Kd.R_drew)); exact Kd.R_mono HO268.out (fun _ hk => ⟨hk.1.1.2, ⟨hk.1.2, hk.2⟩⟩)⟩, ⟨by (with_reducible repeat (first | apply Kd.R_alloc | apply Kd.R_drewN | apply Kd.R_drew)); exact Kd.R_mono HO275.out (fun _ hk => ⟨hk.1.1.2, ⟨hk.1.2, hk.2⟩⟩)⟩, ⟨by (with_reducible repeat (first | apply Kd.R_alloc | apply Kd.R_drewN | apply Kd.R_drew)); exact Kd.R_mono HO282.out (fun _ hk => ⟨hk.1.1.2, ⟨hk.1.2, hk.2⟩⟩)⟩, ⟨by refine uW ?_; exact BK239.out⟩, ⟨by refine uW ?_; exact BK240.out⟩, ⟨by refine uW ?_; exact BK262.out⟩, ⟨by refine uW ?_; exact BK269.out⟩, ⟨by refine uW ?_; exact BK276.out⟩, ⟨by refine uW ?_; exact BK284.out⟩, ⟨uN HB⟩⟩
  replace c76 := Bool.eq_false_iff.mpr c76
  subst c76
  rw [if_neg (show ¬ (false = true) by decide)] at H
  have H' := Aside0.mk H
  clear H
  have hnb89 := NB284_239.out
  have hnc89 := NB239_284.out
  have hnb90 := NB284_240.out
  have hnc90 := NB240_284.out
  have hnb91 := NB284_262.out
  have hnc91 := NB262_284.out
  have hnb92 := NB284_269.out
  have hnc92 := NB269_284.out
  have hnb93 := NB284_276.out
  have hnc93 := NB276_284.out
  obtain ⟨hcz94_0, hcz94_1, hcz94_2, hcz94_3, hfz94_0, hfz94_1, hfz94_2, hfz94_3⟩ := ce4 BK284
  have hnb95 := NB262_239.out
  have hnc95 := NB239_262.out
  have hnb96 := NB262_240.out
  have hnc96 := NB240_262.out
  have hnb97 := NB262_269.out
  have hnc97 := NB269_262.out
  have hnb98 := NB262_276.out
  have hnc98 := NB276_262.out
  obtain ⟨hcz99_0, hcz99_1, hcz99_2, hcz99_3, hfz99_0, hfz99_1, hfz99_2, hfz99_3⟩ := ce4 BK262
  go_wp2_with (first | ((with_reducible refine gate_callee (f := 20) rfl ?_); refine goesL_ (some 47) rfl rfl Try.func20 (by kernel_rfl) rfl #[.agg #[.int .i64 t277, .int .i64 t278, .int .i64 t279, .slice Ao74 t280.length co74], .agg #[.int .i64 t255, .int .i64 t256, .int .i64 t257, .slice Ao44 t258.length co44]] rfl (by (try simp only [List.map_toArray, List.map_cons, List.map_nil]); first | done | rfl) ?_; (with_reducible refine (laws_eqBloom.calls k t277 t278 t279 _ _ t280 t255 t256 t257 _ _ t258 false _ ?side1 ?side2 ?side3 ?side4 A75.out).mono ?_); (case side1 => refine (Kd.R_reads' (e := 3) (base := w.heap.size) (ok := fun k_ => (((((True ∧ some k_ ≠ (v247 : Value).ownBlock) ∧ some k_ ≠ (v253 : Value).ownBlock) ∧ some k_ ≠ (.slice Ao44 t258.length co44 : Value).ownBlock) ∧ some k_ ≠ (.slice Ao54 t266.length co54 : Value).ownBlock) ∧ some k_ ≠ (.slice Ao64 t273.length co64 : Value).ownBlock)) (n := t280.length) (c := co74) ?_).2.2; exact (fS HO282 BK284 (by decide))); (case side2 => exact (Kd.R_reads' HO282.out).2.1); (case side3 => refine (Kd.R_reads' (e := 3) (base := w.heap.size) (ok := fun k_ => ((((some k_ ≠ (v247 : Value).ownBlock ∧ some k_ ≠ (v253 : Value).ownBlock) ∧ some k_ ≠ (.slice Ao54 t266.length co54 : Value).ownBlock) ∧ some k_ ≠ (.slice Ao64 t273.length co64 : Value).ownBlock) ∧ some k_ ≠ (.slice Ao74 t280.length co74 : Value).ownBlock)) (n := t258.length) (c := co44) ?_).2.2; exact (fS HO260 BK284 (by decide))); (case side4 => exact (Kd.R_reads' HO260.out).2.1); rintro e w100 ⟨rfl, hb⟩; refine ⟨_, rfl, ?_⟩; replace HO248 := Aside0.mk (Kd.R_below (fS HO248 BK284 (by decide)) hb); replace HO254 := Aside0.mk (Kd.R_below (fS HO254 BK284 (by decide)) hb); replace HO260 := Aside0.mk (Kd.R_below (fS HO260 BK284 (by decide)) hb); replace HO268 := Aside0.mk (Kd.R_below (fS HO268 BK284 (by decide)) hb); replace HO275 := Aside0.mk (Kd.R_below (fS HO275 BK284 (by decide)) hb); replace HO282 := Aside0.mk (Kd.R_below (fS HO282 BK284 (by decide)) hb); replace BK239 := Aside0.mk (blk_below (g := gb239) (o := .cells #[.int .i64 a0_0, .int .i64 a0_1, .int .i64 a0_2, .slice A0_3 l0_3.length c0_3] 36 (0, 0)) (by refine uW ?_; refine blk_far ?_ NB239_284.out _; refine uW ?_; refine blk_far ?_ NB239_284.out _; refine uW ?_; refine blk_far ?_ NB239_284.out _; refine uW ?_; refine blk_far ?_ NB239_284.out _; refine uW ?_; exact BK239.out) hb); replace BK240 := Aside0.mk (blk_below (g := gb240) (o := .cells #[.int .i64 a1_0, .int .i64 a1_1, .int .i64 a1_2, .slice A1_3 l1_3.length c1_3] 36 (0, 0)) (by refine uW ?_; refine blk_far ?_ NB240_284.out _; refine uW ?_; refine blk_far ?_ NB240_284.out _; refine uW ?_; refine blk_far ?_ NB240_284.out _; refine uW ?_; refine blk_far ?_ NB240_284.out _; refine uW ?_; exact BK240.out) hb); replace BK262 := Aside0.mk (blk_below (g := gb262) (o := .cells #[.int .i64 t255, .int .i64 t256, .int .i64 t257, .slice Ao44 t258.length co44] 40 (0, 0)) (by refine uW ?_; refine blk_far ?_ NB262_284.out _; refine uW ?_; refine blk_far ?_ NB262_284.out _; refine uW ?_; refine blk_far ?_ NB262_284.out _; refine uW ?_; refine blk_far ?_ NB262_284.out _; refine uW ?_; exact BK262.out) hb); replace BK269 := Aside0.mk (blk_below (g := gb269) (o := .cells #[.int .i64 t263, .int .i64 t264, .int .i64 t265, .slice Ao54 t266.length co54] 40 (0, 0)) (by refine uW ?_; refine blk_far ?_ NB269_284.out _; refine uW ?_; refine blk_far ?_ NB269_284.out _; refine uW ?_; refine blk_far ?_ NB269_284.out _; refine uW ?_; refine blk_far ?_ NB269_284.out _; refine uW ?_; exact BK269.out) hb); replace BK276 := Aside0.mk (blk_below (g := gb276) (o := .cells #[.int .i64 t270, .int .i64 t271, .int .i64 t272, .slice Ao64 t273.length co64] 40 (0, 0)) (by refine uW ?_; refine blk_far ?_ NB276_284.out _; refine uW ?_; refine blk_far ?_ NB276_284.out _; refine uW ?_; refine blk_far ?_ NB276_284.out _; refine uW ?_; refine blk_far ?_ NB276_284.out _; refine uW ?_; exact BK276.out) hb); replace BK284 := Aside0.mk (blk_below (g := gb284) (o := .cells #[.int .i64 t277, .int .i64 t278, .int .i64 t279, .slice Ao74 t280.length co74] 40 (0, 0)) (by refine uW ?_; refine blk_put (cs := #[.int .i64 t277, .int .i64 t278, .int .i64 t279, .slice none 0 0]) ?_ 3 _ rfl; refine uW ?_; refine blk_put (cs := #[.int .i64 t277, .int .i64 t278, .int .i64 0, .slice none 0 0]) ?_ 2 _ rfl; refine uW ?_; refine blk_put (cs := #[.int .i64 t277, .int .i64 0, .int .i64 0, .slice none 0 0]) ?_ 1 _ rfl; refine uW ?_; refine blk_put (cs := #[.int .i64 0, .int .i64 0, .int .i64 0, .slice none 0 0]) ?_ 0 _ rfl; refine uW ?_; exact BK284.out) hb); replace HB := Aside0.mk (below_step (uN HB) hb); (try clear hb); (try clear hb2); (try clear hk); (try clear hi)))
  go_meet
  case rel => exact ⟨_, (true), (by first | rfl | (simp; done) | (simp [*]; done)), H', ⟨by first | omega | exact Nat.le_refl _⟩, ⟨by (with_reducible repeat (first | apply Kd.R_alloc | apply Kd.R_drewN | apply Kd.R_drew)); exact Kd.R_mono HO260.out (fun _ hk => ⟨hk.1.1.2, ⟨hk.1.2, hk.2⟩⟩)⟩, ⟨by (with_reducible repeat (first | apply Kd.R_alloc | apply Kd.R_drewN | apply Kd.R_drew)); exact Kd.R_mono HO268.out (fun _ hk => ⟨hk.1.1.2, ⟨hk.1.2, hk.2⟩⟩)⟩, ⟨by (with_reducible repeat (first | apply Kd.R_alloc | apply Kd.R_drewN | apply Kd.R_drew)); exact Kd.R_mono HO275.out (fun _ hk => ⟨hk.1.1.2, ⟨hk.1.2, hk.2⟩⟩)⟩, ⟨by (with_reducible repeat (first | apply Kd.R_alloc | apply Kd.R_drewN | apply Kd.R_drew)); exact Kd.R_mono HO282.out (fun _ hk => ⟨hk.1.1.2, ⟨hk.1.2, hk.2⟩⟩)⟩, ⟨by refine uW ?_; exact BK239.out⟩, ⟨by refine uW ?_; exact BK240.out⟩, ⟨by refine uW ?_; exact BK262.out⟩, ⟨by refine uW ?_; exact BK269.out⟩, ⟨by refine uW ?_; exact BK276.out⟩, ⟨by refine uW ?_; exact BK284.out⟩, ⟨uN HB⟩⟩
 case rest =>
  clear HC25
  try clear c1
  try clear c2
  try clear p2
  try clear c4
  try clear c5
  try clear c6
  try clear c7
  try clear c8
  try clear c9
  try clear c17
  try clear c18
  try clear c19
  try clear c20
  try clear c46
  try clear c50
  try clear c51
  try clear c52
  try clear c55
  try clear c59
  try clear c60
  try clear c61
  try clear c62
  try clear c68
  try clear c69
  try clear c70
  try clear c71
  try clear c72
  try clear c76
  try clear c77
  try clear c78
  try clear c79
  try clear c80
  try clear c81
  try clear c83
  try clear c84
  try clear c85
  try clear c86
  try clear c89
  try clear c90
  try clear c91
  try clear c92
  try clear c93
  try clear c95
  try clear c96
  try clear c97
  try clear c98
  try clear hcz47_0
  try clear hcz47_1
  try clear hcz47_2
  try clear hcz47_3
  try clear hcz53_0
  try clear hcz53_1
  try clear hcz53_2
  try clear hcz53_3
  try clear hcz56_0
  try clear hcz56_1
  try clear hcz56_2
  try clear hcz56_3
  try clear hcz63_0
  try clear hcz63_1
  try clear hcz63_2
  try clear hcz63_3
  try clear hcz65_0
  try clear hcz65_1
  try clear hcz65_2
  try clear hcz65_3
  try clear hcz73_0
  try clear hcz73_1
  try clear hcz73_2
  try clear hcz73_3
  try clear hcz82_0
  try clear hcz82_1
  try clear hcz82_2
  try clear hcz82_3
  try clear hcz87_0
  try clear hcz87_1
  try clear hcz87_2
  try clear hcz87_3
  try clear hcz94_0
  try clear hcz94_1
  try clear hcz94_2
  try clear hcz94_3
  try clear hcz99_0
  try clear hcz99_1
  try clear hcz99_2
  try clear hcz99_3
  try clear hfz47_0
  try clear hfz47_1
  try clear hfz47_2
  try clear hfz47_3
  try clear hfz53_0
  try clear hfz53_1
  try clear hfz53_2
  try clear hfz53_3
  try clear hfz56_0
  try clear hfz56_1
  try clear hfz56_2
  try clear hfz56_3
  try clear hfz63_0
  try clear hfz63_1
  try clear hfz63_2
  try clear hfz63_3
  try clear hfz65_0
  try clear hfz65_1
  try clear hfz65_2
  try clear hfz65_3
  try clear hfz73_0
  try clear hfz73_1
  try clear hfz73_2
  try clear hfz73_3
  try clear hfz82_0
  try clear hfz82_1
  try clear hfz82_2
  try clear hfz82_3
  try clear hfz87_0
  try clear hfz87_1
  try clear hfz87_2
  try clear hfz87_3
  try clear hfz94_0
  try clear hfz94_1
  try clear hfz94_2
  try clear hfz94_3
  try clear hfz99_0
  try clear hfz99_1
  try clear hfz99_2
  try clear hfz99_3
  obtain ⟨kq, x53_24, rfl, HA, HJ24, HO_263003, HO_270003, HO_277003, HO_285003, BK239, BK240, BK262, BK269, BK276, BK284, HB⟩ := hcut
  cases kq with
  | zero => exact absurd HA.out (by simp [laws_FnExactUnionBloom.j0])
  | succ kj24 =>
   have H := HA.out
   clear HA
   simp only [laws_FnExactUnionBloom.j0] at H
   by_cases c101 : x53_24 = true
   ·
    subst c101
    rw [if_pos rfl] at H
    obtain rfl := Option.some.inj H
    go_wp2
    go_ret
    exact ⟨by first | rfl | (simp [errW_none, errW_some] <;> rfl) | (simp [*, errW_none, errW_some] <;> rfl), uN HB⟩
   replace c101 := Bool.eq_false_iff.mpr c101
   subst c101
   rw [if_neg (show ¬ (false = true) by decide)] at H
   replace H := Option.bind_eq_some_iff.mp H
   obtain ⟨⟨t286, t287, t288, t289⟩, A1020, H⟩ := H
   try dsimp only at H
   have A102 := Aside0.mk A1020
   clear A1020
   replace H := Option.bind_eq_some_iff.mp H
   obtain ⟨t292, A1030, H⟩ := H
   try dsimp only at H
   have A103 := Aside0.mk A1030
   clear A1030
   by_cases c104 : t292 = true
   ·
    subst c104
    rw [if_pos rfl] at H
    replace H := Option.bind_eq_some_iff.mp H
    obtain ⟨⟨t293, t294, t295, t296⟩, A1050, H⟩ := H
    try dsimp only at H
    have A105 := Aside0.mk A1050
    clear A1050
    replace H := Option.bind_eq_some_iff.mp H
    obtain ⟨t299, A1060, H⟩ := H
    try dsimp only at H
    have A106 := Aside0.mk A1060
    clear A1060
    by_cases c107 : t299 = true
    ·
     subst c107
     rw [if_pos rfl] at H
     replace H := Option.bind_eq_some_iff.mp H
     obtain ⟨⟨t300, t301⟩, A1080, H⟩ := H
     try dsimp only at H
     have A108 := Aside0.mk A1080
     clear A1080
     replace H := Option.bind_eq_some_iff.mp H
     obtain ⟨⟨t302, t303⟩, A1090, H⟩ := H
     try dsimp only at H
     have A109 := Aside0.mk A1090
     clear A1090
     have HC110 := Aside0.mk H
     clear H
     try go_wp2
     replace HO_263003 := Aside0.mk (Kd.R_drew HO_263003.out)
     replace HO_270003 := Aside0.mk (Kd.R_drew HO_270003.out)
     replace HO_277003 := Aside0.mk (Kd.R_drew HO_277003.out)
     replace HO_285003 := Aside0.mk (Kd.R_drew HO_285003.out)
     replace BK239 := Aside0.mk (blk_drew BK239.out)
     replace BK240 := Aside0.mk (blk_drew BK240.out)
     replace BK262 := Aside0.mk (blk_drew BK262.out)
     replace BK269 := Aside0.mk (blk_drew BK269.out)
     replace BK276 := Aside0.mk (blk_drew BK276.out)
     replace BK284 := Aside0.mk (blk_drew BK284.out)
     replace HB := Aside0.mk (below_drew1 HB.out)
     refine start_ (n := 5) (S := fun w' => w'.cell? ⟨gb269, 0, none⟩ = some (.int .i64 t263) ∧ w'.cell? ⟨gb269, 1, none⟩ = some (.int .i64 t264) ∧ w'.cell? ⟨gb269, 2, none⟩ = some (.int .i64 t265) ∧ w'.cell? ⟨gb269, 3, none⟩ = some (.slice Ao54 t266.length co54) ∧ w'.cell? ⟨gb239, 0, none⟩ = some (.int .i64 a0_0) ∧ w'.cell? ⟨gb239, 1, none⟩ = some (.int .i64 a0_1) ∧ w'.cell? ⟨gb239, 2, none⟩ = some (.int .i64 a0_2) ∧ w'.cell? ⟨gb239, 3, none⟩ = some (.slice A0_3 l0_3.length c0_3)) (ds := []) #[false, false, false, false, false] (by kernel_rfl) rfl rfl ⟨bc BK269 0, bc BK269 1, bc BK269 2, bc BK269 3, bc BK239 0, bc BK239 1, bc BK239 2, bc BK239 3⟩ (fun hHeld => ?_)
     generalize wc.drew = w111 at HO_263003 HO_270003 HO_277003 HO_285003 BK239 BK240 BK262 BK269 BK276 BK284 HB hHeld ⊢
     refine take_ (i := 0) (N := some 54) (v := ?_) (a' := ?_) #[true, false, false, false, false] rfl rfl (by kernel_rfl) (fun _ _ _ h => h) (Or.inl ⟨by rfl, ?_⟩) hHeld ?_ ?_
     rotate_left
     ·
      rintro w' ⟨s0, s1, s2, s3, s4, s5, s6, s7⟩
      go_simp
      with_reducible rfl
     rotate_left
     ·
      simp only [Act.put, setIfInBounds_toArray, set_cons_zero, set_cons_succ, i64_w, i32_w]
      rfl
     refine take_ (i := 1) (N := some 55) (v := ?_) (a' := ?_) #[true, true, false, false, false] rfl rfl (by kernel_rfl) (fun _ _ _ h => h) (Or.inl ⟨by rfl, ?_⟩) hHeld ?_ ?_
     rotate_left
     ·
      rintro w' ⟨s0, s1, s2, s3, s4, s5, s6, s7⟩
      go_simp
      with_reducible rfl
     rotate_left
     ·
      simp only [Act.put, setIfInBounds_toArray, set_cons_zero, set_cons_succ, i64_w, i32_w]
      rfl
     refine one_ (i := 2) (N := some 56) #[true, true, true, false, false] rfl rfl (by kernel_rfl) (by decide) (fun K hK => ?_)
     refine goes_ Try.func18 (by kernel_rfl) rfl #[.agg #[.int .i64 a0_0, .int .i64 a0_1, .int .i64 a0_2, .slice A0_3 l0_3.length c0_3]] (by rfl) rfl rfl (by (try simp only [List.map_toArray, List.map_cons, List.map_nil]); first | done | rfl) ?_
     with_reducible refine (laws_toBloom.calls kj24 a0_0 a0_1 a0_2 _ _ l0_3 t286 t287 t288 t289 _ ?side1 ?side2 A102.out).mono ?_
     (case side1 => exact uC HR0_3 HB)
     (case side2 => exact HC0_3.out)
     rintro e w112 ⟨v290, rfl, ho0, hb⟩
     refine ⟨_, rfl, ?_⟩
     have HO291 := Aside0.mk (Kd.R_lower (Kd.R_new' (Kd.R_new' (Kd.R_new' (Kd.R_new' ho0 (Kd.R_lt (uR HO_263003))) (Kd.R_lt (uR HO_270003))) (Kd.R_lt (uR HO_277003))) (Kd.R_lt (uR HO_285003))) (below_size (uN HB)))
     replace HO_263003 := Aside0.mk (Kd.R_elder' (uR HO_263003) (Kd.R_base ho0) hb)
     replace HO_270003 := Aside0.mk (Kd.R_elder' (uR HO_270003) (Kd.R_base ho0) hb)
     replace HO_277003 := Aside0.mk (Kd.R_elder' (uR HO_277003) (Kd.R_base ho0) hb)
     replace HO_285003 := Aside0.mk (Kd.R_elder' (uR HO_285003) (Kd.R_base ho0) hb)
     replace BK239 := kB BK239 hb
     replace BK240 := kB BK240 hb
     replace BK262 := kB BK262 hb
     replace BK269 := kB BK269 hb
     replace BK276 := kB BK276 hb
     replace BK284 := kB BK284 hb
     replace HB := Aside0.mk (below_step (uN HB) hb)
     (try clear hb)
     (try clear hb2)
     (try clear hk)
     (try clear hi)
     (try clear ho0)
     obtain ⟨Ao113, co113, eo113⟩ := Kd.R_slice HO291.out
     (first | subst eo113 | (injection eo113 with f1_ f2_ f3_; have f4_ := f1_.symm; have f5_ := f3_.symm; clear f1_ f2_ f3_; subst f4_; subst f5_))
     refine hK.out _ _ ⟨bc BK269 0, bc BK269 1, bc BK269 2, bc BK269 3, bc BK239 0, bc BK239 1, bc BK239 2, bc BK239 3⟩ (fun hHeld => ?_)
     clear hK K
     refine norm_ (a' := ?_) ?_ ?_
     rotate_left
     ·
      show Act.put _ (some 56) _ = _
      simp only [Act.put, setIfInBounds_toArray, set_cons_zero, set_cons_succ, i64_w, i32_w]
      rfl
     refine one_ (i := 3) (N := some 57) #[true, true, true, true, false] rfl rfl (by kernel_rfl) (by decide) (fun K hK => ?_)
     refine goes_ Try.func20 (by kernel_rfl) rfl #[.agg #[.int .i64 t263, .int .i64 t264, .int .i64 t265, .slice Ao54 t266.length co54], .agg #[.int .i64 t286, .int .i64 t287, .int .i64 t288, .slice Ao113 t289.length co113]] (by rfl) rfl rfl (by (try simp only [List.map_toArray, List.map_cons, List.map_nil]); first | done | rfl) ?_
     with_reducible refine (laws_eqBloom.calls kj24 t263 t264 t265 _ _ t266 t286 t287 t288 _ _ t289 true _ ?side1 ?side2 ?side3 ?side4 A103.out).mono ?_
     (case side1 => exact uD HO_270003)
     (case side2 => exact (Kd.R_reads' HO_270003.out).2.1)
     (case side3 => exact uD HO291)
     (case side4 => exact (Kd.R_reads' HO291.out).2.1)
     rintro e w114 ⟨rfl, hb⟩
     refine ⟨_, rfl, ?_⟩
     replace HO_263003 := Aside0.mk (Kd.R_below (uR HO_263003) hb)
     replace HO_270003 := Aside0.mk (Kd.R_below (uR HO_270003) hb)
     replace HO_277003 := Aside0.mk (Kd.R_below (uR HO_277003) hb)
     replace HO_285003 := Aside0.mk (Kd.R_below (uR HO_285003) hb)
     replace HO291 := Aside0.mk (Kd.R_below (uR HO291) hb)
     replace BK239 := kB BK239 hb
     replace BK240 := kB BK240 hb
     replace BK262 := kB BK262 hb
     replace BK269 := kB BK269 hb
     replace BK276 := kB BK276 hb
     replace BK284 := kB BK284 hb
     replace HB := Aside0.mk (below_step (uN HB) hb)
     (try clear hb)
     (try clear hb2)
     (try clear hk)
     (try clear hi)
     refine hK.out _ _ ⟨bc BK269 0, bc BK269 1, bc BK269 2, bc BK269 3, bc BK239 0, bc BK239 1, bc BK239 2, bc BK239 3⟩ (fun hHeld => ?_)
     clear hK K
     refine norm_ (a' := ?_) ?_ ?_
     rotate_left
     ·
      show Act.put _ (some 57) _ = _
      simp only [Act.put, setIfInBounds_toArray, set_cons_zero, set_cons_succ, i64_w, i32_w]
      rfl
     refine pure_ (i := 4) (N := some 58) (v := ?_) (a' := ?_) #[true, true, true, true, true] rfl rfl (by kernel_rfl) (fun _ _ _ h => h) (Or.inl ⟨by rfl, ?_⟩) ?_ ?_
     rotate_left
     ·
      intro w'
      go_simp
      with_reducible rfl
     rotate_left
     ·
      simp only [Act.put, setIfInBounds_toArray, set_cons_zero, set_cons_succ, i64_w, i32_w]
      rfl
     refine done_ (by kernel_rfl) ?_
     try go_wp2
     replace HO_263003 := Aside0.mk (Kd.R_drew HO_263003.out)
     replace HO_270003 := Aside0.mk (Kd.R_drew HO_270003.out)
     replace HO_277003 := Aside0.mk (Kd.R_drew HO_277003.out)
     replace HO_285003 := Aside0.mk (Kd.R_drew HO_285003.out)
     replace HO291 := Aside0.mk (Kd.R_drew HO291.out)
     replace BK239 := Aside0.mk (blk_drew BK239.out)
     replace BK240 := Aside0.mk (blk_drew BK240.out)
     replace BK262 := Aside0.mk (blk_drew BK262.out)
     replace BK269 := Aside0.mk (blk_drew BK269.out)
     replace BK276 := Aside0.mk (blk_drew BK276.out)
     replace BK284 := Aside0.mk (blk_drew BK284.out)
     replace HB := Aside0.mk (below_drew1 HB.out)
     refine start_ (n := 5) (S := fun w' => w'.cell? ⟨gb276, 0, none⟩ = some (.int .i64 t270) ∧ w'.cell? ⟨gb276, 1, none⟩ = some (.int .i64 t271) ∧ w'.cell? ⟨gb276, 2, none⟩ = some (.int .i64 t272) ∧ w'.cell? ⟨gb276, 3, none⟩ = some (.slice Ao64 t273.length co64) ∧ w'.cell? ⟨gb240, 0, none⟩ = some (.int .i64 a1_0) ∧ w'.cell? ⟨gb240, 1, none⟩ = some (.int .i64 a1_1) ∧ w'.cell? ⟨gb240, 2, none⟩ = some (.int .i64 a1_2) ∧ w'.cell? ⟨gb240, 3, none⟩ = some (.slice A1_3 l1_3.length c1_3)) (ds := []) #[false, false, false, false, false] (by kernel_rfl) rfl rfl ⟨bc BK276 0, bc BK276 1, bc BK276 2, bc BK276 3, bc BK240 0, bc BK240 1, bc BK240 2, bc BK240 3⟩ (fun hHeld => ?_)
     generalize w114.drew = w115 at HO_263003 HO_270003 HO_277003 HO_285003 HO291 BK239 BK240 BK262 BK269 BK276 BK284 HB hHeld ⊢
     refine take_ (i := 0) (N := some 59) (v := ?_) (a' := ?_) #[true, false, false, false, false] rfl rfl (by kernel_rfl) (fun _ _ _ h => h) (Or.inl ⟨by rfl, ?_⟩) hHeld ?_ ?_
     rotate_left
     ·
      rintro w' ⟨s0, s1, s2, s3, s4, s5, s6, s7⟩
      go_simp
      with_reducible rfl
     rotate_left
     ·
      simp only [Act.put, setIfInBounds_toArray, set_cons_zero, set_cons_succ, i64_w, i32_w]
      rfl
     refine take_ (i := 1) (N := some 60) (v := ?_) (a' := ?_) #[true, true, false, false, false] rfl rfl (by kernel_rfl) (fun _ _ _ h => h) (Or.inl ⟨by rfl, ?_⟩) hHeld ?_ ?_
     rotate_left
     ·
      rintro w' ⟨s0, s1, s2, s3, s4, s5, s6, s7⟩
      go_simp
      with_reducible rfl
     rotate_left
     ·
      simp only [Act.put, setIfInBounds_toArray, set_cons_zero, set_cons_succ, i64_w, i32_w]
      rfl
     refine one_ (i := 2) (N := some 61) #[true, true, true, false, false] rfl rfl (by kernel_rfl) (by decide) (fun K hK => ?_)
     refine goes_ Try.func18 (by kernel_rfl) rfl #[.agg #[.int .i64 a1_0, .int .i64 a1_1, .int .i64 a1_2, .slice A1_3 l1_3.length c1_3]] (by rfl) rfl rfl (by (try simp only [List.map_toArray, List.map_cons, List.map_nil]); first | done | rfl) ?_
     with_reducible refine (laws_toBloom.calls kj24 a1_0 a1_1 a1_2 _ _ l1_3 t293 t294 t295 t296 _ ?side1 ?side2 A105.out).mono ?_
     (case side1 => exact uC HR1_3 HB)
     (case side2 => exact HC1_3.out)
     rintro e w116 ⟨v297, rfl, ho0, hb⟩
     refine ⟨_, rfl, ?_⟩
     have HO298 := Aside0.mk (Kd.R_lower (Kd.R_new' (Kd.R_new' (Kd.R_new' (Kd.R_new' (Kd.R_new' ho0 (Kd.R_lt (uR HO_263003))) (Kd.R_lt (uR HO_270003))) (Kd.R_lt (uR HO_277003))) (Kd.R_lt (uR HO_285003))) (Kd.R_lt (uR HO291))) (below_size (uN HB)))
     replace HO_263003 := Aside0.mk (Kd.R_elder' (uR HO_263003) (Kd.R_base ho0) hb)
     replace HO_270003 := Aside0.mk (Kd.R_elder' (uR HO_270003) (Kd.R_base ho0) hb)
     replace HO_277003 := Aside0.mk (Kd.R_elder' (uR HO_277003) (Kd.R_base ho0) hb)
     replace HO_285003 := Aside0.mk (Kd.R_elder' (uR HO_285003) (Kd.R_base ho0) hb)
     replace HO291 := Aside0.mk (Kd.R_elder' (uR HO291) (Kd.R_base ho0) hb)
     replace BK239 := kB BK239 hb
     replace BK240 := kB BK240 hb
     replace BK262 := kB BK262 hb
     replace BK269 := kB BK269 hb
     replace BK276 := kB BK276 hb
     replace BK284 := kB BK284 hb
     replace HB := Aside0.mk (below_step (uN HB) hb)
     (try clear hb)
     (try clear hb2)
     (try clear hk)
     (try clear hi)
     (try clear ho0)
     obtain ⟨Ao117, co117, eo117⟩ := Kd.R_slice HO298.out
     (first | subst eo117 | (injection eo117 with f1_ f2_ f3_; have f4_ := f1_.symm; have f5_ := f3_.symm; clear f1_ f2_ f3_; subst f4_; subst f5_))
     refine hK.out _ _ ⟨bc BK276 0, bc BK276 1, bc BK276 2, bc BK276 3, bc BK240 0, bc BK240 1, bc BK240 2, bc BK240 3⟩ (fun hHeld => ?_)
     clear hK K
     refine norm_ (a' := ?_) ?_ ?_
     rotate_left
     ·
      show Act.put _ (some 61) _ = _
      simp only [Act.put, setIfInBounds_toArray, set_cons_zero, set_cons_succ, i64_w, i32_w]
      rfl
     refine one_ (i := 3) (N := some 62) #[true, true, true, true, false] rfl rfl (by kernel_rfl) (by decide) (fun K hK => ?_)
     refine goes_ Try.func20 (by kernel_rfl) rfl #[.agg #[.int .i64 t270, .int .i64 t271, .int .i64 t272, .slice Ao64 t273.length co64], .agg #[.int .i64 t293, .int .i64 t294, .int .i64 t295, .slice Ao117 t296.length co117]] (by rfl) rfl rfl (by (try simp only [List.map_toArray, List.map_cons, List.map_nil]); first | done | rfl) ?_
     with_reducible refine (laws_eqBloom.calls kj24 t270 t271 t272 _ _ t273 t293 t294 t295 _ _ t296 true _ ?side1 ?side2 ?side3 ?side4 A106.out).mono ?_
     (case side1 => exact uD HO_277003)
     (case side2 => exact (Kd.R_reads' HO_277003.out).2.1)
     (case side3 => exact uD HO298)
     (case side4 => exact (Kd.R_reads' HO298.out).2.1)
     rintro e w118 ⟨rfl, hb⟩
     refine ⟨_, rfl, ?_⟩
     replace HO_263003 := Aside0.mk (Kd.R_below (uR HO_263003) hb)
     replace HO_270003 := Aside0.mk (Kd.R_below (uR HO_270003) hb)
     replace HO_277003 := Aside0.mk (Kd.R_below (uR HO_277003) hb)
     replace HO_285003 := Aside0.mk (Kd.R_below (uR HO_285003) hb)
     replace HO291 := Aside0.mk (Kd.R_below (uR HO291) hb)
     replace HO298 := Aside0.mk (Kd.R_below (uR HO298) hb)
     replace BK239 := kB BK239 hb
     replace BK240 := kB BK240 hb
     replace BK262 := kB BK262 hb
     replace BK269 := kB BK269 hb
     replace BK276 := kB BK276 hb
     replace BK284 := kB BK284 hb
     replace HB := Aside0.mk (below_step (uN HB) hb)
     (try clear hb)
     (try clear hb2)
     (try clear hk)
     (try clear hi)
     refine hK.out _ _ ⟨bc BK276 0, bc BK276 1, bc BK276 2, bc BK276 3, bc BK240 0, bc BK240 1, bc BK240 2, bc BK240 3⟩ (fun hHeld => ?_)
     clear hK K
     refine norm_ (a' := ?_) ?_ ?_
     rotate_left
     ·
      show Act.put _ (some 62) _ = _
      simp only [Act.put, setIfInBounds_toArray, set_cons_zero, set_cons_succ, i64_w, i32_w]
      rfl
     refine pure_ (i := 4) (N := some 63) (v := ?_) (a' := ?_) #[true, true, true, true, true] rfl rfl (by kernel_rfl) (fun _ _ _ h => h) (Or.inl ⟨by rfl, ?_⟩) ?_ ?_
     rotate_left
     ·
      intro w'
      go_simp
      with_reducible rfl
     rotate_left
     ·
      simp only [Act.put, setIfInBounds_toArray, set_cons_zero, set_cons_succ, i64_w, i32_w]
      rfl
     refine done_ (by kernel_rfl) ?_
     have hnb119 := NB269_239.out
     have hnc119 := NB239_269.out
     have hnb120 := NB269_240.out
     have hnc120 := NB240_269.out
     have hnb121 := NB269_262.out
     have hnc121 := NB262_269.out
     have hnb122 := NB269_276.out
     have hnc122 := NB276_269.out
     have hnb123 := NB269_284.out
     have hnc123 := NB284_269.out
     obtain ⟨hcz124_0, hcz124_1, hcz124_2, hcz124_3, hfz124_0, hfz124_1, hfz124_2, hfz124_3⟩ := ce4 BK269
     go_upto_region 21 with (first | ((with_reducible refine gate_callee (f := 21) rfl ?_); refine goesL_ (some 66) rfl rfl Try.func21 (by kernel_rfl) rfl #[.agg #[.int .i64 t263, .int .i64 t264, .int .i64 t265, .slice Ao54 t266.length co54], .int .i64 1] rfl (by (try simp only [List.map_toArray, List.map_cons, List.map_nil]); first | done | rfl) ?_; (with_reducible refine (laws_markBloom.calls kj24 t263 t264 t265 (fun k_ => some k_ = (.slice Ao54 t266.length co54 : Value).ownBlock) (.slice Ao54 t266.length co54) t266 1 t300 t301 w _ ?side1 ?side2 A108.out).mono ?_); (case side1 => exact uN HB); (case side2 => exact Kd.R_tight rfl HO_270003.out); rintro e w125 ⟨rfl, hy0, hb, hkp⟩; refine ⟨_, rfl, ?_⟩; replace HO_263003 := Aside0.mk (Kd.R_mono (ok' := fun k_ => some k_ ≠ (.slice Ao54 t266.length co54 : Value).ownBlock ∧ some k_ ≠ (.slice Ao64 t273.length co64 : Value).ownBlock ∧ some k_ ≠ (.slice Ao74 t280.length co74 : Value).ownBlock ∧ some k_ ≠ (.slice Ao113 t289.length co113 : Value).ownBlock ∧ some k_ ≠ (.slice Ao117 t296.length co117 : Value).ownBlock) (Kd.R_keptB (HO_263003.out) hkp (fun k_ hk_ hs_ => (hk_.1.1.1) hs_)) (fun k_ hk_ => ⟨hk_.1.1.1.1, hk_.1.1.1.2.1, hk_.1.1.1.2.2, hk_.1.1.2, hk_.1.2⟩)); replace HO_277003 := Aside0.mk (Kd.R_mono (ok' := fun k_ => some k_ ≠ (.slice Ao44 t258.length co44 : Value).ownBlock ∧ some k_ ≠ (.slice Ao54 t266.length co54 : Value).ownBlock ∧ some k_ ≠ (.slice Ao74 t280.length co74 : Value).ownBlock ∧ some k_ ≠ (.slice Ao113 t289.length co113 : Value).ownBlock ∧ some k_ ≠ (.slice Ao117 t296.length co117 : Value).ownBlock) (Kd.R_keptB (HO_277003.out) hkp (fun k_ hk_ hs_ => (hk_.1.1.2.1) hs_)) (fun k_ hk_ => ⟨hk_.1.1.1.1, hk_.1.1.1.2.1, hk_.1.1.1.2.2, hk_.1.1.2, hk_.1.2⟩)); replace HO_285003 := Aside0.mk (Kd.R_mono (ok' := fun k_ => some k_ ≠ (.slice Ao44 t258.length co44 : Value).ownBlock ∧ some k_ ≠ (.slice Ao54 t266.length co54 : Value).ownBlock ∧ some k_ ≠ (.slice Ao64 t273.length co64 : Value).ownBlock ∧ some k_ ≠ (.slice Ao113 t289.length co113 : Value).ownBlock ∧ some k_ ≠ (.slice Ao117 t296.length co117 : Value).ownBlock) (Kd.R_keptB (HO_285003.out) hkp (fun k_ hk_ hs_ => (hk_.1.1.2.1) hs_)) (fun k_ hk_ => ⟨hk_.1.1.1.1, hk_.1.1.1.2.1, hk_.1.1.1.2.2, hk_.1.1.2, hk_.1.2⟩)); replace BK239 := Aside0.mk (blk_kept (uK BK239) hkp (fun hs_ => (fun e_ => (Kd.R_ne HO_270003.out BK239.out (by decide)) e_) hs_)); replace BK240 := Aside0.mk (blk_kept (uK BK240) hkp (fun hs_ => (fun e_ => (Kd.R_ne HO_270003.out BK240.out (by decide)) e_) hs_)); replace BK262 := Aside0.mk (blk_kept (uK BK262) hkp (fun hs_ => (fun e_ => (Kd.R_ne HO_270003.out BK262.out (by decide)) e_) hs_)); replace BK269 := Aside0.mk (blk_kept (uK BK269) hkp (fun hs_ => (fun e_ => (Kd.R_ne HO_270003.out BK269.out (by decide)) e_) hs_)); replace BK276 := Aside0.mk (blk_kept (uK BK276) hkp (fun hs_ => (fun e_ => (Kd.R_ne HO_270003.out BK276.out (by decide)) e_) hs_)); replace BK284 := Aside0.mk (blk_kept (uK BK284) hkp (fun hs_ => (fun e_ => (Kd.R_ne HO_270003.out BK284.out (by decide)) e_) hs_)); replace HO_270003 := Aside0.mk (Kd.R_reok rfl hy0 (fun k_ e_ => HO_270003.out.1 k_ e_)); replace HO291 := Aside0.mk (Kd.R_mono (ok' := fun k_ => some k_ ≠ (.slice Ao44 t258.length co44 : Value).ownBlock ∧ some k_ ≠ (.slice Ao54 t266.length co54 : Value).ownBlock ∧ some k_ ≠ (.slice Ao64 t273.length co64 : Value).ownBlock ∧ some k_ ≠ (.slice Ao74 t280.length co74 : Value).ownBlock ∧ some k_ ≠ (.slice Ao117 t296.length co117 : Value).ownBlock) (Kd.R_keptB (HO291.out) hkp (fun k_ hk_ hs_ => (hk_.1.1.1.2) hs_)) (fun k_ hk_ => ⟨hk_.1.1.1.1.1.2, hk_.1.1.1.1.2, hk_.1.1.1.2, hk_.1.1.2, hk_.1.2⟩)); replace HO298 := Aside0.mk (Kd.R_mono (ok' := fun k_ => some k_ ≠ (.slice Ao44 t258.length co44 : Value).ownBlock ∧ some k_ ≠ (.slice Ao54 t266.length co54 : Value).ownBlock ∧ some k_ ≠ (.slice Ao64 t273.length co64 : Value).ownBlock ∧ some k_ ≠ (.slice Ao74 t280.length co74 : Value).ownBlock ∧ some k_ ≠ (.slice Ao113 t289.length co113 : Value).ownBlock) (Kd.R_keptB (HO298.out) hkp (fun k_ hk_ hs_ => (hk_.1.1.1.2) hs_)) (fun k_ hk_ => ⟨hk_.1.1.1.1.1.2, hk_.1.1.1.1.2, hk_.1.1.1.2, hk_.1.1.2, hk_.1.2⟩)); replace HB := Aside0.mk (hb); (try clear hb); (try clear hkp); (try clear hy0); have hnb126 := NB276_239.out; have hnc126 := NB239_276.out; have hnb127 := NB276_240.out; have hnc127 := NB240_276.out; have hnb128 := NB276_262.out; have hnc128 := NB262_276.out; have hnb129 := NB276_284.out; have hnc129 := NB284_276.out; obtain ⟨hcz130_0, hcz130_1, hcz130_2, hcz130_3, hfz130_0, hfz130_1, hfz130_2, hfz130_3⟩ := ce4 BK276) | ((with_reducible refine gate_callee (f := 21) rfl ?_); refine goesL_ (some 69) rfl rfl Try.func21 (by kernel_rfl) rfl #[.agg #[.int .i64 t270, .int .i64 t271, .int .i64 t272, .slice Ao64 t273.length co64], .int .i64 t300] rfl (by (try simp only [List.map_toArray, List.map_cons, List.map_nil]); first | done | rfl) ?_; (with_reducible refine (laws_markBloom.calls kj24 t270 t271 t272 (fun k_ => some k_ = (.slice Ao64 t273.length co64 : Value).ownBlock) (.slice Ao64 t273.length co64) t273 t300 t302 t303 w _ ?side1 ?side2 A109.out).mono ?_); (case side1 => exact uN HB); (case side2 => exact Kd.R_tight rfl HO_277003.out); rintro e w131 ⟨rfl, hy0, hb, hkp⟩; refine ⟨_, rfl, ?_⟩; replace HO_263003 := Aside0.mk (Kd.R_mono (ok' := fun k_ => some k_ ≠ (.slice Ao54 t266.length co54 : Value).ownBlock ∧ some k_ ≠ (.slice Ao64 t273.length co64 : Value).ownBlock ∧ some k_ ≠ (.slice Ao74 t280.length co74 : Value).ownBlock ∧ some k_ ≠ (.slice Ao113 t289.length co113 : Value).ownBlock ∧ some k_ ≠ (.slice Ao117 t296.length co117 : Value).ownBlock) (Kd.R_keptB (HO_263003.out) hkp (fun k_ hk_ hs_ => (hk_.2.1) hs_)) (fun k_ hk_ => ⟨hk_.1.1, hk_.1.2.1, hk_.1.2.2.1, hk_.1.2.2.2.1, hk_.1.2.2.2.2⟩)); replace HO_270003 := Aside0.mk (Kd.R_mono (ok' := fun k_ => some k_ ≠ (.slice Ao44 t258.length co44 : Value).ownBlock ∧ some k_ ≠ (.slice Ao64 t273.length co64 : Value).ownBlock ∧ some k_ ≠ (.slice Ao74 t280.length co74 : Value).ownBlock ∧ some k_ ≠ (.slice Ao113 t289.length co113 : Value).ownBlock ∧ some k_ ≠ (.slice Ao117 t296.length co117 : Value).ownBlock) (Kd.R_keptB (HO_270003.out) hkp (fun k_ hk_ hs_ => (hk_.1.1.2.1) hs_)) (fun k_ hk_ => ⟨hk_.1.1.1.1, hk_.1.1.1.2.1, hk_.1.1.1.2.2, hk_.1.1.2, hk_.1.2⟩)); replace HO_285003 := Aside0.mk (Kd.R_mono (ok' := fun k_ => some k_ ≠ (.slice Ao44 t258.length co44 : Value).ownBlock ∧ some k_ ≠ (.slice Ao54 t266.length co54 : Value).ownBlock ∧ some k_ ≠ (.slice Ao64 t273.length co64 : Value).ownBlock ∧ some k_ ≠ (.slice Ao113 t289.length co113 : Value).ownBlock ∧ some k_ ≠ (.slice Ao117 t296.length co117 : Value).ownBlock) (Kd.R_keptB (HO_285003.out) hkp (fun k_ hk_ hs_ => (hk_.2.2.1) hs_)) (fun k_ hk_ => ⟨hk_.1.1, hk_.1.2.1, hk_.1.2.2.1, hk_.1.2.2.2.1, hk_.1.2.2.2.2⟩)); replace BK239 := Aside0.mk (blk_kept (uK BK239) hkp (fun hs_ => (fun e_ => (Kd.R_ne HO_277003.out BK239.out (by decide)) e_) hs_)); replace BK240 := Aside0.mk (blk_kept (uK BK240) hkp (fun hs_ => (fun e_ => (Kd.R_ne HO_277003.out BK240.out (by decide)) e_) hs_)); replace BK262 := Aside0.mk (blk_kept (uK BK262) hkp (fun hs_ => (fun e_ => (Kd.R_ne HO_277003.out BK262.out (by decide)) e_) hs_)); replace BK269 := Aside0.mk (blk_kept (uK BK269) hkp (fun hs_ => (fun e_ => (Kd.R_ne HO_277003.out BK269.out (by decide)) e_) hs_)); replace BK276 := Aside0.mk (blk_kept (uK BK276) hkp (fun hs_ => (fun e_ => (Kd.R_ne HO_277003.out BK276.out (by decide)) e_) hs_)); replace BK284 := Aside0.mk (blk_kept (uK BK284) hkp (fun hs_ => (fun e_ => (Kd.R_ne HO_277003.out BK284.out (by decide)) e_) hs_)); replace HO_277003 := Aside0.mk (Kd.R_reok rfl hy0 (fun k_ e_ => HO_277003.out.1 k_ e_)); replace HO291 := Aside0.mk (Kd.R_mono (ok' := fun k_ => some k_ ≠ (.slice Ao44 t258.length co44 : Value).ownBlock ∧ some k_ ≠ (.slice Ao54 t266.length co54 : Value).ownBlock ∧ some k_ ≠ (.slice Ao64 t273.length co64 : Value).ownBlock ∧ some k_ ≠ (.slice Ao74 t280.length co74 : Value).ownBlock ∧ some k_ ≠ (.slice Ao117 t296.length co117 : Value).ownBlock) (Kd.R_keptB (HO291.out) hkp (fun k_ hk_ hs_ => (hk_.2.2.1) hs_)) (fun k_ hk_ => ⟨hk_.1.1, hk_.1.2.1, hk_.1.2.2.1, hk_.1.2.2.2.1, hk_.1.2.2.2.2⟩)); replace HO298 := Aside0.mk (Kd.R_mono (ok' := fun k_ => some k_ ≠ (.slice Ao44 t258.length co44 : Value).ownBlock ∧ some k_ ≠ (.slice Ao54 t266.length co54 : Value).ownBlock ∧ some k_ ≠ (.slice Ao64 t273.length co64 : Value).ownBlock ∧ some k_ ≠ (.slice Ao74 t280.length co74 : Value).ownBlock ∧ some k_ ≠ (.slice Ao113 t289.length co113 : Value).ownBlock) (Kd.R_keptB (HO298.out) hkp (fun k_ hk_ hs_ => (hk_.2.2.1) hs_)) (fun k_ hk_ => ⟨hk_.1.1, hk_.1.2.1, hk_.1.2.2.1, hk_.1.2.2.2.1, hk_.1.2.2.2.2⟩)); replace HB := Aside0.mk (hb); (try clear hb); (try clear hkp); (try clear hy0)))
     (try simp only [Act.put, setIfInBounds_toArray, set_cons_zero, set_cons_succ])
     go_cut [82] (fun v82 wc => ∃ (kq : Nat) (x82_109 : Bool), v82 = .bool x82_109 ∧ Aside0 (laws_FnExactUnionBloom.j1 kq t261 x82_109 a0_0 a0_1 a0_2 l0_3 a1_0 a1_1 a1_2 l1_3 t255 t256 t257 t258 t277 t278 t279 t280 = some r) ∧ Aside0 (kq ≤ kj24) ∧ Aside0 (Kd.R (Kd.int .i64) 3 wc w.heap.size (fun k_ => some k_ ≠ ((.slice Ao54 t266.length co54) : Value).ownBlock ∧ some k_ ≠ ((.slice Ao64 t273.length co64) : Value).ownBlock ∧ some k_ ≠ ((.slice Ao74 t280.length co74) : Value).ownBlock) (.slice Ao44 t258.length co44) t258) ∧ Aside0 (Kd.R (Kd.int .i64) 3 wc w.heap.size (fun k_ => some k_ ≠ ((.slice Ao44 t258.length co44) : Value).ownBlock ∧ some k_ ≠ ((.slice Ao64 t273.length co64) : Value).ownBlock ∧ some k_ ≠ ((.slice Ao74 t280.length co74) : Value).ownBlock) (.slice Ao54 t266.length co54) t301) ∧ Aside0 (Kd.R (Kd.int .i64) 3 wc w.heap.size (fun k_ => some k_ ≠ ((.slice Ao44 t258.length co44) : Value).ownBlock ∧ some k_ ≠ ((.slice Ao54 t266.length co54) : Value).ownBlock ∧ some k_ ≠ ((.slice Ao74 t280.length co74) : Value).ownBlock) (.slice Ao64 t273.length co64) t303) ∧ Aside0 (Kd.R (Kd.int .i64) 3 wc w.heap.size (fun k_ => some k_ ≠ ((.slice Ao44 t258.length co44) : Value).ownBlock ∧ some k_ ≠ ((.slice Ao54 t266.length co54) : Value).ownBlock ∧ some k_ ≠ ((.slice Ao64 t273.length co64) : Value).ownBlock) (.slice Ao74 t280.length co74) t280) ∧ Aside0 (wc.heap[gb239]? = some (.cells #[.int .i64 a0_0, .int .i64 a0_1, .int .i64 a0_2, (.slice A0_3 l0_3.length c0_3)] 36 (0, 0))) ∧ Aside0 (wc.heap[gb240]? = some (.cells #[.int .i64 a1_0, .int .i64 a1_1, .int .i64 a1_2, (.slice A1_3 l1_3.length c1_3)] 36 (0, 0))) ∧ Aside0 (wc.heap[gb262]? = some (.cells #[.int .i64 t255, .int .i64 t256, .int .i64 t257, (.slice Ao44 t258.length co44)] 40 (0, 0))) ∧ Aside0 (wc.heap[gb269]? = some (.cells #[.int .i64 t263, .int .i64 t264, .int .i64 t265, (.slice Ao54 t266.length co54)] 40 (0, 0))) ∧ Aside0 (wc.heap[gb276]? = some (.cells #[.int .i64 t270, .int .i64 t271, .int .i64 t272, (.slice Ao64 t273.length co64)] 40 (0, 0))) ∧ Aside0 (wc.heap[gb284]? = some (.cells #[.int .i64 t277, .int .i64 t278, .int .i64 t279, (.slice Ao74 t280.length co74)] 40 (0, 0))) ∧ Aside0 (Below w.heap.size w wc))
     case first =>
      have H := HC110.out
      clear HC110
      by_cases c132 : t302 < 0
      ·
       rw [if_pos c132] at H
       have c132b0 : decide (t302 < 0) = true := decide_eq_true c132
       clear c132
       (first | rw [c132b0] | (simp only [i64_w, i32_w]; rw [c132b0]) | skip)
       have H' := Aside0.mk H
       clear H
       go_wp2
       go_meet
       case rel => exact ⟨_, (true), (by first | rfl | (simp; done) | (simp [*]; done)), H', ⟨by have := HJ24.out; first | omega | exact Nat.le_refl _⟩, ⟨by (with_reducible repeat (first | apply Kd.R_alloc | apply Kd.R_drewN | apply Kd.R_drew)); exact Kd.R_mono HO_263003.out (fun _ hk => ⟨hk.1, ⟨hk.2.1, hk.2.2.1⟩⟩)⟩, ⟨by (with_reducible repeat (first | apply Kd.R_alloc | apply Kd.R_drewN | apply Kd.R_drew)); exact Kd.R_mono HO_270003.out (fun _ hk => ⟨hk.1, ⟨hk.2.1, hk.2.2.1⟩⟩)⟩, ⟨by (with_reducible repeat (first | apply Kd.R_alloc | apply Kd.R_drewN | apply Kd.R_drew)); exact Kd.R_mono HO_277003.out (fun _ hk => ⟨hk.1, ⟨hk.2.1, hk.2.2.1⟩⟩)⟩, ⟨by (with_reducible repeat (first | apply Kd.R_alloc | apply Kd.R_drewN | apply Kd.R_drew)); exact Kd.R_mono HO_285003.out (fun _ hk => ⟨hk.1, ⟨hk.2.1, hk.2.2.1⟩⟩)⟩, ⟨by refine uW ?_; exact BK239.out⟩, ⟨by refine uW ?_; exact BK240.out⟩, ⟨by refine uW ?_; exact BK262.out⟩, ⟨by refine uW ?_; exact BK269.out⟩, ⟨by refine uW ?_; exact BK276.out⟩, ⟨by refine uW ?_; exact BK284.out⟩, ⟨uN HB⟩⟩
      rw [if_neg c132] at H
      have c132b0 : decide (t302 < 0) = false := decide_eq_false c132
      clear c132
      (first | rw [c132b0] | (simp only [i64_w, i32_w]; rw [c132b0]) | skip)
      replace H := Option.bind_eq_some_iff.mp H
      obtain ⟨t304, A1330, H⟩ := H
      try dsimp only at H
      have A133 := Aside0.mk A1330
      clear A1330
      by_cases c134 : t304 = true
      ·
       subst c134
       rw [if_pos rfl] at H
       have H' := Aside0.mk H
       clear H
       have hnb135 := NB284_239.out
       have hnc135 := NB239_284.out
       have hnb136 := NB284_240.out
       have hnc136 := NB240_284.out
       have hnb137 := NB284_262.out
       have hnc137 := NB262_284.out
       have hnb138 := NB284_269.out
       have hnc138 := NB269_284.out
       have hnb139 := NB284_276.out
       have hnc139 := NB276_284.out
       obtain ⟨hcz140_0, hcz140_1, hcz140_2, hcz140_3, hfz140_0, hfz140_1, hfz140_2, hfz140_3⟩ := ce4 BK284
       have hnb141 := NB262_239.out
       have hnc141 := NB239_262.out
       have hnb142 := NB262_240.out
       have hnc142 := NB240_262.out
       have hnb143 := NB262_269.out
       have hnc143 := NB269_262.out
       have hnb144 := NB262_276.out
       have hnc144 := NB276_262.out
       obtain ⟨hcz145_0, hcz145_1, hcz145_2, hcz145_3, hfz145_0, hfz145_1, hfz145_2, hfz145_3⟩ := ce4 BK262
       go_wp2_with (first | (go_at_call 20; (with_reducible refine (laws_eqBloom.calls kj24 t277 t278 t279 _ _ t280 t255 t256 t257 _ _ t258 true _ ?side1 ?side2 ?side3 ?side4 A133.out).mono ?_); (case side1 => exact uD HO_285003); (case side2 => exact (Kd.R_reads' HO_285003.out).2.1); (case side3 => exact uD HO_263003); (case side4 => exact (Kd.R_reads' HO_263003.out).2.1); rintro e w146 ⟨rfl, hb⟩; replace HO_263003 := Aside0.mk (Kd.R_below (uR HO_263003) hb); replace HO_270003 := Aside0.mk (Kd.R_below (uR HO_270003) hb); replace HO_277003 := Aside0.mk (Kd.R_below (uR HO_277003) hb); replace HO_285003 := Aside0.mk (Kd.R_below (uR HO_285003) hb); replace HO291 := Aside0.mk (Kd.R_below (uR HO291) hb); replace HO298 := Aside0.mk (Kd.R_below (uR HO298) hb); replace BK239 := kB BK239 hb; replace BK240 := kB BK240 hb; replace BK262 := kB BK262 hb; replace BK269 := kB BK269 hb; replace BK276 := kB BK276 hb; replace BK284 := kB BK284 hb; replace HB := Aside0.mk (below_step (uN HB) hb); (try clear hb); (try clear hb2); (try clear hk); (try clear hi)))
       go_meet
       case rel => exact ⟨_, ((t283 != t261)), (by first | rfl | (simp; done) | (simp [*]; done)), H', ⟨by have := HJ24.out; first | omega | exact Nat.le_refl _⟩, ⟨by (with_reducible repeat (first | apply Kd.R_alloc | apply Kd.R_drewN | apply Kd.R_drew)); exact Kd.R_mono HO_263003.out (fun _ hk => ⟨hk.1, ⟨hk.2.1, hk.2.2.1⟩⟩)⟩, ⟨by (with_reducible repeat (first | apply Kd.R_alloc | apply Kd.R_drewN | apply Kd.R_drew)); exact Kd.R_mono HO_270003.out (fun _ hk => ⟨hk.1, ⟨hk.2.1, hk.2.2.1⟩⟩)⟩, ⟨by (with_reducible repeat (first | apply Kd.R_alloc | apply Kd.R_drewN | apply Kd.R_drew)); exact Kd.R_mono HO_277003.out (fun _ hk => ⟨hk.1, ⟨hk.2.1, hk.2.2.1⟩⟩)⟩, ⟨by (with_reducible repeat (first | apply Kd.R_alloc | apply Kd.R_drewN | apply Kd.R_drew)); exact Kd.R_mono HO_285003.out (fun _ hk => ⟨hk.1, ⟨hk.2.1, hk.2.2.1⟩⟩)⟩, ⟨by refine uW ?_; exact BK239.out⟩, ⟨by refine uW ?_; exact BK240.out⟩, ⟨by refine uW ?_; exact BK262.out⟩, ⟨by refine uW ?_; exact BK269.out⟩, ⟨by refine uW ?_; exact BK276.out⟩, ⟨by refine uW ?_; exact BK284.out⟩, ⟨uN HB⟩⟩
      replace c134 := Bool.eq_false_iff.mpr c134
      subst c134
      rw [if_neg (show ¬ (false = true) by decide)] at H
      have H' := Aside0.mk H
      clear H
      have hnb147 := NB284_239.out
      have hnc147 := NB239_284.out
      have hnb148 := NB284_240.out
      have hnc148 := NB240_284.out
      have hnb149 := NB284_262.out
      have hnc149 := NB262_284.out
      have hnb150 := NB284_269.out
      have hnc150 := NB269_284.out
      have hnb151 := NB284_276.out
      have hnc151 := NB276_284.out
      obtain ⟨hcz152_0, hcz152_1, hcz152_2, hcz152_3, hfz152_0, hfz152_1, hfz152_2, hfz152_3⟩ := ce4 BK284
      have hnb153 := NB262_239.out
      have hnc153 := NB239_262.out
      have hnb154 := NB262_240.out
      have hnc154 := NB240_262.out
      have hnb155 := NB262_269.out
      have hnc155 := NB269_262.out
      have hnb156 := NB262_276.out
      have hnc156 := NB276_262.out
      obtain ⟨hcz157_0, hcz157_1, hcz157_2, hcz157_3, hfz157_0, hfz157_1, hfz157_2, hfz157_3⟩ := ce4 BK262
      go_wp2_with (first | (go_at_call 20; (with_reducible refine (laws_eqBloom.calls kj24 t277 t278 t279 _ _ t280 t255 t256 t257 _ _ t258 false _ ?side1 ?side2 ?side3 ?side4 A133.out).mono ?_); (case side1 => exact uD HO_285003); (case side2 => exact (Kd.R_reads' HO_285003.out).2.1); (case side3 => exact uD HO_263003); (case side4 => exact (Kd.R_reads' HO_263003.out).2.1); rintro e w158 ⟨rfl, hb⟩; replace HO_263003 := Aside0.mk (Kd.R_below (uR HO_263003) hb); replace HO_270003 := Aside0.mk (Kd.R_below (uR HO_270003) hb); replace HO_277003 := Aside0.mk (Kd.R_below (uR HO_277003) hb); replace HO_285003 := Aside0.mk (Kd.R_below (uR HO_285003) hb); replace HO291 := Aside0.mk (Kd.R_below (uR HO291) hb); replace HO298 := Aside0.mk (Kd.R_below (uR HO298) hb); replace BK239 := kB BK239 hb; replace BK240 := kB BK240 hb; replace BK262 := kB BK262 hb; replace BK269 := kB BK269 hb; replace BK276 := kB BK276 hb; replace BK284 := kB BK284 hb; replace HB := Aside0.mk (below_step (uN HB) hb); (try clear hb); (try clear hb2); (try clear hk); (try clear hi)))
      go_meet
      case rel => exact ⟨_, (true), (by first | rfl | (simp; done) | (simp [*]; done)), H', ⟨by have := HJ24.out; first | omega | exact Nat.le_refl _⟩, ⟨by (with_reducible repeat (first | apply Kd.R_alloc | apply Kd.R_drewN | apply Kd.R_drew)); exact Kd.R_mono HO_263003.out (fun _ hk => ⟨hk.1, ⟨hk.2.1, hk.2.2.1⟩⟩)⟩, ⟨by (with_reducible repeat (first | apply Kd.R_alloc | apply Kd.R_drewN | apply Kd.R_drew)); exact Kd.R_mono HO_270003.out (fun _ hk => ⟨hk.1, ⟨hk.2.1, hk.2.2.1⟩⟩)⟩, ⟨by (with_reducible repeat (first | apply Kd.R_alloc | apply Kd.R_drewN | apply Kd.R_drew)); exact Kd.R_mono HO_277003.out (fun _ hk => ⟨hk.1, ⟨hk.2.1, hk.2.2.1⟩⟩)⟩, ⟨by (with_reducible repeat (first | apply Kd.R_alloc | apply Kd.R_drewN | apply Kd.R_drew)); exact Kd.R_mono HO_285003.out (fun _ hk => ⟨hk.1, ⟨hk.2.1, hk.2.2.1⟩⟩)⟩, ⟨by refine uW ?_; exact BK239.out⟩, ⟨by refine uW ?_; exact BK240.out⟩, ⟨by refine uW ?_; exact BK262.out⟩, ⟨by refine uW ?_; exact BK269.out⟩, ⟨by refine uW ?_; exact BK276.out⟩, ⟨by refine uW ?_; exact BK284.out⟩, ⟨uN HB⟩⟩
     case rest =>
      clear HC110
      try clear c1
      try clear c2
      try clear p2
      try clear c10
      try clear c11
      try clear c12
      try clear c13
      try clear c14
      try clear c15
      try clear c18
      try clear c20
      try clear c21
      try clear c101
      try clear c104
      try clear c107
      try clear c119
      try clear c120
      try clear c121
      try clear c122
      try clear c123
      try clear c126
      try clear c127
      try clear c128
      try clear c129
      try clear c132
      try clear c132b0
      try clear c134
      try clear c135
      try clear c136
      try clear c137
      try clear c138
      try clear c139
      try clear c141
      try clear c142
      try clear c143
      try clear c144
      try clear c147
      try clear c148
      try clear c149
      try clear c150
      try clear c151
      try clear c153
      try clear c154
      try clear c155
      try clear c156
      try clear hcz124_0
      try clear hcz124_1
      try clear hcz124_2
      try clear hcz124_3
      try clear hcz130_0
      try clear hcz130_1
      try clear hcz130_2
      try clear hcz130_3
      try clear hcz140_0
      try clear hcz140_1
      try clear hcz140_2
      try clear hcz140_3
      try clear hcz145_0
      try clear hcz145_1
      try clear hcz145_2
      try clear hcz145_3
      try clear hcz152_0
      try clear hcz152_1
      try clear hcz152_2
      try clear hcz152_3
      try clear hcz157_0
      try clear hcz157_1
      try clear hcz157_2
      try clear hcz157_3
      try clear hfz124_0
      try clear hfz124_1
      try clear hfz124_2
      try clear hfz124_3
      try clear hfz130_0
      try clear hfz130_1
      try clear hfz130_2
      try clear hfz130_3
      try clear hfz140_0
      try clear hfz140_1
      try clear hfz140_2
      try clear hfz140_3
      try clear hfz145_0
      try clear hfz145_1
      try clear hfz145_2
      try clear hfz145_3
      try clear hfz152_0
      try clear hfz152_1
      try clear hfz152_2
      try clear hfz152_3
      try clear hfz157_0
      try clear hfz157_1
      try clear hfz157_2
      try clear hfz157_3
      try clear hfz47_3
      try clear hfz53_0
      try clear hfz53_1
      try clear hfz53_2
      try clear hfz53_3
      try clear hfz56_0
      try clear hfz56_1
      try clear hfz56_2
      try clear hfz56_3
      try clear hfz63_0
      try clear hfz63_1
      try clear hfz63_2
      try clear hfz63_3
      try clear hfz65_0
      try clear hfz65_1
      try clear hfz65_2
      try clear hfz65_3
      try clear hfz73_0
      try clear hfz73_1
      try clear hfz73_2
      try clear hfz73_3
      try clear hfz82_0
      try clear hfz82_1
      try clear hfz82_2
      try clear hfz82_3
      try clear hfz87_0
      try clear hfz87_1
      try clear hfz87_2
      try clear hfz87_3
      try clear hfz94_0
      try clear hfz94_1
      try clear hfz94_2
      try clear hfz94_3
      try clear hfz99_0
      try clear hfz99_1
      try clear hfz99_2
      try clear hfz99_3
      obtain ⟨kq, x82_109, rfl, HA, HJ109, HO_263003, HO_270003, HO_277003, HO_285003, BK239, BK240, BK262, BK269, BK276, BK284, HB⟩ := hcut
      have hl270003_109 := (Kd.R_reads' HO_270003.out).1
      rw [hl270003_109] at HO_270003
      (try simp only [hl270003_109])
      (try simp only [hl270003_109] at BK239)
      (try simp only [hl270003_109] at BK240)
      (try simp only [hl270003_109] at BK262)
      (try simp only [hl270003_109] at BK269)
      (try simp only [hl270003_109] at BK276)
      (try simp only [hl270003_109] at BK284)
      (try simp only [hl270003_109] at HO_263003)
      (try simp only [hl270003_109] at HO_277003)
      (try simp only [hl270003_109] at HO_285003)
      have hl277003_109 := (Kd.R_reads' HO_277003.out).1
      rw [hl277003_109] at HO_277003
      (try simp only [hl277003_109])
      (try simp only [hl277003_109] at BK239)
      (try simp only [hl277003_109] at BK240)
      (try simp only [hl277003_109] at BK262)
      (try simp only [hl277003_109] at BK269)
      (try simp only [hl277003_109] at BK276)
      (try simp only [hl277003_109] at BK284)
      (try simp only [hl277003_109] at HO_263003)
      (try simp only [hl277003_109] at HO_270003)
      (try simp only [hl277003_109] at HO_285003)
      cases kq with
      | zero => exact absurd HA.out (by simp [laws_FnExactUnionBloom.j1])
      | succ kj109 =>
       have H := HA.out
       clear HA
       simp only [laws_FnExactUnionBloom.j1] at H
       by_cases c159 : x82_109 = true
       ·
        subst c159
        rw [if_pos rfl] at H
        obtain rfl := Option.some.inj H
        go_wp2
        go_ret
        exact ⟨by first | rfl | (simp [errW_none, errW_some] <;> rfl) | (simp [*, errW_none, errW_some] <;> rfl), uN HB⟩
       replace c159 := Bool.eq_false_iff.mpr c159
       subst c159
       rw [if_neg (show ¬ (false = true) by decide)] at H
       replace H := Option.bind_eq_some_iff.mp H
       obtain ⟨⟨t305, t306⟩, A1600, H⟩ := H
       try dsimp only at H
       have A160 := Aside0.mk A1600
       clear A1600
       replace H := Option.bind_eq_some_iff.mp H
       obtain ⟨t307, A1610, H⟩ := H
       try dsimp only at H
       have A161 := Aside0.mk A1610
       clear A1610
       by_cases c162 : t307 < 0
       ·
        rw [if_pos c162] at H
        have c162b0 : decide (t307 < 0) = true := decide_eq_true c162
        clear c162
        obtain rfl := Option.some.inj H
        have hnb163 := NB284_239.out
        have hnc163 := NB239_284.out
        have hnb164 := NB284_240.out
        have hnc164 := NB240_284.out
        have hnb165 := NB284_262.out
        have hnc165 := NB262_284.out
        have hnb166 := NB284_269.out
        have hnc166 := NB269_284.out
        have hnb167 := NB284_276.out
        have hnc167 := NB276_284.out
        obtain ⟨hcz168_0, hcz168_1, hcz168_2, hcz168_3, hfz168_0, hfz168_1, hfz168_2, hfz168_3⟩ := ce4 BK284
        go_wp2_with (first | ((with_reducible refine gate_callee (f := 21) rfl ?_); refine goesL_ (some 85) rfl rfl Try.func21 (by kernel_rfl) rfl #[.agg #[.int .i64 t277, .int .i64 t278, .int .i64 t279, .slice Ao74 t280.length co74], .int .i64 1] rfl (by (try simp only [List.map_toArray, List.map_cons, List.map_nil]); first | done | rfl) ?_; (with_reducible refine (laws_markBloom.calls kj109 t277 t278 t279 (fun k_ => some k_ = (.slice Ao74 t280.length co74 : Value).ownBlock) (.slice Ao74 t280.length co74) t280 1 t305 t306 w _ ?side1 ?side2 A160.out).mono ?_); (case side1 => exact uN HB); (case side2 => exact Kd.R_tight rfl HO_285003.out); rintro e w169 ⟨rfl, hy0, hb, hkp⟩; refine ⟨_, rfl, ?_⟩; replace HO_263003 := Aside0.mk (Kd.R_mono (ok' := fun k_ => some k_ ≠ (.slice Ao54 t301.length co54 : Value).ownBlock ∧ some k_ ≠ (.slice Ao64 t303.length co64 : Value).ownBlock ∧ some k_ ≠ (.slice Ao74 t280.length co74 : Value).ownBlock) (Kd.R_keptB (HO_263003.out) hkp (fun k_ hk_ hs_ => (hk_.2.2) hs_)) (fun k_ hk_ => ⟨hk_.1.1, hk_.1.2.1, hk_.1.2.2⟩)); replace HO_270003 := Aside0.mk (Kd.R_mono (ok' := fun k_ => some k_ ≠ (.slice Ao44 t258.length co44 : Value).ownBlock ∧ some k_ ≠ (.slice Ao64 t303.length co64 : Value).ownBlock ∧ some k_ ≠ (.slice Ao74 t280.length co74 : Value).ownBlock) (Kd.R_keptB (HO_270003.out) hkp (fun k_ hk_ hs_ => (hk_.2.2) hs_)) (fun k_ hk_ => ⟨hk_.1.1, hk_.1.2.1, hk_.1.2.2⟩)); replace HO_277003 := Aside0.mk (Kd.R_mono (ok' := fun k_ => some k_ ≠ (.slice Ao44 t258.length co44 : Value).ownBlock ∧ some k_ ≠ (.slice Ao54 t301.length co54 : Value).ownBlock ∧ some k_ ≠ (.slice Ao74 t280.length co74 : Value).ownBlock) (Kd.R_keptB (HO_277003.out) hkp (fun k_ hk_ hs_ => (hk_.2.2) hs_)) (fun k_ hk_ => ⟨hk_.1.1, hk_.1.2.1, hk_.1.2.2⟩)); replace BK239 := Aside0.mk (blk_kept (uK BK239) hkp (fun hs_ => (fun e_ => (Kd.R_ne HO_285003.out BK239.out (by decide)) e_) hs_)); replace BK240 := Aside0.mk (blk_kept (uK BK240) hkp (fun hs_ => (fun e_ => (Kd.R_ne HO_285003.out BK240.out (by decide)) e_) hs_)); replace BK262 := Aside0.mk (blk_kept (uK BK262) hkp (fun hs_ => (fun e_ => (Kd.R_ne HO_285003.out BK262.out (by decide)) e_) hs_)); replace BK269 := Aside0.mk (blk_kept (uK BK269) hkp (fun hs_ => (fun e_ => (Kd.R_ne HO_285003.out BK269.out (by decide)) e_) hs_)); replace BK276 := Aside0.mk (blk_kept (uK BK276) hkp (fun hs_ => (fun e_ => (Kd.R_ne HO_285003.out BK276.out (by decide)) e_) hs_)); replace BK284 := Aside0.mk (blk_kept (uK BK284) hkp (fun hs_ => (fun e_ => (Kd.R_ne HO_285003.out BK284.out (by decide)) e_) hs_)); replace HO_285003 := Aside0.mk (Kd.R_reok rfl hy0 (fun k_ e_ => HO_285003.out.1 k_ e_)); replace HB := Aside0.mk (hb); (try clear hb); (try clear hkp); (try clear hy0); obtain ⟨hcz170_0, hcz170_1, hcz170_2, hcz170_3, hfz170_0, hfz170_1, hfz170_2, hfz170_3⟩ := ce4 BK284) | ((with_reducible refine gate_callee (f := 22) rfl ?_); refine goesL_ (some 88) rfl rfl Try.func22 (by kernel_rfl) rfl #[.agg #[.int .i64 t277, .int .i64 t278, .int .i64 t279, .slice Ao74 t306.length co74], .int .i64 1] rfl (by (try simp only [List.map_toArray, List.map_cons, List.map_nil]); first | done | (rw [show t306.length = t280.length from (Kd.R_reads' HO_285003.out).1.symm] <;> rfl) | rfl | (simp only [List.length_drop, List.length_take]; rfl)) ?_; (with_reducible refine (laws_heldBloom.calls kj109 t277 t278 t279 _ _ t306 1 t307 _ ?side1 ?side2 A161.out).mono ?_); (case side1 => exact uD HO_285003); (case side2 => rw [show t306.length = t280.length from (Kd.R_reads' HO_285003.out).1.symm]; exact (Kd.R_reads' HO_285003.out).2.1); rintro e w171 ⟨rfl, hb⟩; refine ⟨_, rfl, ?_⟩; replace HO_263003 := Aside0.mk (Kd.R_below (uR HO_263003) hb); replace HO_270003 := Aside0.mk (Kd.R_below (uR HO_270003) hb); replace HO_277003 := Aside0.mk (Kd.R_below (uR HO_277003) hb); replace HO_285003 := Aside0.mk (Kd.R_below (uR HO_285003) hb); replace BK239 := kB BK239 hb; replace BK240 := kB BK240 hb; replace BK262 := kB BK262 hb; replace BK269 := kB BK269 hb; replace BK276 := kB BK276 hb; replace BK284 := kB BK284 hb; replace HB := Aside0.mk (below_step (uN HB) hb); (try clear hb); (try clear hb2); (try clear hk); (try clear hi)))
        go_ret
        exact ⟨by first | rfl | (simp [errW_none, errW_some] <;> rfl) | (simp [*, errW_none, errW_some] <;> rfl), uN HB⟩
       rw [if_neg c162] at H
       have c162b0 : decide (t307 < 0) = false := decide_eq_false c162
       clear c162
       by_cases c172 : t307 = t305
       ·
        rw [if_pos c172] at H
        have c172b0 : (t307 == t305) = true := beq_iff_eq.mpr c172
        have c172b1 : (t307 != t305) = false := bne_eq_false_iff_eq.mpr c172
        clear c172
        replace H := Option.bind_eq_some_iff.mp H
        obtain ⟨⟨t308, t309, t310, t311⟩, A1730, H⟩ := H
        try dsimp only at H
        have A173 := Aside0.mk A1730
        clear A1730
        replace H := Option.bind_eq_some_iff.mp H
        obtain ⟨⟨t314, t315, t316, t317⟩, A1740, H⟩ := H
        try dsimp only at H
        have A174 := Aside0.mk A1740
        clear A1740
        replace H := Option.bind_eq_some_iff.mp H
        obtain ⟨⟨t320, t321, t322, t323, t326⟩, A1750, H⟩ := H
        try dsimp only at H
        have A175 := Aside0.mk A1750
        clear A1750
        have HC176 := Aside0.mk H
        clear H
        have hnb177 := NB284_239.out
        have hnc177 := NB239_284.out
        have hnb178 := NB284_240.out
        have hnc178 := NB240_284.out
        have hnb179 := NB284_262.out
        have hnc179 := NB262_284.out
        have hnb180 := NB284_269.out
        have hnc180 := NB269_284.out
        have hnb181 := NB284_276.out
        have hnc181 := NB276_284.out
        obtain ⟨hcz182_0, hcz182_1, hcz182_2, hcz182_3, hfz182_0, hfz182_1, hfz182_2, hfz182_3⟩ := ce4 BK284
        try go_wp2_with (first | ((with_reducible refine gate_callee (f := 21) rfl ?_); refine goesL_ (some 85) rfl rfl Try.func21 (by kernel_rfl) rfl #[.agg #[.int .i64 t277, .int .i64 t278, .int .i64 t279, .slice Ao74 t280.length co74], .int .i64 1] rfl (by (try simp only [List.map_toArray, List.map_cons, List.map_nil]); first | done | rfl) ?_; (with_reducible refine (laws_markBloom.calls kj109 t277 t278 t279 (fun k_ => some k_ = (.slice Ao74 t280.length co74 : Value).ownBlock) (.slice Ao74 t280.length co74) t280 1 t305 t306 w _ ?side1 ?side2 A160.out).mono ?_); (case side1 => exact uN HB); (case side2 => exact Kd.R_tight rfl HO_285003.out); rintro e w183 ⟨rfl, hy0, hb, hkp⟩; refine ⟨_, rfl, ?_⟩; replace HO_263003 := Aside0.mk (Kd.R_mono (ok' := fun k_ => some k_ ≠ (.slice Ao54 t301.length co54 : Value).ownBlock ∧ some k_ ≠ (.slice Ao64 t303.length co64 : Value).ownBlock ∧ some k_ ≠ (.slice Ao74 t280.length co74 : Value).ownBlock) (Kd.R_keptB (HO_263003.out) hkp (fun k_ hk_ hs_ => (hk_.2.2) hs_)) (fun k_ hk_ => ⟨hk_.1.1, hk_.1.2.1, hk_.1.2.2⟩)); replace HO_270003 := Aside0.mk (Kd.R_mono (ok' := fun k_ => some k_ ≠ (.slice Ao44 t258.length co44 : Value).ownBlock ∧ some k_ ≠ (.slice Ao64 t303.length co64 : Value).ownBlock ∧ some k_ ≠ (.slice Ao74 t280.length co74 : Value).ownBlock) (Kd.R_keptB (HO_270003.out) hkp (fun k_ hk_ hs_ => (hk_.2.2) hs_)) (fun k_ hk_ => ⟨hk_.1.1, hk_.1.2.1, hk_.1.2.2⟩)); replace HO_277003 := Aside0.mk (Kd.R_mono (ok' := fun k_ => some k_ ≠ (.slice Ao44 t258.length co44 : Value).ownBlock ∧ some k_ ≠ (.slice Ao54 t301.length co54 : Value).ownBlock ∧ some k_ ≠ (.slice Ao74 t280.length co74 : Value).ownBlock) (Kd.R_keptB (HO_277003.out) hkp (fun k_ hk_ hs_ => (hk_.2.2) hs_)) (fun k_ hk_ => ⟨hk_.1.1, hk_.1.2.1, hk_.1.2.2⟩)); replace BK239 := Aside0.mk (blk_kept (uK BK239) hkp (fun hs_ => (fun e_ => (Kd.R_ne HO_285003.out BK239.out (by decide)) e_) hs_)); replace BK240 := Aside0.mk (blk_kept (uK BK240) hkp (fun hs_ => (fun e_ => (Kd.R_ne HO_285003.out BK240.out (by decide)) e_) hs_)); replace BK262 := Aside0.mk (blk_kept (uK BK262) hkp (fun hs_ => (fun e_ => (Kd.R_ne HO_285003.out BK262.out (by decide)) e_) hs_)); replace BK269 := Aside0.mk (blk_kept (uK BK269) hkp (fun hs_ => (fun e_ => (Kd.R_ne HO_285003.out BK269.out (by decide)) e_) hs_)); replace BK276 := Aside0.mk (blk_kept (uK BK276) hkp (fun hs_ => (fun e_ => (Kd.R_ne HO_285003.out BK276.out (by decide)) e_) hs_)); replace BK284 := Aside0.mk (blk_kept (uK BK284) hkp (fun hs_ => (fun e_ => (Kd.R_ne HO_285003.out BK284.out (by decide)) e_) hs_)); replace HO_285003 := Aside0.mk (Kd.R_reok rfl hy0 (fun k_ e_ => HO_285003.out.1 k_ e_)); replace HB := Aside0.mk (hb); (try clear hb); (try clear hkp); (try clear hy0); obtain ⟨hcz184_0, hcz184_1, hcz184_2, hcz184_3, hfz184_0, hfz184_1, hfz184_2, hfz184_3⟩ := ce4 BK284) | ((with_reducible refine gate_callee (f := 22) rfl ?_); refine goesL_ (some 88) rfl rfl Try.func22 (by kernel_rfl) rfl #[.agg #[.int .i64 t277, .int .i64 t278, .int .i64 t279, .slice Ao74 t306.length co74], .int .i64 1] rfl (by (try simp only [List.map_toArray, List.map_cons, List.map_nil]); first | done | (rw [show t306.length = t280.length from (Kd.R_reads' HO_285003.out).1.symm] <;> rfl) | rfl | (simp only [List.length_drop, List.length_take]; rfl)) ?_; (with_reducible refine (laws_heldBloom.calls kj109 t277 t278 t279 _ _ t306 1 t307 _ ?side1 ?side2 A161.out).mono ?_); (case side1 => exact uD HO_285003); (case side2 => rw [show t306.length = t280.length from (Kd.R_reads' HO_285003.out).1.symm]; exact (Kd.R_reads' HO_285003.out).2.1); rintro e w185 ⟨rfl, hb⟩; refine ⟨_, rfl, ?_⟩; replace HO_263003 := Aside0.mk (Kd.R_below (uR HO_263003) hb); replace HO_270003 := Aside0.mk (Kd.R_below (uR HO_270003) hb); replace HO_277003 := Aside0.mk (Kd.R_below (uR HO_277003) hb); replace HO_285003 := Aside0.mk (Kd.R_below (uR HO_285003) hb); replace BK239 := kB BK239 hb; replace BK240 := kB BK240 hb; replace BK262 := kB BK262 hb; replace BK269 := kB BK269 hb; replace BK276 := kB BK276 hb; replace BK284 := kB BK284 hb; replace HB := Aside0.mk (below_step (uN HB) hb); (try clear hb); (try clear hb2); (try clear hk); (try clear hi)))
        replace HO_263003 := Aside0.mk (Kd.R_drew HO_263003.out)
        replace HO_270003 := Aside0.mk (Kd.R_drew HO_270003.out)
        replace HO_277003 := Aside0.mk (Kd.R_drew HO_277003.out)
        replace HO_285003 := Aside0.mk (Kd.R_drew HO_285003.out)
        replace BK239 := Aside0.mk (blk_drew BK239.out)
        replace BK240 := Aside0.mk (blk_drew BK240.out)
        replace BK262 := Aside0.mk (blk_drew BK262.out)
        replace BK269 := Aside0.mk (blk_drew BK269.out)
        replace BK276 := Aside0.mk (blk_drew BK276.out)
        replace BK284 := Aside0.mk (blk_drew BK284.out)
        replace HB := Aside0.mk (below_drew1 HB.out)
        refine start_ (n := 11) (S := fun w' => w'.cell? ⟨gb239, 0, none⟩ = some (.int .i64 a0_0) ∧ w'.cell? ⟨gb239, 1, none⟩ = some (.int .i64 a0_1) ∧ w'.cell? ⟨gb239, 2, none⟩ = some (.int .i64 a0_2) ∧ w'.cell? ⟨gb239, 3, none⟩ = some (.slice A0_3 l0_3.length c0_3) ∧ w'.cell? ⟨gb240, 0, none⟩ = some (.int .i64 a1_0) ∧ w'.cell? ⟨gb240, 1, none⟩ = some (.int .i64 a1_1) ∧ w'.cell? ⟨gb240, 2, none⟩ = some (.int .i64 a1_2) ∧ w'.cell? ⟨gb240, 3, none⟩ = some (.slice A1_3 l1_3.length c1_3)) (ds := []) #[false, false, false, false, false, false, false, false, false, false, false] (by kernel_rfl) rfl rfl ⟨bc BK239 0, bc BK239 1, bc BK239 2, bc BK239 3, bc BK240 0, bc BK240 1, bc BK240 2, bc BK240 3⟩ (fun hHeld => ?_); refine with_tabW laws_FnExactUnionBloom.tab31 laws_FnExactUnionBloom.bits31 (fun HT_ HW_ => ?_)
        generalize w185.drew = w186 at HO_263003 HO_270003 HO_277003 HO_285003 BK239 BK240 BK262 BK269 BK276 BK284 HB hHeld ⊢
        refine take_ (i := 0) (N := some 95) (v := ?_) (a' := ?_) #[true, false, false, false, false, false, false, false, false, false, false] rfl rfl (take_ofW HT_.out HW_.out (by kernel_rfl)) (fun _ _ _ h => h) (Or.inl ⟨by rfl, ?_⟩) hHeld ?_ ?_
        rotate_left
        ·
         rintro w' ⟨s0, s1, s2, s3, s4, s5, s6, s7⟩
         go_simp
         with_reducible rfl
        rotate_left
        ·
         simp only [Act.put, setIfInBounds_toArray, set_cons_zero, set_cons_succ, i64_w, i32_w]
         rfl
        refine take_ (i := 2) (N := some 97) (v := ?_) (a' := ?_) #[true, false, true, false, false, false, false, false, false, false, false] rfl rfl (take_ofW HT_.out HW_.out (by kernel_rfl)) (fun _ _ _ h => h) (Or.inl ⟨by rfl, ?_⟩) hHeld ?_ ?_
        rotate_left
        ·
         rintro w' ⟨s0, s1, s2, s3, s4, s5, s6, s7⟩
         go_simp
         with_reducible rfl
        rotate_left
        ·
         simp only [Act.put, setIfInBounds_toArray, set_cons_zero, set_cons_succ, i64_w, i32_w]
         rfl
        refine join_ (σ := Value × Value × Value × Nat) 2 #[true, true, true, true, true, true, true, true, true, false, false] (fun s_ => [(96, .agg #[.int .i64 t308, .int .i64 t309, .int .i64 t310, s_.1]), (98, .agg #[.int .i64 t314, .int .i64 t315, .int .i64 t316, s_.2.1]), (99, .tuple #[.agg #[.int .i64 t320, .int .i64 t321, .int .i64 t322, s_.2.2.1], .bool t326]), (15, .pointer (some ⟨s_.2.2.2, 0, none⟩)), (94, .tuple #[.agg #[.int .i64 t320, .int .i64 t321, .int .i64 t322, s_.2.2.1], .bool t326]), (100, .agg #[.int .i64 t320, .int .i64 t321, .int .i64 t322, s_.2.2.1]), (101, .bool t326)]) (fun s_ w' => (w'.cell? ⟨gb239, 0, none⟩ = some (.int .i64 a0_0) ∧ w'.cell? ⟨gb239, 1, none⟩ = some (.int .i64 a0_1) ∧ w'.cell? ⟨gb239, 2, none⟩ = some (.int .i64 a0_2) ∧ w'.cell? ⟨gb239, 3, none⟩ = some (.slice A0_3 l0_3.length c0_3) ∧ w'.cell? ⟨gb240, 0, none⟩ = some (.int .i64 a1_0) ∧ w'.cell? ⟨gb240, 1, none⟩ = some (.int .i64 a1_1) ∧ w'.cell? ⟨gb240, 2, none⟩ = some (.int .i64 a1_2) ∧ w'.cell? ⟨gb240, 3, none⟩ = some (.slice A1_3 l1_3.length c1_3)) ∧ (Kd.R (Kd.int .i64) 3 w' w.heap.size (fun k_ => some k_ ≠ (s_.2.1 : Value).ownBlock ∧ some k_ ≠ (s_.2.2.1 : Value).ownBlock ∧ some k_ ≠ (.slice Ao44 t258.length co44 : Value).ownBlock ∧ some k_ ≠ (.slice Ao54 t301.length co54 : Value).ownBlock ∧ some k_ ≠ (.slice Ao64 t303.length co64 : Value).ownBlock ∧ some k_ ≠ (.slice Ao74 t280.length co74 : Value).ownBlock) s_.1 t311) ∧ (Kd.R (Kd.int .i64) 3 w' w.heap.size (fun k_ => some k_ ≠ (s_.1 : Value).ownBlock ∧ some k_ ≠ (s_.2.2.1 : Value).ownBlock ∧ some k_ ≠ (.slice Ao44 t258.length co44 : Value).ownBlock ∧ some k_ ≠ (.slice Ao54 t301.length co54 : Value).ownBlock ∧ some k_ ≠ (.slice Ao64 t303.length co64 : Value).ownBlock ∧ some k_ ≠ (.slice Ao74 t280.length co74 : Value).ownBlock) s_.2.1 t317) ∧ (Kd.R (Kd.int .i64) 3 w' w.heap.size (fun k_ => some k_ ≠ (s_.1 : Value).ownBlock ∧ some k_ ≠ (s_.2.1 : Value).ownBlock ∧ some k_ ≠ (.slice Ao44 t258.length co44 : Value).ownBlock ∧ some k_ ≠ (.slice Ao54 t301.length co54 : Value).ownBlock ∧ some k_ ≠ (.slice Ao64 t303.length co64 : Value).ownBlock ∧ some k_ ≠ (.slice Ao74 t280.length co74 : Value).ownBlock) s_.2.2.1 t323) ∧ (Kd.R (Kd.int .i64) 3 w' w.heap.size (fun k_ => some k_ ≠ (s_.1 : Value).ownBlock ∧ some k_ ≠ (s_.2.1 : Value).ownBlock ∧ some k_ ≠ (s_.2.2.1 : Value).ownBlock ∧ some k_ ≠ (.slice Ao54 t301.length co54 : Value).ownBlock ∧ some k_ ≠ (.slice Ao64 t303.length co64 : Value).ownBlock ∧ some k_ ≠ (.slice Ao74 t280.length co74 : Value).ownBlock) (.slice Ao44 t258.length co44) t258) ∧ (Kd.R (Kd.int .i64) 3 w' w.heap.size (fun k_ => some k_ ≠ (s_.1 : Value).ownBlock ∧ some k_ ≠ (s_.2.1 : Value).ownBlock ∧ some k_ ≠ (s_.2.2.1 : Value).ownBlock ∧ some k_ ≠ (.slice Ao44 t258.length co44 : Value).ownBlock ∧ some k_ ≠ (.slice Ao64 t303.length co64 : Value).ownBlock ∧ some k_ ≠ (.slice Ao74 t280.length co74 : Value).ownBlock) (.slice Ao54 t301.length co54) t301) ∧ (Kd.R (Kd.int .i64) 3 w' w.heap.size (fun k_ => some k_ ≠ (s_.1 : Value).ownBlock ∧ some k_ ≠ (s_.2.1 : Value).ownBlock ∧ some k_ ≠ (s_.2.2.1 : Value).ownBlock ∧ some k_ ≠ (.slice Ao44 t258.length co44 : Value).ownBlock ∧ some k_ ≠ (.slice Ao54 t301.length co54 : Value).ownBlock ∧ some k_ ≠ (.slice Ao74 t280.length co74 : Value).ownBlock) (.slice Ao64 t303.length co64) t303) ∧ (Kd.R (Kd.int .i64) 3 w' w.heap.size (fun k_ => some k_ ≠ (s_.1 : Value).ownBlock ∧ some k_ ≠ (s_.2.1 : Value).ownBlock ∧ some k_ ≠ (s_.2.2.1 : Value).ownBlock ∧ some k_ ≠ (.slice Ao44 t258.length co44 : Value).ownBlock ∧ some k_ ≠ (.slice Ao54 t301.length co54 : Value).ownBlock ∧ some k_ ≠ (.slice Ao64 t303.length co64 : Value).ownBlock) (.slice Ao74 t280.length co74) t306) ∧ (w'.heap[gb239]? = some (.cells #[.int .i64 a0_0, .int .i64 a0_1, .int .i64 a0_2, .slice A0_3 l0_3.length c0_3] 36 (0, 0))) ∧ (w'.heap[gb240]? = some (.cells #[.int .i64 a1_0, .int .i64 a1_1, .int .i64 a1_2, .slice A1_3 l1_3.length c1_3] 36 (0, 0))) ∧ (w'.heap[gb262]? = some (.cells #[.int .i64 t255, .int .i64 t256, .int .i64 t257, .slice Ao44 t258.length co44] 40 (0, 0))) ∧ (w'.heap[gb269]? = some (.cells #[.int .i64 t263, .int .i64 t264, .int .i64 t265, .slice Ao54 t301.length co54] 40 (0, 0))) ∧ (w'.heap[gb276]? = some (.cells #[.int .i64 t270, .int .i64 t271, .int .i64 t272, .slice Ao64 t303.length co64] 40 (0, 0))) ∧ (w'.heap[gb284]? = some (.cells #[.int .i64 t277, .int .i64 t278, .int .i64 t279, .slice Ao74 t280.length co74] 40 (0, 0))) ∧ (w'.heap[s_.2.2.2]? = some (.cells #[.int .i64 0, .int .i64 0, .int .i64 0, .slice none 0 0] 40 (0, 0))) ∧ (w.heap.size ≤ s_.2.2.2) ∧ (w.heap.size ≤ s_.2.2.2) ∧ (gb239 ≠ s_.2.2.2) ∧ (s_.2.2.2 ≠ gb239) ∧ (gb240 ≠ s_.2.2.2) ∧ (s_.2.2.2 ≠ gb240) ∧ (gb262 ≠ s_.2.2.2) ∧ (s_.2.2.2 ≠ gb262) ∧ (gb269 ≠ s_.2.2.2) ∧ (s_.2.2.2 ≠ gb269) ∧ (gb276 ≠ s_.2.2.2) ∧ (s_.2.2.2 ≠ gb276) ∧ (gb284 ≠ s_.2.2.2) ∧ (s_.2.2.2 ≠ gb284) ∧ (Below w.heap.size w w')) ?_ ?_
        rotate_left
        ·
         intro hCont
         refine two_ (i := 1) (j := 8) (Ni := some 96) (Nj := some 15) #[true, true, true, false, false, false, false, false, false, false, false] #[true, false, true, false, false, false, false, false, true, false, false] rfl rfl rfl rfl (two_of HT_.out (by kernel_rfl)) (by decide) (by decide) (fun K hK => ?_) (fun K hK => ?_)
         ·
          skip
          refine goes_ Try.func18 (by kernel_rfl) rfl #[.agg #[.int .i64 a0_0, .int .i64 a0_1, .int .i64 a0_2, .slice A0_3 l0_3.length c0_3]] (by rfl) rfl rfl (by (try simp only [List.map_toArray, List.map_cons, List.map_nil]); first | done | rfl) ?_
          with_reducible refine (laws_toBloom.calls kj109 a0_0 a0_1 a0_2 _ _ l0_3 t308 t309 t310 t311 _ ?side1 ?side2 A173.out).mono ?_
          (case side1 => exact uC HR0_3 HB)
          (case side2 => exact HC0_3.out)
          rintro e w187 ⟨v312, rfl, ho0, hb⟩
          refine ⟨_, rfl, ?_⟩
          have HO313 := Aside0.mk (Kd.R_lower (Kd.R_new' (Kd.R_new' (Kd.R_new' (Kd.R_new' ho0 (Kd.R_lt (uR HO_263003))) (Kd.R_lt (uR HO_270003))) (Kd.R_lt (uR HO_277003))) (Kd.R_lt (uR HO_285003))) (below_size (uN HB)))
          replace HO_263003 := Aside0.mk (Kd.R_elder' (uR HO_263003) (Kd.R_base ho0) hb)
          replace HO_270003 := Aside0.mk (Kd.R_elder' (uR HO_270003) (Kd.R_base ho0) hb)
          replace HO_277003 := Aside0.mk (Kd.R_elder' (uR HO_277003) (Kd.R_base ho0) hb)
          replace HO_285003 := Aside0.mk (Kd.R_elder' (uR HO_285003) (Kd.R_base ho0) hb)
          replace BK239 := kB BK239 hb
          replace BK240 := kB BK240 hb
          replace BK262 := kB BK262 hb
          replace BK269 := kB BK269 hb
          replace BK276 := kB BK276 hb
          replace BK284 := kB BK284 hb
          replace HB := Aside0.mk (below_step (uN HB) hb)
          (try clear hb)
          (try clear hb2)
          (try clear hk)
          (try clear hi)
          (try clear ho0)
          refine hK.out _ _ ⟨bc BK239 0, bc BK239 1, bc BK239 2, bc BK239 3, bc BK240 0, bc BK240 1, bc BK240 2, bc BK240 3⟩ (fun hHeld => ?_)
          clear hK K
          refine norm_ (a' := ?_) ?_ ?_
          rotate_left
          ·
           show Act.put _ (some 96) _ = _
           simp only [Act.put, setIfInBounds_toArray, set_cons_zero, set_cons_succ, i64_w, i32_w]
           rfl
          refine two_ (i := 3) (j := 8) (Ni := some 98) (Nj := some 15) #[true, true, true, true, false, false, false, false, false, false, false] #[true, true, true, false, false, false, false, false, true, false, false] rfl rfl rfl rfl (two_of HT_.out (by kernel_rfl)) (by decide) (by decide) (fun K hK => ?_) (fun K hK => ?_)
          ·
           skip
           refine goes_ Try.func18 (by kernel_rfl) rfl #[.agg #[.int .i64 a1_0, .int .i64 a1_1, .int .i64 a1_2, .slice A1_3 l1_3.length c1_3]] (by rfl) rfl rfl (by (try simp only [List.map_toArray, List.map_cons, List.map_nil]); first | done | rfl) ?_
           with_reducible refine (laws_toBloom.calls kj109 a1_0 a1_1 a1_2 _ _ l1_3 t314 t315 t316 t317 _ ?side1 ?side2 A174.out).mono ?_
           (case side1 => exact uC HR1_3 HB)
           (case side2 => exact HC1_3.out)
           rintro e w188 ⟨v318, rfl, ho0, hb⟩
           refine ⟨_, rfl, ?_⟩
           have HO319 := Aside0.mk (Kd.R_lower (Kd.R_new' (Kd.R_new' (Kd.R_new' (Kd.R_new' (Kd.R_new' ho0 (Kd.R_lt (uR HO_263003))) (Kd.R_lt (uR HO_270003))) (Kd.R_lt (uR HO_277003))) (Kd.R_lt (uR HO_285003))) (Kd.R_lt (uR HO313))) (below_size (uN HB)))
           replace HO_263003 := Aside0.mk (Kd.R_elder' (uR HO_263003) (Kd.R_base ho0) hb)
           replace HO_270003 := Aside0.mk (Kd.R_elder' (uR HO_270003) (Kd.R_base ho0) hb)
           replace HO_277003 := Aside0.mk (Kd.R_elder' (uR HO_277003) (Kd.R_base ho0) hb)
           replace HO_285003 := Aside0.mk (Kd.R_elder' (uR HO_285003) (Kd.R_base ho0) hb)
           replace HO313 := Aside0.mk (Kd.R_elder' (uR HO313) (Kd.R_base ho0) hb)
           replace BK239 := kB BK239 hb
           replace BK240 := kB BK240 hb
           replace BK262 := kB BK262 hb
           replace BK269 := kB BK269 hb
           replace BK276 := kB BK276 hb
           replace BK284 := kB BK284 hb
           replace HB := Aside0.mk (below_step (uN HB) hb)
           (try clear hb)
           (try clear hb2)
           (try clear hk)
           (try clear hi)
           (try clear ho0)
           obtain ⟨Ao189, co189, eo189⟩ := Kd.R_slice HO313.out
           (first | subst eo189 | (injection eo189 with f1_ f2_ f3_; have f4_ := f1_.symm; have f5_ := f3_.symm; clear f1_ f2_ f3_; subst f4_; subst f5_))
           obtain ⟨Ao190, co190, eo190⟩ := Kd.R_slice HO319.out
           (first | subst eo190 | (injection eo190 with f1_ f2_ f3_; have f4_ := f1_.symm; have f5_ := f3_.symm; clear f1_ f2_ f3_; subst f4_; subst f5_))
           refine hK.out _ _ ⟨bc BK239 0, bc BK239 1, bc BK239 2, bc BK239 3, bc BK240 0, bc BK240 1, bc BK240 2, bc BK240 3⟩ (fun hHeld => ?_)
           clear hK K
           refine norm_ (a' := ?_) ?_ ?_
           rotate_left
           ·
            show Act.put _ (some 98) _ = _
            simp only [Act.put, setIfInBounds_toArray, set_cons_zero, set_cons_succ, i64_w, i32_w]
            rfl
           refine two_ (i := 4) (j := 8) (Ni := some 99) (Nj := some 15) #[true, true, true, true, true, false, false, false, false, false, false] #[true, true, true, true, false, false, false, false, true, false, false] rfl rfl rfl rfl (two_of HT_.out (by kernel_rfl)) (by decide) (by decide) (fun K hK => ?_) (fun K hK => ?_)
           ·
            skip
            refine goes_ Try.func19 (by kernel_rfl) rfl #[.agg #[.int .i64 t308, .int .i64 t309, .int .i64 t310, .slice Ao189 t311.length co189], .agg #[.int .i64 t314, .int .i64 t315, .int .i64 t316, .slice Ao190 t317.length co190]] (by rfl) rfl rfl (by (try simp only [List.map_toArray, List.map_cons, List.map_nil]); first | done | rfl) ?_
            with_reducible refine (impl_UnionBloom.calls kj109 t308 t309 t310 _ _ t311 t314 t315 t316 _ _ t317 t320 t321 t322 t323 t326 _ ?side1 ?side2 ?side3 ?side4 A175.out).mono ?_
            (case side1 => exact uD HO313)
            (case side2 => exact (Kd.R_reads' HO313.out).2.1)
            (case side3 => exact uD HO319)
            (case side4 => exact (Kd.R_reads' HO319.out).2.1)
            rintro e w191 ⟨v324, rfl, ho0, hb⟩
            refine ⟨_, rfl, ?_⟩
            have HO325 := Aside0.mk (Kd.R_lower (Kd.R_new' (Kd.R_new' (Kd.R_new' (Kd.R_new' (Kd.R_new' (Kd.R_new' ho0 (Kd.R_lt (uR HO_263003))) (Kd.R_lt (uR HO_270003))) (Kd.R_lt (uR HO_277003))) (Kd.R_lt (uR HO_285003))) (Kd.R_lt (uR HO313))) (Kd.R_lt (uR HO319))) (below_size (uN HB)))
            replace HO_263003 := Aside0.mk (Kd.R_elder' (uR HO_263003) (Kd.R_base ho0) hb)
            replace HO_270003 := Aside0.mk (Kd.R_elder' (uR HO_270003) (Kd.R_base ho0) hb)
            replace HO_277003 := Aside0.mk (Kd.R_elder' (uR HO_277003) (Kd.R_base ho0) hb)
            replace HO_285003 := Aside0.mk (Kd.R_elder' (uR HO_285003) (Kd.R_base ho0) hb)
            replace HO313 := Aside0.mk (Kd.R_elder' (uR HO313) (Kd.R_base ho0) hb)
            replace HO319 := Aside0.mk (Kd.R_elder' (uR HO319) (Kd.R_base ho0) hb)
            replace BK239 := kB BK239 hb
            replace BK240 := kB BK240 hb
            replace BK262 := kB BK262 hb
            replace BK269 := kB BK269 hb
            replace BK276 := kB BK276 hb
            replace BK284 := kB BK284 hb
            replace HB := Aside0.mk (below_step (uN HB) hb)
            (try clear hb)
            (try clear hb2)
            (try clear hk)
            (try clear hi)
            (try clear ho0)
            refine hK.out _ _ ⟨bc BK239 0, bc BK239 1, bc BK239 2, bc BK239 3, bc BK240 0, bc BK240 1, bc BK240 2, bc BK240 3⟩ (fun hHeld => ?_)
            clear hK K
            refine norm_ (a' := ?_) ?_ ?_
            rotate_left
            ·
             show Act.put _ (some 99) _ = _
             simp only [Act.put, setIfInBounds_toArray, set_cons_zero, set_cons_succ, i64_w, i32_w]
             rfl
            refine pure_ (i := 5) (N := some 94) (v := ?_) (a' := ?_) #[true, true, true, true, true, true, false, false, false, false, false] rfl rfl (any_of HT_.out (by kernel_rfl)) (fun _ _ _ h => h) (Or.inl ⟨by rfl, ?_⟩) ?_ ?_
            rotate_left
            ·
             intro w'
             go_simp
             with_reducible rfl
            rotate_left
            ·
             simp only [Act.put, setIfInBounds_toArray, set_cons_zero, set_cons_succ, i64_w, i32_w]
             rfl
            refine pure_ (i := 6) (N := some 100) (v := ?_) (a' := ?_) #[true, true, true, true, true, true, true, false, false, false, false] rfl rfl (any_of HT_.out (by kernel_rfl)) (fun _ _ _ h => h) (Or.inl ⟨by rfl, ?_⟩) ?_ ?_
            rotate_left
            ·
             intro w'
             go_simp
             with_reducible rfl
            rotate_left
            ·
             simp only [Act.put, setIfInBounds_toArray, set_cons_zero, set_cons_succ, i64_w, i32_w]
             rfl
            refine pure_ (i := 7) (N := some 101) (v := ?_) (a' := ?_) #[true, true, true, true, true, true, true, true, false, false, false] rfl rfl (any_of HT_.out (by kernel_rfl)) (fun _ _ _ h => h) (Or.inl ⟨by rfl, ?_⟩) ?_ ?_
            rotate_left
            ·
             intro w'
             go_simp
             with_reducible rfl
            rotate_left
            ·
             simp only [Act.put, setIfInBounds_toArray, set_cons_zero, set_cons_succ, i64_w, i32_w]
             rfl
            refine one_ (i := 8) (N := some 15) #[true, true, true, true, true, true, true, true, true, false, false] rfl rfl (one_of HT_.out (by kernel_rfl)) (by decide) (fun K hK => ?_)
            refine box_step ?hg (N := 15) ?hd (cs := #[.int .i64 0, .int .i64 0, .int .i64 0, .slice none 0 0]) (t := 40) ?hr ?_; (case hd => rfl); (case hg => rfl); (case hr => first | (go_simp; done) | (go_simp; rfl))
            intro gb327 hg w192 hbox hb
            replace HO_263003 := Aside0.mk (Kd.R_below (uR HO_263003) hb)
            replace HO_270003 := Aside0.mk (Kd.R_below (uR HO_270003) hb)
            replace HO_277003 := Aside0.mk (Kd.R_below (uR HO_277003) hb)
            replace HO_285003 := Aside0.mk (Kd.R_below (uR HO_285003) hb)
            replace HO313 := Aside0.mk (Kd.R_below (uR HO313) hb)
            replace HO319 := Aside0.mk (Kd.R_below (uR HO319) hb)
            replace HO325 := Aside0.mk (Kd.R_below (uR HO325) hb)
            have BK327 := Aside0.mk (hbox)
            have GW327 := nG HB hg
            have GE327 := nG HB hg
            have GI327 := gI GE327
            replace HB := Aside0.mk (below_step (uN HB) hb)
            have NB239_327 := nL BK239 hg
            have NB327_239 := nR BK239 hg
            replace BK239 := kB BK239 hb
            have NB240_327 := nL BK240 hg
            have NB327_240 := nR BK240 hg
            replace BK240 := kB BK240 hb
            have NB262_327 := nL BK262 hg
            have NB327_262 := nR BK262 hg
            replace BK262 := kB BK262 hb
            have NB269_327 := nL BK269 hg
            have NB327_269 := nR BK269 hg
            replace BK269 := kB BK269 hb
            have NB276_327 := nL BK276 hg
            have NB327_276 := nR BK276 hg
            replace BK276 := kB BK276 hb
            have NB284_327 := nL BK284 hg
            have NB327_284 := nR BK284 hg
            replace BK284 := kB BK284 hb
            clear hb hbox hg
            refine hK.out _ _ ⟨bc BK239 0, bc BK239 1, bc BK239 2, bc BK239 3, bc BK240 0, bc BK240 1, bc BK240 2, bc BK240 3⟩ (fun hHeld => ?_)
            clear hK K
            refine norm_ (a' := ?_) ?_ ?_
            rotate_left
            ·
             show Act.put _ (some 15) _ = _
             simp only [Act.put, setIfInBounds_toArray, set_cons_zero, set_cons_succ, i64_w, i32_w]
             rfl
            exact norm_ (by simp only [putAll, Act.put, setIfInBounds_toArray, set_cons_zero, set_cons_succ]) (hCont (.slice Ao189 t311.length co189, .slice Ao190 t317.length co190, v324, gb327) _ ⟨hHeld, (by (with_reducible repeat (first | apply Kd.R_alloc | apply Kd.R_drewN | apply Kd.R_drew)); exact Kd.R_mono HO313.out (fun _ hk => ⟨hk.1.2, ⟨hk.2, ⟨hk.1.1.1.1.1.2, ⟨hk.1.1.1.1.2, ⟨hk.1.1.1.2, hk.1.1.2⟩⟩⟩⟩⟩)), (by (with_reducible repeat (first | apply Kd.R_alloc | apply Kd.R_drewN | apply Kd.R_drew)); exact Kd.R_mono HO319.out (fun _ hk => ⟨hk.1.2, ⟨hk.2, ⟨hk.1.1.1.1.1.2, ⟨hk.1.1.1.1.2, ⟨hk.1.1.1.2, hk.1.1.2⟩⟩⟩⟩⟩)), (by (with_reducible repeat (first | apply Kd.R_alloc | apply Kd.R_drewN | apply Kd.R_drew)); exact Kd.R_mono HO325.out (fun _ hk => ⟨hk.1.2, ⟨hk.2, ⟨hk.1.1.1.1.1.2, ⟨hk.1.1.1.1.2, ⟨hk.1.1.1.2, hk.1.1.2⟩⟩⟩⟩⟩)), (by (with_reducible repeat (first | apply Kd.R_alloc | apply Kd.R_drewN | apply Kd.R_drew)); exact Kd.R_mono HO_263003.out (fun _ hk => ⟨hk.1.1.2, ⟨hk.1.2, ⟨hk.2, ⟨hk.1.1.1.1, ⟨hk.1.1.1.2.1, hk.1.1.1.2.2⟩⟩⟩⟩⟩)), (by (with_reducible repeat (first | apply Kd.R_alloc | apply Kd.R_drewN | apply Kd.R_drew)); exact Kd.R_mono HO_270003.out (fun _ hk => ⟨hk.1.1.2, ⟨hk.1.2, ⟨hk.2, ⟨hk.1.1.1.1, ⟨hk.1.1.1.2.1, hk.1.1.1.2.2⟩⟩⟩⟩⟩)), (by (with_reducible repeat (first | apply Kd.R_alloc | apply Kd.R_drewN | apply Kd.R_drew)); exact Kd.R_mono HO_277003.out (fun _ hk => ⟨hk.1.1.2, ⟨hk.1.2, ⟨hk.2, ⟨hk.1.1.1.1, ⟨hk.1.1.1.2.1, hk.1.1.1.2.2⟩⟩⟩⟩⟩)), (by (with_reducible repeat (first | apply Kd.R_alloc | apply Kd.R_drewN | apply Kd.R_drew)); exact Kd.R_mono HO_285003.out (fun _ hk => ⟨hk.1.1.2, ⟨hk.1.2, ⟨hk.2, ⟨hk.1.1.1.1, ⟨hk.1.1.1.2.1, hk.1.1.1.2.2⟩⟩⟩⟩⟩)), (uK BK239), (uK BK240), (uK BK262), (uK BK269), (uK BK276), (uK BK284), (uK BK327), GW327.out, GE327.out, NB239_327.out, NB327_239.out, NB240_327.out, NB327_240.out, NB262_327.out, NB327_262.out, NB269_327.out, NB327_269.out, NB276_327.out, NB327_276.out, NB284_327.out, NB327_284.out, (uN HB)⟩)
           skip
           refine box_step ?hg (N := 15) ?hd (cs := #[.int .i64 0, .int .i64 0, .int .i64 0, .slice none 0 0]) (t := 40) ?hr ?_; (case hd => rfl); (case hg => rfl); (case hr => first | (go_simp; done) | (go_simp; rfl))
           intro gb327 hg w189 hbox hb
           replace HO_263003 := Aside0.mk (Kd.R_below (uR HO_263003) hb)
           replace HO_270003 := Aside0.mk (Kd.R_below (uR HO_270003) hb)
           replace HO_277003 := Aside0.mk (Kd.R_below (uR HO_277003) hb)
           replace HO_285003 := Aside0.mk (Kd.R_below (uR HO_285003) hb)
           replace HO313 := Aside0.mk (Kd.R_below (uR HO313) hb)
           replace HO319 := Aside0.mk (Kd.R_below (uR HO319) hb)
           have BK327 := Aside0.mk (hbox)
           have GW327 := nG HB hg
           have GE327 := nG HB hg
           have GI327 := gI GE327
           replace HB := Aside0.mk (below_step (uN HB) hb)
           have NB239_327 := nL BK239 hg
           have NB327_239 := nR BK239 hg
           replace BK239 := kB BK239 hb
           have NB240_327 := nL BK240 hg
           have NB327_240 := nR BK240 hg
           replace BK240 := kB BK240 hb
           have NB262_327 := nL BK262 hg
           have NB327_262 := nR BK262 hg
           replace BK262 := kB BK262 hb
           have NB269_327 := nL BK269 hg
           have NB327_269 := nR BK269 hg
           replace BK269 := kB BK269 hb
           have NB276_327 := nL BK276 hg
           have NB327_276 := nR BK276 hg
           replace BK276 := kB BK276 hb
           have NB284_327 := nL BK284 hg
           have NB327_284 := nR BK284 hg
           replace BK284 := kB BK284 hb
           clear hb hbox hg
           obtain ⟨Ao190, co190, eo190⟩ := Kd.R_slice HO313.out
           (first | subst eo190 | (injection eo190 with f1_ f2_ f3_; have f4_ := f1_.symm; have f5_ := f3_.symm; clear f1_ f2_ f3_; subst f4_; subst f5_))
           obtain ⟨Ao191, co191, eo191⟩ := Kd.R_slice HO319.out
           (first | subst eo191 | (injection eo191 with f1_ f2_ f3_; have f4_ := f1_.symm; have f5_ := f3_.symm; clear f1_ f2_ f3_; subst f4_; subst f5_))
           refine hK.out _ _ ⟨bc BK239 0, bc BK239 1, bc BK239 2, bc BK239 3, bc BK240 0, bc BK240 1, bc BK240 2, bc BK240 3⟩ (fun hHeld => ?_)
           clear hK K
           refine norm_ (a' := ?_) ?_ ?_
           rotate_left
           ·
            show Act.put _ (some 15) _ = _
            simp only [Act.put, setIfInBounds_toArray, set_cons_zero, set_cons_succ, i64_w, i32_w]
            rfl
           refine one_ (i := 4) (N := some 99) #[true, true, true, true, true, false, false, false, true, false, false] rfl rfl (one_of HT_.out (by kernel_rfl)) (by decide) (fun K hK => ?_)
           refine goes_ Try.func19 (by kernel_rfl) rfl #[.agg #[.int .i64 t308, .int .i64 t309, .int .i64 t310, .slice Ao190 t311.length co190], .agg #[.int .i64 t314, .int .i64 t315, .int .i64 t316, .slice Ao191 t317.length co191]] (by rfl) rfl rfl (by (try simp only [List.map_toArray, List.map_cons, List.map_nil]); first | done | rfl) ?_
           with_reducible refine (impl_UnionBloom.calls kj109 t308 t309 t310 _ _ t311 t314 t315 t316 _ _ t317 t320 t321 t322 t323 t326 _ ?side1 ?side2 ?side3 ?side4 A175.out).mono ?_
           (case side1 => exact uD HO313)
           (case side2 => exact (Kd.R_reads' HO313.out).2.1)
           (case side3 => exact uD HO319)
           (case side4 => exact (Kd.R_reads' HO319.out).2.1)
           rintro e w192 ⟨v324, rfl, ho0, hb⟩
           refine ⟨_, rfl, ?_⟩
           have HO325 := Aside0.mk (Kd.R_lower (Kd.R_new' (Kd.R_new' (Kd.R_new' (Kd.R_new' (Kd.R_new' (Kd.R_new' ho0 (Kd.R_lt (uR HO_263003))) (Kd.R_lt (uR HO_270003))) (Kd.R_lt (uR HO_277003))) (Kd.R_lt (uR HO_285003))) (Kd.R_lt (uR HO313))) (Kd.R_lt (uR HO319))) (below_size (uN HB)))
           replace HO_263003 := Aside0.mk (Kd.R_elder' (uR HO_263003) (Kd.R_base ho0) hb)
           replace HO_270003 := Aside0.mk (Kd.R_elder' (uR HO_270003) (Kd.R_base ho0) hb)
           replace HO_277003 := Aside0.mk (Kd.R_elder' (uR HO_277003) (Kd.R_base ho0) hb)
           replace HO_285003 := Aside0.mk (Kd.R_elder' (uR HO_285003) (Kd.R_base ho0) hb)
           replace HO313 := Aside0.mk (Kd.R_elder' (uR HO313) (Kd.R_base ho0) hb)
           replace HO319 := Aside0.mk (Kd.R_elder' (uR HO319) (Kd.R_base ho0) hb)
           replace BK239 := kB BK239 hb
           replace BK240 := kB BK240 hb
           replace BK262 := kB BK262 hb
           replace BK269 := kB BK269 hb
           replace BK276 := kB BK276 hb
           replace BK284 := kB BK284 hb
           replace BK327 := kB BK327 hb
           replace HB := Aside0.mk (below_step (uN HB) hb)
           (try clear hb)
           (try clear hb2)
           (try clear hk)
           (try clear hi)
           (try clear ho0)
           refine hK.out _ _ ⟨bc BK239 0, bc BK239 1, bc BK239 2, bc BK239 3, bc BK240 0, bc BK240 1, bc BK240 2, bc BK240 3⟩ (fun hHeld => ?_)
           clear hK K
           refine norm_ (a' := ?_) ?_ ?_
           rotate_left
           ·
            show Act.put _ (some 99) _ = _
            simp only [Act.put, setIfInBounds_toArray, set_cons_zero, set_cons_succ, i64_w, i32_w]
            rfl
           refine pure_ (i := 5) (N := some 94) (v := ?_) (a' := ?_) #[true, true, true, true, true, true, false, false, true, false, false] rfl rfl (any_of HT_.out (by kernel_rfl)) (fun _ _ _ h => h) (Or.inl ⟨by rfl, ?_⟩) ?_ ?_
           rotate_left
           ·
            intro w'
            go_simp
            with_reducible rfl
           rotate_left
           ·
            simp only [Act.put, setIfInBounds_toArray, set_cons_zero, set_cons_succ, i64_w, i32_w]
            rfl
           refine pure_ (i := 6) (N := some 100) (v := ?_) (a' := ?_) #[true, true, true, true, true, true, true, false, true, false, false] rfl rfl (any_of HT_.out (by kernel_rfl)) (fun _ _ _ h => h) (Or.inl ⟨by rfl, ?_⟩) ?_ ?_
           rotate_left
           ·
            intro w'
            go_simp
            with_reducible rfl
           rotate_left
           ·
            simp only [Act.put, setIfInBounds_toArray, set_cons_zero, set_cons_succ, i64_w, i32_w]
            rfl
           refine pure_ (i := 7) (N := some 101) (v := ?_) (a' := ?_) #[true, true, true, true, true, true, true, true, true, false, false] rfl rfl (any_of HT_.out (by kernel_rfl)) (fun _ _ _ h => h) (Or.inl ⟨by rfl, ?_⟩) ?_ ?_
           rotate_left
           ·
            intro w'
            go_simp
            with_reducible rfl
           rotate_left
           ·
            simp only [Act.put, setIfInBounds_toArray, set_cons_zero, set_cons_succ, i64_w, i32_w]
            rfl
           exact norm_ (by simp only [putAll, Act.put, setIfInBounds_toArray, set_cons_zero, set_cons_succ]) (hCont (.slice Ao190 t311.length co190, .slice Ao191 t317.length co191, v324, gb327) _ ⟨hHeld, (by (with_reducible repeat (first | apply Kd.R_alloc | apply Kd.R_drewN | apply Kd.R_drew)); exact Kd.R_mono HO313.out (fun _ hk => ⟨hk.1.2, ⟨hk.2, ⟨hk.1.1.1.1.1.2, ⟨hk.1.1.1.1.2, ⟨hk.1.1.1.2, hk.1.1.2⟩⟩⟩⟩⟩)), (by (with_reducible repeat (first | apply Kd.R_alloc | apply Kd.R_drewN | apply Kd.R_drew)); exact Kd.R_mono HO319.out (fun _ hk => ⟨hk.1.2, ⟨hk.2, ⟨hk.1.1.1.1.1.2, ⟨hk.1.1.1.1.2, ⟨hk.1.1.1.2, hk.1.1.2⟩⟩⟩⟩⟩)), (by (with_reducible repeat (first | apply Kd.R_alloc | apply Kd.R_drewN | apply Kd.R_drew)); exact Kd.R_mono HO325.out (fun _ hk => ⟨hk.1.2, ⟨hk.2, ⟨hk.1.1.1.1.1.2, ⟨hk.1.1.1.1.2, ⟨hk.1.1.1.2, hk.1.1.2⟩⟩⟩⟩⟩)), (by (with_reducible repeat (first | apply Kd.R_alloc | apply Kd.R_drewN | apply Kd.R_drew)); exact Kd.R_mono HO_263003.out (fun _ hk => ⟨hk.1.1.2, ⟨hk.1.2, ⟨hk.2, ⟨hk.1.1.1.1, ⟨hk.1.1.1.2.1, hk.1.1.1.2.2⟩⟩⟩⟩⟩)), (by (with_reducible repeat (first | apply Kd.R_alloc | apply Kd.R_drewN | apply Kd.R_drew)); exact Kd.R_mono HO_270003.out (fun _ hk => ⟨hk.1.1.2, ⟨hk.1.2, ⟨hk.2, ⟨hk.1.1.1.1, ⟨hk.1.1.1.2.1, hk.1.1.1.2.2⟩⟩⟩⟩⟩)), (by (with_reducible repeat (first | apply Kd.R_alloc | apply Kd.R_drewN | apply Kd.R_drew)); exact Kd.R_mono HO_277003.out (fun _ hk => ⟨hk.1.1.2, ⟨hk.1.2, ⟨hk.2, ⟨hk.1.1.1.1, ⟨hk.1.1.1.2.1, hk.1.1.1.2.2⟩⟩⟩⟩⟩)), (by (with_reducible repeat (first | apply Kd.R_alloc | apply Kd.R_drewN | apply Kd.R_drew)); exact Kd.R_mono HO_285003.out (fun _ hk => ⟨hk.1.1.2, ⟨hk.1.2, ⟨hk.2, ⟨hk.1.1.1.1, ⟨hk.1.1.1.2.1, hk.1.1.1.2.2⟩⟩⟩⟩⟩)), (uK BK239), (uK BK240), (uK BK262), (uK BK269), (uK BK276), (uK BK284), (uK BK327), GW327.out, GE327.out, NB239_327.out, NB327_239.out, NB240_327.out, NB327_240.out, NB262_327.out, NB327_262.out, NB269_327.out, NB327_269.out, NB276_327.out, NB327_276.out, NB284_327.out, NB327_284.out, (uN HB)⟩)
          skip
          refine box_step ?hg (N := 15) ?hd (cs := #[.int .i64 0, .int .i64 0, .int .i64 0, .slice none 0 0]) (t := 40) ?hr ?_; (case hd => rfl); (case hg => rfl); (case hr => first | (go_simp; done) | (go_simp; rfl))
          intro gb327 hg w188 hbox hb
          replace HO_263003 := Aside0.mk (Kd.R_below (uR HO_263003) hb)
          replace HO_270003 := Aside0.mk (Kd.R_below (uR HO_270003) hb)
          replace HO_277003 := Aside0.mk (Kd.R_below (uR HO_277003) hb)
          replace HO_285003 := Aside0.mk (Kd.R_below (uR HO_285003) hb)
          replace HO313 := Aside0.mk (Kd.R_below (uR HO313) hb)
          have BK327 := Aside0.mk (hbox)
          have GW327 := nG HB hg
          have GE327 := nG HB hg
          have GI327 := gI GE327
          replace HB := Aside0.mk (below_step (uN HB) hb)
          have NB239_327 := nL BK239 hg
          have NB327_239 := nR BK239 hg
          replace BK239 := kB BK239 hb
          have NB240_327 := nL BK240 hg
          have NB327_240 := nR BK240 hg
          replace BK240 := kB BK240 hb
          have NB262_327 := nL BK262 hg
          have NB327_262 := nR BK262 hg
          replace BK262 := kB BK262 hb
          have NB269_327 := nL BK269 hg
          have NB327_269 := nR BK269 hg
          replace BK269 := kB BK269 hb
          have NB276_327 := nL BK276 hg
          have NB327_276 := nR BK276 hg
          replace BK276 := kB BK276 hb
          have NB284_327 := nL BK284 hg
          have NB327_284 := nR BK284 hg
          replace BK284 := kB BK284 hb
          clear hb hbox hg
          refine hK.out _ _ ⟨bc BK239 0, bc BK239 1, bc BK239 2, bc BK239 3, bc BK240 0, bc BK240 1, bc BK240 2, bc BK240 3⟩ (fun hHeld => ?_)
          clear hK K
          refine norm_ (a' := ?_) ?_ ?_
          rotate_left
          ·
           show Act.put _ (some 15) _ = _
           simp only [Act.put, setIfInBounds_toArray, set_cons_zero, set_cons_succ, i64_w, i32_w]
           rfl
          refine one_ (i := 3) (N := some 98) #[true, true, true, true, false, false, false, false, true, false, false] rfl rfl (one_of HT_.out (by kernel_rfl)) (by decide) (fun K hK => ?_)
          refine goes_ Try.func18 (by kernel_rfl) rfl #[.agg #[.int .i64 a1_0, .int .i64 a1_1, .int .i64 a1_2, .slice A1_3 l1_3.length c1_3]] (by rfl) rfl rfl (by (try simp only [List.map_toArray, List.map_cons, List.map_nil]); first | done | rfl) ?_
          with_reducible refine (laws_toBloom.calls kj109 a1_0 a1_1 a1_2 _ _ l1_3 t314 t315 t316 t317 _ ?side1 ?side2 A174.out).mono ?_
          (case side1 => exact uC HR1_3 HB)
          (case side2 => exact HC1_3.out)
          rintro e w189 ⟨v318, rfl, ho0, hb⟩
          refine ⟨_, rfl, ?_⟩
          have HO319 := Aside0.mk (Kd.R_lower (Kd.R_new' (Kd.R_new' (Kd.R_new' (Kd.R_new' (Kd.R_new' ho0 (Kd.R_lt (uR HO_263003))) (Kd.R_lt (uR HO_270003))) (Kd.R_lt (uR HO_277003))) (Kd.R_lt (uR HO_285003))) (Kd.R_lt (uR HO313))) (below_size (uN HB)))
          replace HO_263003 := Aside0.mk (Kd.R_elder' (uR HO_263003) (Kd.R_base ho0) hb)
          replace HO_270003 := Aside0.mk (Kd.R_elder' (uR HO_270003) (Kd.R_base ho0) hb)
          replace HO_277003 := Aside0.mk (Kd.R_elder' (uR HO_277003) (Kd.R_base ho0) hb)
          replace HO_285003 := Aside0.mk (Kd.R_elder' (uR HO_285003) (Kd.R_base ho0) hb)
          replace HO313 := Aside0.mk (Kd.R_elder' (uR HO313) (Kd.R_base ho0) hb)
          replace BK239 := kB BK239 hb
          replace BK240 := kB BK240 hb
          replace BK262 := kB BK262 hb
          replace BK269 := kB BK269 hb
          replace BK276 := kB BK276 hb
          replace BK284 := kB BK284 hb
          replace BK327 := kB BK327 hb
          replace HB := Aside0.mk (below_step (uN HB) hb)
          (try clear hb)
          (try clear hb2)
          (try clear hk)
          (try clear hi)
          (try clear ho0)
          obtain ⟨Ao190, co190, eo190⟩ := Kd.R_slice HO313.out
          (first | subst eo190 | (injection eo190 with f1_ f2_ f3_; have f4_ := f1_.symm; have f5_ := f3_.symm; clear f1_ f2_ f3_; subst f4_; subst f5_))
          obtain ⟨Ao191, co191, eo191⟩ := Kd.R_slice HO319.out
          (first | subst eo191 | (injection eo191 with f1_ f2_ f3_; have f4_ := f1_.symm; have f5_ := f3_.symm; clear f1_ f2_ f3_; subst f4_; subst f5_))
          refine hK.out _ _ ⟨bc BK239 0, bc BK239 1, bc BK239 2, bc BK239 3, bc BK240 0, bc BK240 1, bc BK240 2, bc BK240 3⟩ (fun hHeld => ?_)
          clear hK K
          refine norm_ (a' := ?_) ?_ ?_
          rotate_left
          ·
           show Act.put _ (some 98) _ = _
           simp only [Act.put, setIfInBounds_toArray, set_cons_zero, set_cons_succ, i64_w, i32_w]
           rfl
          refine one_ (i := 4) (N := some 99) #[true, true, true, true, true, false, false, false, true, false, false] rfl rfl (one_of HT_.out (by kernel_rfl)) (by decide) (fun K hK => ?_)
          refine goes_ Try.func19 (by kernel_rfl) rfl #[.agg #[.int .i64 t308, .int .i64 t309, .int .i64 t310, .slice Ao190 t311.length co190], .agg #[.int .i64 t314, .int .i64 t315, .int .i64 t316, .slice Ao191 t317.length co191]] (by rfl) rfl rfl (by (try simp only [List.map_toArray, List.map_cons, List.map_nil]); first | done | rfl) ?_
          with_reducible refine (impl_UnionBloom.calls kj109 t308 t309 t310 _ _ t311 t314 t315 t316 _ _ t317 t320 t321 t322 t323 t326 _ ?side1 ?side2 ?side3 ?side4 A175.out).mono ?_
          (case side1 => exact uD HO313)
          (case side2 => exact (Kd.R_reads' HO313.out).2.1)
          (case side3 => exact uD HO319)
          (case side4 => exact (Kd.R_reads' HO319.out).2.1)
          rintro e w192 ⟨v324, rfl, ho0, hb⟩
          refine ⟨_, rfl, ?_⟩
          have HO325 := Aside0.mk (Kd.R_lower (Kd.R_new' (Kd.R_new' (Kd.R_new' (Kd.R_new' (Kd.R_new' (Kd.R_new' ho0 (Kd.R_lt (uR HO_263003))) (Kd.R_lt (uR HO_270003))) (Kd.R_lt (uR HO_277003))) (Kd.R_lt (uR HO_285003))) (Kd.R_lt (uR HO313))) (Kd.R_lt (uR HO319))) (below_size (uN HB)))
          replace HO_263003 := Aside0.mk (Kd.R_elder' (uR HO_263003) (Kd.R_base ho0) hb)
          replace HO_270003 := Aside0.mk (Kd.R_elder' (uR HO_270003) (Kd.R_base ho0) hb)
          replace HO_277003 := Aside0.mk (Kd.R_elder' (uR HO_277003) (Kd.R_base ho0) hb)
          replace HO_285003 := Aside0.mk (Kd.R_elder' (uR HO_285003) (Kd.R_base ho0) hb)
          replace HO313 := Aside0.mk (Kd.R_elder' (uR HO313) (Kd.R_base ho0) hb)
          replace HO319 := Aside0.mk (Kd.R_elder' (uR HO319) (Kd.R_base ho0) hb)
          replace BK239 := kB BK239 hb
          replace BK240 := kB BK240 hb
          replace BK262 := kB BK262 hb
          replace BK269 := kB BK269 hb
          replace BK276 := kB BK276 hb
          replace BK284 := kB BK284 hb
          replace BK327 := kB BK327 hb
          replace HB := Aside0.mk (below_step (uN HB) hb)
          (try clear hb)
          (try clear hb2)
          (try clear hk)
          (try clear hi)
          (try clear ho0)
          refine hK.out _ _ ⟨bc BK239 0, bc BK239 1, bc BK239 2, bc BK239 3, bc BK240 0, bc BK240 1, bc BK240 2, bc BK240 3⟩ (fun hHeld => ?_)
          clear hK K
          refine norm_ (a' := ?_) ?_ ?_
          rotate_left
          ·
           show Act.put _ (some 99) _ = _
           simp only [Act.put, setIfInBounds_toArray, set_cons_zero, set_cons_succ, i64_w, i32_w]
           rfl
          refine pure_ (i := 5) (N := some 94) (v := ?_) (a' := ?_) #[true, true, true, true, true, true, false, false, true, false, false] rfl rfl (any_of HT_.out (by kernel_rfl)) (fun _ _ _ h => h) (Or.inl ⟨by rfl, ?_⟩) ?_ ?_
          rotate_left
          ·
           intro w'
           go_simp
           with_reducible rfl
          rotate_left
          ·
           simp only [Act.put, setIfInBounds_toArray, set_cons_zero, set_cons_succ, i64_w, i32_w]
           rfl
          refine pure_ (i := 6) (N := some 100) (v := ?_) (a' := ?_) #[true, true, true, true, true, true, true, false, true, false, false] rfl rfl (any_of HT_.out (by kernel_rfl)) (fun _ _ _ h => h) (Or.inl ⟨by rfl, ?_⟩) ?_ ?_
          rotate_left
          ·
           intro w'
           go_simp
           with_reducible rfl
          rotate_left
          ·
           simp only [Act.put, setIfInBounds_toArray, set_cons_zero, set_cons_succ, i64_w, i32_w]
           rfl
          refine pure_ (i := 7) (N := some 101) (v := ?_) (a' := ?_) #[true, true, true, true, true, true, true, true, true, false, false] rfl rfl (any_of HT_.out (by kernel_rfl)) (fun _ _ _ h => h) (Or.inl ⟨by rfl, ?_⟩) ?_ ?_
          rotate_left
          ·
           intro w'
           go_simp
           with_reducible rfl
          rotate_left
          ·
           simp only [Act.put, setIfInBounds_toArray, set_cons_zero, set_cons_succ, i64_w, i32_w]
           rfl
          exact norm_ (by simp only [putAll, Act.put, setIfInBounds_toArray, set_cons_zero, set_cons_succ]) (hCont (.slice Ao190 t311.length co190, .slice Ao191 t317.length co191, v324, gb327) _ ⟨hHeld, (by (with_reducible repeat (first | apply Kd.R_alloc | apply Kd.R_drewN | apply Kd.R_drew)); exact Kd.R_mono HO313.out (fun _ hk => ⟨hk.1.2, ⟨hk.2, ⟨hk.1.1.1.1.1.2, ⟨hk.1.1.1.1.2, ⟨hk.1.1.1.2, hk.1.1.2⟩⟩⟩⟩⟩)), (by (with_reducible repeat (first | apply Kd.R_alloc | apply Kd.R_drewN | apply Kd.R_drew)); exact Kd.R_mono HO319.out (fun _ hk => ⟨hk.1.2, ⟨hk.2, ⟨hk.1.1.1.1.1.2, ⟨hk.1.1.1.1.2, ⟨hk.1.1.1.2, hk.1.1.2⟩⟩⟩⟩⟩)), (by (with_reducible repeat (first | apply Kd.R_alloc | apply Kd.R_drewN | apply Kd.R_drew)); exact Kd.R_mono HO325.out (fun _ hk => ⟨hk.1.2, ⟨hk.2, ⟨hk.1.1.1.1.1.2, ⟨hk.1.1.1.1.2, ⟨hk.1.1.1.2, hk.1.1.2⟩⟩⟩⟩⟩)), (by (with_reducible repeat (first | apply Kd.R_alloc | apply Kd.R_drewN | apply Kd.R_drew)); exact Kd.R_mono HO_263003.out (fun _ hk => ⟨hk.1.1.2, ⟨hk.1.2, ⟨hk.2, ⟨hk.1.1.1.1, ⟨hk.1.1.1.2.1, hk.1.1.1.2.2⟩⟩⟩⟩⟩)), (by (with_reducible repeat (first | apply Kd.R_alloc | apply Kd.R_drewN | apply Kd.R_drew)); exact Kd.R_mono HO_270003.out (fun _ hk => ⟨hk.1.1.2, ⟨hk.1.2, ⟨hk.2, ⟨hk.1.1.1.1, ⟨hk.1.1.1.2.1, hk.1.1.1.2.2⟩⟩⟩⟩⟩)), (by (with_reducible repeat (first | apply Kd.R_alloc | apply Kd.R_drewN | apply Kd.R_drew)); exact Kd.R_mono HO_277003.out (fun _ hk => ⟨hk.1.1.2, ⟨hk.1.2, ⟨hk.2, ⟨hk.1.1.1.1, ⟨hk.1.1.1.2.1, hk.1.1.1.2.2⟩⟩⟩⟩⟩)), (by (with_reducible repeat (first | apply Kd.R_alloc | apply Kd.R_drewN | apply Kd.R_drew)); exact Kd.R_mono HO_285003.out (fun _ hk => ⟨hk.1.1.2, ⟨hk.1.2, ⟨hk.2, ⟨hk.1.1.1.1, ⟨hk.1.1.1.2.1, hk.1.1.1.2.2⟩⟩⟩⟩⟩)), (uK BK239), (uK BK240), (uK BK262), (uK BK269), (uK BK276), (uK BK284), (uK BK327), GW327.out, GE327.out, NB239_327.out, NB327_239.out, NB240_327.out, NB327_240.out, NB262_327.out, NB327_262.out, NB269_327.out, NB327_269.out, NB276_327.out, NB327_276.out, NB284_327.out, NB327_284.out, (uN HB)⟩)
         skip
         refine box_step ?hg (N := 15) ?hd (cs := #[.int .i64 0, .int .i64 0, .int .i64 0, .slice none 0 0]) (t := 40) ?hr ?_; (case hd => rfl); (case hg => rfl); (case hr => first | (go_simp; done) | (go_simp; rfl))
         intro gb327 hg w187 hbox hb
         replace HO_263003 := Aside0.mk (Kd.R_below (uR HO_263003) hb)
         replace HO_270003 := Aside0.mk (Kd.R_below (uR HO_270003) hb)
         replace HO_277003 := Aside0.mk (Kd.R_below (uR HO_277003) hb)
         replace HO_285003 := Aside0.mk (Kd.R_below (uR HO_285003) hb)
         have BK327 := Aside0.mk (hbox)
         have GW327 := nG HB hg
         have GE327 := nG HB hg
         have GI327 := gI GE327
         replace HB := Aside0.mk (below_step (uN HB) hb)
         have NB239_327 := nL BK239 hg
         have NB327_239 := nR BK239 hg
         replace BK239 := kB BK239 hb
         have NB240_327 := nL BK240 hg
         have NB327_240 := nR BK240 hg
         replace BK240 := kB BK240 hb
         have NB262_327 := nL BK262 hg
         have NB327_262 := nR BK262 hg
         replace BK262 := kB BK262 hb
         have NB269_327 := nL BK269 hg
         have NB327_269 := nR BK269 hg
         replace BK269 := kB BK269 hb
         have NB276_327 := nL BK276 hg
         have NB327_276 := nR BK276 hg
         replace BK276 := kB BK276 hb
         have NB284_327 := nL BK284 hg
         have NB327_284 := nR BK284 hg
         replace BK284 := kB BK284 hb
         clear hb hbox hg
         refine hK.out _ _ ⟨bc BK239 0, bc BK239 1, bc BK239 2, bc BK239 3, bc BK240 0, bc BK240 1, bc BK240 2, bc BK240 3⟩ (fun hHeld => ?_)
         clear hK K
         refine norm_ (a' := ?_) ?_ ?_
         rotate_left
         ·
          show Act.put _ (some 15) _ = _
          simp only [Act.put, setIfInBounds_toArray, set_cons_zero, set_cons_succ, i64_w, i32_w]
          rfl
         refine one_ (i := 1) (N := some 96) #[true, true, true, false, false, false, false, false, true, false, false] rfl rfl (one_of HT_.out (by kernel_rfl)) (by decide) (fun K hK => ?_)
         refine goes_ Try.func18 (by kernel_rfl) rfl #[.agg #[.int .i64 a0_0, .int .i64 a0_1, .int .i64 a0_2, .slice A0_3 l0_3.length c0_3]] (by rfl) rfl rfl (by (try simp only [List.map_toArray, List.map_cons, List.map_nil]); first | done | rfl) ?_
         with_reducible refine (laws_toBloom.calls kj109 a0_0 a0_1 a0_2 _ _ l0_3 t308 t309 t310 t311 _ ?side1 ?side2 A173.out).mono ?_
         (case side1 => exact uC HR0_3 HB)
         (case side2 => exact HC0_3.out)
         rintro e w188 ⟨v312, rfl, ho0, hb⟩
         refine ⟨_, rfl, ?_⟩
         have HO313 := Aside0.mk (Kd.R_lower (Kd.R_new' (Kd.R_new' (Kd.R_new' (Kd.R_new' ho0 (Kd.R_lt (uR HO_263003))) (Kd.R_lt (uR HO_270003))) (Kd.R_lt (uR HO_277003))) (Kd.R_lt (uR HO_285003))) (below_size (uN HB)))
         replace HO_263003 := Aside0.mk (Kd.R_elder' (uR HO_263003) (Kd.R_base ho0) hb)
         replace HO_270003 := Aside0.mk (Kd.R_elder' (uR HO_270003) (Kd.R_base ho0) hb)
         replace HO_277003 := Aside0.mk (Kd.R_elder' (uR HO_277003) (Kd.R_base ho0) hb)
         replace HO_285003 := Aside0.mk (Kd.R_elder' (uR HO_285003) (Kd.R_base ho0) hb)
         replace BK239 := kB BK239 hb
         replace BK240 := kB BK240 hb
         replace BK262 := kB BK262 hb
         replace BK269 := kB BK269 hb
         replace BK276 := kB BK276 hb
         replace BK284 := kB BK284 hb
         replace BK327 := kB BK327 hb
         replace HB := Aside0.mk (below_step (uN HB) hb)
         (try clear hb)
         (try clear hb2)
         (try clear hk)
         (try clear hi)
         (try clear ho0)
         refine hK.out _ _ ⟨bc BK239 0, bc BK239 1, bc BK239 2, bc BK239 3, bc BK240 0, bc BK240 1, bc BK240 2, bc BK240 3⟩ (fun hHeld => ?_)
         clear hK K
         refine norm_ (a' := ?_) ?_ ?_
         rotate_left
         ·
          show Act.put _ (some 96) _ = _
          simp only [Act.put, setIfInBounds_toArray, set_cons_zero, set_cons_succ, i64_w, i32_w]
          rfl
         refine one_ (i := 3) (N := some 98) #[true, true, true, true, false, false, false, false, true, false, false] rfl rfl (one_of HT_.out (by kernel_rfl)) (by decide) (fun K hK => ?_)
         refine goes_ Try.func18 (by kernel_rfl) rfl #[.agg #[.int .i64 a1_0, .int .i64 a1_1, .int .i64 a1_2, .slice A1_3 l1_3.length c1_3]] (by rfl) rfl rfl (by (try simp only [List.map_toArray, List.map_cons, List.map_nil]); first | done | rfl) ?_
         with_reducible refine (laws_toBloom.calls kj109 a1_0 a1_1 a1_2 _ _ l1_3 t314 t315 t316 t317 _ ?side1 ?side2 A174.out).mono ?_
         (case side1 => exact uC HR1_3 HB)
         (case side2 => exact HC1_3.out)
         rintro e w189 ⟨v318, rfl, ho0, hb⟩
         refine ⟨_, rfl, ?_⟩
         have HO319 := Aside0.mk (Kd.R_lower (Kd.R_new' (Kd.R_new' (Kd.R_new' (Kd.R_new' (Kd.R_new' ho0 (Kd.R_lt (uR HO_263003))) (Kd.R_lt (uR HO_270003))) (Kd.R_lt (uR HO_277003))) (Kd.R_lt (uR HO_285003))) (Kd.R_lt (uR HO313))) (below_size (uN HB)))
         replace HO_263003 := Aside0.mk (Kd.R_elder' (uR HO_263003) (Kd.R_base ho0) hb)
         replace HO_270003 := Aside0.mk (Kd.R_elder' (uR HO_270003) (Kd.R_base ho0) hb)
         replace HO_277003 := Aside0.mk (Kd.R_elder' (uR HO_277003) (Kd.R_base ho0) hb)
         replace HO_285003 := Aside0.mk (Kd.R_elder' (uR HO_285003) (Kd.R_base ho0) hb)
         replace HO313 := Aside0.mk (Kd.R_elder' (uR HO313) (Kd.R_base ho0) hb)
         replace BK239 := kB BK239 hb
         replace BK240 := kB BK240 hb
         replace BK262 := kB BK262 hb
         replace BK269 := kB BK269 hb
         replace BK276 := kB BK276 hb
         replace BK284 := kB BK284 hb
         replace BK327 := kB BK327 hb
         replace HB := Aside0.mk (below_step (uN HB) hb)
         (try clear hb)
         (try clear hb2)
         (try clear hk)
         (try clear hi)
         (try clear ho0)
         obtain ⟨Ao190, co190, eo190⟩ := Kd.R_slice HO313.out
         (first | subst eo190 | (injection eo190 with f1_ f2_ f3_; have f4_ := f1_.symm; have f5_ := f3_.symm; clear f1_ f2_ f3_; subst f4_; subst f5_))
         obtain ⟨Ao191, co191, eo191⟩ := Kd.R_slice HO319.out
         (first | subst eo191 | (injection eo191 with f1_ f2_ f3_; have f4_ := f1_.symm; have f5_ := f3_.symm; clear f1_ f2_ f3_; subst f4_; subst f5_))
         refine hK.out _ _ ⟨bc BK239 0, bc BK239 1, bc BK239 2, bc BK239 3, bc BK240 0, bc BK240 1, bc BK240 2, bc BK240 3⟩ (fun hHeld => ?_)
         clear hK K
         refine norm_ (a' := ?_) ?_ ?_
         rotate_left
         ·
          show Act.put _ (some 98) _ = _
          simp only [Act.put, setIfInBounds_toArray, set_cons_zero, set_cons_succ, i64_w, i32_w]
          rfl
         refine one_ (i := 4) (N := some 99) #[true, true, true, true, true, false, false, false, true, false, false] rfl rfl (one_of HT_.out (by kernel_rfl)) (by decide) (fun K hK => ?_)
         refine goes_ Try.func19 (by kernel_rfl) rfl #[.agg #[.int .i64 t308, .int .i64 t309, .int .i64 t310, .slice Ao190 t311.length co190], .agg #[.int .i64 t314, .int .i64 t315, .int .i64 t316, .slice Ao191 t317.length co191]] (by rfl) rfl rfl (by (try simp only [List.map_toArray, List.map_cons, List.map_nil]); first | done | rfl) ?_
         with_reducible refine (impl_UnionBloom.calls kj109 t308 t309 t310 _ _ t311 t314 t315 t316 _ _ t317 t320 t321 t322 t323 t326 _ ?side1 ?side2 ?side3 ?side4 A175.out).mono ?_
         (case side1 => exact uD HO313)
         (case side2 => exact (Kd.R_reads' HO313.out).2.1)
         (case side3 => exact uD HO319)
         (case side4 => exact (Kd.R_reads' HO319.out).2.1)
         rintro e w192 ⟨v324, rfl, ho0, hb⟩
         refine ⟨_, rfl, ?_⟩
         have HO325 := Aside0.mk (Kd.R_lower (Kd.R_new' (Kd.R_new' (Kd.R_new' (Kd.R_new' (Kd.R_new' (Kd.R_new' ho0 (Kd.R_lt (uR HO_263003))) (Kd.R_lt (uR HO_270003))) (Kd.R_lt (uR HO_277003))) (Kd.R_lt (uR HO_285003))) (Kd.R_lt (uR HO313))) (Kd.R_lt (uR HO319))) (below_size (uN HB)))
         replace HO_263003 := Aside0.mk (Kd.R_elder' (uR HO_263003) (Kd.R_base ho0) hb)
         replace HO_270003 := Aside0.mk (Kd.R_elder' (uR HO_270003) (Kd.R_base ho0) hb)
         replace HO_277003 := Aside0.mk (Kd.R_elder' (uR HO_277003) (Kd.R_base ho0) hb)
         replace HO_285003 := Aside0.mk (Kd.R_elder' (uR HO_285003) (Kd.R_base ho0) hb)
         replace HO313 := Aside0.mk (Kd.R_elder' (uR HO313) (Kd.R_base ho0) hb)
         replace HO319 := Aside0.mk (Kd.R_elder' (uR HO319) (Kd.R_base ho0) hb)
         replace BK239 := kB BK239 hb
         replace BK240 := kB BK240 hb
         replace BK262 := kB BK262 hb
         replace BK269 := kB BK269 hb
         replace BK276 := kB BK276 hb
         replace BK284 := kB BK284 hb
         replace BK327 := kB BK327 hb
         replace HB := Aside0.mk (below_step (uN HB) hb)
         (try clear hb)
         (try clear hb2)
         (try clear hk)
         (try clear hi)
         (try clear ho0)
         refine hK.out _ _ ⟨bc BK239 0, bc BK239 1, bc BK239 2, bc BK239 3, bc BK240 0, bc BK240 1, bc BK240 2, bc BK240 3⟩ (fun hHeld => ?_)
         clear hK K
         refine norm_ (a' := ?_) ?_ ?_
         rotate_left
         ·
          show Act.put _ (some 99) _ = _
          simp only [Act.put, setIfInBounds_toArray, set_cons_zero, set_cons_succ, i64_w, i32_w]
          rfl
         refine pure_ (i := 5) (N := some 94) (v := ?_) (a' := ?_) #[true, true, true, true, true, true, false, false, true, false, false] rfl rfl (any_of HT_.out (by kernel_rfl)) (fun _ _ _ h => h) (Or.inl ⟨by rfl, ?_⟩) ?_ ?_
         rotate_left
         ·
          intro w'
          go_simp
          with_reducible rfl
         rotate_left
         ·
          simp only [Act.put, setIfInBounds_toArray, set_cons_zero, set_cons_succ, i64_w, i32_w]
          rfl
         refine pure_ (i := 6) (N := some 100) (v := ?_) (a' := ?_) #[true, true, true, true, true, true, true, false, true, false, false] rfl rfl (any_of HT_.out (by kernel_rfl)) (fun _ _ _ h => h) (Or.inl ⟨by rfl, ?_⟩) ?_ ?_
         rotate_left
         ·
          intro w'
          go_simp
          with_reducible rfl
         rotate_left
         ·
          simp only [Act.put, setIfInBounds_toArray, set_cons_zero, set_cons_succ, i64_w, i32_w]
          rfl
         refine pure_ (i := 7) (N := some 101) (v := ?_) (a' := ?_) #[true, true, true, true, true, true, true, true, true, false, false] rfl rfl (any_of HT_.out (by kernel_rfl)) (fun _ _ _ h => h) (Or.inl ⟨by rfl, ?_⟩) ?_ ?_
         rotate_left
         ·
          intro w'
          go_simp
          with_reducible rfl
         rotate_left
         ·
          simp only [Act.put, setIfInBounds_toArray, set_cons_zero, set_cons_succ, i64_w, i32_w]
          rfl
         exact norm_ (by simp only [putAll, Act.put, setIfInBounds_toArray, set_cons_zero, set_cons_succ]) (hCont (.slice Ao190 t311.length co190, .slice Ao191 t317.length co191, v324, gb327) _ ⟨hHeld, (by (with_reducible repeat (first | apply Kd.R_alloc | apply Kd.R_drewN | apply Kd.R_drew)); exact Kd.R_mono HO313.out (fun _ hk => ⟨hk.1.2, ⟨hk.2, ⟨hk.1.1.1.1.1.2, ⟨hk.1.1.1.1.2, ⟨hk.1.1.1.2, hk.1.1.2⟩⟩⟩⟩⟩)), (by (with_reducible repeat (first | apply Kd.R_alloc | apply Kd.R_drewN | apply Kd.R_drew)); exact Kd.R_mono HO319.out (fun _ hk => ⟨hk.1.2, ⟨hk.2, ⟨hk.1.1.1.1.1.2, ⟨hk.1.1.1.1.2, ⟨hk.1.1.1.2, hk.1.1.2⟩⟩⟩⟩⟩)), (by (with_reducible repeat (first | apply Kd.R_alloc | apply Kd.R_drewN | apply Kd.R_drew)); exact Kd.R_mono HO325.out (fun _ hk => ⟨hk.1.2, ⟨hk.2, ⟨hk.1.1.1.1.1.2, ⟨hk.1.1.1.1.2, ⟨hk.1.1.1.2, hk.1.1.2⟩⟩⟩⟩⟩)), (by (with_reducible repeat (first | apply Kd.R_alloc | apply Kd.R_drewN | apply Kd.R_drew)); exact Kd.R_mono HO_263003.out (fun _ hk => ⟨hk.1.1.2, ⟨hk.1.2, ⟨hk.2, ⟨hk.1.1.1.1, ⟨hk.1.1.1.2.1, hk.1.1.1.2.2⟩⟩⟩⟩⟩)), (by (with_reducible repeat (first | apply Kd.R_alloc | apply Kd.R_drewN | apply Kd.R_drew)); exact Kd.R_mono HO_270003.out (fun _ hk => ⟨hk.1.1.2, ⟨hk.1.2, ⟨hk.2, ⟨hk.1.1.1.1, ⟨hk.1.1.1.2.1, hk.1.1.1.2.2⟩⟩⟩⟩⟩)), (by (with_reducible repeat (first | apply Kd.R_alloc | apply Kd.R_drewN | apply Kd.R_drew)); exact Kd.R_mono HO_277003.out (fun _ hk => ⟨hk.1.1.2, ⟨hk.1.2, ⟨hk.2, ⟨hk.1.1.1.1, ⟨hk.1.1.1.2.1, hk.1.1.1.2.2⟩⟩⟩⟩⟩)), (by (with_reducible repeat (first | apply Kd.R_alloc | apply Kd.R_drewN | apply Kd.R_drew)); exact Kd.R_mono HO_285003.out (fun _ hk => ⟨hk.1.1.2, ⟨hk.1.2, ⟨hk.2, ⟨hk.1.1.1.1, ⟨hk.1.1.1.2.1, hk.1.1.1.2.2⟩⟩⟩⟩⟩)), (uK BK239), (uK BK240), (uK BK262), (uK BK269), (uK BK276), (uK BK284), (uK BK327), GW327.out, GE327.out, NB239_327.out, NB327_239.out, NB240_327.out, NB327_240.out, NB262_327.out, NB327_262.out, NB269_327.out, NB327_269.out, NB276_327.out, NB327_276.out, NB284_327.out, NB327_284.out, (uN HB)⟩)
        rintro ⟨v312, v318, v324, gb327⟩ w193 ⟨hS_, h0_, h1_, h2_, h3_, h4_, h5_, h6_, h7_, h8_, h9_, h10_, h11_, h12_, h13_, h14_, h15_, h16_, h17_, h18_, h19_, h20_, h21_, h22_, h23_, h24_, h25_, h26_, h27_, h28_⟩
        have n0_ : Aside0 (Kd.R (Kd.int .i64) 3 w193 w.heap.size (fun k_ => some k_ ≠ (v318 : Value).ownBlock ∧ some k_ ≠ (v324 : Value).ownBlock ∧ some k_ ≠ (.slice Ao44 t258.length co44 : Value).ownBlock ∧ some k_ ≠ (.slice Ao54 t301.length co54 : Value).ownBlock ∧ some k_ ≠ (.slice Ao64 t303.length co64 : Value).ownBlock ∧ some k_ ≠ (.slice Ao74 t280.length co74 : Value).ownBlock) v312 t311) := ⟨h0_⟩
        have n1_ : Aside0 (Kd.R (Kd.int .i64) 3 w193 w.heap.size (fun k_ => some k_ ≠ (v312 : Value).ownBlock ∧ some k_ ≠ (v324 : Value).ownBlock ∧ some k_ ≠ (.slice Ao44 t258.length co44 : Value).ownBlock ∧ some k_ ≠ (.slice Ao54 t301.length co54 : Value).ownBlock ∧ some k_ ≠ (.slice Ao64 t303.length co64 : Value).ownBlock ∧ some k_ ≠ (.slice Ao74 t280.length co74 : Value).ownBlock) v318 t317) := ⟨h1_⟩
        have n2_ : Aside0 (Kd.R (Kd.int .i64) 3 w193 w.heap.size (fun k_ => some k_ ≠ (v312 : Value).ownBlock ∧ some k_ ≠ (v318 : Value).ownBlock ∧ some k_ ≠ (.slice Ao44 t258.length co44 : Value).ownBlock ∧ some k_ ≠ (.slice Ao54 t301.length co54 : Value).ownBlock ∧ some k_ ≠ (.slice Ao64 t303.length co64 : Value).ownBlock ∧ some k_ ≠ (.slice Ao74 t280.length co74 : Value).ownBlock) v324 t323) := ⟨h2_⟩
        have n3_ : Aside0 (Kd.R (Kd.int .i64) 3 w193 w.heap.size (fun k_ => some k_ ≠ (v312 : Value).ownBlock ∧ some k_ ≠ (v318 : Value).ownBlock ∧ some k_ ≠ (v324 : Value).ownBlock ∧ some k_ ≠ (.slice Ao54 t301.length co54 : Value).ownBlock ∧ some k_ ≠ (.slice Ao64 t303.length co64 : Value).ownBlock ∧ some k_ ≠ (.slice Ao74 t280.length co74 : Value).ownBlock) (.slice Ao44 t258.length co44) t258) := ⟨h3_⟩
        have n4_ : Aside0 (Kd.R (Kd.int .i64) 3 w193 w.heap.size (fun k_ => some k_ ≠ (v312 : Value).ownBlock ∧ some k_ ≠ (v318 : Value).ownBlock ∧ some k_ ≠ (v324 : Value).ownBlock ∧ some k_ ≠ (.slice Ao44 t258.length co44 : Value).ownBlock ∧ some k_ ≠ (.slice Ao64 t303.length co64 : Value).ownBlock ∧ some k_ ≠ (.slice Ao74 t280.length co74 : Value).ownBlock) (.slice Ao54 t301.length co54) t301) := ⟨h4_⟩
        have n5_ : Aside0 (Kd.R (Kd.int .i64) 3 w193 w.heap.size (fun k_ => some k_ ≠ (v312 : Value).ownBlock ∧ some k_ ≠ (v318 : Value).ownBlock ∧ some k_ ≠ (v324 : Value).ownBlock ∧ some k_ ≠ (.slice Ao44 t258.length co44 : Value).ownBlock ∧ some k_ ≠ (.slice Ao54 t301.length co54 : Value).ownBlock ∧ some k_ ≠ (.slice Ao74 t280.length co74 : Value).ownBlock) (.slice Ao64 t303.length co64) t303) := ⟨h5_⟩
        have n6_ : Aside0 (Kd.R (Kd.int .i64) 3 w193 w.heap.size (fun k_ => some k_ ≠ (v312 : Value).ownBlock ∧ some k_ ≠ (v318 : Value).ownBlock ∧ some k_ ≠ (v324 : Value).ownBlock ∧ some k_ ≠ (.slice Ao44 t258.length co44 : Value).ownBlock ∧ some k_ ≠ (.slice Ao54 t301.length co54 : Value).ownBlock ∧ some k_ ≠ (.slice Ao64 t303.length co64 : Value).ownBlock) (.slice Ao74 t280.length co74) t306) := ⟨h6_⟩
        have n7_ : Aside0 (w193.heap[gb239]? = some (.cells #[.int .i64 a0_0, .int .i64 a0_1, .int .i64 a0_2, .slice A0_3 l0_3.length c0_3] 36 (0, 0))) := ⟨h7_⟩
        have n8_ : Aside0 (w193.heap[gb240]? = some (.cells #[.int .i64 a1_0, .int .i64 a1_1, .int .i64 a1_2, .slice A1_3 l1_3.length c1_3] 36 (0, 0))) := ⟨h8_⟩
        have n9_ : Aside0 (w193.heap[gb262]? = some (.cells #[.int .i64 t255, .int .i64 t256, .int .i64 t257, .slice Ao44 t258.length co44] 40 (0, 0))) := ⟨h9_⟩
        have n10_ : Aside0 (w193.heap[gb269]? = some (.cells #[.int .i64 t263, .int .i64 t264, .int .i64 t265, .slice Ao54 t301.length co54] 40 (0, 0))) := ⟨h10_⟩
        have n11_ : Aside0 (w193.heap[gb276]? = some (.cells #[.int .i64 t270, .int .i64 t271, .int .i64 t272, .slice Ao64 t303.length co64] 40 (0, 0))) := ⟨h11_⟩
        have n12_ : Aside0 (w193.heap[gb284]? = some (.cells #[.int .i64 t277, .int .i64 t278, .int .i64 t279, .slice Ao74 t280.length co74] 40 (0, 0))) := ⟨h12_⟩
        have n13_ : Aside0 (w193.heap[gb327]? = some (.cells #[.int .i64 0, .int .i64 0, .int .i64 0, .slice none 0 0] 40 (0, 0))) := ⟨h13_⟩
        have n14_ : Aside0 (w.heap.size ≤ gb327) := ⟨h14_⟩
        have n15_ : Aside0 (w.heap.size ≤ gb327) := ⟨h15_⟩
        have n16_ : Aside0 (gb239 ≠ gb327) := ⟨h16_⟩
        have n17_ : Aside0 (gb327 ≠ gb239) := ⟨h17_⟩
        have n18_ : Aside0 (gb240 ≠ gb327) := ⟨h18_⟩
        have n19_ : Aside0 (gb327 ≠ gb240) := ⟨h19_⟩
        have n20_ : Aside0 (gb262 ≠ gb327) := ⟨h20_⟩
        have n21_ : Aside0 (gb327 ≠ gb262) := ⟨h21_⟩
        have n22_ : Aside0 (gb269 ≠ gb327) := ⟨h22_⟩
        have n23_ : Aside0 (gb327 ≠ gb269) := ⟨h23_⟩
        have n24_ : Aside0 (gb276 ≠ gb327) := ⟨h24_⟩
        have n25_ : Aside0 (gb327 ≠ gb276) := ⟨h25_⟩
        have n26_ : Aside0 (gb284 ≠ gb327) := ⟨h26_⟩
        have n27_ : Aside0 (gb327 ≠ gb284) := ⟨h27_⟩
        have n28_ : Aside0 (Below w.heap.size w w193) := ⟨h28_⟩
        clear HO_263003
        clear HO_270003
        clear HO_277003
        clear HO_285003
        clear BK239
        clear BK240
        clear BK262
        clear BK269
        clear BK276
        clear BK284
        clear HB
        clear h0_ h1_ h2_ h3_ h4_ h5_ h6_ h7_ h8_ h9_ h10_ h11_ h12_ h13_ h14_ h15_ h16_ h17_ h18_ h19_ h20_ h21_ h22_ h23_ h24_ h25_ h26_ h27_ h28_
        have HO313 := n0_
        have HO319 := n1_
        have HO325 := n2_
        have HO_263003 := n3_
        have HO_270003 := n4_
        have HO_277003 := n5_
        have HO_285003 := n6_
        have BK239 := n7_
        have BK240 := n8_
        have BK262 := n9_
        have BK269 := n10_
        have BK276 := n11_
        have BK284 := n12_
        have BK327 := n13_
        have GW327 := n14_
        have GE327 := n15_
        have GI327 := gI GE327
        have NB239_327 := n16_
        have NB327_239 := n17_
        have NB240_327 := n18_
        have NB327_240 := n19_
        have NB262_327 := n20_
        have NB327_262 := n21_
        have NB269_327 := n22_
        have NB327_269 := n23_
        have NB276_327 := n24_
        have NB327_276 := n25_
        have NB284_327 := n26_
        have NB327_284 := n27_
        have HB := n28_
        clear n0_ n1_ n2_ n3_ n4_ n5_ n6_ n7_ n8_ n9_ n10_ n11_ n12_ n13_ n14_ n15_ n16_ n17_ n18_ n19_ n20_ n21_ n22_ n23_ n24_ n25_ n26_ n27_ n28_
        have hHeld : w193.cell? ⟨gb239, 0, none⟩ = some (.int .i64 a0_0) ∧ w193.cell? ⟨gb239, 1, none⟩ = some (.int .i64 a0_1) ∧ w193.cell? ⟨gb239, 2, none⟩ = some (.int .i64 a0_2) ∧ w193.cell? ⟨gb239, 3, none⟩ = some (.slice A0_3 l0_3.length c0_3) ∧ w193.cell? ⟨gb240, 0, none⟩ = some (.int .i64 a1_0) ∧ w193.cell? ⟨gb240, 1, none⟩ = some (.int .i64 a1_1) ∧ w193.cell? ⟨gb240, 2, none⟩ = some (.int .i64 a1_2) ∧ w193.cell? ⟨gb240, 3, none⟩ = some (.slice A1_3 l1_3.length c1_3) := hS_
        obtain ⟨Ao197, co197, eo197⟩ := Kd.R_slice HO325.out
        (first | subst eo197 | (injection eo197 with f1_ f2_ f3_; have f4_ := f1_.symm; have f5_ := f3_.symm; clear f1_ f2_ f3_; subst f4_; subst f5_))
        refine norm_ (a' := ?_) ?_ ?_
        rotate_left
        ·
         simp only [putAll, Act.put, setIfInBounds_toArray, set_cons_zero, set_cons_succ]
         rfl
        refine one_ (i := 9) (N := none) #[true, true, true, true, true, true, true, true, true, true, false] rfl rfl (one_of HT_.out (by kernel_rfl)) (by decide) (fun K hK => ?_)
        have hs194 : w193.cell? ⟨gb327, 0, none⟩ = some (.int .i64 0) := bc BK327 0
        have hfs194 := blk_frozen BK327.out 0
        have hns194_0 := NB239_327.out
        have hns194_1 := NB240_327.out
        have hns194_2 := NB262_327.out
        have hns194_3 := NB269_327.out
        have hns194_4 := NB276_327.out
        have hns194_5 := NB284_327.out
        have hms194_0 := NB327_239.out
        have hms194_1 := NB327_240.out
        have hms194_2 := NB327_262.out
        have hms194_3 := NB327_269.out
        have hms194_4 := NB327_276.out
        have hms194_5 := NB327_284.out
        have hs195 : w193.cell? ⟨gb327, 1, none⟩ = some (.int .i64 0) := bc BK327 1
        have hfs195 := blk_frozen BK327.out 1
        have hns195_0 := NB239_327.out
        have hns195_1 := NB240_327.out
        have hns195_2 := NB262_327.out
        have hns195_3 := NB269_327.out
        have hns195_4 := NB276_327.out
        have hns195_5 := NB284_327.out
        have hms195_0 := NB327_239.out
        have hms195_1 := NB327_240.out
        have hms195_2 := NB327_262.out
        have hms195_3 := NB327_269.out
        have hms195_4 := NB327_276.out
        have hms195_5 := NB327_284.out
        have hs196 : w193.cell? ⟨gb327, 2, none⟩ = some (.int .i64 0) := bc BK327 2
        have hfs196 := blk_frozen BK327.out 2
        have hns196_0 := NB239_327.out
        have hns196_1 := NB240_327.out
        have hns196_2 := NB262_327.out
        have hns196_3 := NB269_327.out
        have hns196_4 := NB276_327.out
        have hns196_5 := NB284_327.out
        have hms196_0 := NB327_239.out
        have hms196_1 := NB327_240.out
        have hms196_2 := NB327_262.out
        have hms196_3 := NB327_269.out
        have hms196_4 := NB327_276.out
        have hms196_5 := NB327_284.out
        have hs198 : w193.cell? ⟨gb327, 3, none⟩ = some (.slice none 0 0) := bc BK327 3
        have hfs198 := blk_frozen BK327.out 3
        have hns198_0 := NB239_327.out
        have hns198_1 := NB240_327.out
        have hns198_2 := NB262_327.out
        have hns198_3 := NB269_327.out
        have hns198_4 := NB276_327.out
        have hns198_5 := NB284_327.out
        have hms198_0 := NB327_239.out
        have hms198_1 := NB327_240.out
        have hms198_2 := NB327_262.out
        have hms198_3 := NB327_269.out
        have hms198_4 := NB327_276.out
        have hms198_5 := NB327_284.out
        refine skip_ (w1 := ?_) (by rfl) rfl ?_ ?_
        rotate_left
        ·
         go_simp
         rfl
        refine hK.out _ _ ⟨((cell_far (p := ⟨gb327, _, none⟩) NB239_327.out _).trans (((cell_far (p := ⟨gb327, _, none⟩) NB239_327.out _).trans (((cell_far (p := ⟨gb327, _, none⟩) NB239_327.out _).trans (((cell_far (p := ⟨gb327, _, none⟩) NB239_327.out _).trans (hHeld.1)))))))), ((cell_far (p := ⟨gb327, _, none⟩) NB239_327.out _).trans (((cell_far (p := ⟨gb327, _, none⟩) NB239_327.out _).trans (((cell_far (p := ⟨gb327, _, none⟩) NB239_327.out _).trans (((cell_far (p := ⟨gb327, _, none⟩) NB239_327.out _).trans (hHeld.2.1)))))))), ((cell_far (p := ⟨gb327, _, none⟩) NB239_327.out _).trans (((cell_far (p := ⟨gb327, _, none⟩) NB239_327.out _).trans (((cell_far (p := ⟨gb327, _, none⟩) NB239_327.out _).trans (((cell_far (p := ⟨gb327, _, none⟩) NB239_327.out _).trans (hHeld.2.2.1)))))))), ((cell_far (p := ⟨gb327, _, none⟩) NB239_327.out _).trans (((cell_far (p := ⟨gb327, _, none⟩) NB239_327.out _).trans (((cell_far (p := ⟨gb327, _, none⟩) NB239_327.out _).trans (((cell_far (p := ⟨gb327, _, none⟩) NB239_327.out _).trans (hHeld.2.2.2.1)))))))), ((cell_far (p := ⟨gb327, _, none⟩) NB240_327.out _).trans (((cell_far (p := ⟨gb327, _, none⟩) NB240_327.out _).trans (((cell_far (p := ⟨gb327, _, none⟩) NB240_327.out _).trans (((cell_far (p := ⟨gb327, _, none⟩) NB240_327.out _).trans (hHeld.2.2.2.2.1)))))))), ((cell_far (p := ⟨gb327, _, none⟩) NB240_327.out _).trans (((cell_far (p := ⟨gb327, _, none⟩) NB240_327.out _).trans (((cell_far (p := ⟨gb327, _, none⟩) NB240_327.out _).trans (((cell_far (p := ⟨gb327, _, none⟩) NB240_327.out _).trans (hHeld.2.2.2.2.2.1)))))))), ((cell_far (p := ⟨gb327, _, none⟩) NB240_327.out _).trans (((cell_far (p := ⟨gb327, _, none⟩) NB240_327.out _).trans (((cell_far (p := ⟨gb327, _, none⟩) NB240_327.out _).trans (((cell_far (p := ⟨gb327, _, none⟩) NB240_327.out _).trans (hHeld.2.2.2.2.2.2.1)))))))), ((cell_far (p := ⟨gb327, _, none⟩) NB240_327.out _).trans (((cell_far (p := ⟨gb327, _, none⟩) NB240_327.out _).trans (((cell_far (p := ⟨gb327, _, none⟩) NB240_327.out _).trans (((cell_far (p := ⟨gb327, _, none⟩) NB240_327.out _).trans (hHeld.2.2.2.2.2.2.2))))))))⟩ (fun hHeld => ?_)
        clear hK K
        refine pure_ (i := 10) (N := some 16) (v := ?_) (a' := ?_) #[true, true, true, true, true, true, true, true, true, true, true] rfl rfl (any_of HT_.out (by kernel_rfl)) (fun _ _ _ h => h) (Or.inl ⟨by rfl, ?_⟩) ?_ ?_
        rotate_left
        ·
         intro w'
         go_simp
         with_reducible rfl
        rotate_left
        ·
         simp only [Act.put, setIfInBounds_toArray, set_cons_zero, set_cons_succ, i64_w, i32_w]
         rfl
        refine done_ (done_of HT_.out (by kernel_rfl)) ?_
        go_upto_region 32 with (fail)
        go_cut [110] (fun v110 wc => ∃ (kq : Nat) (x110_175 : Bool), v110 = .bool x110_175 ∧ Aside0 (laws_FnExactUnionBloom.j2 kq t305 x110_175 t277 t278 t279 t306 = some r) ∧ Aside0 (kq ≤ kj109) ∧ Aside0 (Kd.R (Kd.int .i64) 3 wc w.heap.size (fun k_ => some k_ ≠ ((.slice Ao54 t301.length co54) : Value).ownBlock ∧ some k_ ≠ ((.slice Ao64 t303.length co64) : Value).ownBlock ∧ some k_ ≠ ((.slice Ao74 t280.length co74) : Value).ownBlock ∧ some k_ ≠ ((.slice Ao197 t323.length co197) : Value).ownBlock) (.slice Ao44 t258.length co44) t258) ∧ Aside0 (Kd.R (Kd.int .i64) 3 wc w.heap.size (fun k_ => some k_ ≠ ((.slice Ao44 t258.length co44) : Value).ownBlock ∧ some k_ ≠ ((.slice Ao64 t303.length co64) : Value).ownBlock ∧ some k_ ≠ ((.slice Ao74 t280.length co74) : Value).ownBlock ∧ some k_ ≠ ((.slice Ao197 t323.length co197) : Value).ownBlock) (.slice Ao54 t301.length co54) t301) ∧ Aside0 (Kd.R (Kd.int .i64) 3 wc w.heap.size (fun k_ => some k_ ≠ ((.slice Ao44 t258.length co44) : Value).ownBlock ∧ some k_ ≠ ((.slice Ao54 t301.length co54) : Value).ownBlock ∧ some k_ ≠ ((.slice Ao74 t280.length co74) : Value).ownBlock ∧ some k_ ≠ ((.slice Ao197 t323.length co197) : Value).ownBlock) (.slice Ao64 t303.length co64) t303) ∧ Aside0 (Kd.R (Kd.int .i64) 3 wc w.heap.size (fun k_ => some k_ ≠ ((.slice Ao44 t258.length co44) : Value).ownBlock ∧ some k_ ≠ ((.slice Ao54 t301.length co54) : Value).ownBlock ∧ some k_ ≠ ((.slice Ao64 t303.length co64) : Value).ownBlock ∧ some k_ ≠ ((.slice Ao197 t323.length co197) : Value).ownBlock) (.slice Ao74 t280.length co74) t306) ∧ Aside0 (Kd.R (Kd.int .i64) 3 wc w.heap.size (fun k_ => some k_ ≠ ((.slice Ao44 t258.length co44) : Value).ownBlock ∧ some k_ ≠ ((.slice Ao54 t301.length co54) : Value).ownBlock ∧ some k_ ≠ ((.slice Ao64 t303.length co64) : Value).ownBlock ∧ some k_ ≠ ((.slice Ao74 t280.length co74) : Value).ownBlock) (.slice Ao197 t323.length co197) t323) ∧ Aside0 (wc.heap[gb239]? = some (.cells #[.int .i64 a0_0, .int .i64 a0_1, .int .i64 a0_2, (.slice A0_3 l0_3.length c0_3)] 36 (0, 0))) ∧ Aside0 (wc.heap[gb240]? = some (.cells #[.int .i64 a1_0, .int .i64 a1_1, .int .i64 a1_2, (.slice A1_3 l1_3.length c1_3)] 36 (0, 0))) ∧ Aside0 (wc.heap[gb262]? = some (.cells #[.int .i64 t255, .int .i64 t256, .int .i64 t257, (.slice Ao44 t258.length co44)] 40 (0, 0))) ∧ Aside0 (wc.heap[gb269]? = some (.cells #[.int .i64 t263, .int .i64 t264, .int .i64 t265, (.slice Ao54 t301.length co54)] 40 (0, 0))) ∧ Aside0 (wc.heap[gb276]? = some (.cells #[.int .i64 t270, .int .i64 t271, .int .i64 t272, (.slice Ao64 t303.length co64)] 40 (0, 0))) ∧ Aside0 (wc.heap[gb284]? = some (.cells #[.int .i64 t277, .int .i64 t278, .int .i64 t279, (.slice Ao74 t280.length co74)] 40 (0, 0))) ∧ Aside0 (wc.heap[gb327]? = some (.cells #[.int .i64 t320, .int .i64 t321, .int .i64 t322, (.slice Ao197 t323.length co197)] 40 (0, 0))) ∧ Aside0 (Below w.heap.size w wc))
        case first =>
         have H := HC176.out
         clear HC176
         replace H := Option.bind_eq_some_iff.mp H
         obtain ⟨t328, A1990, H⟩ := H
         try dsimp only at H
         have A199 := Aside0.mk A1990
         clear A1990
         by_cases c200 : t328 = true
         ·
          subst c200
          rw [if_pos rfl] at H
          have H' := Aside0.mk H
          clear H
          have hnb201 := NB327_239.out
          have hnc201 := NB239_327.out
          have hnb202 := NB327_240.out
          have hnc202 := NB240_327.out
          have hnb203 := NB327_262.out
          have hnc203 := NB262_327.out
          have hnb204 := NB327_269.out
          have hnc204 := NB269_327.out
          have hnb205 := NB327_276.out
          have hnc205 := NB276_327.out
          have hnb206 := NB327_284.out
          have hnc206 := NB284_327.out
          obtain ⟨hcz207_0, hcz207_1, hcz207_2, hcz207_3, hfz207_0, hfz207_1, hfz207_2, hfz207_3⟩ := ce4 BK327
          have hnb208 := NB262_239.out
          have hnc208 := NB239_262.out
          have hnb209 := NB262_240.out
          have hnc209 := NB240_262.out
          have hnb210 := NB262_269.out
          have hnc210 := NB269_262.out
          have hnb211 := NB262_276.out
          have hnc211 := NB276_262.out
          have hnb212 := NB262_284.out
          have hnc212 := NB284_262.out
          obtain ⟨hcz213_0, hcz213_1, hcz213_2, hcz213_3, hfz213_0, hfz213_1, hfz213_2, hfz213_3⟩ := ce4 BK262
          go_wp2_with (first | ((with_reducible refine gate_callee (f := 20) rfl ?_); refine goesL_ (some 104) rfl rfl Try.func20 (by kernel_rfl) rfl #[.agg #[.int .i64 t320, .int .i64 t321, .int .i64 t322, .slice Ao197 t323.length co197], .agg #[.int .i64 t255, .int .i64 t256, .int .i64 t257, .slice Ao44 t258.length co44]] rfl (by (try simp only [List.map_toArray, List.map_cons, List.map_nil]); first | done | rfl) ?_; (with_reducible refine (laws_eqBloom.calls kj109 t320 t321 t322 _ _ t323 t255 t256 t257 _ _ t258 true _ ?side1 ?side2 ?side3 ?side4 A199.out).mono ?_); (case side1 => refine (Kd.R_reads' (e := 3) (base := w.heap.size) (ok := fun k_ => (some k_ ≠ (v312 : Value).ownBlock ∧ (some k_ ≠ (v318 : Value).ownBlock ∧ (some k_ ≠ (.slice Ao44 t258.length co44 : Value).ownBlock ∧ (some k_ ≠ (.slice Ao54 t301.length co54 : Value).ownBlock ∧ (some k_ ≠ (.slice Ao64 t303.length co64 : Value).ownBlock ∧ some k_ ≠ (.slice Ao74 t280.length co74 : Value).ownBlock)))))) (n := t323.length) (c := co197) ?_).2.2; exact (fS HO325 BK327 (by decide))); (case side2 => exact (Kd.R_reads' HO325.out).2.1); (case side3 => refine (Kd.R_reads' (e := 3) (base := w.heap.size) (ok := fun k_ => (some k_ ≠ (v312 : Value).ownBlock ∧ (some k_ ≠ (v318 : Value).ownBlock ∧ (some k_ ≠ (.slice Ao197 t323.length co197 : Value).ownBlock ∧ (some k_ ≠ (.slice Ao54 t301.length co54 : Value).ownBlock ∧ (some k_ ≠ (.slice Ao64 t303.length co64 : Value).ownBlock ∧ some k_ ≠ (.slice Ao74 t280.length co74 : Value).ownBlock)))))) (n := t258.length) (c := co44) ?_).2.2; exact (fS HO_263003 BK327 (by decide))); (case side4 => exact (Kd.R_reads' HO_263003.out).2.1); rintro e w214 ⟨rfl, hb⟩; refine ⟨_, rfl, ?_⟩; replace HO_263003 := Aside0.mk (Kd.R_below (fS HO_263003 BK327 (by decide)) hb); replace HO_270003 := Aside0.mk (Kd.R_below (fS HO_270003 BK327 (by decide)) hb); replace HO_277003 := Aside0.mk (Kd.R_below (fS HO_277003 BK327 (by decide)) hb); replace HO_285003 := Aside0.mk (Kd.R_below (fS HO_285003 BK327 (by decide)) hb); replace HO313 := Aside0.mk (Kd.R_below (fS HO313 BK327 (by decide)) hb); replace HO319 := Aside0.mk (Kd.R_below (fS HO319 BK327 (by decide)) hb); replace HO325 := Aside0.mk (Kd.R_below (fS HO325 BK327 (by decide)) hb); replace BK239 := Aside0.mk (blk_below (g := gb239) (o := .cells #[.int .i64 a0_0, .int .i64 a0_1, .int .i64 a0_2, .slice A0_3 l0_3.length c0_3] 36 (0, 0)) (by refine uW ?_; refine blk_far ?_ NB239_327.out _; refine uW ?_; refine blk_far ?_ NB239_327.out _; refine uW ?_; refine blk_far ?_ NB239_327.out _; refine uW ?_; refine blk_far ?_ NB239_327.out _; refine uW ?_; exact BK239.out) hb); replace BK240 := Aside0.mk (blk_below (g := gb240) (o := .cells #[.int .i64 a1_0, .int .i64 a1_1, .int .i64 a1_2, .slice A1_3 l1_3.length c1_3] 36 (0, 0)) (by refine uW ?_; refine blk_far ?_ NB240_327.out _; refine uW ?_; refine blk_far ?_ NB240_327.out _; refine uW ?_; refine blk_far ?_ NB240_327.out _; refine uW ?_; refine blk_far ?_ NB240_327.out _; refine uW ?_; exact BK240.out) hb); replace BK262 := Aside0.mk (blk_below (g := gb262) (o := .cells #[.int .i64 t255, .int .i64 t256, .int .i64 t257, .slice Ao44 t258.length co44] 40 (0, 0)) (by refine uW ?_; refine blk_far ?_ NB262_327.out _; refine uW ?_; refine blk_far ?_ NB262_327.out _; refine uW ?_; refine blk_far ?_ NB262_327.out _; refine uW ?_; refine blk_far ?_ NB262_327.out _; refine uW ?_; exact BK262.out) hb); replace BK269 := Aside0.mk (blk_below (g := gb269) (o := .cells #[.int .i64 t263, .int .i64 t264, .int .i64 t265, .slice Ao54 t301.length co54] 40 (0, 0)) (by refine uW ?_; refine blk_far ?_ NB269_327.out _; refine uW ?_; refine blk_far ?_ NB269_327.out _; refine uW ?_; refine blk_far ?_ NB269_327.out _; refine uW ?_; refine blk_far ?_ NB269_327.out _; refine uW ?_; exact BK269.out) hb); replace BK276 := Aside0.mk (blk_below (g := gb276) (o := .cells #[.int .i64 t270, .int .i64 t271, .int .i64 t272, .slice Ao64 t303.length co64] 40 (0, 0)) (by refine uW ?_; refine blk_far ?_ NB276_327.out _; refine uW ?_; refine blk_far ?_ NB276_327.out _; refine uW ?_; refine blk_far ?_ NB276_327.out _; refine uW ?_; refine blk_far ?_ NB276_327.out _; refine uW ?_; exact BK276.out) hb); replace BK284 := Aside0.mk (blk_below (g := gb284) (o := .cells #[.int .i64 t277, .int .i64 t278, .int .i64 t279, .slice Ao74 t280.length co74] 40 (0, 0)) (by refine uW ?_; refine blk_far ?_ NB284_327.out _; refine uW ?_; refine blk_far ?_ NB284_327.out _; refine uW ?_; refine blk_far ?_ NB284_327.out _; refine uW ?_; refine blk_far ?_ NB284_327.out _; refine uW ?_; exact BK284.out) hb); replace BK327 := Aside0.mk (blk_below (g := gb327) (o := .cells #[.int .i64 t320, .int .i64 t321, .int .i64 t322, .slice Ao197 t323.length co197] 40 (0, 0)) (by refine uW ?_; refine blk_put (cs := #[.int .i64 t320, .int .i64 t321, .int .i64 t322, .slice none 0 0]) ?_ 3 _ rfl; refine uW ?_; refine blk_put (cs := #[.int .i64 t320, .int .i64 t321, .int .i64 0, .slice none 0 0]) ?_ 2 _ rfl; refine uW ?_; refine blk_put (cs := #[.int .i64 t320, .int .i64 0, .int .i64 0, .slice none 0 0]) ?_ 1 _ rfl; refine uW ?_; refine blk_put (cs := #[.int .i64 0, .int .i64 0, .int .i64 0, .slice none 0 0]) ?_ 0 _ rfl; refine uW ?_; exact BK327.out) hb); replace HB := Aside0.mk (below_step (uN HB) hb); (try clear hb); (try clear hb2); (try clear hk); (try clear hi)))
          go_meet
          case rel => exact ⟨_, ((t326 != t261)), (by first | rfl | (simp; done) | (simp [*]; done)), H', ⟨by have := HJ24.out; have := HJ109.out; first | omega | exact Nat.le_refl _⟩, ⟨by (try simp only [hl270003_109]); (try simp only [hl277003_109]); (with_reducible repeat (first | apply Kd.R_alloc | apply Kd.R_drewN | apply Kd.R_drew)); exact Kd.R_mono HO_263003.out (fun _ hk => ⟨hk.2.2.2.1, ⟨hk.2.2.2.2.1, ⟨hk.2.2.2.2.2, hk.2.2.1⟩⟩⟩)⟩, ⟨by (try simp only [hl270003_109]); (try simp only [hl277003_109]); (with_reducible repeat (first | apply Kd.R_alloc | apply Kd.R_drewN | apply Kd.R_drew)); exact Kd.R_mono HO_270003.out (fun _ hk => ⟨hk.2.2.2.1, ⟨hk.2.2.2.2.1, ⟨hk.2.2.2.2.2, hk.2.2.1⟩⟩⟩)⟩, ⟨by (try simp only [hl270003_109]); (try simp only [hl277003_109]); (with_reducible repeat (first | apply Kd.R_alloc | apply Kd.R_drewN | apply Kd.R_drew)); exact Kd.R_mono HO_277003.out (fun _ hk => ⟨hk.2.2.2.1, ⟨hk.2.2.2.2.1, ⟨hk.2.2.2.2.2, hk.2.2.1⟩⟩⟩)⟩, ⟨by (try simp only [hl270003_109]); (try simp only [hl277003_109]); (with_reducible repeat (first | apply Kd.R_alloc | apply Kd.R_drewN | apply Kd.R_drew)); exact Kd.R_mono HO_285003.out (fun _ hk => ⟨hk.2.2.2.1, ⟨hk.2.2.2.2.1, ⟨hk.2.2.2.2.2, hk.2.2.1⟩⟩⟩)⟩, ⟨by (try simp only [hl270003_109]); (try simp only [hl277003_109]); (with_reducible repeat (first | apply Kd.R_alloc | apply Kd.R_drewN | apply Kd.R_drew)); exact Kd.R_mono HO325.out (fun _ hk => ⟨hk.2.2.1, ⟨hk.2.2.2.1, ⟨hk.2.2.2.2.1, hk.2.2.2.2.2⟩⟩⟩)⟩, ⟨by (try simp only [hl270003_109]); (try simp only [hl277003_109]); refine uW ?_; exact BK239.out⟩, ⟨by (try simp only [hl270003_109]); (try simp only [hl277003_109]); refine uW ?_; exact BK240.out⟩, ⟨by (try simp only [hl270003_109]); (try simp only [hl277003_109]); refine uW ?_; exact BK262.out⟩, ⟨by (try simp only [hl270003_109]); (try simp only [hl277003_109]); refine uW ?_; exact BK269.out⟩, ⟨by (try simp only [hl270003_109]); (try simp only [hl277003_109]); refine uW ?_; exact BK276.out⟩, ⟨by (try simp only [hl270003_109]); (try simp only [hl277003_109]); refine uW ?_; exact BK284.out⟩, ⟨by (try simp only [hl270003_109]); (try simp only [hl277003_109]); refine uW ?_; exact BK327.out⟩, ⟨uN HB⟩⟩
         replace c200 := Bool.eq_false_iff.mpr c200
         subst c200
         rw [if_neg (show ¬ (false = true) by decide)] at H
         have H' := Aside0.mk H
         clear H
         have hnb215 := NB327_239.out
         have hnc215 := NB239_327.out
         have hnb216 := NB327_240.out
         have hnc216 := NB240_327.out
         have hnb217 := NB327_262.out
         have hnc217 := NB262_327.out
         have hnb218 := NB327_269.out
         have hnc218 := NB269_327.out
         have hnb219 := NB327_276.out
         have hnc219 := NB276_327.out
         have hnb220 := NB327_284.out
         have hnc220 := NB284_327.out
         obtain ⟨hcz221_0, hcz221_1, hcz221_2, hcz221_3, hfz221_0, hfz221_1, hfz221_2, hfz221_3⟩ := ce4 BK327
         have hnb222 := NB262_239.out
         have hnc222 := NB239_262.out
         have hnb223 := NB262_240.out
         have hnc223 := NB240_262.out
         have hnb224 := NB262_269.out
         have hnc224 := NB269_262.out
         have hnb225 := NB262_276.out
         have hnc225 := NB276_262.out
         have hnb226 := NB262_284.out
         have hnc226 := NB284_262.out
         obtain ⟨hcz227_0, hcz227_1, hcz227_2, hcz227_3, hfz227_0, hfz227_1, hfz227_2, hfz227_3⟩ := ce4 BK262
         go_wp2_with (first | ((with_reducible refine gate_callee (f := 20) rfl ?_); refine goesL_ (some 104) rfl rfl Try.func20 (by kernel_rfl) rfl #[.agg #[.int .i64 t320, .int .i64 t321, .int .i64 t322, .slice Ao197 t323.length co197], .agg #[.int .i64 t255, .int .i64 t256, .int .i64 t257, .slice Ao44 t258.length co44]] rfl (by (try simp only [List.map_toArray, List.map_cons, List.map_nil]); first | done | rfl) ?_; (with_reducible refine (laws_eqBloom.calls kj109 t320 t321 t322 _ _ t323 t255 t256 t257 _ _ t258 false _ ?side1 ?side2 ?side3 ?side4 A199.out).mono ?_); (case side1 => refine (Kd.R_reads' (e := 3) (base := w.heap.size) (ok := fun k_ => (some k_ ≠ (v312 : Value).ownBlock ∧ (some k_ ≠ (v318 : Value).ownBlock ∧ (some k_ ≠ (.slice Ao44 t258.length co44 : Value).ownBlock ∧ (some k_ ≠ (.slice Ao54 t301.length co54 : Value).ownBlock ∧ (some k_ ≠ (.slice Ao64 t303.length co64 : Value).ownBlock ∧ some k_ ≠ (.slice Ao74 t280.length co74 : Value).ownBlock)))))) (n := t323.length) (c := co197) ?_).2.2; exact (fS HO325 BK327 (by decide))); (case side2 => exact (Kd.R_reads' HO325.out).2.1); (case side3 => refine (Kd.R_reads' (e := 3) (base := w.heap.size) (ok := fun k_ => (some k_ ≠ (v312 : Value).ownBlock ∧ (some k_ ≠ (v318 : Value).ownBlock ∧ (some k_ ≠ (.slice Ao197 t323.length co197 : Value).ownBlock ∧ (some k_ ≠ (.slice Ao54 t301.length co54 : Value).ownBlock ∧ (some k_ ≠ (.slice Ao64 t303.length co64 : Value).ownBlock ∧ some k_ ≠ (.slice Ao74 t280.length co74 : Value).ownBlock)))))) (n := t258.length) (c := co44) ?_).2.2; exact (fS HO_263003 BK327 (by decide))); (case side4 => exact (Kd.R_reads' HO_263003.out).2.1); rintro e w228 ⟨rfl, hb⟩; refine ⟨_, rfl, ?_⟩; replace HO_263003 := Aside0.mk (Kd.R_below (fS HO_263003 BK327 (by decide)) hb); replace HO_270003 := Aside0.mk (Kd.R_below (fS HO_270003 BK327 (by decide)) hb); replace HO_277003 := Aside0.mk (Kd.R_below (fS HO_277003 BK327 (by decide)) hb); replace HO_285003 := Aside0.mk (Kd.R_below (fS HO_285003 BK327 (by decide)) hb); replace HO313 := Aside0.mk (Kd.R_below (fS HO313 BK327 (by decide)) hb); replace HO319 := Aside0.mk (Kd.R_below (fS HO319 BK327 (by decide)) hb); replace HO325 := Aside0.mk (Kd.R_below (fS HO325 BK327 (by decide)) hb); replace BK239 := Aside0.mk (blk_below (g := gb239) (o := .cells #[.int .i64 a0_0, .int .i64 a0_1, .int .i64 a0_2, .slice A0_3 l0_3.length c0_3] 36 (0, 0)) (by refine uW ?_; refine blk_far ?_ NB239_327.out _; refine uW ?_; refine blk_far ?_ NB239_327.out _; refine uW ?_; refine blk_far ?_ NB239_327.out _; refine uW ?_; refine blk_far ?_ NB239_327.out _; refine uW ?_; exact BK239.out) hb); replace BK240 := Aside0.mk (blk_below (g := gb240) (o := .cells #[.int .i64 a1_0, .int .i64 a1_1, .int .i64 a1_2, .slice A1_3 l1_3.length c1_3] 36 (0, 0)) (by refine uW ?_; refine blk_far ?_ NB240_327.out _; refine uW ?_; refine blk_far ?_ NB240_327.out _; refine uW ?_; refine blk_far ?_ NB240_327.out _; refine uW ?_; refine blk_far ?_ NB240_327.out _; refine uW ?_; exact BK240.out) hb); replace BK262 := Aside0.mk (blk_below (g := gb262) (o := .cells #[.int .i64 t255, .int .i64 t256, .int .i64 t257, .slice Ao44 t258.length co44] 40 (0, 0)) (by refine uW ?_; refine blk_far ?_ NB262_327.out _; refine uW ?_; refine blk_far ?_ NB262_327.out _; refine uW ?_; refine blk_far ?_ NB262_327.out _; refine uW ?_; refine blk_far ?_ NB262_327.out _; refine uW ?_; exact BK262.out) hb); replace BK269 := Aside0.mk (blk_below (g := gb269) (o := .cells #[.int .i64 t263, .int .i64 t264, .int .i64 t265, .slice Ao54 t301.length co54] 40 (0, 0)) (by refine uW ?_; refine blk_far ?_ NB269_327.out _; refine uW ?_; refine blk_far ?_ NB269_327.out _; refine uW ?_; refine blk_far ?_ NB269_327.out _; refine uW ?_; refine blk_far ?_ NB269_327.out _; refine uW ?_; exact BK269.out) hb); replace BK276 := Aside0.mk (blk_below (g := gb276) (o := .cells #[.int .i64 t270, .int .i64 t271, .int .i64 t272, .slice Ao64 t303.length co64] 40 (0, 0)) (by refine uW ?_; refine blk_far ?_ NB276_327.out _; refine uW ?_; refine blk_far ?_ NB276_327.out _; refine uW ?_; refine blk_far ?_ NB276_327.out _; refine uW ?_; refine blk_far ?_ NB276_327.out _; refine uW ?_; exact BK276.out) hb); replace BK284 := Aside0.mk (blk_below (g := gb284) (o := .cells #[.int .i64 t277, .int .i64 t278, .int .i64 t279, .slice Ao74 t280.length co74] 40 (0, 0)) (by refine uW ?_; refine blk_far ?_ NB284_327.out _; refine uW ?_; refine blk_far ?_ NB284_327.out _; refine uW ?_; refine blk_far ?_ NB284_327.out _; refine uW ?_; refine blk_far ?_ NB284_327.out _; refine uW ?_; exact BK284.out) hb); replace BK327 := Aside0.mk (blk_below (g := gb327) (o := .cells #[.int .i64 t320, .int .i64 t321, .int .i64 t322, .slice Ao197 t323.length co197] 40 (0, 0)) (by refine uW ?_; refine blk_put (cs := #[.int .i64 t320, .int .i64 t321, .int .i64 t322, .slice none 0 0]) ?_ 3 _ rfl; refine uW ?_; refine blk_put (cs := #[.int .i64 t320, .int .i64 t321, .int .i64 0, .slice none 0 0]) ?_ 2 _ rfl; refine uW ?_; refine blk_put (cs := #[.int .i64 t320, .int .i64 0, .int .i64 0, .slice none 0 0]) ?_ 1 _ rfl; refine uW ?_; refine blk_put (cs := #[.int .i64 0, .int .i64 0, .int .i64 0, .slice none 0 0]) ?_ 0 _ rfl; refine uW ?_; exact BK327.out) hb); replace HB := Aside0.mk (below_step (uN HB) hb); (try clear hb); (try clear hb2); (try clear hk); (try clear hi)))
         go_meet
         case rel => exact ⟨_, (true), (by first | rfl | (simp; done) | (simp [*]; done)), H', ⟨by have := HJ24.out; have := HJ109.out; first | omega | exact Nat.le_refl _⟩, ⟨by (try simp only [hl270003_109]); (try simp only [hl277003_109]); (with_reducible repeat (first | apply Kd.R_alloc | apply Kd.R_drewN | apply Kd.R_drew)); exact Kd.R_mono HO_263003.out (fun _ hk => ⟨hk.2.2.2.1, ⟨hk.2.2.2.2.1, ⟨hk.2.2.2.2.2, hk.2.2.1⟩⟩⟩)⟩, ⟨by (try simp only [hl270003_109]); (try simp only [hl277003_109]); (with_reducible repeat (first | apply Kd.R_alloc | apply Kd.R_drewN | apply Kd.R_drew)); exact Kd.R_mono HO_270003.out (fun _ hk => ⟨hk.2.2.2.1, ⟨hk.2.2.2.2.1, ⟨hk.2.2.2.2.2, hk.2.2.1⟩⟩⟩)⟩, ⟨by (try simp only [hl270003_109]); (try simp only [hl277003_109]); (with_reducible repeat (first | apply Kd.R_alloc | apply Kd.R_drewN | apply Kd.R_drew)); exact Kd.R_mono HO_277003.out (fun _ hk => ⟨hk.2.2.2.1, ⟨hk.2.2.2.2.1, ⟨hk.2.2.2.2.2, hk.2.2.1⟩⟩⟩)⟩, ⟨by (try simp only [hl270003_109]); (try simp only [hl277003_109]); (with_reducible repeat (first | apply Kd.R_alloc | apply Kd.R_drewN | apply Kd.R_drew)); exact Kd.R_mono HO_285003.out (fun _ hk => ⟨hk.2.2.2.1, ⟨hk.2.2.2.2.1, ⟨hk.2.2.2.2.2, hk.2.2.1⟩⟩⟩)⟩, ⟨by (try simp only [hl270003_109]); (try simp only [hl277003_109]); (with_reducible repeat (first | apply Kd.R_alloc | apply Kd.R_drewN | apply Kd.R_drew)); exact Kd.R_mono HO325.out (fun _ hk => ⟨hk.2.2.1, ⟨hk.2.2.2.1, ⟨hk.2.2.2.2.1, hk.2.2.2.2.2⟩⟩⟩)⟩, ⟨by (try simp only [hl270003_109]); (try simp only [hl277003_109]); refine uW ?_; exact BK239.out⟩, ⟨by (try simp only [hl270003_109]); (try simp only [hl277003_109]); refine uW ?_; exact BK240.out⟩, ⟨by (try simp only [hl270003_109]); (try simp only [hl277003_109]); refine uW ?_; exact BK262.out⟩, ⟨by (try simp only [hl270003_109]); (try simp only [hl277003_109]); refine uW ?_; exact BK269.out⟩, ⟨by (try simp only [hl270003_109]); (try simp only [hl277003_109]); refine uW ?_; exact BK276.out⟩, ⟨by (try simp only [hl270003_109]); (try simp only [hl277003_109]); refine uW ?_; exact BK284.out⟩, ⟨by (try simp only [hl270003_109]); (try simp only [hl277003_109]); refine uW ?_; exact BK327.out⟩, ⟨uN HB⟩⟩
        case rest =>
         clear HC176
         try clear c1
         try clear c2
         try clear p2
         try clear c18
         try clear c19
         try clear c20
         try clear c21
         try clear c22
         try clear c200
         try clear c201
         try clear c202
         try clear c203
         try clear c204
         try clear c205
         try clear c206
         try clear c208
         try clear c209
         try clear c210
         try clear c211
         try clear c212
         try clear c215
         try clear c216
         try clear c217
         try clear c218
         try clear c219
         try clear c220
         try clear c222
         try clear c223
         try clear c224
         try clear c225
         try clear c226
         try clear hcz207_0
         try clear hcz207_1
         try clear hcz207_2
         try clear hcz207_3
         try clear hcz213_0
         try clear hcz213_1
         try clear hcz213_2
         try clear hcz213_3
         try clear hcz221_0
         try clear hcz221_1
         try clear hcz221_2
         try clear hcz221_3
         try clear hcz227_0
         try clear hcz227_1
         try clear hcz227_2
         try clear hcz227_3
         try clear hfz207_0
         try clear hfz207_1
         try clear hfz207_2
         try clear hfz207_3
         try clear hfz213_0
         try clear hfz213_1
         try clear hfz213_2
         try clear hfz213_3
         try clear hfz221_0
         try clear hfz221_1
         try clear hfz221_2
         try clear hfz221_3
         try clear hfz227_0
         try clear hfz227_1
         try clear hfz227_2
         try clear hfz227_3
         obtain ⟨kq, x110_175, rfl, HA, HJ175, HO_263003, HO_270003, HO_277003, HO_285003, HO_328003, BK239, BK240, BK262, BK269, BK276, BK284, BK327, HB⟩ := hcut
         have hl285003_175 := (Kd.R_reads' HO_285003.out).1
         rw [hl285003_175] at HO_285003
         (try simp only [hl285003_175])
         (try simp only [hl285003_175] at BK239)
         (try simp only [hl285003_175] at BK240)
         (try simp only [hl285003_175] at BK262)
         (try simp only [hl285003_175] at BK269)
         (try simp only [hl285003_175] at BK276)
         (try simp only [hl285003_175] at BK284)
         (try simp only [hl285003_175] at BK327)
         (try simp only [hl285003_175] at HO_263003)
         (try simp only [hl285003_175] at HO_270003)
         (try simp only [hl285003_175] at HO_277003)
         (try simp only [hl285003_175] at HO_328003)
         cases kq with
         | zero => exact absurd HA.out (by simp [laws_FnExactUnionBloom.j2])
         | succ kj175 =>
          have H := HA.out
          clear HA
          simp only [laws_FnExactUnionBloom.j2] at H
          by_cases c229 : x110_175 = true
          ·
           subst c229
           rw [if_pos rfl] at H
           obtain rfl := Option.some.inj H
           go_wp2
           go_ret
           exact ⟨by first | rfl | (simp [errW_none, errW_some] <;> rfl) | (simp [*, errW_none, errW_some] <;> rfl), uN HB⟩
          replace c229 := Bool.eq_false_iff.mpr c229
          subst c229
          rw [if_neg (show ¬ (false = true) by decide)] at H
          replace H := Option.bind_eq_some_iff.mp H
          obtain ⟨t329, A2300, H⟩ := H
          try dsimp only at H
          have A230 := Aside0.mk A2300
          clear A2300
          by_cases c231 : t329 < 0
          ·
           rw [if_pos c231] at H
           have c231b0 : decide (t329 < 0) = true := decide_eq_true c231
           clear c231
           obtain rfl := Option.some.inj H
           have hnb232 := NB284_239.out
           have hnc232 := NB239_284.out
           have hnb233 := NB284_240.out
           have hnc233 := NB240_284.out
           have hnb234 := NB284_262.out
           have hnc234 := NB262_284.out
           have hnb235 := NB284_269.out
           have hnc235 := NB269_284.out
           have hnb236 := NB284_276.out
           have hnc236 := NB276_284.out
           have hnb237 := NB284_327.out
           have hnc237 := NB327_284.out
           obtain ⟨hcz238_0, hcz238_1, hcz238_2, hcz238_3, hfz238_0, hfz238_1, hfz238_2, hfz238_3⟩ := ce4 BK284
           go_wp2_with (first | ((with_reducible refine gate_callee (f := 22) rfl ?_); refine goesL_ (some 113) rfl rfl Try.func22 (by kernel_rfl) rfl #[.agg #[.int .i64 t277, .int .i64 t278, .int .i64 t279, .slice Ao74 t306.length co74], .int .i64 1] rfl (by (try simp only [List.map_toArray, List.map_cons, List.map_nil]); first | done | rfl) ?_; (with_reducible refine (laws_heldBloom.calls kj175 t277 t278 t279 _ _ t306 1 t329 _ ?side1 ?side2 A230.out).mono ?_); (case side1 => exact uD HO_285003); (case side2 => exact (Kd.R_reads' HO_285003.out).2.1); rintro e w239 ⟨rfl, hb⟩; refine ⟨_, rfl, ?_⟩; replace HO_263003 := Aside0.mk (Kd.R_below (uR HO_263003) hb); replace HO_270003 := Aside0.mk (Kd.R_below (uR HO_270003) hb); replace HO_277003 := Aside0.mk (Kd.R_below (uR HO_277003) hb); replace HO_285003 := Aside0.mk (Kd.R_below (uR HO_285003) hb); replace HO_328003 := Aside0.mk (Kd.R_below (uR HO_328003) hb); replace BK239 := kB BK239 hb; replace BK240 := kB BK240 hb; replace BK262 := kB BK262 hb; replace BK269 := kB BK269 hb; replace BK276 := kB BK276 hb; replace BK284 := kB BK284 hb; replace BK327 := kB BK327 hb; replace HB := Aside0.mk (below_step (uN HB) hb); (try clear hb); (try clear hb2); (try clear hk); (try clear hi)))
           go_ret
           exact ⟨by first | rfl | (simp [errW_none, errW_some] <;> rfl) | (simp [*, errW_none, errW_some] <;> rfl), uN HB⟩
          rw [if_neg c231] at H
          have c231b0 : decide (t329 < 0) = false := decide_eq_false c231
          clear c231
          by_cases c240 : t329 = t305
          ·
           rw [if_pos c240] at H
           have c240b0 : (t329 == t305) = true := beq_iff_eq.mpr c240
           have c240b1 : (t329 != t305) = false := bne_eq_false_iff_eq.mpr c240
           clear c240
           obtain rfl := Option.some.inj H
           have hnb241 := NB284_239.out
           have hnc241 := NB239_284.out
           have hnb242 := NB284_240.out
           have hnc242 := NB240_284.out
           have hnb243 := NB284_262.out
           have hnc243 := NB262_284.out
           have hnb244 := NB284_269.out
           have hnc244 := NB269_284.out
           have hnb245 := NB284_276.out
           have hnc245 := NB276_284.out
           have hnb246 := NB284_327.out
           have hnc246 := NB327_284.out
           obtain ⟨hcz247_0, hcz247_1, hcz247_2, hcz247_3, hfz247_0, hfz247_1, hfz247_2, hfz247_3⟩ := ce4 BK284
           go_wp2_with (first | ((with_reducible refine gate_callee (f := 22) rfl ?_); refine goesL_ (some 113) rfl rfl Try.func22 (by kernel_rfl) rfl #[.agg #[.int .i64 t277, .int .i64 t278, .int .i64 t279, .slice Ao74 t306.length co74], .int .i64 1] rfl (by (try simp only [List.map_toArray, List.map_cons, List.map_nil]); first | done | rfl) ?_; (with_reducible refine (laws_heldBloom.calls kj175 t277 t278 t279 _ _ t306 1 t329 _ ?side1 ?side2 A230.out).mono ?_); (case side1 => exact uD HO_285003); (case side2 => exact (Kd.R_reads' HO_285003.out).2.1); rintro e w248 ⟨rfl, hb⟩; refine ⟨_, rfl, ?_⟩; replace HO_263003 := Aside0.mk (Kd.R_below (uR HO_263003) hb); replace HO_270003 := Aside0.mk (Kd.R_below (uR HO_270003) hb); replace HO_277003 := Aside0.mk (Kd.R_below (uR HO_277003) hb); replace HO_285003 := Aside0.mk (Kd.R_below (uR HO_285003) hb); replace HO_328003 := Aside0.mk (Kd.R_below (uR HO_328003) hb); replace BK239 := kB BK239 hb; replace BK240 := kB BK240 hb; replace BK262 := kB BK262 hb; replace BK269 := kB BK269 hb; replace BK276 := kB BK276 hb; replace BK284 := kB BK284 hb; replace BK327 := kB BK327 hb; replace HB := Aside0.mk (below_step (uN HB) hb); (try clear hb); (try clear hb2); (try clear hk); (try clear hi)))
           go_ret
           exact ⟨by first | rfl | (simp [errW_none, errW_some] <;> rfl) | (simp [*, errW_none, errW_some] <;> rfl), uN HB⟩
          rw [if_neg c240] at H
          have c240b0 : (t329 == t305) = false := beq_eq_false_iff_ne.mpr c240
          have c240b1 : (t329 != t305) = true := bne_iff_ne.mpr c240
          obtain rfl := Option.some.inj H
          have hnb249 := NB284_239.out
          have hnc249 := NB239_284.out
          have hnb250 := NB284_240.out
          have hnc250 := NB240_284.out
          have hnb251 := NB284_262.out
          have hnc251 := NB262_284.out
          have hnb252 := NB284_269.out
          have hnc252 := NB269_284.out
          have hnb253 := NB284_276.out
          have hnc253 := NB276_284.out
          have hnb254 := NB284_327.out
          have hnc254 := NB327_284.out
          obtain ⟨hcz255_0, hcz255_1, hcz255_2, hcz255_3, hfz255_0, hfz255_1, hfz255_2, hfz255_3⟩ := ce4 BK284
          go_wp2_with (first | ((with_reducible refine gate_callee (f := 22) rfl ?_); refine goesL_ (some 113) rfl rfl Try.func22 (by kernel_rfl) rfl #[.agg #[.int .i64 t277, .int .i64 t278, .int .i64 t279, .slice Ao74 t306.length co74], .int .i64 1] rfl (by (try simp only [List.map_toArray, List.map_cons, List.map_nil]); first | done | rfl) ?_; (with_reducible refine (laws_heldBloom.calls kj175 t277 t278 t279 _ _ t306 1 t329 _ ?side1 ?side2 A230.out).mono ?_); (case side1 => exact uD HO_285003); (case side2 => exact (Kd.R_reads' HO_285003.out).2.1); rintro e w256 ⟨rfl, hb⟩; refine ⟨_, rfl, ?_⟩; replace HO_263003 := Aside0.mk (Kd.R_below (uR HO_263003) hb); replace HO_270003 := Aside0.mk (Kd.R_below (uR HO_270003) hb); replace HO_277003 := Aside0.mk (Kd.R_below (uR HO_277003) hb); replace HO_285003 := Aside0.mk (Kd.R_below (uR HO_285003) hb); replace HO_328003 := Aside0.mk (Kd.R_below (uR HO_328003) hb); replace BK239 := kB BK239 hb; replace BK240 := kB BK240 hb; replace BK262 := kB BK262 hb; replace BK269 := kB BK269 hb; replace BK276 := kB BK276 hb; replace BK284 := kB BK284 hb; replace BK327 := kB BK327 hb; replace HB := Aside0.mk (below_step (uN HB) hb); (try clear hb); (try clear hb2); (try clear hk); (try clear hi)))
          go_ret
          exact ⟨by first | rfl | (simp [errW_none, errW_some] <;> rfl) | (simp [*, errW_none, errW_some] <;> rfl), uN HB⟩
       rw [if_neg c172] at H
       have c172b0 : (t307 == t305) = false := beq_eq_false_iff_ne.mpr c172
       have c172b1 : (t307 != t305) = true := bne_iff_ne.mpr c172
       obtain rfl := Option.some.inj H
       have hnb257 := NB284_239.out
       have hnc257 := NB239_284.out
       have hnb258 := NB284_240.out
       have hnc258 := NB240_284.out
       have hnb259 := NB284_262.out
       have hnc259 := NB262_284.out
       have hnb260 := NB284_269.out
       have hnc260 := NB269_284.out
       have hnb261 := NB284_276.out
       have hnc261 := NB276_284.out
       obtain ⟨hcz262_0, hcz262_1, hcz262_2, hcz262_3, hfz262_0, hfz262_1, hfz262_2, hfz262_3⟩ := ce4 BK284
       go_wp2_with (first | ((with_reducible refine gate_callee (f := 21) rfl ?_); refine goesL_ (some 85) rfl rfl Try.func21 (by kernel_rfl) rfl #[.agg #[.int .i64 t277, .int .i64 t278, .int .i64 t279, .slice Ao74 t280.length co74], .int .i64 1] rfl (by (try simp only [List.map_toArray, List.map_cons, List.map_nil]); first | done | rfl) ?_; (with_reducible refine (laws_markBloom.calls kj109 t277 t278 t279 (fun k_ => some k_ = (.slice Ao74 t280.length co74 : Value).ownBlock) (.slice Ao74 t280.length co74) t280 1 t305 t306 w _ ?side1 ?side2 A160.out).mono ?_); (case side1 => exact uN HB); (case side2 => exact Kd.R_tight rfl HO_285003.out); rintro e w263 ⟨rfl, hy0, hb, hkp⟩; refine ⟨_, rfl, ?_⟩; replace HO_263003 := Aside0.mk (Kd.R_mono (ok' := fun k_ => some k_ ≠ (.slice Ao54 t301.length co54 : Value).ownBlock ∧ some k_ ≠ (.slice Ao64 t303.length co64 : Value).ownBlock ∧ some k_ ≠ (.slice Ao74 t280.length co74 : Value).ownBlock) (Kd.R_keptB (HO_263003.out) hkp (fun k_ hk_ hs_ => (hk_.2.2) hs_)) (fun k_ hk_ => ⟨hk_.1.1, hk_.1.2.1, hk_.1.2.2⟩)); replace HO_270003 := Aside0.mk (Kd.R_mono (ok' := fun k_ => some k_ ≠ (.slice Ao44 t258.length co44 : Value).ownBlock ∧ some k_ ≠ (.slice Ao64 t303.length co64 : Value).ownBlock ∧ some k_ ≠ (.slice Ao74 t280.length co74 : Value).ownBlock) (Kd.R_keptB (HO_270003.out) hkp (fun k_ hk_ hs_ => (hk_.2.2) hs_)) (fun k_ hk_ => ⟨hk_.1.1, hk_.1.2.1, hk_.1.2.2⟩)); replace HO_277003 := Aside0.mk (Kd.R_mono (ok' := fun k_ => some k_ ≠ (.slice Ao44 t258.length co44 : Value).ownBlock ∧ some k_ ≠ (.slice Ao54 t301.length co54 : Value).ownBlock ∧ some k_ ≠ (.slice Ao74 t280.length co74 : Value).ownBlock) (Kd.R_keptB (HO_277003.out) hkp (fun k_ hk_ hs_ => (hk_.2.2) hs_)) (fun k_ hk_ => ⟨hk_.1.1, hk_.1.2.1, hk_.1.2.2⟩)); replace BK239 := Aside0.mk (blk_kept (uK BK239) hkp (fun hs_ => (fun e_ => (Kd.R_ne HO_285003.out BK239.out (by decide)) e_) hs_)); replace BK240 := Aside0.mk (blk_kept (uK BK240) hkp (fun hs_ => (fun e_ => (Kd.R_ne HO_285003.out BK240.out (by decide)) e_) hs_)); replace BK262 := Aside0.mk (blk_kept (uK BK262) hkp (fun hs_ => (fun e_ => (Kd.R_ne HO_285003.out BK262.out (by decide)) e_) hs_)); replace BK269 := Aside0.mk (blk_kept (uK BK269) hkp (fun hs_ => (fun e_ => (Kd.R_ne HO_285003.out BK269.out (by decide)) e_) hs_)); replace BK276 := Aside0.mk (blk_kept (uK BK276) hkp (fun hs_ => (fun e_ => (Kd.R_ne HO_285003.out BK276.out (by decide)) e_) hs_)); replace BK284 := Aside0.mk (blk_kept (uK BK284) hkp (fun hs_ => (fun e_ => (Kd.R_ne HO_285003.out BK284.out (by decide)) e_) hs_)); replace HO_285003 := Aside0.mk (Kd.R_reok rfl hy0 (fun k_ e_ => HO_285003.out.1 k_ e_)); replace HB := Aside0.mk (hb); (try clear hb); (try clear hkp); (try clear hy0); obtain ⟨hcz264_0, hcz264_1, hcz264_2, hcz264_3, hfz264_0, hfz264_1, hfz264_2, hfz264_3⟩ := ce4 BK284) | ((with_reducible refine gate_callee (f := 22) rfl ?_); refine goesL_ (some 88) rfl rfl Try.func22 (by kernel_rfl) rfl #[.agg #[.int .i64 t277, .int .i64 t278, .int .i64 t279, .slice Ao74 t306.length co74], .int .i64 1] rfl (by (try simp only [List.map_toArray, List.map_cons, List.map_nil]); first | done | (rw [show t306.length = t280.length from (Kd.R_reads' HO_285003.out).1.symm] <;> rfl) | rfl | (simp only [List.length_drop, List.length_take]; rfl)) ?_; (with_reducible refine (laws_heldBloom.calls kj109 t277 t278 t279 _ _ t306 1 t307 _ ?side1 ?side2 A161.out).mono ?_); (case side1 => exact uD HO_285003); (case side2 => rw [show t306.length = t280.length from (Kd.R_reads' HO_285003.out).1.symm]; exact (Kd.R_reads' HO_285003.out).2.1); rintro e w265 ⟨rfl, hb⟩; refine ⟨_, rfl, ?_⟩; replace HO_263003 := Aside0.mk (Kd.R_below (uR HO_263003) hb); replace HO_270003 := Aside0.mk (Kd.R_below (uR HO_270003) hb); replace HO_277003 := Aside0.mk (Kd.R_below (uR HO_277003) hb); replace HO_285003 := Aside0.mk (Kd.R_below (uR HO_285003) hb); replace BK239 := kB BK239 hb; replace BK240 := kB BK240 hb; replace BK262 := kB BK262 hb; replace BK269 := kB BK269 hb; replace BK276 := kB BK276 hb; replace BK284 := kB BK284 hb; replace HB := Aside0.mk (below_step (uN HB) hb); (try clear hb); (try clear hb2); (try clear hk); (try clear hi)))
       go_ret
       exact ⟨by first | rfl | (simp [errW_none, errW_some] <;> rfl) | (simp [*, errW_none, errW_some] <;> rfl), uN HB⟩
    replace c107 := Bool.eq_false_iff.mpr c107
    subst c107
    rw [if_neg (show ¬ (false = true) by decide)] at H
    obtain rfl := Option.some.inj H
    try go_wp2
    replace HO_263003 := Aside0.mk (Kd.R_drew HO_263003.out)
    replace HO_270003 := Aside0.mk (Kd.R_drew HO_270003.out)
    replace HO_277003 := Aside0.mk (Kd.R_drew HO_277003.out)
    replace HO_285003 := Aside0.mk (Kd.R_drew HO_285003.out)
    replace BK239 := Aside0.mk (blk_drew BK239.out)
    replace BK240 := Aside0.mk (blk_drew BK240.out)
    replace BK262 := Aside0.mk (blk_drew BK262.out)
    replace BK269 := Aside0.mk (blk_drew BK269.out)
    replace BK276 := Aside0.mk (blk_drew BK276.out)
    replace BK284 := Aside0.mk (blk_drew BK284.out)
    replace HB := Aside0.mk (below_drew1 HB.out)
    refine start_ (n := 5) (S := fun w' => w'.cell? ⟨gb269, 0, none⟩ = some (.int .i64 t263) ∧ w'.cell? ⟨gb269, 1, none⟩ = some (.int .i64 t264) ∧ w'.cell? ⟨gb269, 2, none⟩ = some (.int .i64 t265) ∧ w'.cell? ⟨gb269, 3, none⟩ = some (.slice Ao54 t266.length co54) ∧ w'.cell? ⟨gb239, 0, none⟩ = some (.int .i64 a0_0) ∧ w'.cell? ⟨gb239, 1, none⟩ = some (.int .i64 a0_1) ∧ w'.cell? ⟨gb239, 2, none⟩ = some (.int .i64 a0_2) ∧ w'.cell? ⟨gb239, 3, none⟩ = some (.slice A0_3 l0_3.length c0_3)) (ds := []) #[false, false, false, false, false] (by kernel_rfl) rfl rfl ⟨bc BK269 0, bc BK269 1, bc BK269 2, bc BK269 3, bc BK239 0, bc BK239 1, bc BK239 2, bc BK239 3⟩ (fun hHeld => ?_)
    generalize wc.drew = w266 at HO_263003 HO_270003 HO_277003 HO_285003 BK239 BK240 BK262 BK269 BK276 BK284 HB hHeld ⊢
    refine take_ (i := 0) (N := some 54) (v := ?_) (a' := ?_) #[true, false, false, false, false] rfl rfl (by kernel_rfl) (fun _ _ _ h => h) (Or.inl ⟨by rfl, ?_⟩) hHeld ?_ ?_
    rotate_left
    ·
     rintro w' ⟨s0, s1, s2, s3, s4, s5, s6, s7⟩
     go_simp
     with_reducible rfl
    rotate_left
    ·
     simp only [Act.put, setIfInBounds_toArray, set_cons_zero, set_cons_succ, i64_w, i32_w]
     rfl
    refine take_ (i := 1) (N := some 55) (v := ?_) (a' := ?_) #[true, true, false, false, false] rfl rfl (by kernel_rfl) (fun _ _ _ h => h) (Or.inl ⟨by rfl, ?_⟩) hHeld ?_ ?_
    rotate_left
    ·
     rintro w' ⟨s0, s1, s2, s3, s4, s5, s6, s7⟩
     go_simp
     with_reducible rfl
    rotate_left
    ·
     simp only [Act.put, setIfInBounds_toArray, set_cons_zero, set_cons_succ, i64_w, i32_w]
     rfl
    refine one_ (i := 2) (N := some 56) #[true, true, true, false, false] rfl rfl (by kernel_rfl) (by decide) (fun K hK => ?_)
    refine goes_ Try.func18 (by kernel_rfl) rfl #[.agg #[.int .i64 a0_0, .int .i64 a0_1, .int .i64 a0_2, .slice A0_3 l0_3.length c0_3]] (by rfl) rfl rfl (by (try simp only [List.map_toArray, List.map_cons, List.map_nil]); first | done | rfl) ?_
    with_reducible refine (laws_toBloom.calls kj24 a0_0 a0_1 a0_2 _ _ l0_3 t286 t287 t288 t289 _ ?side1 ?side2 A102.out).mono ?_
    (case side1 => exact uC HR0_3 HB)
    (case side2 => exact HC0_3.out)
    rintro e w267 ⟨v290, rfl, ho0, hb⟩
    refine ⟨_, rfl, ?_⟩
    have HO291 := Aside0.mk (Kd.R_lower (Kd.R_new' (Kd.R_new' (Kd.R_new' (Kd.R_new' ho0 (Kd.R_lt (uR HO_263003))) (Kd.R_lt (uR HO_270003))) (Kd.R_lt (uR HO_277003))) (Kd.R_lt (uR HO_285003))) (below_size (uN HB)))
    replace HO_263003 := Aside0.mk (Kd.R_elder' (uR HO_263003) (Kd.R_base ho0) hb)
    replace HO_270003 := Aside0.mk (Kd.R_elder' (uR HO_270003) (Kd.R_base ho0) hb)
    replace HO_277003 := Aside0.mk (Kd.R_elder' (uR HO_277003) (Kd.R_base ho0) hb)
    replace HO_285003 := Aside0.mk (Kd.R_elder' (uR HO_285003) (Kd.R_base ho0) hb)
    replace BK239 := kB BK239 hb
    replace BK240 := kB BK240 hb
    replace BK262 := kB BK262 hb
    replace BK269 := kB BK269 hb
    replace BK276 := kB BK276 hb
    replace BK284 := kB BK284 hb
    replace HB := Aside0.mk (below_step (uN HB) hb)
    (try clear hb)
    (try clear hb2)
    (try clear hk)
    (try clear hi)
    (try clear ho0)
    obtain ⟨Ao268, co268, eo268⟩ := Kd.R_slice HO291.out
    (first | subst eo268 | (injection eo268 with f1_ f2_ f3_; have f4_ := f1_.symm; have f5_ := f3_.symm; clear f1_ f2_ f3_; subst f4_; subst f5_))
    refine hK.out _ _ ⟨bc BK269 0, bc BK269 1, bc BK269 2, bc BK269 3, bc BK239 0, bc BK239 1, bc BK239 2, bc BK239 3⟩ (fun hHeld => ?_)
    clear hK K
    refine norm_ (a' := ?_) ?_ ?_
    rotate_left
    ·
     show Act.put _ (some 56) _ = _
     simp only [Act.put, setIfInBounds_toArray, set_cons_zero, set_cons_succ, i64_w, i32_w]
     rfl
    refine one_ (i := 3) (N := some 57) #[true, true, true, true, false] rfl rfl (by kernel_rfl) (by decide) (fun K hK => ?_)
    refine goes_ Try.func20 (by kernel_rfl) rfl #[.agg #[.int .i64 t263, .int .i64 t264, .int .i64 t265, .slice Ao54 t266.length co54], .agg #[.int .i64 t286, .int .i64 t287, .int .i64 t288, .slice Ao268 t289.length co268]] (by rfl) rfl rfl (by (try simp only [List.map_toArray, List.map_cons, List.map_nil]); first | done | rfl) ?_
    with_reducible refine (laws_eqBloom.calls kj24 t263 t264 t265 _ _ t266 t286 t287 t288 _ _ t289 true _ ?side1 ?side2 ?side3 ?side4 A103.out).mono ?_
    (case side1 => exact uD HO_270003)
    (case side2 => exact (Kd.R_reads' HO_270003.out).2.1)
    (case side3 => exact uD HO291)
    (case side4 => exact (Kd.R_reads' HO291.out).2.1)
    rintro e w269 ⟨rfl, hb⟩
    refine ⟨_, rfl, ?_⟩
    replace HO_263003 := Aside0.mk (Kd.R_below (uR HO_263003) hb)
    replace HO_270003 := Aside0.mk (Kd.R_below (uR HO_270003) hb)
    replace HO_277003 := Aside0.mk (Kd.R_below (uR HO_277003) hb)
    replace HO_285003 := Aside0.mk (Kd.R_below (uR HO_285003) hb)
    replace HO291 := Aside0.mk (Kd.R_below (uR HO291) hb)
    replace BK239 := kB BK239 hb
    replace BK240 := kB BK240 hb
    replace BK262 := kB BK262 hb
    replace BK269 := kB BK269 hb
    replace BK276 := kB BK276 hb
    replace BK284 := kB BK284 hb
    replace HB := Aside0.mk (below_step (uN HB) hb)
    (try clear hb)
    (try clear hb2)
    (try clear hk)
    (try clear hi)
    refine hK.out _ _ ⟨bc BK269 0, bc BK269 1, bc BK269 2, bc BK269 3, bc BK239 0, bc BK239 1, bc BK239 2, bc BK239 3⟩ (fun hHeld => ?_)
    clear hK K
    refine norm_ (a' := ?_) ?_ ?_
    rotate_left
    ·
     show Act.put _ (some 57) _ = _
     simp only [Act.put, setIfInBounds_toArray, set_cons_zero, set_cons_succ, i64_w, i32_w]
     rfl
    refine pure_ (i := 4) (N := some 58) (v := ?_) (a' := ?_) #[true, true, true, true, true] rfl rfl (by kernel_rfl) (fun _ _ _ h => h) (Or.inl ⟨by rfl, ?_⟩) ?_ ?_
    rotate_left
    ·
     intro w'
     go_simp
     with_reducible rfl
    rotate_left
    ·
     simp only [Act.put, setIfInBounds_toArray, set_cons_zero, set_cons_succ, i64_w, i32_w]
     rfl
    refine done_ (by kernel_rfl) ?_
    try go_wp2
    replace HO_263003 := Aside0.mk (Kd.R_drew HO_263003.out)
    replace HO_270003 := Aside0.mk (Kd.R_drew HO_270003.out)
    replace HO_277003 := Aside0.mk (Kd.R_drew HO_277003.out)
    replace HO_285003 := Aside0.mk (Kd.R_drew HO_285003.out)
    replace HO291 := Aside0.mk (Kd.R_drew HO291.out)
    replace BK239 := Aside0.mk (blk_drew BK239.out)
    replace BK240 := Aside0.mk (blk_drew BK240.out)
    replace BK262 := Aside0.mk (blk_drew BK262.out)
    replace BK269 := Aside0.mk (blk_drew BK269.out)
    replace BK276 := Aside0.mk (blk_drew BK276.out)
    replace BK284 := Aside0.mk (blk_drew BK284.out)
    replace HB := Aside0.mk (below_drew1 HB.out)
    refine start_ (n := 5) (S := fun w' => w'.cell? ⟨gb276, 0, none⟩ = some (.int .i64 t270) ∧ w'.cell? ⟨gb276, 1, none⟩ = some (.int .i64 t271) ∧ w'.cell? ⟨gb276, 2, none⟩ = some (.int .i64 t272) ∧ w'.cell? ⟨gb276, 3, none⟩ = some (.slice Ao64 t273.length co64) ∧ w'.cell? ⟨gb240, 0, none⟩ = some (.int .i64 a1_0) ∧ w'.cell? ⟨gb240, 1, none⟩ = some (.int .i64 a1_1) ∧ w'.cell? ⟨gb240, 2, none⟩ = some (.int .i64 a1_2) ∧ w'.cell? ⟨gb240, 3, none⟩ = some (.slice A1_3 l1_3.length c1_3)) (ds := []) #[false, false, false, false, false] (by kernel_rfl) rfl rfl ⟨bc BK276 0, bc BK276 1, bc BK276 2, bc BK276 3, bc BK240 0, bc BK240 1, bc BK240 2, bc BK240 3⟩ (fun hHeld => ?_)
    generalize w269.drew = w270 at HO_263003 HO_270003 HO_277003 HO_285003 HO291 BK239 BK240 BK262 BK269 BK276 BK284 HB hHeld ⊢
    refine take_ (i := 0) (N := some 59) (v := ?_) (a' := ?_) #[true, false, false, false, false] rfl rfl (by kernel_rfl) (fun _ _ _ h => h) (Or.inl ⟨by rfl, ?_⟩) hHeld ?_ ?_
    rotate_left
    ·
     rintro w' ⟨s0, s1, s2, s3, s4, s5, s6, s7⟩
     go_simp
     with_reducible rfl
    rotate_left
    ·
     simp only [Act.put, setIfInBounds_toArray, set_cons_zero, set_cons_succ, i64_w, i32_w]
     rfl
    refine take_ (i := 1) (N := some 60) (v := ?_) (a' := ?_) #[true, true, false, false, false] rfl rfl (by kernel_rfl) (fun _ _ _ h => h) (Or.inl ⟨by rfl, ?_⟩) hHeld ?_ ?_
    rotate_left
    ·
     rintro w' ⟨s0, s1, s2, s3, s4, s5, s6, s7⟩
     go_simp
     with_reducible rfl
    rotate_left
    ·
     simp only [Act.put, setIfInBounds_toArray, set_cons_zero, set_cons_succ, i64_w, i32_w]
     rfl
    refine one_ (i := 2) (N := some 61) #[true, true, true, false, false] rfl rfl (by kernel_rfl) (by decide) (fun K hK => ?_)
    refine goes_ Try.func18 (by kernel_rfl) rfl #[.agg #[.int .i64 a1_0, .int .i64 a1_1, .int .i64 a1_2, .slice A1_3 l1_3.length c1_3]] (by rfl) rfl rfl (by (try simp only [List.map_toArray, List.map_cons, List.map_nil]); first | done | rfl) ?_
    with_reducible refine (laws_toBloom.calls kj24 a1_0 a1_1 a1_2 _ _ l1_3 t293 t294 t295 t296 _ ?side1 ?side2 A105.out).mono ?_
    (case side1 => exact uC HR1_3 HB)
    (case side2 => exact HC1_3.out)
    rintro e w271 ⟨v297, rfl, ho0, hb⟩
    refine ⟨_, rfl, ?_⟩
    have HO298 := Aside0.mk (Kd.R_lower (Kd.R_new' (Kd.R_new' (Kd.R_new' (Kd.R_new' (Kd.R_new' ho0 (Kd.R_lt (uR HO_263003))) (Kd.R_lt (uR HO_270003))) (Kd.R_lt (uR HO_277003))) (Kd.R_lt (uR HO_285003))) (Kd.R_lt (uR HO291))) (below_size (uN HB)))
    replace HO_263003 := Aside0.mk (Kd.R_elder' (uR HO_263003) (Kd.R_base ho0) hb)
    replace HO_270003 := Aside0.mk (Kd.R_elder' (uR HO_270003) (Kd.R_base ho0) hb)
    replace HO_277003 := Aside0.mk (Kd.R_elder' (uR HO_277003) (Kd.R_base ho0) hb)
    replace HO_285003 := Aside0.mk (Kd.R_elder' (uR HO_285003) (Kd.R_base ho0) hb)
    replace HO291 := Aside0.mk (Kd.R_elder' (uR HO291) (Kd.R_base ho0) hb)
    replace BK239 := kB BK239 hb
    replace BK240 := kB BK240 hb
    replace BK262 := kB BK262 hb
    replace BK269 := kB BK269 hb
    replace BK276 := kB BK276 hb
    replace BK284 := kB BK284 hb
    replace HB := Aside0.mk (below_step (uN HB) hb)
    (try clear hb)
    (try clear hb2)
    (try clear hk)
    (try clear hi)
    (try clear ho0)
    obtain ⟨Ao272, co272, eo272⟩ := Kd.R_slice HO298.out
    (first | subst eo272 | (injection eo272 with f1_ f2_ f3_; have f4_ := f1_.symm; have f5_ := f3_.symm; clear f1_ f2_ f3_; subst f4_; subst f5_))
    refine hK.out _ _ ⟨bc BK276 0, bc BK276 1, bc BK276 2, bc BK276 3, bc BK240 0, bc BK240 1, bc BK240 2, bc BK240 3⟩ (fun hHeld => ?_)
    clear hK K
    refine norm_ (a' := ?_) ?_ ?_
    rotate_left
    ·
     show Act.put _ (some 61) _ = _
     simp only [Act.put, setIfInBounds_toArray, set_cons_zero, set_cons_succ, i64_w, i32_w]
     rfl
    refine one_ (i := 3) (N := some 62) #[true, true, true, true, false] rfl rfl (by kernel_rfl) (by decide) (fun K hK => ?_)
    refine goes_ Try.func20 (by kernel_rfl) rfl #[.agg #[.int .i64 t270, .int .i64 t271, .int .i64 t272, .slice Ao64 t273.length co64], .agg #[.int .i64 t293, .int .i64 t294, .int .i64 t295, .slice Ao272 t296.length co272]] (by rfl) rfl rfl (by (try simp only [List.map_toArray, List.map_cons, List.map_nil]); first | done | rfl) ?_
    with_reducible refine (laws_eqBloom.calls kj24 t270 t271 t272 _ _ t273 t293 t294 t295 _ _ t296 false _ ?side1 ?side2 ?side3 ?side4 A106.out).mono ?_
    (case side1 => exact uD HO_277003)
    (case side2 => exact (Kd.R_reads' HO_277003.out).2.1)
    (case side3 => exact uD HO298)
    (case side4 => exact (Kd.R_reads' HO298.out).2.1)
    rintro e w273 ⟨rfl, hb⟩
    refine ⟨_, rfl, ?_⟩
    replace HO_263003 := Aside0.mk (Kd.R_below (uR HO_263003) hb)
    replace HO_270003 := Aside0.mk (Kd.R_below (uR HO_270003) hb)
    replace HO_277003 := Aside0.mk (Kd.R_below (uR HO_277003) hb)
    replace HO_285003 := Aside0.mk (Kd.R_below (uR HO_285003) hb)
    replace HO291 := Aside0.mk (Kd.R_below (uR HO291) hb)
    replace HO298 := Aside0.mk (Kd.R_below (uR HO298) hb)
    replace BK239 := kB BK239 hb
    replace BK240 := kB BK240 hb
    replace BK262 := kB BK262 hb
    replace BK269 := kB BK269 hb
    replace BK276 := kB BK276 hb
    replace BK284 := kB BK284 hb
    replace HB := Aside0.mk (below_step (uN HB) hb)
    (try clear hb)
    (try clear hb2)
    (try clear hk)
    (try clear hi)
    refine hK.out _ _ ⟨bc BK276 0, bc BK276 1, bc BK276 2, bc BK276 3, bc BK240 0, bc BK240 1, bc BK240 2, bc BK240 3⟩ (fun hHeld => ?_)
    clear hK K
    refine norm_ (a' := ?_) ?_ ?_
    rotate_left
    ·
     show Act.put _ (some 62) _ = _
     simp only [Act.put, setIfInBounds_toArray, set_cons_zero, set_cons_succ, i64_w, i32_w]
     rfl
    refine pure_ (i := 4) (N := some 63) (v := ?_) (a' := ?_) #[true, true, true, true, true] rfl rfl (by kernel_rfl) (fun _ _ _ h => h) (Or.inl ⟨by rfl, ?_⟩) ?_ ?_
    rotate_left
    ·
     intro w'
     go_simp
     with_reducible rfl
    rotate_left
    ·
     simp only [Act.put, setIfInBounds_toArray, set_cons_zero, set_cons_succ, i64_w, i32_w]
     rfl
    refine done_ (by kernel_rfl) ?_
    try go_wp2
    go_ret
    exact ⟨by first | rfl | (simp [errW_none, errW_some] <;> rfl) | (simp [*, errW_none, errW_some] <;> rfl), uN HB⟩
   replace c104 := Bool.eq_false_iff.mpr c104
   subst c104
   rw [if_neg (show ¬ (false = true) by decide)] at H
   obtain rfl := Option.some.inj H
   try go_wp2
   replace HO_263003 := Aside0.mk (Kd.R_drew HO_263003.out)
   replace HO_270003 := Aside0.mk (Kd.R_drew HO_270003.out)
   replace HO_277003 := Aside0.mk (Kd.R_drew HO_277003.out)
   replace HO_285003 := Aside0.mk (Kd.R_drew HO_285003.out)
   replace BK239 := Aside0.mk (blk_drew BK239.out)
   replace BK240 := Aside0.mk (blk_drew BK240.out)
   replace BK262 := Aside0.mk (blk_drew BK262.out)
   replace BK269 := Aside0.mk (blk_drew BK269.out)
   replace BK276 := Aside0.mk (blk_drew BK276.out)
   replace BK284 := Aside0.mk (blk_drew BK284.out)
   replace HB := Aside0.mk (below_drew1 HB.out)
   refine start_ (n := 5) (S := fun w' => w'.cell? ⟨gb269, 0, none⟩ = some (.int .i64 t263) ∧ w'.cell? ⟨gb269, 1, none⟩ = some (.int .i64 t264) ∧ w'.cell? ⟨gb269, 2, none⟩ = some (.int .i64 t265) ∧ w'.cell? ⟨gb269, 3, none⟩ = some (.slice Ao54 t266.length co54) ∧ w'.cell? ⟨gb239, 0, none⟩ = some (.int .i64 a0_0) ∧ w'.cell? ⟨gb239, 1, none⟩ = some (.int .i64 a0_1) ∧ w'.cell? ⟨gb239, 2, none⟩ = some (.int .i64 a0_2) ∧ w'.cell? ⟨gb239, 3, none⟩ = some (.slice A0_3 l0_3.length c0_3)) (ds := []) #[false, false, false, false, false] (by kernel_rfl) rfl rfl ⟨bc BK269 0, bc BK269 1, bc BK269 2, bc BK269 3, bc BK239 0, bc BK239 1, bc BK239 2, bc BK239 3⟩ (fun hHeld => ?_)
   generalize wc.drew = w274 at HO_263003 HO_270003 HO_277003 HO_285003 BK239 BK240 BK262 BK269 BK276 BK284 HB hHeld ⊢
   refine take_ (i := 0) (N := some 54) (v := ?_) (a' := ?_) #[true, false, false, false, false] rfl rfl (by kernel_rfl) (fun _ _ _ h => h) (Or.inl ⟨by rfl, ?_⟩) hHeld ?_ ?_
   rotate_left
   ·
    rintro w' ⟨s0, s1, s2, s3, s4, s5, s6, s7⟩
    go_simp
    with_reducible rfl
   rotate_left
   ·
    simp only [Act.put, setIfInBounds_toArray, set_cons_zero, set_cons_succ, i64_w, i32_w]
    rfl
   refine take_ (i := 1) (N := some 55) (v := ?_) (a' := ?_) #[true, true, false, false, false] rfl rfl (by kernel_rfl) (fun _ _ _ h => h) (Or.inl ⟨by rfl, ?_⟩) hHeld ?_ ?_
   rotate_left
   ·
    rintro w' ⟨s0, s1, s2, s3, s4, s5, s6, s7⟩
    go_simp
    with_reducible rfl
   rotate_left
   ·
    simp only [Act.put, setIfInBounds_toArray, set_cons_zero, set_cons_succ, i64_w, i32_w]
    rfl
   refine one_ (i := 2) (N := some 56) #[true, true, true, false, false] rfl rfl (by kernel_rfl) (by decide) (fun K hK => ?_)
   refine goes_ Try.func18 (by kernel_rfl) rfl #[.agg #[.int .i64 a0_0, .int .i64 a0_1, .int .i64 a0_2, .slice A0_3 l0_3.length c0_3]] (by rfl) rfl rfl (by (try simp only [List.map_toArray, List.map_cons, List.map_nil]); first | done | rfl) ?_
   with_reducible refine (laws_toBloom.calls kj24 a0_0 a0_1 a0_2 _ _ l0_3 t286 t287 t288 t289 _ ?side1 ?side2 A102.out).mono ?_
   (case side1 => exact uC HR0_3 HB)
   (case side2 => exact HC0_3.out)
   rintro e w275 ⟨v290, rfl, ho0, hb⟩
   refine ⟨_, rfl, ?_⟩
   have HO291 := Aside0.mk (Kd.R_lower (Kd.R_new' (Kd.R_new' (Kd.R_new' (Kd.R_new' ho0 (Kd.R_lt (uR HO_263003))) (Kd.R_lt (uR HO_270003))) (Kd.R_lt (uR HO_277003))) (Kd.R_lt (uR HO_285003))) (below_size (uN HB)))
   replace HO_263003 := Aside0.mk (Kd.R_elder' (uR HO_263003) (Kd.R_base ho0) hb)
   replace HO_270003 := Aside0.mk (Kd.R_elder' (uR HO_270003) (Kd.R_base ho0) hb)
   replace HO_277003 := Aside0.mk (Kd.R_elder' (uR HO_277003) (Kd.R_base ho0) hb)
   replace HO_285003 := Aside0.mk (Kd.R_elder' (uR HO_285003) (Kd.R_base ho0) hb)
   replace BK239 := kB BK239 hb
   replace BK240 := kB BK240 hb
   replace BK262 := kB BK262 hb
   replace BK269 := kB BK269 hb
   replace BK276 := kB BK276 hb
   replace BK284 := kB BK284 hb
   replace HB := Aside0.mk (below_step (uN HB) hb)
   (try clear hb)
   (try clear hb2)
   (try clear hk)
   (try clear hi)
   (try clear ho0)
   obtain ⟨Ao276, co276, eo276⟩ := Kd.R_slice HO291.out
   (first | subst eo276 | (injection eo276 with f1_ f2_ f3_; have f4_ := f1_.symm; have f5_ := f3_.symm; clear f1_ f2_ f3_; subst f4_; subst f5_))
   refine hK.out _ _ ⟨bc BK269 0, bc BK269 1, bc BK269 2, bc BK269 3, bc BK239 0, bc BK239 1, bc BK239 2, bc BK239 3⟩ (fun hHeld => ?_)
   clear hK K
   refine norm_ (a' := ?_) ?_ ?_
   rotate_left
   ·
    show Act.put _ (some 56) _ = _
    simp only [Act.put, setIfInBounds_toArray, set_cons_zero, set_cons_succ, i64_w, i32_w]
    rfl
   refine one_ (i := 3) (N := some 57) #[true, true, true, true, false] rfl rfl (by kernel_rfl) (by decide) (fun K hK => ?_)
   refine goes_ Try.func20 (by kernel_rfl) rfl #[.agg #[.int .i64 t263, .int .i64 t264, .int .i64 t265, .slice Ao54 t266.length co54], .agg #[.int .i64 t286, .int .i64 t287, .int .i64 t288, .slice Ao276 t289.length co276]] (by rfl) rfl rfl (by (try simp only [List.map_toArray, List.map_cons, List.map_nil]); first | done | rfl) ?_
   with_reducible refine (laws_eqBloom.calls kj24 t263 t264 t265 _ _ t266 t286 t287 t288 _ _ t289 false _ ?side1 ?side2 ?side3 ?side4 A103.out).mono ?_
   (case side1 => exact uD HO_270003)
   (case side2 => exact (Kd.R_reads' HO_270003.out).2.1)
   (case side3 => exact uD HO291)
   (case side4 => exact (Kd.R_reads' HO291.out).2.1)
   rintro e w277 ⟨rfl, hb⟩
   refine ⟨_, rfl, ?_⟩
   replace HO_263003 := Aside0.mk (Kd.R_below (uR HO_263003) hb)
   replace HO_270003 := Aside0.mk (Kd.R_below (uR HO_270003) hb)
   replace HO_277003 := Aside0.mk (Kd.R_below (uR HO_277003) hb)
   replace HO_285003 := Aside0.mk (Kd.R_below (uR HO_285003) hb)
   replace HO291 := Aside0.mk (Kd.R_below (uR HO291) hb)
   replace BK239 := kB BK239 hb
   replace BK240 := kB BK240 hb
   replace BK262 := kB BK262 hb
   replace BK269 := kB BK269 hb
   replace BK276 := kB BK276 hb
   replace BK284 := kB BK284 hb
   replace HB := Aside0.mk (below_step (uN HB) hb)
   (try clear hb)
   (try clear hb2)
   (try clear hk)
   (try clear hi)
   refine hK.out _ _ ⟨bc BK269 0, bc BK269 1, bc BK269 2, bc BK269 3, bc BK239 0, bc BK239 1, bc BK239 2, bc BK239 3⟩ (fun hHeld => ?_)
   clear hK K
   refine norm_ (a' := ?_) ?_ ?_
   rotate_left
   ·
    show Act.put _ (some 57) _ = _
    simp only [Act.put, setIfInBounds_toArray, set_cons_zero, set_cons_succ, i64_w, i32_w]
    rfl
   refine pure_ (i := 4) (N := some 58) (v := ?_) (a' := ?_) #[true, true, true, true, true] rfl rfl (by kernel_rfl) (fun _ _ _ h => h) (Or.inl ⟨by rfl, ?_⟩) ?_ ?_
   rotate_left
   ·
    intro w'
    go_simp
    with_reducible rfl
   rotate_left
   ·
    simp only [Act.put, setIfInBounds_toArray, set_cons_zero, set_cons_succ, i64_w, i32_w]
    rfl
   refine done_ (by kernel_rfl) ?_
   try go_wp2
   go_ret
   exact ⟨by first | rfl | (simp [errW_none, errW_some] <;> rfl) | (simp [*, errW_none, errW_some] <;> rfl), uN HB⟩

end Go.Proofs.Ytgnpledbeohjgaa.PFnExactUnionBloom
