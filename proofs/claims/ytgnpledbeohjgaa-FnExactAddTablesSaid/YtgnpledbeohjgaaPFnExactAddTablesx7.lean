-- made by wip/tools/myprint.py over the kit's print, for this claim
import Derived.Test.YtgnpledbeohjgaaPFnExactAddTablesx0
import Derived.Test.YtgnpledbeohjgaaPFnExactAddTablesx1
import Derived.Test.YtgnpledbeohjgaaPFnExactAddTablesx3
import Derived.Test.YtgnpledbeohjgaaPFnExactAddTablesx4
import Derived.Test.YtgnpledbeohjgaaPFnExactAddTablesx5
import Derived.Test.YtgnpledbeohjgaaPFnExactAddTablesx6
namespace Go.Proofs.Ytgnpledbeohjgaa.PFnExactAddTables
open Go.RowKit Go.Proofs.YtgnpledbeohjgaaW.PrintWords Go.Proofs.YtgnpledbeohjgaaW.PrintLast Go.Proofs.YtgnpledbeohjgaaW.PrintMore
attribute [local go_sem] max2_int min2_int max_two min_two max_three min_three max_four min_four   -- for this text's walks alone
set_option linter.unusedVariables false
set_option linter.unusedSimpArgs false

open List (setIfInBounds_toArray set_cons_zero set_cons_succ)
/-! ### laws_FnExactAddTables: function 3 -/
mutual
def laws_FnExactAddTables.j0 : Nat → Bool → Bool → Bool → Int → Int → Int → List Int → Int → Int → Int → List Int → Int → Int → Int → List Int → Int → Int → Int → List Int → Int → Int → Int → List Int → Int → Int → Int → List Int → Option (Bool)
 | 0, _, _, _, _, _, _, _, _, _, _, _, _, _, _, _, _, _, _, _, _, _, _, _, _, _, _, _ => none
 | k + 1, x7, x11, x53, x174000, x174001, x174002, x174003, x175000, x175001, x175002, x175003, x197000, x197001, x197002, x197003, x204000, x204001, x204002, x204003, x211000, x211001, x211002, x211003, x219000, x219001, x219002, x219003 => if x53 = true then (some false) else ((laws_toTable.f k x174000 x174001 x174002 x174003).bind fun bt220 => ((laws_eqTable.f k x204000 x204001 x204002 x204003 bt220.1 bt220.2.1 bt220.2.2.1 bt220.2.2.2).bind fun t226 => (if t226 = true then ((laws_toTable.f k x175000 x175001 x175002 x175003).bind fun bt227 => ((laws_eqTable.f k x211000 x211001 x211002 x211003 bt227.1 bt227.2.1 bt227.2.2.1 bt227.2.2.2).bind fun t233 => (if t233 = true then ((laws_markTable.f k x204000 x204001 x204002 x204003 1).bind fun bt234 => ((laws_markTable.f k x211000 x211001 x211002 x211003 bt234.1).bind fun bt236 => (if bt236.1 < 0 then (laws_FnExactAddTables.j1 k x7 true x174000 x174001 x174002 x174003 x175000 x175001 x175002 x175003 x197000 x197001 x197002 x197003 x219000 x219001 x219002 x219003) else ((laws_eqTable.f k x219000 x219001 x219002 x219003 x197000 x197001 x197002 x197003).bind fun t238 => (if t238 = true then (laws_FnExactAddTables.j1 k x7 (x11 != x7) x174000 x174001 x174002 x174003 x175000 x175001 x175002 x175003 x197000 x197001 x197002 x197003 x219000 x219001 x219002 x219003) else (laws_FnExactAddTables.j1 k x7 true x174000 x174001 x174002 x174003 x175000 x175001 x175002 x175003 x197000 x197001 x197002 x197003 x219000 x219001 x219002 x219003)))))) else (some false)))) else (some false))))
def laws_FnExactAddTables.j1 : Nat → Bool → Bool → Int → Int → Int → List Int → Int → Int → Int → List Int → Int → Int → Int → List Int → Int → Int → Int → List Int → Option (Bool)
 | 0, _, _, _, _, _, _, _, _, _, _, _, _, _, _, _, _, _, _ => none
 | k + 1, x7, x82, x174000, x174001, x174002, x174003, x175000, x175001, x175002, x175003, x197000, x197001, x197002, x197003, x219000, x219001, x219002, x219003 => if x82 = true then (some false) else ((laws_markTable.f k x219000 x219001 x219002 x219003 1).bind fun bt239 => ((laws_heldTable.f k x219000 x219001 x219002 bt239.2 1).bind fun t241 => (if t241 < 0 then (some false) else (if t241 = bt239.1 then ((laws_toTable.f k x174000 x174001 x174002 x174003).bind fun bt242 => ((laws_toTable.f k x175000 x175001 x175002 x175003).bind fun bt248 => ((impl_AddTables.f k bt242.1 bt242.2.1 bt242.2.2.1 bt242.2.2.2 bt248.1 bt248.2.1 bt248.2.2.1 bt248.2.2.2).bind fun bt254 => ((laws_eqTable.f k bt254.1 bt254.2.1 bt254.2.2.1 bt254.2.2.2.1 x197000 x197001 x197002 x197003).bind fun t262 => (if t262 = true then (laws_FnExactAddTables.j2 k bt239.1 (bt254.2.2.2.2 != x7) x219000 x219001 x219002 bt239.2) else (laws_FnExactAddTables.j2 k bt239.1 true x219000 x219001 x219002 bt239.2)))))) else (some false)))))
def laws_FnExactAddTables.j2 : Nat → Int → Bool → Int → Int → Int → List Int → Option (Bool)
 | 0, _, _, _, _, _, _ => none
 | k + 1, x13, x110, x219000, x219001, x219002, x219003 => if x110 = true then (some false) else ((laws_heldTable.f k x219000 x219001 x219002 x219003 1).bind fun t263 => (if t263 < 0 then (some false) else (if t263 = x13 then (some true) else (some false))))
end
def laws_FnExactAddTables.f (k : Nat) (a0_0 : Int) (a0_1 : Int) (a0_2 : Int) (l0_3 : List Int) (a1_0 : Int) (a1_1 : Int) (a1_2 : Int) (l1_3 : List Int) : Option (Bool) := (laws_szTable.f a0_0 a0_1 a0_2 l0_3 1048576).bind fun t175 => (if t175 < 0 then (some true) else ((laws_szTable.f a1_0 a1_1 a1_2 l1_3 t175).bind fun t176 => (if t176 < 0 then (some true) else ((laws_toTable.f k a0_0 a0_1 a0_2 l0_3).bind fun bt177 => ((laws_toTable.f k a1_0 a1_1 a1_2 l1_3).bind fun bt183 => ((spec_AddTables.f k bt177.1 bt177.2.1 bt177.2.2.1 bt177.2.2.2 bt183.1 bt183.2.1 bt183.2.2.1 bt183.2.2.2).bind fun bt189 => ((laws_toTable.f k a0_0 a0_1 a0_2 l0_3).bind fun bt197 => ((laws_toTable.f k a1_0 a1_1 a1_2 l1_3).bind fun bt204 => ((impl_AddTables.f k bt197.1 bt197.2.1 bt197.2.2.1 bt197.2.2.2 bt204.1 bt204.2.1 bt204.2.2.1 bt204.2.2.2).bind fun bt211 => ((laws_eqTable.f k bt211.1 bt211.2.1 bt211.2.2.1 bt211.2.2.2.1 bt189.1 bt189.2.1 bt189.2.2.1 bt189.2.2.2.1).bind fun t219 => (if t219 = true then (laws_FnExactAddTables.j0 k bt189.2.2.2.2 bt211.2.2.2.2 (bt211.2.2.2.2 != bt189.2.2.2.2) a0_0 a0_1 a0_2 l0_3 a1_0 a1_1 a1_2 l1_3 bt189.1 bt189.2.1 bt189.2.2.1 bt189.2.2.2.1 bt197.1 bt197.2.1 bt197.2.2.1 bt197.2.2.2 bt204.1 bt204.2.1 bt204.2.2.1 bt204.2.2.2 bt211.1 bt211.2.1 bt211.2.2.1 bt211.2.2.2.1) else (laws_FnExactAddTables.j0 k bt189.2.2.2.2 bt211.2.2.2.2 true a0_0 a0_1 a0_2 l0_3 a1_0 a1_1 a1_2 l1_3 bt189.1 bt189.2.1 bt189.2.2.1 bt189.2.2.2.1 bt197.1 bt197.2.1 bt197.2.2.1 bt197.2.2.2 bt204.1 bt204.2.1 bt204.2.2.1 bt204.2.2.2 bt211.1 bt211.2.1 bt211.2.2.1 bt211.2.2.2.1))))))))))))
theorem laws_FnExactAddTables.mono_l : ∀ k, (∀ y0 y1 y2 y3 y4 y5 y6 y7 y8 y9 y10 y11 y12 y13 y14 y15 y16 y17 y18 y19 y20 y21 y22 y23 y24 y25 y26, LeO (laws_FnExactAddTables.j0 k y0 y1 y2 y3 y4 y5 y6 y7 y8 y9 y10 y11 y12 y13 y14 y15 y16 y17 y18 y19 y20 y21 y22 y23 y24 y25 y26) (laws_FnExactAddTables.j0 (k + 1) y0 y1 y2 y3 y4 y5 y6 y7 y8 y9 y10 y11 y12 y13 y14 y15 y16 y17 y18 y19 y20 y21 y22 y23 y24 y25 y26)) ∧ (∀ y0 y1 y2 y3 y4 y5 y6 y7 y8 y9 y10 y11 y12 y13 y14 y15 y16 y17, LeO (laws_FnExactAddTables.j1 k y0 y1 y2 y3 y4 y5 y6 y7 y8 y9 y10 y11 y12 y13 y14 y15 y16 y17) (laws_FnExactAddTables.j1 (k + 1) y0 y1 y2 y3 y4 y5 y6 y7 y8 y9 y10 y11 y12 y13 y14 y15 y16 y17)) ∧ (∀ y0 y1 y2 y3 y4 y5, LeO (laws_FnExactAddTables.j2 k y0 y1 y2 y3 y4 y5) (laws_FnExactAddTables.j2 (k + 1) y0 y1 y2 y3 y4 y5))
 | 0 => ⟨fun _ _ _ _ _ _ _ _ _ _ _ _ _ _ _ _ _ _ _ _ _ _ _ _ _ _ _ r h => by simp [laws_FnExactAddTables.j0] at h, fun _ _ _ _ _ _ _ _ _ _ _ _ _ _ _ _ _ _ r h => by simp [laws_FnExactAddTables.j1] at h, fun _ _ _ _ _ _ r h => by simp [laws_FnExactAddTables.j2] at h⟩
 | k + 1 => by
  obtain ⟨ih0, ih1, ih2⟩ := laws_FnExactAddTables.mono_l k
  refine ⟨?_, ?_, ?_⟩
  ·
   intro y0 y1 y2 y3 y4 y5 y6 y7 y8 y9 y10 y11 y12 y13 y14 y15 y16 y17 y18 y19 y20 y21 y22 y23 y24 y25 y26
   unfold laws_FnExactAddTables.j0
   repeat' first
   | (with_reducible exact ih0 _ _ _ _ _ _ _ _ _ _ _ _ _ _ _ _ _ _ _ _ _ _ _ _ _ _ _)
   | (with_reducible exact ih1 _ _ _ _ _ _ _ _ _ _ _ _ _ _ _ _ _ _)
   | (with_reducible exact ih2 _ _ _ _ _ _)
   | (with_reducible exact impl_AddTables.mono _ _ _ _ _ _ _ _ _)
   | (with_reducible exact laws_eqTable.mono _ _ _ _ _ _ _ _ _)
   | (with_reducible exact laws_heldTable.mono _ _ _ _ _ _)
   | (with_reducible exact laws_markTable.mono _ _ _ _ _ _)
   | (with_reducible exact laws_toTable.mono _ _ _ _ _)
   | (with_reducible exact spec_AddTables.mono _ _ _ _ _ _ _ _ _)
   | (with_reducible exact LeO.refl _)
   | (with_reducible exact LeO.none _)
   | (with_reducible refine LeO.ite ?_ ?_)
   | (with_reducible refine LeO.bind ?_ (fun _ => ?_))
   | exact ih0 _ _ _ _ _ _ _ _ _ _ _ _ _ _ _ _ _ _ _ _ _ _ _ _ _ _ _
   | exact ih1 _ _ _ _ _ _ _ _ _ _ _ _ _ _ _ _ _ _
   | exact ih2 _ _ _ _ _ _
   | exact impl_AddTables.mono _ _ _ _ _ _ _ _ _
   | exact laws_eqTable.mono _ _ _ _ _ _ _ _ _
   | exact laws_heldTable.mono _ _ _ _ _ _
   | exact laws_markTable.mono _ _ _ _ _ _
   | exact laws_toTable.mono _ _ _ _ _
   | exact spec_AddTables.mono _ _ _ _ _ _ _ _ _
   | exact LeO.none _
   | refine LeO.ite ?_ ?_
   | refine LeO.bind ?_ (fun _ => ?_)
  ·
   intro y0 y1 y2 y3 y4 y5 y6 y7 y8 y9 y10 y11 y12 y13 y14 y15 y16 y17
   unfold laws_FnExactAddTables.j1
   repeat' first
   | (with_reducible exact ih0 _ _ _ _ _ _ _ _ _ _ _ _ _ _ _ _ _ _ _ _ _ _ _ _ _ _ _)
   | (with_reducible exact ih1 _ _ _ _ _ _ _ _ _ _ _ _ _ _ _ _ _ _)
   | (with_reducible exact ih2 _ _ _ _ _ _)
   | (with_reducible exact impl_AddTables.mono _ _ _ _ _ _ _ _ _)
   | (with_reducible exact laws_eqTable.mono _ _ _ _ _ _ _ _ _)
   | (with_reducible exact laws_heldTable.mono _ _ _ _ _ _)
   | (with_reducible exact laws_markTable.mono _ _ _ _ _ _)
   | (with_reducible exact laws_toTable.mono _ _ _ _ _)
   | (with_reducible exact spec_AddTables.mono _ _ _ _ _ _ _ _ _)
   | (with_reducible exact LeO.refl _)
   | (with_reducible exact LeO.none _)
   | (with_reducible refine LeO.ite ?_ ?_)
   | (with_reducible refine LeO.bind ?_ (fun _ => ?_))
   | exact ih0 _ _ _ _ _ _ _ _ _ _ _ _ _ _ _ _ _ _ _ _ _ _ _ _ _ _ _
   | exact ih1 _ _ _ _ _ _ _ _ _ _ _ _ _ _ _ _ _ _
   | exact ih2 _ _ _ _ _ _
   | exact impl_AddTables.mono _ _ _ _ _ _ _ _ _
   | exact laws_eqTable.mono _ _ _ _ _ _ _ _ _
   | exact laws_heldTable.mono _ _ _ _ _ _
   | exact laws_markTable.mono _ _ _ _ _ _
   | exact laws_toTable.mono _ _ _ _ _
   | exact spec_AddTables.mono _ _ _ _ _ _ _ _ _
   | exact LeO.none _
   | refine LeO.ite ?_ ?_
   | refine LeO.bind ?_ (fun _ => ?_)
  intro y0 y1 y2 y3 y4 y5
  unfold laws_FnExactAddTables.j2
  repeat' first
  | (with_reducible exact ih0 _ _ _ _ _ _ _ _ _ _ _ _ _ _ _ _ _ _ _ _ _ _ _ _ _ _ _)
  | (with_reducible exact ih1 _ _ _ _ _ _ _ _ _ _ _ _ _ _ _ _ _ _)
  | (with_reducible exact ih2 _ _ _ _ _ _)
  | (with_reducible exact impl_AddTables.mono _ _ _ _ _ _ _ _ _)
  | (with_reducible exact laws_eqTable.mono _ _ _ _ _ _ _ _ _)
  | (with_reducible exact laws_heldTable.mono _ _ _ _ _ _)
  | (with_reducible exact laws_markTable.mono _ _ _ _ _ _)
  | (with_reducible exact laws_toTable.mono _ _ _ _ _)
  | (with_reducible exact spec_AddTables.mono _ _ _ _ _ _ _ _ _)
  | (with_reducible exact LeO.refl _)
  | (with_reducible exact LeO.none _)
  | (with_reducible refine LeO.ite ?_ ?_)
  | (with_reducible refine LeO.bind ?_ (fun _ => ?_))
  | exact ih0 _ _ _ _ _ _ _ _ _ _ _ _ _ _ _ _ _ _ _ _ _ _ _ _ _ _ _
  | exact ih1 _ _ _ _ _ _ _ _ _ _ _ _ _ _ _ _ _ _
  | exact ih2 _ _ _ _ _ _
  | exact impl_AddTables.mono _ _ _ _ _ _ _ _ _
  | exact laws_eqTable.mono _ _ _ _ _ _ _ _ _
  | exact laws_heldTable.mono _ _ _ _ _ _
  | exact laws_markTable.mono _ _ _ _ _ _
  | exact laws_toTable.mono _ _ _ _ _
  | exact spec_AddTables.mono _ _ _ _ _ _ _ _ _
  | exact LeO.none _
  | refine LeO.ite ?_ ?_
  | refine LeO.bind ?_ (fun _ => ?_)
theorem laws_FnExactAddTables.mono : ∀ a0 a1 a2 a3 a4 a5 a6 a7 k, LeO (laws_FnExactAddTables.f k a0 a1 a2 a3 a4 a5 a6 a7) (laws_FnExactAddTables.f (k + 1) a0 a1 a2 a3 a4 a5 a6 a7) := by
 intro a0 a1 a2 a3 a4 a5 a6 a7 k
 obtain ⟨ih0, ih1, ih2⟩ := laws_FnExactAddTables.mono_l k
 unfold laws_FnExactAddTables.f
 repeat' first
   | (with_reducible exact ih0 _ _ _ _ _ _ _ _ _ _ _ _ _ _ _ _ _ _ _ _ _ _ _ _ _ _ _)
   | (with_reducible exact ih1 _ _ _ _ _ _ _ _ _ _ _ _ _ _ _ _ _ _)
   | (with_reducible exact ih2 _ _ _ _ _ _)
   | (with_reducible exact impl_AddTables.mono _ _ _ _ _ _ _ _ _)
   | (with_reducible exact laws_eqTable.mono _ _ _ _ _ _ _ _ _)
   | (with_reducible exact laws_heldTable.mono _ _ _ _ _ _)
   | (with_reducible exact laws_markTable.mono _ _ _ _ _ _)
   | (with_reducible exact laws_toTable.mono _ _ _ _ _)
   | (with_reducible exact spec_AddTables.mono _ _ _ _ _ _ _ _ _)
   | (with_reducible exact LeO.refl _)
   | (with_reducible exact LeO.none _)
   | (with_reducible refine LeO.ite ?_ ?_)
   | (with_reducible refine LeO.bind ?_ (fun _ => ?_))
   | exact ih0 _ _ _ _ _ _ _ _ _ _ _ _ _ _ _ _ _ _ _ _ _ _ _ _ _ _ _
   | exact ih1 _ _ _ _ _ _ _ _ _ _ _ _ _ _ _ _ _ _
   | exact ih2 _ _ _ _ _ _
   | exact impl_AddTables.mono _ _ _ _ _ _ _ _ _
   | exact laws_eqTable.mono _ _ _ _ _ _ _ _ _
   | exact laws_heldTable.mono _ _ _ _ _ _
   | exact laws_markTable.mono _ _ _ _ _ _
   | exact laws_toTable.mono _ _ _ _ _
   | exact spec_AddTables.mono _ _ _ _ _ _ _ _ _
   | exact LeO.none _
   | refine LeO.ite ?_ ?_
   | refine LeO.bind ?_ (fun _ => ?_)
def laws_FnExactAddTables.T8 : Bool × List (List Nat × List Nat) := (true, [([], []), ([0], [0]), ([], []), ([2, 1], [2]), ([1, 3, 3], [1, 3]), ([4], [4]), ([5], [5]), ([5], [5]), ([], []), ([8, 6, 4, 0, 1, 2, 3, 4, 5, 6, 8], [6, 8]), ([7, 9, 0, 1, 2, 3, 4, 5, 6, 7, 8, 9], [7])])
def laws_FnExactAddTables.B8 : List Nat := [0, 1, 0, 7, 15, 31, 63, 63, 0, 383, 1023]
theorem laws_FnExactAddTables.tab8 : rtab .any (opsOf Try.f3 8) = laws_FnExactAddTables.T8 := by kernel_rfl
theorem laws_FnExactAddTables.bits8 : waitsOk laws_FnExactAddTables.T8.2 laws_FnExactAddTables.B8 = true := by kernel_rfl
def laws_FnExactAddTables.T31 : Bool × List (List Nat × List Nat) := (true, [([], []), ([0], [0]), ([], []), ([2, 1], [2]), ([1, 3, 3], [1, 3]), ([4], [4]), ([5], [5]), ([5], [5]), ([], []), ([8, 6, 4, 0, 1, 2, 3, 4, 5, 6, 8], [6, 8]), ([7, 9, 0, 1, 2, 3, 4, 5, 6, 7, 8, 9], [7])])
def laws_FnExactAddTables.B31 : List Nat := [0, 1, 0, 7, 15, 31, 63, 63, 0, 383, 1023]
theorem laws_FnExactAddTables.tab31 : rtab .any (opsOf Try.f3 31) = laws_FnExactAddTables.T31 := by kernel_rfl
theorem laws_FnExactAddTables.bits31 : waitsOk laws_FnExactAddTables.T31.2 laws_FnExactAddTables.B31 = true := by kernel_rfl
set_option maxHeartbeats 8000000 in
set_option maxRecDepth 100000 in
theorem laws_FnExactAddTables.calls (k : Nat) (a0_0 : Int) (a0_1 : Int) (a0_2 : Int) (A0_3 : Option Addr) (c0_3 : Nat) (l0_3 : List Int) (a1_0 : Int) (a1_1 : Int) (a1_2 : Int) (A1_3 : Option Addr) (c1_3 : Nat) (l1_3 : List Int) (r : Bool) (w : World) (hr0_3 : Kd.C (Kd.int .i64) w A0_3 l0_3.length l0_3) (hc0_3 : l0_3.length ≤ c0_3) (hr1_3 : Kd.C (Kd.int .i64) w A1_3 l1_3.length l1_3) (hc1_3 : l1_3.length ≤ c1_3) (h : laws_FnExactAddTables.f k a0_0 a0_1 a0_2 l0_3 a1_0 a1_1 a1_2 l1_3 = some r) :
  Calls Try.prog 3 #[.agg #[.int .i64 a0_0, .int .i64 a0_1, .int .i64 a0_2, .slice A0_3 l0_3.length c0_3], .agg #[.int .i64 a1_0, .int .i64 a1_1, .int .i64 a1_2, .slice A1_3 l1_3.length c1_3]] w fun e w' => e = .returned (.bool r) ∧ Below w.heap.size w w' := by
 have hu24 := Try.underlying24
 have hu26 := Try.underlying26
 have HR0_3 := Aside0.mk hr0_3
 have HC0_3 := Aside0.mk hc0_3
 clear hr0_3 hc0_3
 have HR1_3 := Aside0.mk hr1_3
 have HC1_3 := Aside0.mk hc1_3
 clear hr1_3 hc1_3
 have HB := Aside0.mk (Below.refl w.heap.size w)
 have H : ((laws_szTable.f a0_0 a0_1 a0_2 l0_3 1048576).bind fun t175 => (if t175 < 0 then (some true) else ((laws_szTable.f a1_0 a1_1 a1_2 l1_3 t175).bind fun t176 => (if t176 < 0 then (some true) else ((laws_toTable.f k a0_0 a0_1 a0_2 l0_3).bind fun bt177 => ((laws_toTable.f k a1_0 a1_1 a1_2 l1_3).bind fun bt183 => ((spec_AddTables.f k bt177.1 bt177.2.1 bt177.2.2.1 bt177.2.2.2 bt183.1 bt183.2.1 bt183.2.2.1 bt183.2.2.2).bind fun bt189 => ((laws_toTable.f k a0_0 a0_1 a0_2 l0_3).bind fun bt197 => ((laws_toTable.f k a1_0 a1_1 a1_2 l1_3).bind fun bt204 => ((impl_AddTables.f k bt197.1 bt197.2.1 bt197.2.2.1 bt197.2.2.2 bt204.1 bt204.2.1 bt204.2.2.1 bt204.2.2.2).bind fun bt211 => ((laws_eqTable.f k bt211.1 bt211.2.1 bt211.2.2.1 bt211.2.2.2.1 bt189.1 bt189.2.1 bt189.2.2.1 bt189.2.2.2.1).bind fun t219 => (if t219 = true then (laws_FnExactAddTables.j0 k bt189.2.2.2.2 bt211.2.2.2.2 (bt211.2.2.2.2 != bt189.2.2.2.2) a0_0 a0_1 a0_2 l0_3 a1_0 a1_1 a1_2 l1_3 bt189.1 bt189.2.1 bt189.2.2.1 bt189.2.2.2.1 bt197.1 bt197.2.1 bt197.2.2.1 bt197.2.2.2 bt204.1 bt204.2.1 bt204.2.2.1 bt204.2.2.2 bt211.1 bt211.2.1 bt211.2.2.1 bt211.2.2.2.1) else (laws_FnExactAddTables.j0 k bt189.2.2.2.2 bt211.2.2.2.2 true a0_0 a0_1 a0_2 l0_3 a1_0 a1_1 a1_2 l1_3 bt189.1 bt189.2.1 bt189.2.2.1 bt189.2.2.2.1 bt197.1 bt197.2.1 bt197.2.2.1 bt197.2.2.2 bt204.1 bt204.2.1 bt204.2.2.1 bt204.2.2.2 bt211.1 bt211.2.1 bt211.2.2.1 bt211.2.2.2.1))))))))))))) = some r := h
 clear h
 replace H := Option.bind_eq_some_iff.mp H
 obtain ⟨t175, A30, H⟩ := H
 try dsimp only at H
 have A3 := Aside0.mk A30
 clear A30
 by_cases c4 : t175 < 0
 ·
  rw [if_pos c4] at H
  have c4b0 : decide (t175 < 0) = true := decide_eq_true c4
  clear c4
  obtain rfl := Option.some.inj H
  go_enter Try.func3, Try.ntmps3
  go_wp2_with (first | ((with_reducible refine gate_dst (N := 2) rfl ?_); refine box_event ?hg (N := 2) ?hd (cs := #[.int .i64 a0_0, .int .i64 a0_1, .int .i64 a0_2, .slice A0_3 l0_3.length c0_3]) (t := 24) ?hr ?_; (case hd => rfl); (case hg => rfl); (case hr => first | (go_simp; done) | (go_simp; rfl)); intro gb173 hg w5 hbox hb; have BK173 := Aside0.mk (hbox); have GW173 := nG HB hg; have GE173 := nG HB hg; have GI173 := gI GE173; replace HB := Aside0.mk (below_step (uN HB) hb); clear hb hbox hg) | ((with_reducible refine gate_dst (N := 3) rfl ?_); refine box_event ?hg (N := 3) ?hd (cs := #[.int .i64 a1_0, .int .i64 a1_1, .int .i64 a1_2, .slice A1_3 l1_3.length c1_3]) (t := 24) ?hr ?_; (case hd => rfl); (case hg => rfl); (case hr => first | (go_simp; done) | (go_simp; rfl)); intro gb174 hg w6 hbox hb; have BK174 := Aside0.mk (hbox); have GW174 := nG HB hg; have GE174 := nG HB hg; have GI174 := gI GE174; replace HB := Aside0.mk (below_step (uN HB) hb); have NB173_174 := nL BK173 hg; have NB174_173 := nR BK173 hg; replace BK173 := kB BK173 hb; clear hb hbox hg; have hnb7 := NB173_174.out; have hnc7 := NB174_173.out; obtain ⟨hcz8_0, hcz8_1, hcz8_2, hcz8_3, hfz8_0, hfz8_1, hfz8_2, hfz8_3⟩ := ce4 BK173) | ((with_reducible refine gate_callee (f := 9) rfl ?_); refine goesL_ (some 19) rfl rfl Try.func9 (by kernel_rfl) rfl #[.agg #[.int .i64 a0_0, .int .i64 a0_1, .int .i64 a0_2, .slice A0_3 l0_3.length c0_3], .int .i64 1048576] rfl (by (try simp only [List.map_toArray, List.map_cons, List.map_nil]); first | done | rfl) ?_; (with_reducible refine (laws_szTable.calls a0_0 a0_1 a0_2 _ _ l0_3 1048576 t175 _ ?side1 ?side2 A3.out).mono ?_); (case side1 => exact uC HR0_3 HB); (case side2 => exact HC0_3.out); rintro e w9 ⟨rfl, hb⟩; refine ⟨_, rfl, ?_⟩; replace BK173 := kB BK173 hb; replace BK174 := kB BK174 hb; replace HB := Aside0.mk (below_step (uN HB) hb); (try clear hb); (try clear hb2); (try clear hk); (try clear hi)))
  go_ret
  exact ⟨by first | rfl | (simp [errW_none, errW_some] <;> rfl) | (simp [*, errW_none, errW_some] <;> rfl), uN HB⟩
 rw [if_neg c4] at H
 have c4b0 : decide (t175 < 0) = false := decide_eq_false c4
 clear c4
 replace H := Option.bind_eq_some_iff.mp H
 obtain ⟨t176, A100, H⟩ := H
 try dsimp only at H
 have A10 := Aside0.mk A100
 clear A100
 by_cases c11 : t176 < 0
 ·
  rw [if_pos c11] at H
  have c11b0 : decide (t176 < 0) = true := decide_eq_true c11
  clear c11
  obtain rfl := Option.some.inj H
  go_enter Try.func3, Try.ntmps3
  go_wp2_with (first | ((with_reducible refine gate_dst (N := 2) rfl ?_); refine box_event ?hg (N := 2) ?hd (cs := #[.int .i64 a0_0, .int .i64 a0_1, .int .i64 a0_2, .slice A0_3 l0_3.length c0_3]) (t := 24) ?hr ?_; (case hd => rfl); (case hg => rfl); (case hr => first | (go_simp; done) | (go_simp; rfl)); intro gb173 hg w12 hbox hb; have BK173 := Aside0.mk (hbox); have GW173 := nG HB hg; have GE173 := nG HB hg; have GI173 := gI GE173; replace HB := Aside0.mk (below_step (uN HB) hb); clear hb hbox hg) | ((with_reducible refine gate_dst (N := 3) rfl ?_); refine box_event ?hg (N := 3) ?hd (cs := #[.int .i64 a1_0, .int .i64 a1_1, .int .i64 a1_2, .slice A1_3 l1_3.length c1_3]) (t := 24) ?hr ?_; (case hd => rfl); (case hg => rfl); (case hr => first | (go_simp; done) | (go_simp; rfl)); intro gb174 hg w13 hbox hb; have BK174 := Aside0.mk (hbox); have GW174 := nG HB hg; have GE174 := nG HB hg; have GI174 := gI GE174; replace HB := Aside0.mk (below_step (uN HB) hb); have NB173_174 := nL BK173 hg; have NB174_173 := nR BK173 hg; replace BK173 := kB BK173 hb; clear hb hbox hg; have hnb14 := NB173_174.out; have hnc14 := NB174_173.out; obtain ⟨hcz15_0, hcz15_1, hcz15_2, hcz15_3, hfz15_0, hfz15_1, hfz15_2, hfz15_3⟩ := ce4 BK173) | ((with_reducible refine gate_callee (f := 9) rfl ?_); refine goesL_ (some 19) rfl rfl Try.func9 (by kernel_rfl) rfl #[.agg #[.int .i64 a0_0, .int .i64 a0_1, .int .i64 a0_2, .slice A0_3 l0_3.length c0_3], .int .i64 1048576] rfl (by (try simp only [List.map_toArray, List.map_cons, List.map_nil]); first | done | rfl) ?_; (with_reducible refine (laws_szTable.calls a0_0 a0_1 a0_2 _ _ l0_3 1048576 t175 _ ?side1 ?side2 A3.out).mono ?_); (case side1 => exact uC HR0_3 HB); (case side2 => exact HC0_3.out); rintro e w16 ⟨rfl, hb⟩; refine ⟨_, rfl, ?_⟩; replace BK173 := kB BK173 hb; replace BK174 := kB BK174 hb; replace HB := Aside0.mk (below_step (uN HB) hb); (try clear hb); (try clear hb2); (try clear hk); (try clear hi); obtain ⟨hcz17_0, hcz17_1, hcz17_2, hcz17_3, hfz17_0, hfz17_1, hfz17_2, hfz17_3⟩ := ce4 BK174) | ((with_reducible refine gate_callee (f := 9) rfl ?_); refine goesL_ (some 24) rfl rfl Try.func9 (by kernel_rfl) rfl #[.agg #[.int .i64 a1_0, .int .i64 a1_1, .int .i64 a1_2, .slice A1_3 l1_3.length c1_3], .int .i64 t175] rfl (by (try simp only [List.map_toArray, List.map_cons, List.map_nil]); first | done | rfl) ?_; (with_reducible refine (laws_szTable.calls a1_0 a1_1 a1_2 _ _ l1_3 t175 t176 _ ?side1 ?side2 A10.out).mono ?_); (case side1 => exact uC HR1_3 HB); (case side2 => exact HC1_3.out); rintro e w18 ⟨rfl, hb⟩; refine ⟨_, rfl, ?_⟩; replace BK173 := kB BK173 hb; replace BK174 := kB BK174 hb; replace HB := Aside0.mk (below_step (uN HB) hb); (try clear hb); (try clear hb2); (try clear hk); (try clear hi)))
  go_ret
  exact ⟨by first | rfl | (simp [errW_none, errW_some] <;> rfl) | (simp [*, errW_none, errW_some] <;> rfl), uN HB⟩
 rw [if_neg c11] at H
 have c11b0 : decide (t176 < 0) = false := decide_eq_false c11
 clear c11
 replace H := Option.bind_eq_some_iff.mp H
 obtain ⟨⟨t177, t178, t179, t180⟩, A190, H⟩ := H
 try dsimp only at H
 have A19 := Aside0.mk A190
 clear A190
 replace H := Option.bind_eq_some_iff.mp H
 obtain ⟨⟨t183, t184, t185, t186⟩, A200, H⟩ := H
 try dsimp only at H
 have A20 := Aside0.mk A200
 clear A200
 replace H := Option.bind_eq_some_iff.mp H
 obtain ⟨⟨t189, t190, t191, t192, t195⟩, A210, H⟩ := H
 try dsimp only at H
 have A21 := Aside0.mk A210
 clear A210
 replace H := Option.bind_eq_some_iff.mp H
 obtain ⟨⟨t197, t198, t199, t200⟩, A220, H⟩ := H
 try dsimp only at H
 have A22 := Aside0.mk A220
 clear A220
 replace H := Option.bind_eq_some_iff.mp H
 obtain ⟨⟨t204, t205, t206, t207⟩, A230, H⟩ := H
 try dsimp only at H
 have A23 := Aside0.mk A230
 clear A230
 replace H := Option.bind_eq_some_iff.mp H
 obtain ⟨⟨t211, t212, t213, t214, t217⟩, A240, H⟩ := H
 try dsimp only at H
 have A24 := Aside0.mk A240
 clear A240
 have HC25 := Aside0.mk H
 clear H
 go_enter Try.func3, Try.ntmps3
 try go_wp2_with (first | ((with_reducible refine gate_dst (N := 2) rfl ?_); refine box_event ?hg (N := 2) ?hd (cs := #[.int .i64 a0_0, .int .i64 a0_1, .int .i64 a0_2, .slice A0_3 l0_3.length c0_3]) (t := 24) ?hr ?_; (case hd => rfl); (case hg => rfl); (case hr => first | (go_simp; done) | (go_simp; rfl)); intro gb173 hg w26 hbox hb; have BK173 := Aside0.mk (hbox); have GW173 := nG HB hg; have GE173 := nG HB hg; have GI173 := gI GE173; replace HB := Aside0.mk (below_step (uN HB) hb); clear hb hbox hg) | ((with_reducible refine gate_dst (N := 3) rfl ?_); refine box_event ?hg (N := 3) ?hd (cs := #[.int .i64 a1_0, .int .i64 a1_1, .int .i64 a1_2, .slice A1_3 l1_3.length c1_3]) (t := 24) ?hr ?_; (case hd => rfl); (case hg => rfl); (case hr => first | (go_simp; done) | (go_simp; rfl)); intro gb174 hg w27 hbox hb; have BK174 := Aside0.mk (hbox); have GW174 := nG HB hg; have GE174 := nG HB hg; have GI174 := gI GE174; replace HB := Aside0.mk (below_step (uN HB) hb); have NB173_174 := nL BK173 hg; have NB174_173 := nR BK173 hg; replace BK173 := kB BK173 hb; clear hb hbox hg; have hnb28 := NB173_174.out; have hnc28 := NB174_173.out; obtain ⟨hcz29_0, hcz29_1, hcz29_2, hcz29_3, hfz29_0, hfz29_1, hfz29_2, hfz29_3⟩ := ce4 BK173) | ((with_reducible refine gate_callee (f := 9) rfl ?_); refine goesL_ (some 19) rfl rfl Try.func9 (by kernel_rfl) rfl #[.agg #[.int .i64 a0_0, .int .i64 a0_1, .int .i64 a0_2, .slice A0_3 l0_3.length c0_3], .int .i64 1048576] rfl (by (try simp only [List.map_toArray, List.map_cons, List.map_nil]); first | done | rfl) ?_; (with_reducible refine (laws_szTable.calls a0_0 a0_1 a0_2 _ _ l0_3 1048576 t175 _ ?side1 ?side2 A3.out).mono ?_); (case side1 => exact uC HR0_3 HB); (case side2 => exact HC0_3.out); rintro e w30 ⟨rfl, hb⟩; refine ⟨_, rfl, ?_⟩; replace BK173 := kB BK173 hb; replace BK174 := kB BK174 hb; replace HB := Aside0.mk (below_step (uN HB) hb); (try clear hb); (try clear hb2); (try clear hk); (try clear hi); obtain ⟨hcz31_0, hcz31_1, hcz31_2, hcz31_3, hfz31_0, hfz31_1, hfz31_2, hfz31_3⟩ := ce4 BK174) | ((with_reducible refine gate_callee (f := 9) rfl ?_); refine goesL_ (some 24) rfl rfl Try.func9 (by kernel_rfl) rfl #[.agg #[.int .i64 a1_0, .int .i64 a1_1, .int .i64 a1_2, .slice A1_3 l1_3.length c1_3], .int .i64 t175] rfl (by (try simp only [List.map_toArray, List.map_cons, List.map_nil]); first | done | rfl) ?_; (with_reducible refine (laws_szTable.calls a1_0 a1_1 a1_2 _ _ l1_3 t175 t176 _ ?side1 ?side2 A10.out).mono ?_); (case side1 => exact uC HR1_3 HB); (case side2 => exact HC1_3.out); rintro e w32 ⟨rfl, hb⟩; refine ⟨_, rfl, ?_⟩; replace BK173 := kB BK173 hb; replace BK174 := kB BK174 hb; replace HB := Aside0.mk (below_step (uN HB) hb); (try clear hb); (try clear hb2); (try clear hk); (try clear hi)))
 replace BK173 := Aside0.mk (blk_drew BK173.out)
 replace BK174 := Aside0.mk (blk_drew BK174.out)
 replace HB := Aside0.mk (below_drew1 HB.out)
 refine start_ (n := 11) (S := fun w' => w'.cell? ⟨gb173, 0, none⟩ = some (.int .i64 a0_0) ∧ w'.cell? ⟨gb173, 1, none⟩ = some (.int .i64 a0_1) ∧ w'.cell? ⟨gb173, 2, none⟩ = some (.int .i64 a0_2) ∧ w'.cell? ⟨gb173, 3, none⟩ = some (.slice A0_3 l0_3.length c0_3) ∧ w'.cell? ⟨gb174, 0, none⟩ = some (.int .i64 a1_0) ∧ w'.cell? ⟨gb174, 1, none⟩ = some (.int .i64 a1_1) ∧ w'.cell? ⟨gb174, 2, none⟩ = some (.int .i64 a1_2) ∧ w'.cell? ⟨gb174, 3, none⟩ = some (.slice A1_3 l1_3.length c1_3)) (ds := []) #[false, false, false, false, false, false, false, false, false, false, false] (by kernel_rfl) rfl rfl ⟨bc BK173 0, bc BK173 1, bc BK173 2, bc BK173 3, bc BK174 0, bc BK174 1, bc BK174 2, bc BK174 3⟩ (fun hHeld => ?_); refine with_tabW laws_FnExactAddTables.tab8 laws_FnExactAddTables.bits8 (fun HT_ HW_ => ?_)
 generalize w32.drew = w33 at BK173 BK174 HB hHeld ⊢
 refine take_ (i := 0) (N := some 28) (v := ?_) (a' := ?_) #[true, false, false, false, false, false, false, false, false, false, false] rfl rfl (take_ofW HT_.out HW_.out (by kernel_rfl)) (fun _ _ _ h => h) (Or.inl ⟨by rfl, ?_⟩) hHeld ?_ ?_
 rotate_left
 ·
  rintro w' ⟨s0, s1, s2, s3, s4, s5, s6, s7⟩
  go_simp
  with_reducible rfl
 rotate_left
 ·
  simp only [Act.put, setIfInBounds_toArray, set_cons_zero, set_cons_succ, i64_w, i32_w]
  rfl
 refine take_ (i := 2) (N := some 30) (v := ?_) (a' := ?_) #[true, false, true, false, false, false, false, false, false, false, false] rfl rfl (take_ofW HT_.out HW_.out (by kernel_rfl)) (fun _ _ _ h => h) (Or.inl ⟨by rfl, ?_⟩) hHeld ?_ ?_
 rotate_left
 ·
  rintro w' ⟨s0, s1, s2, s3, s4, s5, s6, s7⟩
  go_simp
  with_reducible rfl
 rotate_left
 ·
  simp only [Act.put, setIfInBounds_toArray, set_cons_zero, set_cons_succ, i64_w, i32_w]
  rfl
 refine join_ (σ := Value × Value × Value × Nat) 2 #[true, true, true, true, true, true, true, true, true, false, false] (fun s_ => [(29, .agg #[.int .i64 t177, .int .i64 t178, .int .i64 t179, s_.1]), (31, .agg #[.int .i64 t183, .int .i64 t184, .int .i64 t185, s_.2.1]), (32, .tuple #[.agg #[.int .i64 t189, .int .i64 t190, .int .i64 t191, s_.2.2.1], .bool t195]), (6, .pointer (some ⟨s_.2.2.2, 0, none⟩)), (27, .tuple #[.agg #[.int .i64 t189, .int .i64 t190, .int .i64 t191, s_.2.2.1], .bool t195]), (33, .agg #[.int .i64 t189, .int .i64 t190, .int .i64 t191, s_.2.2.1]), (34, .bool t195)]) (fun s_ w' => (w'.cell? ⟨gb173, 0, none⟩ = some (.int .i64 a0_0) ∧ w'.cell? ⟨gb173, 1, none⟩ = some (.int .i64 a0_1) ∧ w'.cell? ⟨gb173, 2, none⟩ = some (.int .i64 a0_2) ∧ w'.cell? ⟨gb173, 3, none⟩ = some (.slice A0_3 l0_3.length c0_3) ∧ w'.cell? ⟨gb174, 0, none⟩ = some (.int .i64 a1_0) ∧ w'.cell? ⟨gb174, 1, none⟩ = some (.int .i64 a1_1) ∧ w'.cell? ⟨gb174, 2, none⟩ = some (.int .i64 a1_2) ∧ w'.cell? ⟨gb174, 3, none⟩ = some (.slice A1_3 l1_3.length c1_3)) ∧ (Kd.R (Kd.int .i64) 3 w' w.heap.size (fun k_ => some k_ ≠ (s_.2.1 : Value).ownBlock ∧ some k_ ≠ (s_.2.2.1 : Value).ownBlock) s_.1 t180) ∧ (Kd.R (Kd.int .i64) 3 w' w.heap.size (fun k_ => some k_ ≠ (s_.1 : Value).ownBlock ∧ some k_ ≠ (s_.2.2.1 : Value).ownBlock) s_.2.1 t186) ∧ (Kd.R (Kd.int .i64) 3 w' w.heap.size (fun k_ => some k_ ≠ (s_.1 : Value).ownBlock ∧ some k_ ≠ (s_.2.1 : Value).ownBlock) s_.2.2.1 t192) ∧ (w'.heap[gb173]? = some (.cells #[.int .i64 a0_0, .int .i64 a0_1, .int .i64 a0_2, .slice A0_3 l0_3.length c0_3] 24 (0, 0))) ∧ (w'.heap[gb174]? = some (.cells #[.int .i64 a1_0, .int .i64 a1_1, .int .i64 a1_2, .slice A1_3 l1_3.length c1_3] 24 (0, 0))) ∧ (w'.heap[s_.2.2.2]? = some (.cells #[.int .i64 0, .int .i64 0, .int .i64 0, .slice none 0 0] 26 (0, 0))) ∧ (w.heap.size ≤ s_.2.2.2) ∧ (w.heap.size ≤ s_.2.2.2) ∧ (gb173 ≠ s_.2.2.2) ∧ (s_.2.2.2 ≠ gb173) ∧ (gb174 ≠ s_.2.2.2) ∧ (s_.2.2.2 ≠ gb174) ∧ (Below w.heap.size w w')) ?_ ?_
 rotate_left
 ·
  intro hCont
  refine two_ (i := 1) (j := 8) (Ni := some 29) (Nj := some 6) #[true, true, true, false, false, false, false, false, false, false, false] #[true, false, true, false, false, false, false, false, true, false, false] rfl rfl rfl rfl (two_of HT_.out (by kernel_rfl)) (by decide) (by decide) (fun K hK => ?_) (fun K hK => ?_)
  ·
   skip
   refine goes_ Try.func11 (by kernel_rfl) rfl #[.agg #[.int .i64 a0_0, .int .i64 a0_1, .int .i64 a0_2, .slice A0_3 l0_3.length c0_3]] (by rfl) rfl rfl (by (try simp only [List.map_toArray, List.map_cons, List.map_nil]); first | done | rfl) ?_
   with_reducible refine (laws_toTable.calls k a0_0 a0_1 a0_2 _ _ l0_3 t177 t178 t179 t180 _ ?side1 ?side2 A19.out).mono ?_
   (case side1 => exact uC HR0_3 HB)
   (case side2 => exact HC0_3.out)
   rintro e w34 ⟨v181, rfl, ho0, hb⟩
   refine ⟨_, rfl, ?_⟩
   have HO182 := Aside0.mk (Kd.R_lower ho0 (below_size (uN HB)))
   replace BK173 := kB BK173 hb
   replace BK174 := kB BK174 hb
   replace HB := Aside0.mk (below_step (uN HB) hb)
   (try clear hb)
   (try clear hb2)
   (try clear hk)
   (try clear hi)
   (try clear ho0)
   refine hK.out _ _ ⟨bc BK173 0, bc BK173 1, bc BK173 2, bc BK173 3, bc BK174 0, bc BK174 1, bc BK174 2, bc BK174 3⟩ (fun hHeld => ?_)
   clear hK K
   refine norm_ (a' := ?_) ?_ ?_
   rotate_left
   ·
    show Act.put _ (some 29) _ = _
    simp only [Act.put, setIfInBounds_toArray, set_cons_zero, set_cons_succ, i64_w, i32_w]
    rfl
   refine two_ (i := 3) (j := 8) (Ni := some 31) (Nj := some 6) #[true, true, true, true, false, false, false, false, false, false, false] #[true, true, true, false, false, false, false, false, true, false, false] rfl rfl rfl rfl (two_of HT_.out (by kernel_rfl)) (by decide) (by decide) (fun K hK => ?_) (fun K hK => ?_)
   ·
    skip
    refine goes_ Try.func11 (by kernel_rfl) rfl #[.agg #[.int .i64 a1_0, .int .i64 a1_1, .int .i64 a1_2, .slice A1_3 l1_3.length c1_3]] (by rfl) rfl rfl (by (try simp only [List.map_toArray, List.map_cons, List.map_nil]); first | done | rfl) ?_
    with_reducible refine (laws_toTable.calls k a1_0 a1_1 a1_2 _ _ l1_3 t183 t184 t185 t186 _ ?side1 ?side2 A20.out).mono ?_
    (case side1 => exact uC HR1_3 HB)
    (case side2 => exact HC1_3.out)
    rintro e w35 ⟨v187, rfl, ho0, hb⟩
    refine ⟨_, rfl, ?_⟩
    have HO188 := Aside0.mk (Kd.R_lower (Kd.R_new' ho0 (Kd.R_lt (uR HO182))) (below_size (uN HB)))
    replace HO182 := Aside0.mk (Kd.R_elder' (uR HO182) (Kd.R_base ho0) hb)
    replace BK173 := kB BK173 hb
    replace BK174 := kB BK174 hb
    replace HB := Aside0.mk (below_step (uN HB) hb)
    (try clear hb)
    (try clear hb2)
    (try clear hk)
    (try clear hi)
    (try clear ho0)
    obtain ⟨Ao36, co36, eo36⟩ := Kd.R_slice HO182.out
    (first | subst eo36 | (injection eo36 with f1_ f2_ f3_; have f4_ := f1_.symm; have f5_ := f3_.symm; clear f1_ f2_ f3_; subst f4_; subst f5_))
    obtain ⟨Ao37, co37, eo37⟩ := Kd.R_slice HO188.out
    (first | subst eo37 | (injection eo37 with f1_ f2_ f3_; have f4_ := f1_.symm; have f5_ := f3_.symm; clear f1_ f2_ f3_; subst f4_; subst f5_))
    refine hK.out _ _ ⟨bc BK173 0, bc BK173 1, bc BK173 2, bc BK173 3, bc BK174 0, bc BK174 1, bc BK174 2, bc BK174 3⟩ (fun hHeld => ?_)
    clear hK K
    refine norm_ (a' := ?_) ?_ ?_
    rotate_left
    ·
     show Act.put _ (some 31) _ = _
     simp only [Act.put, setIfInBounds_toArray, set_cons_zero, set_cons_succ, i64_w, i32_w]
     rfl
    refine two_ (i := 4) (j := 8) (Ni := some 32) (Nj := some 6) #[true, true, true, true, true, false, false, false, false, false, false] #[true, true, true, true, false, false, false, false, true, false, false] rfl rfl rfl rfl (two_of HT_.out (by kernel_rfl)) (by decide) (by decide) (fun K hK => ?_) (fun K hK => ?_)
    ·
     skip
     refine goes_ Try.func10 (by kernel_rfl) rfl #[.agg #[.int .i64 t177, .int .i64 t178, .int .i64 t179, .slice Ao36 t180.length co36], .agg #[.int .i64 t183, .int .i64 t184, .int .i64 t185, .slice Ao37 t186.length co37]] (by rfl) rfl rfl (by (try simp only [List.map_toArray, List.map_cons, List.map_nil]); first | done | rfl) ?_
     with_reducible refine (spec_AddTables.calls k t177 t178 t179 _ _ t180 t183 t184 t185 _ _ t186 t189 t190 t191 t192 t195 _ ?side1 ?side2 ?side3 ?side4 A21.out).mono ?_
     (case side1 => exact uD HO182)
     (case side2 => exact (Kd.R_reads' HO182.out).2.1)
     (case side3 => exact uD HO188)
     (case side4 => exact (Kd.R_reads' HO188.out).2.1)
     rintro e w38 ⟨v193, rfl, ho0, hb⟩
     refine ⟨_, rfl, ?_⟩
     have HO194 := Aside0.mk (Kd.R_lower (Kd.R_new' (Kd.R_new' ho0 (Kd.R_lt (uR HO182))) (Kd.R_lt (uR HO188))) (below_size (uN HB)))
     replace HO182 := Aside0.mk (Kd.R_elder' (uR HO182) (Kd.R_base ho0) hb)
     replace HO188 := Aside0.mk (Kd.R_elder' (uR HO188) (Kd.R_base ho0) hb)
     replace BK173 := kB BK173 hb
     replace BK174 := kB BK174 hb
     replace HB := Aside0.mk (below_step (uN HB) hb)
     (try clear hb)
     (try clear hb2)
     (try clear hk)
     (try clear hi)
     (try clear ho0)
     refine hK.out _ _ ⟨bc BK173 0, bc BK173 1, bc BK173 2, bc BK173 3, bc BK174 0, bc BK174 1, bc BK174 2, bc BK174 3⟩ (fun hHeld => ?_)
     clear hK K
     refine norm_ (a' := ?_) ?_ ?_
     rotate_left
     ·
      show Act.put _ (some 32) _ = _
      simp only [Act.put, setIfInBounds_toArray, set_cons_zero, set_cons_succ, i64_w, i32_w]
      rfl
     refine pure_ (i := 5) (N := some 27) (v := ?_) (a' := ?_) #[true, true, true, true, true, true, false, false, false, false, false] rfl rfl (any_of HT_.out (by kernel_rfl)) (fun _ _ _ h => h) (Or.inl ⟨by rfl, ?_⟩) ?_ ?_
     rotate_left
     ·
      intro w'
      go_simp
      with_reducible rfl
     rotate_left
     ·
      simp only [Act.put, setIfInBounds_toArray, set_cons_zero, set_cons_succ, i64_w, i32_w]
      rfl
     refine pure_ (i := 6) (N := some 33) (v := ?_) (a' := ?_) #[true, true, true, true, true, true, true, false, false, false, false] rfl rfl (any_of HT_.out (by kernel_rfl)) (fun _ _ _ h => h) (Or.inl ⟨by rfl, ?_⟩) ?_ ?_
     rotate_left
     ·
      intro w'
      go_simp
      with_reducible rfl
     rotate_left
     ·
      simp only [Act.put, setIfInBounds_toArray, set_cons_zero, set_cons_succ, i64_w, i32_w]
      rfl
     refine pure_ (i := 7) (N := some 34) (v := ?_) (a' := ?_) #[true, true, true, true, true, true, true, true, false, false, false] rfl rfl (any_of HT_.out (by kernel_rfl)) (fun _ _ _ h => h) (Or.inl ⟨by rfl, ?_⟩) ?_ ?_
     rotate_left
     ·
      intro w'
      go_simp
      with_reducible rfl
     rotate_left
     ·
      simp only [Act.put, setIfInBounds_toArray, set_cons_zero, set_cons_succ, i64_w, i32_w]
      rfl
     refine one_ (i := 8) (N := some 6) #[true, true, true, true, true, true, true, true, true, false, false] rfl rfl (one_of HT_.out (by kernel_rfl)) (by decide) (fun K hK => ?_)
     refine box_step ?hg (N := 6) ?hd (cs := #[.int .i64 0, .int .i64 0, .int .i64 0, .slice none 0 0]) (t := 26) ?hr ?_; (case hd => rfl); (case hg => rfl); (case hr => first | (go_simp; done) | (go_simp; rfl))
     intro gb196 hg w39 hbox hb
     replace HO182 := Aside0.mk (Kd.R_below (uR HO182) hb)
     replace HO188 := Aside0.mk (Kd.R_below (uR HO188) hb)
     replace HO194 := Aside0.mk (Kd.R_below (uR HO194) hb)
     have BK196 := Aside0.mk (hbox)
     have GW196 := nG HB hg
     have GE196 := nG HB hg
     have GI196 := gI GE196
     replace HB := Aside0.mk (below_step (uN HB) hb)
     have NB173_196 := nL BK173 hg
     have NB196_173 := nR BK173 hg
     replace BK173 := kB BK173 hb
     have NB174_196 := nL BK174 hg
     have NB196_174 := nR BK174 hg
     replace BK174 := kB BK174 hb
     clear hb hbox hg
     refine hK.out _ _ ⟨bc BK173 0, bc BK173 1, bc BK173 2, bc BK173 3, bc BK174 0, bc BK174 1, bc BK174 2, bc BK174 3⟩ (fun hHeld => ?_)
     clear hK K
     refine norm_ (a' := ?_) ?_ ?_
     rotate_left
     ·
      show Act.put _ (some 6) _ = _
      simp only [Act.put, setIfInBounds_toArray, set_cons_zero, set_cons_succ, i64_w, i32_w]
      rfl
     exact norm_ (by simp only [putAll, Act.put, setIfInBounds_toArray, set_cons_zero, set_cons_succ]) (hCont (.slice Ao36 t180.length co36, .slice Ao37 t186.length co37, v193, gb196) _ ⟨hHeld, (by (with_reducible repeat (first | apply Kd.R_alloc | apply Kd.R_drewN | apply Kd.R_drew)); exact Kd.R_mono HO182.out (fun _ hk => ⟨hk.1.2, hk.2⟩)), (by (with_reducible repeat (first | apply Kd.R_alloc | apply Kd.R_drewN | apply Kd.R_drew)); exact Kd.R_mono HO188.out (fun _ hk => ⟨hk.1.2, hk.2⟩)), (by (with_reducible repeat (first | apply Kd.R_alloc | apply Kd.R_drewN | apply Kd.R_drew)); exact Kd.R_mono HO194.out (fun _ hk => ⟨hk.1.2, hk.2⟩)), (uK BK173), (uK BK174), (uK BK196), GW196.out, GE196.out, NB173_196.out, NB196_173.out, NB174_196.out, NB196_174.out, (uN HB)⟩)
    skip
    refine box_step ?hg (N := 6) ?hd (cs := #[.int .i64 0, .int .i64 0, .int .i64 0, .slice none 0 0]) (t := 26) ?hr ?_; (case hd => rfl); (case hg => rfl); (case hr => first | (go_simp; done) | (go_simp; rfl))
    intro gb196 hg w36 hbox hb
    replace HO182 := Aside0.mk (Kd.R_below (uR HO182) hb)
    replace HO188 := Aside0.mk (Kd.R_below (uR HO188) hb)
    have BK196 := Aside0.mk (hbox)
    have GW196 := nG HB hg
    have GE196 := nG HB hg
    have GI196 := gI GE196
    replace HB := Aside0.mk (below_step (uN HB) hb)
    have NB173_196 := nL BK173 hg
    have NB196_173 := nR BK173 hg
    replace BK173 := kB BK173 hb
    have NB174_196 := nL BK174 hg
    have NB196_174 := nR BK174 hg
    replace BK174 := kB BK174 hb
    clear hb hbox hg
    obtain ⟨Ao37, co37, eo37⟩ := Kd.R_slice HO182.out
    (first | subst eo37 | (injection eo37 with f1_ f2_ f3_; have f4_ := f1_.symm; have f5_ := f3_.symm; clear f1_ f2_ f3_; subst f4_; subst f5_))
    obtain ⟨Ao38, co38, eo38⟩ := Kd.R_slice HO188.out
    (first | subst eo38 | (injection eo38 with f1_ f2_ f3_; have f4_ := f1_.symm; have f5_ := f3_.symm; clear f1_ f2_ f3_; subst f4_; subst f5_))
    refine hK.out _ _ ⟨bc BK173 0, bc BK173 1, bc BK173 2, bc BK173 3, bc BK174 0, bc BK174 1, bc BK174 2, bc BK174 3⟩ (fun hHeld => ?_)
    clear hK K
    refine norm_ (a' := ?_) ?_ ?_
    rotate_left
    ·
     show Act.put _ (some 6) _ = _
     simp only [Act.put, setIfInBounds_toArray, set_cons_zero, set_cons_succ, i64_w, i32_w]
     rfl
    refine one_ (i := 4) (N := some 32) #[true, true, true, true, true, false, false, false, true, false, false] rfl rfl (one_of HT_.out (by kernel_rfl)) (by decide) (fun K hK => ?_)
    refine goes_ Try.func10 (by kernel_rfl) rfl #[.agg #[.int .i64 t177, .int .i64 t178, .int .i64 t179, .slice Ao37 t180.length co37], .agg #[.int .i64 t183, .int .i64 t184, .int .i64 t185, .slice Ao38 t186.length co38]] (by rfl) rfl rfl (by (try simp only [List.map_toArray, List.map_cons, List.map_nil]); first | done | rfl) ?_
    with_reducible refine (spec_AddTables.calls k t177 t178 t179 _ _ t180 t183 t184 t185 _ _ t186 t189 t190 t191 t192 t195 _ ?side1 ?side2 ?side3 ?side4 A21.out).mono ?_
    (case side1 => exact uD HO182)
    (case side2 => exact (Kd.R_reads' HO182.out).2.1)
    (case side3 => exact uD HO188)
    (case side4 => exact (Kd.R_reads' HO188.out).2.1)
    rintro e w39 ⟨v193, rfl, ho0, hb⟩
    refine ⟨_, rfl, ?_⟩
    have HO194 := Aside0.mk (Kd.R_lower (Kd.R_new' (Kd.R_new' ho0 (Kd.R_lt (uR HO182))) (Kd.R_lt (uR HO188))) (below_size (uN HB)))
    replace HO182 := Aside0.mk (Kd.R_elder' (uR HO182) (Kd.R_base ho0) hb)
    replace HO188 := Aside0.mk (Kd.R_elder' (uR HO188) (Kd.R_base ho0) hb)
    replace BK173 := kB BK173 hb
    replace BK174 := kB BK174 hb
    replace BK196 := kB BK196 hb
    replace HB := Aside0.mk (below_step (uN HB) hb)
    (try clear hb)
    (try clear hb2)
    (try clear hk)
    (try clear hi)
    (try clear ho0)
    refine hK.out _ _ ⟨bc BK173 0, bc BK173 1, bc BK173 2, bc BK173 3, bc BK174 0, bc BK174 1, bc BK174 2, bc BK174 3⟩ (fun hHeld => ?_)
    clear hK K
    refine norm_ (a' := ?_) ?_ ?_
    rotate_left
    ·
     show Act.put _ (some 32) _ = _
     simp only [Act.put, setIfInBounds_toArray, set_cons_zero, set_cons_succ, i64_w, i32_w]
     rfl
    refine pure_ (i := 5) (N := some 27) (v := ?_) (a' := ?_) #[true, true, true, true, true, true, false, false, true, false, false] rfl rfl (any_of HT_.out (by kernel_rfl)) (fun _ _ _ h => h) (Or.inl ⟨by rfl, ?_⟩) ?_ ?_
    rotate_left
    ·
     intro w'
     go_simp
     with_reducible rfl
    rotate_left
    ·
     simp only [Act.put, setIfInBounds_toArray, set_cons_zero, set_cons_succ, i64_w, i32_w]
     rfl
    refine pure_ (i := 6) (N := some 33) (v := ?_) (a' := ?_) #[true, true, true, true, true, true, true, false, true, false, false] rfl rfl (any_of HT_.out (by kernel_rfl)) (fun _ _ _ h => h) (Or.inl ⟨by rfl, ?_⟩) ?_ ?_
    rotate_left
    ·
     intro w'
     go_simp
     with_reducible rfl
    rotate_left
    ·
     simp only [Act.put, setIfInBounds_toArray, set_cons_zero, set_cons_succ, i64_w, i32_w]
     rfl
    refine pure_ (i := 7) (N := some 34) (v := ?_) (a' := ?_) #[true, true, true, true, true, true, true, true, true, false, false] rfl rfl (any_of HT_.out (by kernel_rfl)) (fun _ _ _ h => h) (Or.inl ⟨by rfl, ?_⟩) ?_ ?_
    rotate_left
    ·
     intro w'
     go_simp
     with_reducible rfl
    rotate_left
    ·
     simp only [Act.put, setIfInBounds_toArray, set_cons_zero, set_cons_succ, i64_w, i32_w]
     rfl
    exact norm_ (by simp only [putAll, Act.put, setIfInBounds_toArray, set_cons_zero, set_cons_succ]) (hCont (.slice Ao37 t180.length co37, .slice Ao38 t186.length co38, v193, gb196) _ ⟨hHeld, (by (with_reducible repeat (first | apply Kd.R_alloc | apply Kd.R_drewN | apply Kd.R_drew)); exact Kd.R_mono HO182.out (fun _ hk => ⟨hk.1.2, hk.2⟩)), (by (with_reducible repeat (first | apply Kd.R_alloc | apply Kd.R_drewN | apply Kd.R_drew)); exact Kd.R_mono HO188.out (fun _ hk => ⟨hk.1.2, hk.2⟩)), (by (with_reducible repeat (first | apply Kd.R_alloc | apply Kd.R_drewN | apply Kd.R_drew)); exact Kd.R_mono HO194.out (fun _ hk => ⟨hk.1.2, hk.2⟩)), (uK BK173), (uK BK174), (uK BK196), GW196.out, GE196.out, NB173_196.out, NB196_173.out, NB174_196.out, NB196_174.out, (uN HB)⟩)
   skip
   refine box_step ?hg (N := 6) ?hd (cs := #[.int .i64 0, .int .i64 0, .int .i64 0, .slice none 0 0]) (t := 26) ?hr ?_; (case hd => rfl); (case hg => rfl); (case hr => first | (go_simp; done) | (go_simp; rfl))
   intro gb196 hg w35 hbox hb
   replace HO182 := Aside0.mk (Kd.R_below (uR HO182) hb)
   have BK196 := Aside0.mk (hbox)
   have GW196 := nG HB hg
   have GE196 := nG HB hg
   have GI196 := gI GE196
   replace HB := Aside0.mk (below_step (uN HB) hb)
   have NB173_196 := nL BK173 hg
   have NB196_173 := nR BK173 hg
   replace BK173 := kB BK173 hb
   have NB174_196 := nL BK174 hg
   have NB196_174 := nR BK174 hg
   replace BK174 := kB BK174 hb
   clear hb hbox hg
   refine hK.out _ _ ⟨bc BK173 0, bc BK173 1, bc BK173 2, bc BK173 3, bc BK174 0, bc BK174 1, bc BK174 2, bc BK174 3⟩ (fun hHeld => ?_)
   clear hK K
   refine norm_ (a' := ?_) ?_ ?_
   rotate_left
   ·
    show Act.put _ (some 6) _ = _
    simp only [Act.put, setIfInBounds_toArray, set_cons_zero, set_cons_succ, i64_w, i32_w]
    rfl
   refine one_ (i := 3) (N := some 31) #[true, true, true, true, false, false, false, false, true, false, false] rfl rfl (one_of HT_.out (by kernel_rfl)) (by decide) (fun K hK => ?_)
   refine goes_ Try.func11 (by kernel_rfl) rfl #[.agg #[.int .i64 a1_0, .int .i64 a1_1, .int .i64 a1_2, .slice A1_3 l1_3.length c1_3]] (by rfl) rfl rfl (by (try simp only [List.map_toArray, List.map_cons, List.map_nil]); first | done | rfl) ?_
   with_reducible refine (laws_toTable.calls k a1_0 a1_1 a1_2 _ _ l1_3 t183 t184 t185 t186 _ ?side1 ?side2 A20.out).mono ?_
   (case side1 => exact uC HR1_3 HB)
   (case side2 => exact HC1_3.out)
   rintro e w36 ⟨v187, rfl, ho0, hb⟩
   refine ⟨_, rfl, ?_⟩
   have HO188 := Aside0.mk (Kd.R_lower (Kd.R_new' ho0 (Kd.R_lt (uR HO182))) (below_size (uN HB)))
   replace HO182 := Aside0.mk (Kd.R_elder' (uR HO182) (Kd.R_base ho0) hb)
   replace BK173 := kB BK173 hb
   replace BK174 := kB BK174 hb
   replace BK196 := kB BK196 hb
   replace HB := Aside0.mk (below_step (uN HB) hb)
   (try clear hb)
   (try clear hb2)
   (try clear hk)
   (try clear hi)
   (try clear ho0)
   obtain ⟨Ao37, co37, eo37⟩ := Kd.R_slice HO182.out
   (first | subst eo37 | (injection eo37 with f1_ f2_ f3_; have f4_ := f1_.symm; have f5_ := f3_.symm; clear f1_ f2_ f3_; subst f4_; subst f5_))
   obtain ⟨Ao38, co38, eo38⟩ := Kd.R_slice HO188.out
   (first | subst eo38 | (injection eo38 with f1_ f2_ f3_; have f4_ := f1_.symm; have f5_ := f3_.symm; clear f1_ f2_ f3_; subst f4_; subst f5_))
   refine hK.out _ _ ⟨bc BK173 0, bc BK173 1, bc BK173 2, bc BK173 3, bc BK174 0, bc BK174 1, bc BK174 2, bc BK174 3⟩ (fun hHeld => ?_)
   clear hK K
   refine norm_ (a' := ?_) ?_ ?_
   rotate_left
   ·
    show Act.put _ (some 31) _ = _
    simp only [Act.put, setIfInBounds_toArray, set_cons_zero, set_cons_succ, i64_w, i32_w]
    rfl
   refine one_ (i := 4) (N := some 32) #[true, true, true, true, true, false, false, false, true, false, false] rfl rfl (one_of HT_.out (by kernel_rfl)) (by decide) (fun K hK => ?_)
   refine goes_ Try.func10 (by kernel_rfl) rfl #[.agg #[.int .i64 t177, .int .i64 t178, .int .i64 t179, .slice Ao37 t180.length co37], .agg #[.int .i64 t183, .int .i64 t184, .int .i64 t185, .slice Ao38 t186.length co38]] (by rfl) rfl rfl (by (try simp only [List.map_toArray, List.map_cons, List.map_nil]); first | done | rfl) ?_
   with_reducible refine (spec_AddTables.calls k t177 t178 t179 _ _ t180 t183 t184 t185 _ _ t186 t189 t190 t191 t192 t195 _ ?side1 ?side2 ?side3 ?side4 A21.out).mono ?_
   (case side1 => exact uD HO182)
   (case side2 => exact (Kd.R_reads' HO182.out).2.1)
   (case side3 => exact uD HO188)
   (case side4 => exact (Kd.R_reads' HO188.out).2.1)
   rintro e w39 ⟨v193, rfl, ho0, hb⟩
   refine ⟨_, rfl, ?_⟩
   have HO194 := Aside0.mk (Kd.R_lower (Kd.R_new' (Kd.R_new' ho0 (Kd.R_lt (uR HO182))) (Kd.R_lt (uR HO188))) (below_size (uN HB)))
   replace HO182 := Aside0.mk (Kd.R_elder' (uR HO182) (Kd.R_base ho0) hb)
   replace HO188 := Aside0.mk (Kd.R_elder' (uR HO188) (Kd.R_base ho0) hb)
   replace BK173 := kB BK173 hb
   replace BK174 := kB BK174 hb
   replace BK196 := kB BK196 hb
   replace HB := Aside0.mk (below_step (uN HB) hb)
   (try clear hb)
   (try clear hb2)
   (try clear hk)
   (try clear hi)
   (try clear ho0)
   refine hK.out _ _ ⟨bc BK173 0, bc BK173 1, bc BK173 2, bc BK173 3, bc BK174 0, bc BK174 1, bc BK174 2, bc BK174 3⟩ (fun hHeld => ?_)
   clear hK K
   refine norm_ (a' := ?_) ?_ ?_
   rotate_left
   ·
    show Act.put _ (some 32) _ = _
    simp only [Act.put, setIfInBounds_toArray, set_cons_zero, set_cons_succ, i64_w, i32_w]
    rfl
   refine pure_ (i := 5) (N := some 27) (v := ?_) (a' := ?_) #[true, true, true, true, true, true, false, false, true, false, false] rfl rfl (any_of HT_.out (by kernel_rfl)) (fun _ _ _ h => h) (Or.inl ⟨by rfl, ?_⟩) ?_ ?_
   rotate_left
   ·
    intro w'
    go_simp
    with_reducible rfl
   rotate_left
   ·
    simp only [Act.put, setIfInBounds_toArray, set_cons_zero, set_cons_succ, i64_w, i32_w]
    rfl
   refine pure_ (i := 6) (N := some 33) (v := ?_) (a' := ?_) #[true, true, true, true, true, true, true, false, true, false, false] rfl rfl (any_of HT_.out (by kernel_rfl)) (fun _ _ _ h => h) (Or.inl ⟨by rfl, ?_⟩) ?_ ?_
   rotate_left
   ·
    intro w'
    go_simp
    with_reducible rfl
   rotate_left
   ·
    simp only [Act.put, setIfInBounds_toArray, set_cons_zero, set_cons_succ, i64_w, i32_w]
    rfl
   refine pure_ (i := 7) (N := some 34) (v := ?_) (a' := ?_) #[true, true, true, true, true, true, true, true, true, false, false] rfl rfl (any_of HT_.out (by kernel_rfl)) (fun _ _ _ h => h) (Or.inl ⟨by rfl, ?_⟩) ?_ ?_
   rotate_left
   ·
    intro w'
    go_simp
    with_reducible rfl
   rotate_left
   ·
    simp only [Act.put, setIfInBounds_toArray, set_cons_zero, set_cons_succ, i64_w, i32_w]
    rfl
   exact norm_ (by simp only [putAll, Act.put, setIfInBounds_toArray, set_cons_zero, set_cons_succ]) (hCont (.slice Ao37 t180.length co37, .slice Ao38 t186.length co38, v193, gb196) _ ⟨hHeld, (by (with_reducible repeat (first | apply Kd.R_alloc | apply Kd.R_drewN | apply Kd.R_drew)); exact Kd.R_mono HO182.out (fun _ hk => ⟨hk.1.2, hk.2⟩)), (by (with_reducible repeat (first | apply Kd.R_alloc | apply Kd.R_drewN | apply Kd.R_drew)); exact Kd.R_mono HO188.out (fun _ hk => ⟨hk.1.2, hk.2⟩)), (by (with_reducible repeat (first | apply Kd.R_alloc | apply Kd.R_drewN | apply Kd.R_drew)); exact Kd.R_mono HO194.out (fun _ hk => ⟨hk.1.2, hk.2⟩)), (uK BK173), (uK BK174), (uK BK196), GW196.out, GE196.out, NB173_196.out, NB196_173.out, NB174_196.out, NB196_174.out, (uN HB)⟩)
  skip
  refine box_step ?hg (N := 6) ?hd (cs := #[.int .i64 0, .int .i64 0, .int .i64 0, .slice none 0 0]) (t := 26) ?hr ?_; (case hd => rfl); (case hg => rfl); (case hr => first | (go_simp; done) | (go_simp; rfl))
  intro gb196 hg w34 hbox hb
  have BK196 := Aside0.mk (hbox)
  have GW196 := nG HB hg
  have GE196 := nG HB hg
  have GI196 := gI GE196
  replace HB := Aside0.mk (below_step (uN HB) hb)
  have NB173_196 := nL BK173 hg
  have NB196_173 := nR BK173 hg
  replace BK173 := kB BK173 hb
  have NB174_196 := nL BK174 hg
  have NB196_174 := nR BK174 hg
  replace BK174 := kB BK174 hb
  clear hb hbox hg
  refine hK.out _ _ ⟨bc BK173 0, bc BK173 1, bc BK173 2, bc BK173 3, bc BK174 0, bc BK174 1, bc BK174 2, bc BK174 3⟩ (fun hHeld => ?_)
  clear hK K
  refine norm_ (a' := ?_) ?_ ?_
  rotate_left
  ·
   show Act.put _ (some 6) _ = _
   simp only [Act.put, setIfInBounds_toArray, set_cons_zero, set_cons_succ, i64_w, i32_w]
   rfl
  refine one_ (i := 1) (N := some 29) #[true, true, true, false, false, false, false, false, true, false, false] rfl rfl (one_of HT_.out (by kernel_rfl)) (by decide) (fun K hK => ?_)
  refine goes_ Try.func11 (by kernel_rfl) rfl #[.agg #[.int .i64 a0_0, .int .i64 a0_1, .int .i64 a0_2, .slice A0_3 l0_3.length c0_3]] (by rfl) rfl rfl (by (try simp only [List.map_toArray, List.map_cons, List.map_nil]); first | done | rfl) ?_
  with_reducible refine (laws_toTable.calls k a0_0 a0_1 a0_2 _ _ l0_3 t177 t178 t179 t180 _ ?side1 ?side2 A19.out).mono ?_
  (case side1 => exact uC HR0_3 HB)
  (case side2 => exact HC0_3.out)
  rintro e w35 ⟨v181, rfl, ho0, hb⟩
  refine ⟨_, rfl, ?_⟩
  have HO182 := Aside0.mk (Kd.R_lower ho0 (below_size (uN HB)))
  replace BK173 := kB BK173 hb
  replace BK174 := kB BK174 hb
  replace BK196 := kB BK196 hb
  replace HB := Aside0.mk (below_step (uN HB) hb)
  (try clear hb)
  (try clear hb2)
  (try clear hk)
  (try clear hi)
  (try clear ho0)
  refine hK.out _ _ ⟨bc BK173 0, bc BK173 1, bc BK173 2, bc BK173 3, bc BK174 0, bc BK174 1, bc BK174 2, bc BK174 3⟩ (fun hHeld => ?_)
  clear hK K
  refine norm_ (a' := ?_) ?_ ?_
  rotate_left
  ·
   show Act.put _ (some 29) _ = _
   simp only [Act.put, setIfInBounds_toArray, set_cons_zero, set_cons_succ, i64_w, i32_w]
   rfl
  refine one_ (i := 3) (N := some 31) #[true, true, true, true, false, false, false, false, true, false, false] rfl rfl (one_of HT_.out (by kernel_rfl)) (by decide) (fun K hK => ?_)
  refine goes_ Try.func11 (by kernel_rfl) rfl #[.agg #[.int .i64 a1_0, .int .i64 a1_1, .int .i64 a1_2, .slice A1_3 l1_3.length c1_3]] (by rfl) rfl rfl (by (try simp only [List.map_toArray, List.map_cons, List.map_nil]); first | done | rfl) ?_
  with_reducible refine (laws_toTable.calls k a1_0 a1_1 a1_2 _ _ l1_3 t183 t184 t185 t186 _ ?side1 ?side2 A20.out).mono ?_
  (case side1 => exact uC HR1_3 HB)
  (case side2 => exact HC1_3.out)
  rintro e w36 ⟨v187, rfl, ho0, hb⟩
  refine ⟨_, rfl, ?_⟩
  have HO188 := Aside0.mk (Kd.R_lower (Kd.R_new' ho0 (Kd.R_lt (uR HO182))) (below_size (uN HB)))
  replace HO182 := Aside0.mk (Kd.R_elder' (uR HO182) (Kd.R_base ho0) hb)
  replace BK173 := kB BK173 hb
  replace BK174 := kB BK174 hb
  replace BK196 := kB BK196 hb
  replace HB := Aside0.mk (below_step (uN HB) hb)
  (try clear hb)
  (try clear hb2)
  (try clear hk)
  (try clear hi)
  (try clear ho0)
  obtain ⟨Ao37, co37, eo37⟩ := Kd.R_slice HO182.out
  (first | subst eo37 | (injection eo37 with f1_ f2_ f3_; have f4_ := f1_.symm; have f5_ := f3_.symm; clear f1_ f2_ f3_; subst f4_; subst f5_))
  obtain ⟨Ao38, co38, eo38⟩ := Kd.R_slice HO188.out
  (first | subst eo38 | (injection eo38 with f1_ f2_ f3_; have f4_ := f1_.symm; have f5_ := f3_.symm; clear f1_ f2_ f3_; subst f4_; subst f5_))
  refine hK.out _ _ ⟨bc BK173 0, bc BK173 1, bc BK173 2, bc BK173 3, bc BK174 0, bc BK174 1, bc BK174 2, bc BK174 3⟩ (fun hHeld => ?_)
  clear hK K
  refine norm_ (a' := ?_) ?_ ?_
  rotate_left
  ·
   show Act.put _ (some 31) _ = _
   simp only [Act.put, setIfInBounds_toArray, set_cons_zero, set_cons_succ, i64_w, i32_w]
   rfl
  refine one_ (i := 4) (N := some 32) #[true, true, true, true, true, false, false, false, true, false, false] rfl rfl (one_of HT_.out (by kernel_rfl)) (by decide) (fun K hK => ?_)
  refine goes_ Try.func10 (by kernel_rfl) rfl #[.agg #[.int .i64 t177, .int .i64 t178, .int .i64 t179, .slice Ao37 t180.length co37], .agg #[.int .i64 t183, .int .i64 t184, .int .i64 t185, .slice Ao38 t186.length co38]] (by rfl) rfl rfl (by (try simp only [List.map_toArray, List.map_cons, List.map_nil]); first | done | rfl) ?_
  with_reducible refine (spec_AddTables.calls k t177 t178 t179 _ _ t180 t183 t184 t185 _ _ t186 t189 t190 t191 t192 t195 _ ?side1 ?side2 ?side3 ?side4 A21.out).mono ?_
  (case side1 => exact uD HO182)
  (case side2 => exact (Kd.R_reads' HO182.out).2.1)
  (case side3 => exact uD HO188)
  (case side4 => exact (Kd.R_reads' HO188.out).2.1)
  rintro e w39 ⟨v193, rfl, ho0, hb⟩
  refine ⟨_, rfl, ?_⟩
  have HO194 := Aside0.mk (Kd.R_lower (Kd.R_new' (Kd.R_new' ho0 (Kd.R_lt (uR HO182))) (Kd.R_lt (uR HO188))) (below_size (uN HB)))
  replace HO182 := Aside0.mk (Kd.R_elder' (uR HO182) (Kd.R_base ho0) hb)
  replace HO188 := Aside0.mk (Kd.R_elder' (uR HO188) (Kd.R_base ho0) hb)
  replace BK173 := kB BK173 hb
  replace BK174 := kB BK174 hb
  replace BK196 := kB BK196 hb
  replace HB := Aside0.mk (below_step (uN HB) hb)
  (try clear hb)
  (try clear hb2)
  (try clear hk)
  (try clear hi)
  (try clear ho0)
  refine hK.out _ _ ⟨bc BK173 0, bc BK173 1, bc BK173 2, bc BK173 3, bc BK174 0, bc BK174 1, bc BK174 2, bc BK174 3⟩ (fun hHeld => ?_)
  clear hK K
  refine norm_ (a' := ?_) ?_ ?_
  rotate_left
  ·
   show Act.put _ (some 32) _ = _
   simp only [Act.put, setIfInBounds_toArray, set_cons_zero, set_cons_succ, i64_w, i32_w]
   rfl
  refine pure_ (i := 5) (N := some 27) (v := ?_) (a' := ?_) #[true, true, true, true, true, true, false, false, true, false, false] rfl rfl (any_of HT_.out (by kernel_rfl)) (fun _ _ _ h => h) (Or.inl ⟨by rfl, ?_⟩) ?_ ?_
  rotate_left
  ·
   intro w'
   go_simp
   with_reducible rfl
  rotate_left
  ·
   simp only [Act.put, setIfInBounds_toArray, set_cons_zero, set_cons_succ, i64_w, i32_w]
   rfl
  refine pure_ (i := 6) (N := some 33) (v := ?_) (a' := ?_) #[true, true, true, true, true, true, true, false, true, false, false] rfl rfl (any_of HT_.out (by kernel_rfl)) (fun _ _ _ h => h) (Or.inl ⟨by rfl, ?_⟩) ?_ ?_
  rotate_left
  ·
   intro w'
   go_simp
   with_reducible rfl
  rotate_left
  ·
   simp only [Act.put, setIfInBounds_toArray, set_cons_zero, set_cons_succ, i64_w, i32_w]
   rfl
  refine pure_ (i := 7) (N := some 34) (v := ?_) (a' := ?_) #[true, true, true, true, true, true, true, true, true, false, false] rfl rfl (any_of HT_.out (by kernel_rfl)) (fun _ _ _ h => h) (Or.inl ⟨by rfl, ?_⟩) ?_ ?_
  rotate_left
  ·
   intro w'
   go_simp
   with_reducible rfl
  rotate_left
  ·
   simp only [Act.put, setIfInBounds_toArray, set_cons_zero, set_cons_succ, i64_w, i32_w]
   rfl
  exact norm_ (by simp only [putAll, Act.put, setIfInBounds_toArray, set_cons_zero, set_cons_succ]) (hCont (.slice Ao37 t180.length co37, .slice Ao38 t186.length co38, v193, gb196) _ ⟨hHeld, (by (with_reducible repeat (first | apply Kd.R_alloc | apply Kd.R_drewN | apply Kd.R_drew)); exact Kd.R_mono HO182.out (fun _ hk => ⟨hk.1.2, hk.2⟩)), (by (with_reducible repeat (first | apply Kd.R_alloc | apply Kd.R_drewN | apply Kd.R_drew)); exact Kd.R_mono HO188.out (fun _ hk => ⟨hk.1.2, hk.2⟩)), (by (with_reducible repeat (first | apply Kd.R_alloc | apply Kd.R_drewN | apply Kd.R_drew)); exact Kd.R_mono HO194.out (fun _ hk => ⟨hk.1.2, hk.2⟩)), (uK BK173), (uK BK174), (uK BK196), GW196.out, GE196.out, NB173_196.out, NB196_173.out, NB174_196.out, NB196_174.out, (uN HB)⟩)
 rintro ⟨v181, v187, v193, gb196⟩ w40 ⟨hS_, h0_, h1_, h2_, h3_, h4_, h5_, h6_, h7_, h8_, h9_, h10_, h11_, h12_⟩
 have n0_ : Aside0 (Kd.R (Kd.int .i64) 3 w40 w.heap.size (fun k_ => some k_ ≠ (v187 : Value).ownBlock ∧ some k_ ≠ (v193 : Value).ownBlock) v181 t180) := ⟨h0_⟩
 have n1_ : Aside0 (Kd.R (Kd.int .i64) 3 w40 w.heap.size (fun k_ => some k_ ≠ (v181 : Value).ownBlock ∧ some k_ ≠ (v193 : Value).ownBlock) v187 t186) := ⟨h1_⟩
 have n2_ : Aside0 (Kd.R (Kd.int .i64) 3 w40 w.heap.size (fun k_ => some k_ ≠ (v181 : Value).ownBlock ∧ some k_ ≠ (v187 : Value).ownBlock) v193 t192) := ⟨h2_⟩
 have n3_ : Aside0 (w40.heap[gb173]? = some (.cells #[.int .i64 a0_0, .int .i64 a0_1, .int .i64 a0_2, .slice A0_3 l0_3.length c0_3] 24 (0, 0))) := ⟨h3_⟩
 have n4_ : Aside0 (w40.heap[gb174]? = some (.cells #[.int .i64 a1_0, .int .i64 a1_1, .int .i64 a1_2, .slice A1_3 l1_3.length c1_3] 24 (0, 0))) := ⟨h4_⟩
 have n5_ : Aside0 (w40.heap[gb196]? = some (.cells #[.int .i64 0, .int .i64 0, .int .i64 0, .slice none 0 0] 26 (0, 0))) := ⟨h5_⟩
 have n6_ : Aside0 (w.heap.size ≤ gb196) := ⟨h6_⟩
 have n7_ : Aside0 (w.heap.size ≤ gb196) := ⟨h7_⟩
 have n8_ : Aside0 (gb173 ≠ gb196) := ⟨h8_⟩
 have n9_ : Aside0 (gb196 ≠ gb173) := ⟨h9_⟩
 have n10_ : Aside0 (gb174 ≠ gb196) := ⟨h10_⟩
 have n11_ : Aside0 (gb196 ≠ gb174) := ⟨h11_⟩
 have n12_ : Aside0 (Below w.heap.size w w40) := ⟨h12_⟩
 clear BK173
 clear BK174
 clear HB
 clear h0_ h1_ h2_ h3_ h4_ h5_ h6_ h7_ h8_ h9_ h10_ h11_ h12_
 have HO182 := n0_
 have HO188 := n1_
 have HO194 := n2_
 have BK173 := n3_
 have BK174 := n4_
 have BK196 := n5_
 have GW196 := n6_
 have GE196 := n7_
 have GI196 := gI GE196
 have NB173_196 := n8_
 have NB196_173 := n9_
 have NB174_196 := n10_
 have NB196_174 := n11_
 have HB := n12_
 clear n0_ n1_ n2_ n3_ n4_ n5_ n6_ n7_ n8_ n9_ n10_ n11_ n12_
 have hHeld : w40.cell? ⟨gb173, 0, none⟩ = some (.int .i64 a0_0) ∧ w40.cell? ⟨gb173, 1, none⟩ = some (.int .i64 a0_1) ∧ w40.cell? ⟨gb173, 2, none⟩ = some (.int .i64 a0_2) ∧ w40.cell? ⟨gb173, 3, none⟩ = some (.slice A0_3 l0_3.length c0_3) ∧ w40.cell? ⟨gb174, 0, none⟩ = some (.int .i64 a1_0) ∧ w40.cell? ⟨gb174, 1, none⟩ = some (.int .i64 a1_1) ∧ w40.cell? ⟨gb174, 2, none⟩ = some (.int .i64 a1_2) ∧ w40.cell? ⟨gb174, 3, none⟩ = some (.slice A1_3 l1_3.length c1_3) := hS_
 obtain ⟨Ao44, co44, eo44⟩ := Kd.R_slice HO194.out
 (first | subst eo44 | (injection eo44 with f1_ f2_ f3_; have f4_ := f1_.symm; have f5_ := f3_.symm; clear f1_ f2_ f3_; subst f4_; subst f5_))
 refine norm_ (a' := ?_) ?_ ?_
 rotate_left
 ·
  simp only [putAll, Act.put, setIfInBounds_toArray, set_cons_zero, set_cons_succ]
  rfl
 refine one_ (i := 9) (N := none) #[true, true, true, true, true, true, true, true, true, true, false] rfl rfl (one_of HT_.out (by kernel_rfl)) (by decide) (fun K hK => ?_)
 have hs41 : w40.cell? ⟨gb196, 0, none⟩ = some (.int .i64 0) := bc BK196 0
 have hfs41 := blk_frozen BK196.out 0
 have hns41_0 := NB173_196.out
 have hns41_1 := NB174_196.out
 have hms41_0 := NB196_173.out
 have hms41_1 := NB196_174.out
 have hs42 : w40.cell? ⟨gb196, 1, none⟩ = some (.int .i64 0) := bc BK196 1
 have hfs42 := blk_frozen BK196.out 1
 have hns42_0 := NB173_196.out
 have hns42_1 := NB174_196.out
 have hms42_0 := NB196_173.out
 have hms42_1 := NB196_174.out
 have hs43 : w40.cell? ⟨gb196, 2, none⟩ = some (.int .i64 0) := bc BK196 2
 have hfs43 := blk_frozen BK196.out 2
 have hns43_0 := NB173_196.out
 have hns43_1 := NB174_196.out
 have hms43_0 := NB196_173.out
 have hms43_1 := NB196_174.out
 have hs45 : w40.cell? ⟨gb196, 3, none⟩ = some (.slice none 0 0) := bc BK196 3
 have hfs45 := blk_frozen BK196.out 3
 have hns45_0 := NB173_196.out
 have hns45_1 := NB174_196.out
 have hms45_0 := NB196_173.out
 have hms45_1 := NB196_174.out
 refine skip_ (w1 := ?_) (by rfl) rfl ?_ ?_
 rotate_left
 ·
  go_simp
  rfl
 refine hK.out _ _ ⟨((cell_far (p := ⟨gb196, _, none⟩) NB173_196.out _).trans (((cell_far (p := ⟨gb196, _, none⟩) NB173_196.out _).trans (((cell_far (p := ⟨gb196, _, none⟩) NB173_196.out _).trans (((cell_far (p := ⟨gb196, _, none⟩) NB173_196.out _).trans (hHeld.1)))))))), ((cell_far (p := ⟨gb196, _, none⟩) NB173_196.out _).trans (((cell_far (p := ⟨gb196, _, none⟩) NB173_196.out _).trans (((cell_far (p := ⟨gb196, _, none⟩) NB173_196.out _).trans (((cell_far (p := ⟨gb196, _, none⟩) NB173_196.out _).trans (hHeld.2.1)))))))), ((cell_far (p := ⟨gb196, _, none⟩) NB173_196.out _).trans (((cell_far (p := ⟨gb196, _, none⟩) NB173_196.out _).trans (((cell_far (p := ⟨gb196, _, none⟩) NB173_196.out _).trans (((cell_far (p := ⟨gb196, _, none⟩) NB173_196.out _).trans (hHeld.2.2.1)))))))), ((cell_far (p := ⟨gb196, _, none⟩) NB173_196.out _).trans (((cell_far (p := ⟨gb196, _, none⟩) NB173_196.out _).trans (((cell_far (p := ⟨gb196, _, none⟩) NB173_196.out _).trans (((cell_far (p := ⟨gb196, _, none⟩) NB173_196.out _).trans (hHeld.2.2.2.1)))))))), ((cell_far (p := ⟨gb196, _, none⟩) NB174_196.out _).trans (((cell_far (p := ⟨gb196, _, none⟩) NB174_196.out _).trans (((cell_far (p := ⟨gb196, _, none⟩) NB174_196.out _).trans (((cell_far (p := ⟨gb196, _, none⟩) NB174_196.out _).trans (hHeld.2.2.2.2.1)))))))), ((cell_far (p := ⟨gb196, _, none⟩) NB174_196.out _).trans (((cell_far (p := ⟨gb196, _, none⟩) NB174_196.out _).trans (((cell_far (p := ⟨gb196, _, none⟩) NB174_196.out _).trans (((cell_far (p := ⟨gb196, _, none⟩) NB174_196.out _).trans (hHeld.2.2.2.2.2.1)))))))), ((cell_far (p := ⟨gb196, _, none⟩) NB174_196.out _).trans (((cell_far (p := ⟨gb196, _, none⟩) NB174_196.out _).trans (((cell_far (p := ⟨gb196, _, none⟩) NB174_196.out _).trans (((cell_far (p := ⟨gb196, _, none⟩) NB174_196.out _).trans (hHeld.2.2.2.2.2.2.1)))))))), ((cell_far (p := ⟨gb196, _, none⟩) NB174_196.out _).trans (((cell_far (p := ⟨gb196, _, none⟩) NB174_196.out _).trans (((cell_far (p := ⟨gb196, _, none⟩) NB174_196.out _).trans (((cell_far (p := ⟨gb196, _, none⟩) NB174_196.out _).trans (hHeld.2.2.2.2.2.2.2))))))))⟩ (fun hHeld => ?_)
 clear hK K
 refine pure_ (i := 10) (N := some 7) (v := ?_) (a' := ?_) #[true, true, true, true, true, true, true, true, true, true, true] rfl rfl (any_of HT_.out (by kernel_rfl)) (fun _ _ _ h => h) (Or.inl ⟨by rfl, ?_⟩) ?_ ?_
 rotate_left
 ·
  intro w'
  go_simp
  with_reducible rfl
 rotate_left
 ·
  simp only [Act.put, setIfInBounds_toArray, set_cons_zero, set_cons_succ, i64_w, i32_w]
  rfl
 refine done_ (done_of HT_.out (by kernel_rfl)) ?_
 have hnb46 := NB173_196.out
 have hnc46 := NB196_173.out
 obtain ⟨hcz47_0, hcz47_1, hcz47_2, hcz47_3, hfz47_0, hfz47_1, hfz47_2, hfz47_3⟩ := ce4 BK173
 go_upto_region 12 with (first | ((with_reducible refine gate_callee (f := 11) rfl ?_); refine goesL_ (some 36) rfl rfl Try.func11 (by kernel_rfl) rfl #[.agg #[.int .i64 a0_0, .int .i64 a0_1, .int .i64 a0_2, .slice A0_3 l0_3.length c0_3]] rfl (by (try simp only [List.map_toArray, List.map_cons, List.map_nil]); first | done | rfl) ?_; (with_reducible refine (laws_toTable.calls k a0_0 a0_1 a0_2 _ _ l0_3 t197 t198 t199 t200 _ ?side1 ?side2 A22.out).mono ?_); (case side1 => exact Kd.C_below HR0_3.out (uN HB)); (case side2 => exact HC0_3.out); rintro e w48 ⟨v201, rfl, ho0, hb⟩; refine ⟨_, rfl, ?_⟩; have HO202 := Aside0.mk (Kd.R_lower (Kd.R_new' (Kd.R_new' (Kd.R_new' ho0 (Kd.R_lt (fS HO182 BK196 (by decide)))) (Kd.R_lt (fS HO188 BK196 (by decide)))) (Kd.R_lt (fS HO194 BK196 (by decide)))) (below_size (uN HB))); replace HO182 := Aside0.mk (Kd.R_elder' (fS HO182 BK196 (by decide)) (Kd.R_base ho0) hb); replace HO188 := Aside0.mk (Kd.R_elder' (fS HO188 BK196 (by decide)) (Kd.R_base ho0) hb); replace HO194 := Aside0.mk (Kd.R_elder' (fS HO194 BK196 (by decide)) (Kd.R_base ho0) hb); replace BK173 := Aside0.mk (blk_below (g := gb173) (o := .cells #[.int .i64 a0_0, .int .i64 a0_1, .int .i64 a0_2, .slice A0_3 l0_3.length c0_3] 24 (0, 0)) (by refine uW ?_; refine blk_far ?_ NB173_196.out _; refine uW ?_; refine blk_far ?_ NB173_196.out _; refine uW ?_; refine blk_far ?_ NB173_196.out _; refine uW ?_; refine blk_far ?_ NB173_196.out _; refine uW ?_; exact BK173.out) hb); replace BK174 := Aside0.mk (blk_below (g := gb174) (o := .cells #[.int .i64 a1_0, .int .i64 a1_1, .int .i64 a1_2, .slice A1_3 l1_3.length c1_3] 24 (0, 0)) (by refine uW ?_; refine blk_far ?_ NB174_196.out _; refine uW ?_; refine blk_far ?_ NB174_196.out _; refine uW ?_; refine blk_far ?_ NB174_196.out _; refine uW ?_; refine blk_far ?_ NB174_196.out _; refine uW ?_; exact BK174.out) hb); replace BK196 := Aside0.mk (blk_below (g := gb196) (o := .cells #[.int .i64 t189, .int .i64 t190, .int .i64 t191, .slice Ao44 t192.length co44] 26 (0, 0)) (by refine uW ?_; refine blk_put (cs := #[.int .i64 t189, .int .i64 t190, .int .i64 t191, .slice none 0 0]) ?_ 3 _ rfl; refine uW ?_; refine blk_put (cs := #[.int .i64 t189, .int .i64 t190, .int .i64 0, .slice none 0 0]) ?_ 2 _ rfl; refine uW ?_; refine blk_put (cs := #[.int .i64 t189, .int .i64 0, .int .i64 0, .slice none 0 0]) ?_ 1 _ rfl; refine uW ?_; refine blk_put (cs := #[.int .i64 0, .int .i64 0, .int .i64 0, .slice none 0 0]) ?_ 0 _ rfl; refine uW ?_; exact BK196.out) hb); replace HB := Aside0.mk (below_step (uN HB) hb); (try clear hb); (try clear hb2); (try clear hk); (try clear hi); (try clear ho0)) | ((with_reducible refine gate_dst (N := 8) rfl ?_); refine box_event ?hg (N := 8) ?hd (cs := #[.int .i64 0, .int .i64 0, .int .i64 0, .slice none 0 0]) (t := 26) ?hr ?_; (case hd => rfl); (case hg => rfl); (case hr => first | (go_simp; done) | (go_simp; rfl)); intro gb203 hg w49 hbox hb; replace HO182 := Aside0.mk (Kd.R_below (uR HO182) hb); replace HO188 := Aside0.mk (Kd.R_below (uR HO188) hb); replace HO194 := Aside0.mk (Kd.R_below (uR HO194) hb); replace HO202 := Aside0.mk (Kd.R_below (uR HO202) hb); have BK203 := Aside0.mk (hbox); have GW203 := nG HB hg; have GE203 := nG HB hg; have GI203 := gI GE203; replace HB := Aside0.mk (below_step (uN HB) hb); have NB173_203 := nL BK173 hg; have NB203_173 := nR BK173 hg; replace BK173 := kB BK173 hb; have NB174_203 := nL BK174 hg; have NB203_174 := nR BK174 hg; replace BK174 := kB BK174 hb; have NB196_203 := nL BK196 hg; have NB203_196 := nR BK196 hg; replace BK196 := kB BK196 hb; clear hb hbox hg; have hnb50 := NB203_173.out; have hnc50 := NB173_203.out; have hnb51 := NB203_174.out; have hnc51 := NB174_203.out; have hnb52 := NB203_196.out; have hnc52 := NB196_203.out; obtain ⟨hcz53_0, hcz53_1, hcz53_2, hcz53_3, hfz53_0, hfz53_1, hfz53_2, hfz53_3⟩ := ce4 BK203; obtain ⟨Ao54, co54, eo54⟩ := Kd.R_slice HO202.out; subst eo54; have hnb55 := NB174_196.out; have hnc55 := NB196_174.out; obtain ⟨hcz56_0, hcz56_1, hcz56_2, hcz56_3, hfz56_0, hfz56_1, hfz56_2, hfz56_3⟩ := ce4 BK174) | ((with_reducible refine gate_callee (f := 11) rfl ?_); refine goesL_ (some 38) rfl rfl Try.func11 (by kernel_rfl) rfl #[.agg #[.int .i64 a1_0, .int .i64 a1_1, .int .i64 a1_2, .slice A1_3 l1_3.length c1_3]] rfl (by (try simp only [List.map_toArray, List.map_cons, List.map_nil]); first | done | rfl) ?_; (with_reducible refine (laws_toTable.calls k a1_0 a1_1 a1_2 _ _ l1_3 t204 t205 t206 t207 _ ?side1 ?side2 A23.out).mono ?_); (case side1 => exact Kd.C_below HR1_3.out (uN HB)); (case side2 => exact HC1_3.out); rintro e w57 ⟨v208, rfl, ho0, hb⟩; refine ⟨_, rfl, ?_⟩; have HO209 := Aside0.mk (Kd.R_lower (Kd.R_new' (Kd.R_new' (Kd.R_new' (Kd.R_new' ho0 (Kd.R_lt (fS HO182 BK203 (by decide)))) (Kd.R_lt (fS HO188 BK203 (by decide)))) (Kd.R_lt (fS HO194 BK203 (by decide)))) (Kd.R_lt (fS HO202 BK203 (by decide)))) (below_size (uN HB))); replace HO182 := Aside0.mk (Kd.R_elder' (fS HO182 BK203 (by decide)) (Kd.R_base ho0) hb); replace HO188 := Aside0.mk (Kd.R_elder' (fS HO188 BK203 (by decide)) (Kd.R_base ho0) hb); replace HO194 := Aside0.mk (Kd.R_elder' (fS HO194 BK203 (by decide)) (Kd.R_base ho0) hb); replace HO202 := Aside0.mk (Kd.R_elder' (fS HO202 BK203 (by decide)) (Kd.R_base ho0) hb); replace BK173 := Aside0.mk (blk_below (g := gb173) (o := .cells #[.int .i64 a0_0, .int .i64 a0_1, .int .i64 a0_2, .slice A0_3 l0_3.length c0_3] 24 (0, 0)) (by refine uW ?_; refine blk_far ?_ NB173_203.out _; refine uW ?_; refine blk_far ?_ NB173_203.out _; refine uW ?_; refine blk_far ?_ NB173_203.out _; refine uW ?_; refine blk_far ?_ NB173_203.out _; refine uW ?_; exact BK173.out) hb); replace BK174 := Aside0.mk (blk_below (g := gb174) (o := .cells #[.int .i64 a1_0, .int .i64 a1_1, .int .i64 a1_2, .slice A1_3 l1_3.length c1_3] 24 (0, 0)) (by refine uW ?_; refine blk_far ?_ NB174_203.out _; refine uW ?_; refine blk_far ?_ NB174_203.out _; refine uW ?_; refine blk_far ?_ NB174_203.out _; refine uW ?_; refine blk_far ?_ NB174_203.out _; refine uW ?_; exact BK174.out) hb); replace BK196 := Aside0.mk (blk_below (g := gb196) (o := .cells #[.int .i64 t189, .int .i64 t190, .int .i64 t191, .slice Ao44 t192.length co44] 26 (0, 0)) (by refine uW ?_; refine blk_far ?_ NB196_203.out _; refine uW ?_; refine blk_far ?_ NB196_203.out _; refine uW ?_; refine blk_far ?_ NB196_203.out _; refine uW ?_; refine blk_far ?_ NB196_203.out _; refine uW ?_; exact BK196.out) hb); replace BK203 := Aside0.mk (blk_below (g := gb203) (o := .cells #[.int .i64 t197, .int .i64 t198, .int .i64 t199, .slice Ao54 t200.length co54] 26 (0, 0)) (by refine uW ?_; refine blk_put (cs := #[.int .i64 t197, .int .i64 t198, .int .i64 t199, .slice none 0 0]) ?_ 3 _ rfl; refine uW ?_; refine blk_put (cs := #[.int .i64 t197, .int .i64 t198, .int .i64 0, .slice none 0 0]) ?_ 2 _ rfl; refine uW ?_; refine blk_put (cs := #[.int .i64 t197, .int .i64 0, .int .i64 0, .slice none 0 0]) ?_ 1 _ rfl; refine uW ?_; refine blk_put (cs := #[.int .i64 0, .int .i64 0, .int .i64 0, .slice none 0 0]) ?_ 0 _ rfl; refine uW ?_; exact BK203.out) hb); replace HB := Aside0.mk (below_step (uN HB) hb); (try clear hb); (try clear hb2); (try clear hk); (try clear hi); (try clear ho0)) | ((with_reducible refine gate_dst (N := 9) rfl ?_); refine box_event ?hg (N := 9) ?hd (cs := #[.int .i64 0, .int .i64 0, .int .i64 0, .slice none 0 0]) (t := 26) ?hr ?_; (case hd => rfl); (case hg => rfl); (case hr => first | (go_simp; done) | (go_simp; rfl)); intro gb210 hg w58 hbox hb; replace HO182 := Aside0.mk (Kd.R_below (uR HO182) hb); replace HO188 := Aside0.mk (Kd.R_below (uR HO188) hb); replace HO194 := Aside0.mk (Kd.R_below (uR HO194) hb); replace HO202 := Aside0.mk (Kd.R_below (uR HO202) hb); replace HO209 := Aside0.mk (Kd.R_below (uR HO209) hb); have BK210 := Aside0.mk (hbox); have GW210 := nG HB hg; have GE210 := nG HB hg; have GI210 := gI GE210; replace HB := Aside0.mk (below_step (uN HB) hb); have NB173_210 := nL BK173 hg; have NB210_173 := nR BK173 hg; replace BK173 := kB BK173 hb; have NB174_210 := nL BK174 hg; have NB210_174 := nR BK174 hg; replace BK174 := kB BK174 hb; have NB196_210 := nL BK196 hg; have NB210_196 := nR BK196 hg; replace BK196 := kB BK196 hb; have NB203_210 := nL BK203 hg; have NB210_203 := nR BK203 hg; replace BK203 := kB BK203 hb; clear hb hbox hg; have hnb59 := NB210_173.out; have hnc59 := NB173_210.out; have hnb60 := NB210_174.out; have hnc60 := NB174_210.out; have hnb61 := NB210_196.out; have hnc61 := NB196_210.out; have hnb62 := NB210_203.out; have hnc62 := NB203_210.out; obtain ⟨hcz63_0, hcz63_1, hcz63_2, hcz63_3, hfz63_0, hfz63_1, hfz63_2, hfz63_3⟩ := ce4 BK210; obtain ⟨Ao64, co64, eo64⟩ := Kd.R_slice HO209.out; subst eo64; obtain ⟨hcz65_0, hcz65_1, hcz65_2, hcz65_3, hfz65_0, hfz65_1, hfz65_2, hfz65_3⟩ := ce4 BK203) | ((with_reducible refine gate_callee (f := 12) rfl ?_); refine goesL_ (some 42) rfl rfl Try.func12 (by kernel_rfl) rfl #[.agg #[.int .i64 t197, .int .i64 t198, .int .i64 t199, .slice Ao54 t200.length co54], .agg #[.int .i64 t204, .int .i64 t205, .int .i64 t206, .slice Ao64 t207.length co64]] rfl (by (try simp only [List.map_toArray, List.map_cons, List.map_nil]); first | done | rfl) ?_; (with_reducible refine (impl_AddTables.calls k t197 t198 t199 _ _ t200 t204 t205 t206 _ _ t207 t211 t212 t213 t214 t217 _ ?side1 ?side2 ?side3 ?side4 A24.out).mono ?_); (case side1 => refine (Kd.R_reads' (e := 3) (base := w.heap.size) (ok := fun k_ => ((((True ∧ some k_ ≠ (v181 : Value).ownBlock) ∧ some k_ ≠ (v187 : Value).ownBlock) ∧ some k_ ≠ (.slice Ao44 t192.length co44 : Value).ownBlock) ∧ some k_ ≠ (.slice Ao64 t207.length co64 : Value).ownBlock)) (n := t200.length) (c := co54) ?_).2.2; exact (fS HO202 BK210 (by decide))); (case side2 => exact (Kd.R_reads' HO202.out).2.1); (case side3 => refine (Kd.R_reads' (e := 3) (base := w.heap.size) (ok := fun k_ => ((((True ∧ some k_ ≠ (v181 : Value).ownBlock) ∧ some k_ ≠ (v187 : Value).ownBlock) ∧ some k_ ≠ (.slice Ao44 t192.length co44 : Value).ownBlock) ∧ some k_ ≠ (.slice Ao54 t200.length co54 : Value).ownBlock)) (n := t207.length) (c := co64) ?_).2.2; exact (fS HO209 BK210 (by decide))); (case side4 => exact (Kd.R_reads' HO209.out).2.1); rintro e w66 ⟨v215, rfl, ho0, hb⟩; refine ⟨_, rfl, ?_⟩; have HO216 := Aside0.mk (Kd.R_lower (Kd.R_new' (Kd.R_new' (Kd.R_new' (Kd.R_new' (Kd.R_new' ho0 (Kd.R_lt (fS HO182 BK210 (by decide)))) (Kd.R_lt (fS HO188 BK210 (by decide)))) (Kd.R_lt (fS HO194 BK210 (by decide)))) (Kd.R_lt (fS HO202 BK210 (by decide)))) (Kd.R_lt (fS HO209 BK210 (by decide)))) (below_size (uN HB))); replace HO182 := Aside0.mk (Kd.R_elder' (fS HO182 BK210 (by decide)) (Kd.R_base ho0) hb); replace HO188 := Aside0.mk (Kd.R_elder' (fS HO188 BK210 (by decide)) (Kd.R_base ho0) hb); replace HO194 := Aside0.mk (Kd.R_elder' (fS HO194 BK210 (by decide)) (Kd.R_base ho0) hb); replace HO202 := Aside0.mk (Kd.R_elder' (fS HO202 BK210 (by decide)) (Kd.R_base ho0) hb); replace HO209 := Aside0.mk (Kd.R_elder' (fS HO209 BK210 (by decide)) (Kd.R_base ho0) hb); replace BK173 := Aside0.mk (blk_below (g := gb173) (o := .cells #[.int .i64 a0_0, .int .i64 a0_1, .int .i64 a0_2, .slice A0_3 l0_3.length c0_3] 24 (0, 0)) (by refine uW ?_; refine blk_far ?_ NB173_210.out _; refine uW ?_; refine blk_far ?_ NB173_210.out _; refine uW ?_; refine blk_far ?_ NB173_210.out _; refine uW ?_; refine blk_far ?_ NB173_210.out _; refine uW ?_; exact BK173.out) hb); replace BK174 := Aside0.mk (blk_below (g := gb174) (o := .cells #[.int .i64 a1_0, .int .i64 a1_1, .int .i64 a1_2, .slice A1_3 l1_3.length c1_3] 24 (0, 0)) (by refine uW ?_; refine blk_far ?_ NB174_210.out _; refine uW ?_; refine blk_far ?_ NB174_210.out _; refine uW ?_; refine blk_far ?_ NB174_210.out _; refine uW ?_; refine blk_far ?_ NB174_210.out _; refine uW ?_; exact BK174.out) hb); replace BK196 := Aside0.mk (blk_below (g := gb196) (o := .cells #[.int .i64 t189, .int .i64 t190, .int .i64 t191, .slice Ao44 t192.length co44] 26 (0, 0)) (by refine uW ?_; refine blk_far ?_ NB196_210.out _; refine uW ?_; refine blk_far ?_ NB196_210.out _; refine uW ?_; refine blk_far ?_ NB196_210.out _; refine uW ?_; refine blk_far ?_ NB196_210.out _; refine uW ?_; exact BK196.out) hb); replace BK203 := Aside0.mk (blk_below (g := gb203) (o := .cells #[.int .i64 t197, .int .i64 t198, .int .i64 t199, .slice Ao54 t200.length co54] 26 (0, 0)) (by refine uW ?_; refine blk_far ?_ NB203_210.out _; refine uW ?_; refine blk_far ?_ NB203_210.out _; refine uW ?_; refine blk_far ?_ NB203_210.out _; refine uW ?_; refine blk_far ?_ NB203_210.out _; refine uW ?_; exact BK203.out) hb); replace BK210 := Aside0.mk (blk_below (g := gb210) (o := .cells #[.int .i64 t204, .int .i64 t205, .int .i64 t206, .slice Ao64 t207.length co64] 26 (0, 0)) (by refine uW ?_; refine blk_put (cs := #[.int .i64 t204, .int .i64 t205, .int .i64 t206, .slice none 0 0]) ?_ 3 _ rfl; refine uW ?_; refine blk_put (cs := #[.int .i64 t204, .int .i64 t205, .int .i64 0, .slice none 0 0]) ?_ 2 _ rfl; refine uW ?_; refine blk_put (cs := #[.int .i64 t204, .int .i64 0, .int .i64 0, .slice none 0 0]) ?_ 1 _ rfl; refine uW ?_; refine blk_put (cs := #[.int .i64 0, .int .i64 0, .int .i64 0, .slice none 0 0]) ?_ 0 _ rfl; refine uW ?_; exact BK210.out) hb); replace HB := Aside0.mk (below_step (uN HB) hb); (try clear hb); (try clear hb2); (try clear hk); (try clear hi); (try clear ho0)) | ((with_reducible refine gate_dst (N := 10) rfl ?_); refine box_event ?hg (N := 10) ?hd (cs := #[.int .i64 0, .int .i64 0, .int .i64 0, .slice none 0 0]) (t := 26) ?hr ?_; (case hd => rfl); (case hg => rfl); (case hr => first | (go_simp; done) | (go_simp; rfl)); intro gb218 hg w67 hbox hb; replace HO182 := Aside0.mk (Kd.R_below (uR HO182) hb); replace HO188 := Aside0.mk (Kd.R_below (uR HO188) hb); replace HO194 := Aside0.mk (Kd.R_below (uR HO194) hb); replace HO202 := Aside0.mk (Kd.R_below (uR HO202) hb); replace HO209 := Aside0.mk (Kd.R_below (uR HO209) hb); replace HO216 := Aside0.mk (Kd.R_below (uR HO216) hb); have BK218 := Aside0.mk (hbox); have GW218 := nG HB hg; have GE218 := nG HB hg; have GI218 := gI GE218; replace HB := Aside0.mk (below_step (uN HB) hb); have NB173_218 := nL BK173 hg; have NB218_173 := nR BK173 hg; replace BK173 := kB BK173 hb; have NB174_218 := nL BK174 hg; have NB218_174 := nR BK174 hg; replace BK174 := kB BK174 hb; have NB196_218 := nL BK196 hg; have NB218_196 := nR BK196 hg; replace BK196 := kB BK196 hb; have NB203_218 := nL BK203 hg; have NB218_203 := nR BK203 hg; replace BK203 := kB BK203 hb; have NB210_218 := nL BK210 hg; have NB218_210 := nR BK210 hg; replace BK210 := kB BK210 hb; clear hb hbox hg; have hnb68 := NB218_173.out; have hnc68 := NB173_218.out; have hnb69 := NB218_174.out; have hnc69 := NB174_218.out; have hnb70 := NB218_196.out; have hnc70 := NB196_218.out; have hnb71 := NB218_203.out; have hnc71 := NB203_218.out; have hnb72 := NB218_210.out; have hnc72 := NB210_218.out; obtain ⟨hcz73_0, hcz73_1, hcz73_2, hcz73_3, hfz73_0, hfz73_1, hfz73_2, hfz73_3⟩ := ce4 BK218; obtain ⟨Ao74, co74, eo74⟩ := Kd.R_slice HO216.out; subst eo74))
 (try simp only [Act.put, setIfInBounds_toArray, set_cons_zero, set_cons_succ])
 go_cut [53] (fun v53 wc => ∃ (kq : Nat) (x53_24 : Bool), v53 = .bool x53_24 ∧ Aside0 (laws_FnExactAddTables.j0 kq t195 t217 x53_24 a0_0 a0_1 a0_2 l0_3 a1_0 a1_1 a1_2 l1_3 t189 t190 t191 t192 t197 t198 t199 t200 t204 t205 t206 t207 t211 t212 t213 t214 = some r) ∧ Aside0 (kq ≤ k) ∧ Aside0 (Kd.R (Kd.int .i64) 3 wc w.heap.size (fun k_ => some k_ ≠ ((.slice Ao54 t200.length co54) : Value).ownBlock ∧ some k_ ≠ ((.slice Ao64 t207.length co64) : Value).ownBlock ∧ some k_ ≠ ((.slice Ao74 t214.length co74) : Value).ownBlock) (.slice Ao44 t192.length co44) t192) ∧ Aside0 (Kd.R (Kd.int .i64) 3 wc w.heap.size (fun k_ => some k_ ≠ ((.slice Ao44 t192.length co44) : Value).ownBlock ∧ some k_ ≠ ((.slice Ao64 t207.length co64) : Value).ownBlock ∧ some k_ ≠ ((.slice Ao74 t214.length co74) : Value).ownBlock) (.slice Ao54 t200.length co54) t200) ∧ Aside0 (Kd.R (Kd.int .i64) 3 wc w.heap.size (fun k_ => some k_ ≠ ((.slice Ao44 t192.length co44) : Value).ownBlock ∧ some k_ ≠ ((.slice Ao54 t200.length co54) : Value).ownBlock ∧ some k_ ≠ ((.slice Ao74 t214.length co74) : Value).ownBlock) (.slice Ao64 t207.length co64) t207) ∧ Aside0 (Kd.R (Kd.int .i64) 3 wc w.heap.size (fun k_ => some k_ ≠ ((.slice Ao44 t192.length co44) : Value).ownBlock ∧ some k_ ≠ ((.slice Ao54 t200.length co54) : Value).ownBlock ∧ some k_ ≠ ((.slice Ao64 t207.length co64) : Value).ownBlock) (.slice Ao74 t214.length co74) t214) ∧ Aside0 (wc.heap[gb173]? = some (.cells #[.int .i64 a0_0, .int .i64 a0_1, .int .i64 a0_2, (.slice A0_3 l0_3.length c0_3)] 24 (0, 0))) ∧ Aside0 (wc.heap[gb174]? = some (.cells #[.int .i64 a1_0, .int .i64 a1_1, .int .i64 a1_2, (.slice A1_3 l1_3.length c1_3)] 24 (0, 0))) ∧ Aside0 (wc.heap[gb196]? = some (.cells #[.int .i64 t189, .int .i64 t190, .int .i64 t191, (.slice Ao44 t192.length co44)] 26 (0, 0))) ∧ Aside0 (wc.heap[gb203]? = some (.cells #[.int .i64 t197, .int .i64 t198, .int .i64 t199, (.slice Ao54 t200.length co54)] 26 (0, 0))) ∧ Aside0 (wc.heap[gb210]? = some (.cells #[.int .i64 t204, .int .i64 t205, .int .i64 t206, (.slice Ao64 t207.length co64)] 26 (0, 0))) ∧ Aside0 (wc.heap[gb218]? = some (.cells #[.int .i64 t211, .int .i64 t212, .int .i64 t213, (.slice Ao74 t214.length co74)] 26 (0, 0))) ∧ Aside0 (Below w.heap.size w wc))
 case first =>
  have H := HC25.out
  clear HC25
  replace H := Option.bind_eq_some_iff.mp H
  obtain ⟨t219, A750, H⟩ := H
  try dsimp only at H
  have A75 := Aside0.mk A750
  clear A750
  by_cases c76 : t219 = true
  ·
   subst c76
   rw [if_pos rfl] at H
   have H' := Aside0.mk H
   clear H
   have hnb77 := NB218_173.out
   have hnc77 := NB173_218.out
   have hnb78 := NB218_174.out
   have hnc78 := NB174_218.out
   have hnb79 := NB218_196.out
   have hnc79 := NB196_218.out
   have hnb80 := NB218_203.out
   have hnc80 := NB203_218.out
   have hnb81 := NB218_210.out
   have hnc81 := NB210_218.out
   obtain ⟨hcz82_0, hcz82_1, hcz82_2, hcz82_3, hfz82_0, hfz82_1, hfz82_2, hfz82_3⟩ := ce4 BK218
   have hnb83 := NB196_173.out
   have hnc83 := NB173_196.out
   have hnb84 := NB196_174.out
   have hnc84 := NB174_196.out
   have hnb85 := NB196_203.out
   have hnc85 := NB203_196.out
   have hnb86 := NB196_210.out
   have hnc86 := NB210_196.out
   obtain ⟨hcz87_0, hcz87_1, hcz87_2, hcz87_3, hfz87_0, hfz87_1, hfz87_2, hfz87_3⟩ := ce4 BK196
   go_wp2_with (first | ((with_reducible refine gate_callee (f := 13) rfl ?_); refine goesL_ (some 47) rfl rfl Try.func13 (by kernel_rfl) rfl #[.agg #[.int .i64 t211, .int .i64 t212, .int .i64 t213, .slice Ao74 t214.length co74], .agg #[.int .i64 t189, .int .i64 t190, .int .i64 t191, .slice Ao44 t192.length co44]] rfl (by (try simp only [List.map_toArray, List.map_cons, List.map_nil]); first | done | rfl) ?_; (with_reducible refine (laws_eqTable.calls k t211 t212 t213 _ _ t214 t189 t190 t191 _ _ t192 true _ ?side1 ?side2 ?side3 ?side4 A75.out).mono ?_); (case side1 => refine (Kd.R_reads' (e := 3) (base := w.heap.size) (ok := fun k_ => (((((True ∧ some k_ ≠ (v181 : Value).ownBlock) ∧ some k_ ≠ (v187 : Value).ownBlock) ∧ some k_ ≠ (.slice Ao44 t192.length co44 : Value).ownBlock) ∧ some k_ ≠ (.slice Ao54 t200.length co54 : Value).ownBlock) ∧ some k_ ≠ (.slice Ao64 t207.length co64 : Value).ownBlock)) (n := t214.length) (c := co74) ?_).2.2; exact (fS HO216 BK218 (by decide))); (case side2 => exact (Kd.R_reads' HO216.out).2.1); (case side3 => refine (Kd.R_reads' (e := 3) (base := w.heap.size) (ok := fun k_ => ((((some k_ ≠ (v181 : Value).ownBlock ∧ some k_ ≠ (v187 : Value).ownBlock) ∧ some k_ ≠ (.slice Ao54 t200.length co54 : Value).ownBlock) ∧ some k_ ≠ (.slice Ao64 t207.length co64 : Value).ownBlock) ∧ some k_ ≠ (.slice Ao74 t214.length co74 : Value).ownBlock)) (n := t192.length) (c := co44) ?_).2.2; exact (fS HO194 BK218 (by decide))); (case side4 => exact (Kd.R_reads' HO194.out).2.1); rintro e w88 ⟨rfl, hb⟩; refine ⟨_, rfl, ?_⟩; replace HO182 := Aside0.mk (Kd.R_below (fS HO182 BK218 (by decide)) hb); replace HO188 := Aside0.mk (Kd.R_below (fS HO188 BK218 (by decide)) hb); replace HO194 := Aside0.mk (Kd.R_below (fS HO194 BK218 (by decide)) hb); replace HO202 := Aside0.mk (Kd.R_below (fS HO202 BK218 (by decide)) hb); replace HO209 := Aside0.mk (Kd.R_below (fS HO209 BK218 (by decide)) hb); replace HO216 := Aside0.mk (Kd.R_below (fS HO216 BK218 (by decide)) hb); replace BK173 := Aside0.mk (blk_below (g := gb173) (o := .cells #[.int .i64 a0_0, .int .i64 a0_1, .int .i64 a0_2, .slice A0_3 l0_3.length c0_3] 24 (0, 0)) (by refine uW ?_; refine blk_far ?_ NB173_218.out _; refine uW ?_; refine blk_far ?_ NB173_218.out _; refine uW ?_; refine blk_far ?_ NB173_218.out _; refine uW ?_; refine blk_far ?_ NB173_218.out _; refine uW ?_; exact BK173.out) hb); replace BK174 := Aside0.mk (blk_below (g := gb174) (o := .cells #[.int .i64 a1_0, .int .i64 a1_1, .int .i64 a1_2, .slice A1_3 l1_3.length c1_3] 24 (0, 0)) (by refine uW ?_; refine blk_far ?_ NB174_218.out _; refine uW ?_; refine blk_far ?_ NB174_218.out _; refine uW ?_; refine blk_far ?_ NB174_218.out _; refine uW ?_; refine blk_far ?_ NB174_218.out _; refine uW ?_; exact BK174.out) hb); replace BK196 := Aside0.mk (blk_below (g := gb196) (o := .cells #[.int .i64 t189, .int .i64 t190, .int .i64 t191, .slice Ao44 t192.length co44] 26 (0, 0)) (by refine uW ?_; refine blk_far ?_ NB196_218.out _; refine uW ?_; refine blk_far ?_ NB196_218.out _; refine uW ?_; refine blk_far ?_ NB196_218.out _; refine uW ?_; refine blk_far ?_ NB196_218.out _; refine uW ?_; exact BK196.out) hb); replace BK203 := Aside0.mk (blk_below (g := gb203) (o := .cells #[.int .i64 t197, .int .i64 t198, .int .i64 t199, .slice Ao54 t200.length co54] 26 (0, 0)) (by refine uW ?_; refine blk_far ?_ NB203_218.out _; refine uW ?_; refine blk_far ?_ NB203_218.out _; refine uW ?_; refine blk_far ?_ NB203_218.out _; refine uW ?_; refine blk_far ?_ NB203_218.out _; refine uW ?_; exact BK203.out) hb); replace BK210 := Aside0.mk (blk_below (g := gb210) (o := .cells #[.int .i64 t204, .int .i64 t205, .int .i64 t206, .slice Ao64 t207.length co64] 26 (0, 0)) (by refine uW ?_; refine blk_far ?_ NB210_218.out _; refine uW ?_; refine blk_far ?_ NB210_218.out _; refine uW ?_; refine blk_far ?_ NB210_218.out _; refine uW ?_; refine blk_far ?_ NB210_218.out _; refine uW ?_; exact BK210.out) hb); replace BK218 := Aside0.mk (blk_below (g := gb218) (o := .cells #[.int .i64 t211, .int .i64 t212, .int .i64 t213, .slice Ao74 t214.length co74] 26 (0, 0)) (by refine uW ?_; refine blk_put (cs := #[.int .i64 t211, .int .i64 t212, .int .i64 t213, .slice none 0 0]) ?_ 3 _ rfl; refine uW ?_; refine blk_put (cs := #[.int .i64 t211, .int .i64 t212, .int .i64 0, .slice none 0 0]) ?_ 2 _ rfl; refine uW ?_; refine blk_put (cs := #[.int .i64 t211, .int .i64 0, .int .i64 0, .slice none 0 0]) ?_ 1 _ rfl; refine uW ?_; refine blk_put (cs := #[.int .i64 0, .int .i64 0, .int .i64 0, .slice none 0 0]) ?_ 0 _ rfl; refine uW ?_; exact BK218.out) hb); replace HB := Aside0.mk (below_step (uN HB) hb); (try clear hb); (try clear hb2); (try clear hk); (try clear hi)))
   go_meet
   case rel => exact ⟨_, ((t217 != t195)), (by first | rfl | (simp; done) | (simp [*]; done)), H', ⟨by first | omega | exact Nat.le_refl _⟩, ⟨by (with_reducible repeat (first | apply Kd.R_alloc | apply Kd.R_drewN | apply Kd.R_drew)); exact Kd.R_mono HO194.out (fun _ hk => ⟨hk.1.1.2, ⟨hk.1.2, hk.2⟩⟩)⟩, ⟨by (with_reducible repeat (first | apply Kd.R_alloc | apply Kd.R_drewN | apply Kd.R_drew)); exact Kd.R_mono HO202.out (fun _ hk => ⟨hk.1.1.2, ⟨hk.1.2, hk.2⟩⟩)⟩, ⟨by (with_reducible repeat (first | apply Kd.R_alloc | apply Kd.R_drewN | apply Kd.R_drew)); exact Kd.R_mono HO209.out (fun _ hk => ⟨hk.1.1.2, ⟨hk.1.2, hk.2⟩⟩)⟩, ⟨by (with_reducible repeat (first | apply Kd.R_alloc | apply Kd.R_drewN | apply Kd.R_drew)); exact Kd.R_mono HO216.out (fun _ hk => ⟨hk.1.1.2, ⟨hk.1.2, hk.2⟩⟩)⟩, ⟨by refine uW ?_; exact BK173.out⟩, ⟨by refine uW ?_; exact BK174.out⟩, ⟨by refine uW ?_; exact BK196.out⟩, ⟨by refine uW ?_; exact BK203.out⟩, ⟨by refine uW ?_; exact BK210.out⟩, ⟨by refine uW ?_; exact BK218.out⟩, ⟨uN HB⟩⟩
  replace c76 := Bool.eq_false_iff.mpr c76
  subst c76
  rw [if_neg (show ¬ (false = true) by decide)] at H
  have H' := Aside0.mk H
  clear H
  have hnb89 := NB218_173.out
  have hnc89 := NB173_218.out
  have hnb90 := NB218_174.out
  have hnc90 := NB174_218.out
  have hnb91 := NB218_196.out
  have hnc91 := NB196_218.out
  have hnb92 := NB218_203.out
  have hnc92 := NB203_218.out
  have hnb93 := NB218_210.out
  have hnc93 := NB210_218.out
  obtain ⟨hcz94_0, hcz94_1, hcz94_2, hcz94_3, hfz94_0, hfz94_1, hfz94_2, hfz94_3⟩ := ce4 BK218
  have hnb95 := NB196_173.out
  have hnc95 := NB173_196.out
  have hnb96 := NB196_174.out
  have hnc96 := NB174_196.out
  have hnb97 := NB196_203.out
  have hnc97 := NB203_196.out
  have hnb98 := NB196_210.out
  have hnc98 := NB210_196.out
  obtain ⟨hcz99_0, hcz99_1, hcz99_2, hcz99_3, hfz99_0, hfz99_1, hfz99_2, hfz99_3⟩ := ce4 BK196
  go_wp2_with (first | ((with_reducible refine gate_callee (f := 13) rfl ?_); refine goesL_ (some 47) rfl rfl Try.func13 (by kernel_rfl) rfl #[.agg #[.int .i64 t211, .int .i64 t212, .int .i64 t213, .slice Ao74 t214.length co74], .agg #[.int .i64 t189, .int .i64 t190, .int .i64 t191, .slice Ao44 t192.length co44]] rfl (by (try simp only [List.map_toArray, List.map_cons, List.map_nil]); first | done | rfl) ?_; (with_reducible refine (laws_eqTable.calls k t211 t212 t213 _ _ t214 t189 t190 t191 _ _ t192 false _ ?side1 ?side2 ?side3 ?side4 A75.out).mono ?_); (case side1 => refine (Kd.R_reads' (e := 3) (base := w.heap.size) (ok := fun k_ => (((((True ∧ some k_ ≠ (v181 : Value).ownBlock) ∧ some k_ ≠ (v187 : Value).ownBlock) ∧ some k_ ≠ (.slice Ao44 t192.length co44 : Value).ownBlock) ∧ some k_ ≠ (.slice Ao54 t200.length co54 : Value).ownBlock) ∧ some k_ ≠ (.slice Ao64 t207.length co64 : Value).ownBlock)) (n := t214.length) (c := co74) ?_).2.2; exact (fS HO216 BK218 (by decide))); (case side2 => exact (Kd.R_reads' HO216.out).2.1); (case side3 => refine (Kd.R_reads' (e := 3) (base := w.heap.size) (ok := fun k_ => ((((some k_ ≠ (v181 : Value).ownBlock ∧ some k_ ≠ (v187 : Value).ownBlock) ∧ some k_ ≠ (.slice Ao54 t200.length co54 : Value).ownBlock) ∧ some k_ ≠ (.slice Ao64 t207.length co64 : Value).ownBlock) ∧ some k_ ≠ (.slice Ao74 t214.length co74 : Value).ownBlock)) (n := t192.length) (c := co44) ?_).2.2; exact (fS HO194 BK218 (by decide))); (case side4 => exact (Kd.R_reads' HO194.out).2.1); rintro e w100 ⟨rfl, hb⟩; refine ⟨_, rfl, ?_⟩; replace HO182 := Aside0.mk (Kd.R_below (fS HO182 BK218 (by decide)) hb); replace HO188 := Aside0.mk (Kd.R_below (fS HO188 BK218 (by decide)) hb); replace HO194 := Aside0.mk (Kd.R_below (fS HO194 BK218 (by decide)) hb); replace HO202 := Aside0.mk (Kd.R_below (fS HO202 BK218 (by decide)) hb); replace HO209 := Aside0.mk (Kd.R_below (fS HO209 BK218 (by decide)) hb); replace HO216 := Aside0.mk (Kd.R_below (fS HO216 BK218 (by decide)) hb); replace BK173 := Aside0.mk (blk_below (g := gb173) (o := .cells #[.int .i64 a0_0, .int .i64 a0_1, .int .i64 a0_2, .slice A0_3 l0_3.length c0_3] 24 (0, 0)) (by refine uW ?_; refine blk_far ?_ NB173_218.out _; refine uW ?_; refine blk_far ?_ NB173_218.out _; refine uW ?_; refine blk_far ?_ NB173_218.out _; refine uW ?_; refine blk_far ?_ NB173_218.out _; refine uW ?_; exact BK173.out) hb); replace BK174 := Aside0.mk (blk_below (g := gb174) (o := .cells #[.int .i64 a1_0, .int .i64 a1_1, .int .i64 a1_2, .slice A1_3 l1_3.length c1_3] 24 (0, 0)) (by refine uW ?_; refine blk_far ?_ NB174_218.out _; refine uW ?_; refine blk_far ?_ NB174_218.out _; refine uW ?_; refine blk_far ?_ NB174_218.out _; refine uW ?_; refine blk_far ?_ NB174_218.out _; refine uW ?_; exact BK174.out) hb); replace BK196 := Aside0.mk (blk_below (g := gb196) (o := .cells #[.int .i64 t189, .int .i64 t190, .int .i64 t191, .slice Ao44 t192.length co44] 26 (0, 0)) (by refine uW ?_; refine blk_far ?_ NB196_218.out _; refine uW ?_; refine blk_far ?_ NB196_218.out _; refine uW ?_; refine blk_far ?_ NB196_218.out _; refine uW ?_; refine blk_far ?_ NB196_218.out _; refine uW ?_; exact BK196.out) hb); replace BK203 := Aside0.mk (blk_below (g := gb203) (o := .cells #[.int .i64 t197, .int .i64 t198, .int .i64 t199, .slice Ao54 t200.length co54] 26 (0, 0)) (by refine uW ?_; refine blk_far ?_ NB203_218.out _; refine uW ?_; refine blk_far ?_ NB203_218.out _; refine uW ?_; refine blk_far ?_ NB203_218.out _; refine uW ?_; refine blk_far ?_ NB203_218.out _; refine uW ?_; exact BK203.out) hb); replace BK210 := Aside0.mk (blk_below (g := gb210) (o := .cells #[.int .i64 t204, .int .i64 t205, .int .i64 t206, .slice Ao64 t207.length co64] 26 (0, 0)) (by refine uW ?_; refine blk_far ?_ NB210_218.out _; refine uW ?_; refine blk_far ?_ NB210_218.out _; refine uW ?_; refine blk_far ?_ NB210_218.out _; refine uW ?_; refine blk_far ?_ NB210_218.out _; refine uW ?_; exact BK210.out) hb); replace BK218 := Aside0.mk (blk_below (g := gb218) (o := .cells #[.int .i64 t211, .int .i64 t212, .int .i64 t213, .slice Ao74 t214.length co74] 26 (0, 0)) (by refine uW ?_; refine blk_put (cs := #[.int .i64 t211, .int .i64 t212, .int .i64 t213, .slice none 0 0]) ?_ 3 _ rfl; refine uW ?_; refine blk_put (cs := #[.int .i64 t211, .int .i64 t212, .int .i64 0, .slice none 0 0]) ?_ 2 _ rfl; refine uW ?_; refine blk_put (cs := #[.int .i64 t211, .int .i64 0, .int .i64 0, .slice none 0 0]) ?_ 1 _ rfl; refine uW ?_; refine blk_put (cs := #[.int .i64 0, .int .i64 0, .int .i64 0, .slice none 0 0]) ?_ 0 _ rfl; refine uW ?_; exact BK218.out) hb); replace HB := Aside0.mk (below_step (uN HB) hb); (try clear hb); (try clear hb2); (try clear hk); (try clear hi)))
  go_meet
  case rel => exact ⟨_, (true), (by first | rfl | (simp; done) | (simp [*]; done)), H', ⟨by first | omega | exact Nat.le_refl _⟩, ⟨by (with_reducible repeat (first | apply Kd.R_alloc | apply Kd.R_drewN | apply Kd.R_drew)); exact Kd.R_mono HO194.out (fun _ hk => ⟨hk.1.1.2, ⟨hk.1.2, hk.2⟩⟩)⟩, ⟨by (with_reducible repeat (first | apply Kd.R_alloc | apply Kd.R_drewN | apply Kd.R_drew)); exact Kd.R_mono HO202.out (fun _ hk => ⟨hk.1.1.2, ⟨hk.1.2, hk.2⟩⟩)⟩, ⟨by (with_reducible repeat (first | apply Kd.R_alloc | apply Kd.R_drewN | apply Kd.R_drew)); exact Kd.R_mono HO209.out (fun _ hk => ⟨hk.1.1.2, ⟨hk.1.2, hk.2⟩⟩)⟩, ⟨by (with_reducible repeat (first | apply Kd.R_alloc | apply Kd.R_drewN | apply Kd.R_drew)); exact Kd.R_mono HO216.out (fun _ hk => ⟨hk.1.1.2, ⟨hk.1.2, hk.2⟩⟩)⟩, ⟨by refine uW ?_; exact BK173.out⟩, ⟨by refine uW ?_; exact BK174.out⟩, ⟨by refine uW ?_; exact BK196.out⟩, ⟨by refine uW ?_; exact BK203.out⟩, ⟨by refine uW ?_; exact BK210.out⟩, ⟨by refine uW ?_; exact BK218.out⟩, ⟨uN HB⟩⟩
 case rest =>
  clear HC25
  try clear c1
  try clear p2
  try clear c4
  try clear c5
  try clear c6
  try clear c7
  try clear c8
  try clear c9
  try clear c10
  try clear c11
  try clear c12
  try clear c13
  try clear c46
  try clear c50
  try clear c51
  try clear c52
  try clear c55
  try clear c59
  try clear c60
  try clear c61
  try clear c62
  try clear c68
  try clear c69
  try clear c70
  try clear c71
  try clear c72
  try clear c76
  try clear c77
  try clear c78
  try clear c79
  try clear c80
  try clear c81
  try clear c83
  try clear c84
  try clear c85
  try clear c86
  try clear c89
  try clear c90
  try clear c91
  try clear c92
  try clear c93
  try clear c95
  try clear c96
  try clear c97
  try clear c98
  try clear hcz47_0
  try clear hcz47_1
  try clear hcz47_2
  try clear hcz47_3
  try clear hcz53_0
  try clear hcz53_1
  try clear hcz53_2
  try clear hcz53_3
  try clear hcz56_0
  try clear hcz56_1
  try clear hcz56_2
  try clear hcz56_3
  try clear hcz63_0
  try clear hcz63_1
  try clear hcz63_2
  try clear hcz63_3
  try clear hcz65_0
  try clear hcz65_1
  try clear hcz65_2
  try clear hcz65_3
  try clear hcz73_0
  try clear hcz73_1
  try clear hcz73_2
  try clear hcz73_3
  try clear hcz82_0
  try clear hcz82_1
  try clear hcz82_2
  try clear hcz82_3
  try clear hcz87_0
  try clear hcz87_1
  try clear hcz87_2
  try clear hcz87_3
  try clear hcz94_0
  try clear hcz94_1
  try clear hcz94_2
  try clear hcz94_3
  try clear hcz99_0
  try clear hcz99_1
  try clear hcz99_2
  try clear hcz99_3
  try clear hfz47_0
  try clear hfz47_1
  try clear hfz47_2
  try clear hfz47_3
  try clear hfz53_0
  try clear hfz53_1
  try clear hfz53_2
  try clear hfz53_3
  try clear hfz56_0
  try clear hfz56_1
  try clear hfz56_2
  try clear hfz56_3
  try clear hfz63_0
  try clear hfz63_1
  try clear hfz63_2
  try clear hfz63_3
  try clear hfz65_0
  try clear hfz65_1
  try clear hfz65_2
  try clear hfz65_3
  try clear hfz73_0
  try clear hfz73_1
  try clear hfz73_2
  try clear hfz73_3
  try clear hfz82_0
  try clear hfz82_1
  try clear hfz82_2
  try clear hfz82_3
  try clear hfz87_0
  try clear hfz87_1
  try clear hfz87_2
  try clear hfz87_3
  try clear hfz94_0
  try clear hfz94_1
  try clear hfz94_2
  try clear hfz94_3
  try clear hfz99_0
  try clear hfz99_1
  try clear hfz99_2
  try clear hfz99_3
  obtain ⟨kq, x53_24, rfl, HA, HJ24, HO_197003, HO_204003, HO_211003, HO_219003, BK173, BK174, BK196, BK203, BK210, BK218, HB⟩ := hcut
  cases kq with
  | zero => exact absurd HA.out (by simp [laws_FnExactAddTables.j0])
  | succ kj24 =>
   have H := HA.out
   clear HA
   simp only [laws_FnExactAddTables.j0] at H
   by_cases c101 : x53_24 = true
   ·
    subst c101
    rw [if_pos rfl] at H
    obtain rfl := Option.some.inj H
    go_wp2
    go_ret
    exact ⟨by first | rfl | (simp [errW_none, errW_some] <;> rfl) | (simp [*, errW_none, errW_some] <;> rfl), uN HB⟩
   replace c101 := Bool.eq_false_iff.mpr c101
   subst c101
   rw [if_neg (show ¬ (false = true) by decide)] at H
   replace H := Option.bind_eq_some_iff.mp H
   obtain ⟨⟨t220, t221, t222, t223⟩, A1020, H⟩ := H
   try dsimp only at H
   have A102 := Aside0.mk A1020
   clear A1020
   replace H := Option.bind_eq_some_iff.mp H
   obtain ⟨t226, A1030, H⟩ := H
   try dsimp only at H
   have A103 := Aside0.mk A1030
   clear A1030
   by_cases c104 : t226 = true
   ·
    subst c104
    rw [if_pos rfl] at H
    replace H := Option.bind_eq_some_iff.mp H
    obtain ⟨⟨t227, t228, t229, t230⟩, A1050, H⟩ := H
    try dsimp only at H
    have A105 := Aside0.mk A1050
    clear A1050
    replace H := Option.bind_eq_some_iff.mp H
    obtain ⟨t233, A1060, H⟩ := H
    try dsimp only at H
    have A106 := Aside0.mk A1060
    clear A1060
    by_cases c107 : t233 = true
    ·
     subst c107
     rw [if_pos rfl] at H
     replace H := Option.bind_eq_some_iff.mp H
     obtain ⟨⟨t234, t235⟩, A1080, H⟩ := H
     try dsimp only at H
     have A108 := Aside0.mk A1080
     clear A1080
     replace H := Option.bind_eq_some_iff.mp H
     obtain ⟨⟨t236, t237⟩, A1090, H⟩ := H
     try dsimp only at H
     have A109 := Aside0.mk A1090
     clear A1090
     have HC110 := Aside0.mk H
     clear H
     try go_wp2
     replace HO_197003 := Aside0.mk (Kd.R_drew HO_197003.out)
     replace HO_204003 := Aside0.mk (Kd.R_drew HO_204003.out)
     replace HO_211003 := Aside0.mk (Kd.R_drew HO_211003.out)
     replace HO_219003 := Aside0.mk (Kd.R_drew HO_219003.out)
     replace BK173 := Aside0.mk (blk_drew BK173.out)
     replace BK174 := Aside0.mk (blk_drew BK174.out)
     replace BK196 := Aside0.mk (blk_drew BK196.out)
     replace BK203 := Aside0.mk (blk_drew BK203.out)
     replace BK210 := Aside0.mk (blk_drew BK210.out)
     replace BK218 := Aside0.mk (blk_drew BK218.out)
     replace HB := Aside0.mk (below_drew1 HB.out)
     refine start_ (n := 5) (S := fun w' => w'.cell? ⟨gb203, 0, none⟩ = some (.int .i64 t197) ∧ w'.cell? ⟨gb203, 1, none⟩ = some (.int .i64 t198) ∧ w'.cell? ⟨gb203, 2, none⟩ = some (.int .i64 t199) ∧ w'.cell? ⟨gb203, 3, none⟩ = some (.slice Ao54 t200.length co54) ∧ w'.cell? ⟨gb173, 0, none⟩ = some (.int .i64 a0_0) ∧ w'.cell? ⟨gb173, 1, none⟩ = some (.int .i64 a0_1) ∧ w'.cell? ⟨gb173, 2, none⟩ = some (.int .i64 a0_2) ∧ w'.cell? ⟨gb173, 3, none⟩ = some (.slice A0_3 l0_3.length c0_3)) (ds := []) #[false, false, false, false, false] (by kernel_rfl) rfl rfl ⟨bc BK203 0, bc BK203 1, bc BK203 2, bc BK203 3, bc BK173 0, bc BK173 1, bc BK173 2, bc BK173 3⟩ (fun hHeld => ?_)
     generalize wc.drew = w111 at HO_197003 HO_204003 HO_211003 HO_219003 BK173 BK174 BK196 BK203 BK210 BK218 HB hHeld ⊢
     refine take_ (i := 0) (N := some 54) (v := ?_) (a' := ?_) #[true, false, false, false, false] rfl rfl (by kernel_rfl) (fun _ _ _ h => h) (Or.inl ⟨by rfl, ?_⟩) hHeld ?_ ?_
     rotate_left
     ·
      rintro w' ⟨s0, s1, s2, s3, s4, s5, s6, s7⟩
      go_simp
      with_reducible rfl
     rotate_left
     ·
      simp only [Act.put, setIfInBounds_toArray, set_cons_zero, set_cons_succ, i64_w, i32_w]
      rfl
     refine take_ (i := 1) (N := some 55) (v := ?_) (a' := ?_) #[true, true, false, false, false] rfl rfl (by kernel_rfl) (fun _ _ _ h => h) (Or.inl ⟨by rfl, ?_⟩) hHeld ?_ ?_
     rotate_left
     ·
      rintro w' ⟨s0, s1, s2, s3, s4, s5, s6, s7⟩
      go_simp
      with_reducible rfl
     rotate_left
     ·
      simp only [Act.put, setIfInBounds_toArray, set_cons_zero, set_cons_succ, i64_w, i32_w]
      rfl
     refine one_ (i := 2) (N := some 56) #[true, true, true, false, false] rfl rfl (by kernel_rfl) (by decide) (fun K hK => ?_)
     refine goes_ Try.func11 (by kernel_rfl) rfl #[.agg #[.int .i64 a0_0, .int .i64 a0_1, .int .i64 a0_2, .slice A0_3 l0_3.length c0_3]] (by rfl) rfl rfl (by (try simp only [List.map_toArray, List.map_cons, List.map_nil]); first | done | rfl) ?_
     with_reducible refine (laws_toTable.calls kj24 a0_0 a0_1 a0_2 _ _ l0_3 t220 t221 t222 t223 _ ?side1 ?side2 A102.out).mono ?_
     (case side1 => exact uC HR0_3 HB)
     (case side2 => exact HC0_3.out)
     rintro e w112 ⟨v224, rfl, ho0, hb⟩
     refine ⟨_, rfl, ?_⟩
     have HO225 := Aside0.mk (Kd.R_lower (Kd.R_new' (Kd.R_new' (Kd.R_new' (Kd.R_new' ho0 (Kd.R_lt (uR HO_197003))) (Kd.R_lt (uR HO_204003))) (Kd.R_lt (uR HO_211003))) (Kd.R_lt (uR HO_219003))) (below_size (uN HB)))
     replace HO_197003 := Aside0.mk (Kd.R_elder' (uR HO_197003) (Kd.R_base ho0) hb)
     replace HO_204003 := Aside0.mk (Kd.R_elder' (uR HO_204003) (Kd.R_base ho0) hb)
     replace HO_211003 := Aside0.mk (Kd.R_elder' (uR HO_211003) (Kd.R_base ho0) hb)
     replace HO_219003 := Aside0.mk (Kd.R_elder' (uR HO_219003) (Kd.R_base ho0) hb)
     replace BK173 := kB BK173 hb
     replace BK174 := kB BK174 hb
     replace BK196 := kB BK196 hb
     replace BK203 := kB BK203 hb
     replace BK210 := kB BK210 hb
     replace BK218 := kB BK218 hb
     replace HB := Aside0.mk (below_step (uN HB) hb)
     (try clear hb)
     (try clear hb2)
     (try clear hk)
     (try clear hi)
     (try clear ho0)
     obtain ⟨Ao113, co113, eo113⟩ := Kd.R_slice HO225.out
     (first | subst eo113 | (injection eo113 with f1_ f2_ f3_; have f4_ := f1_.symm; have f5_ := f3_.symm; clear f1_ f2_ f3_; subst f4_; subst f5_))
     refine hK.out _ _ ⟨bc BK203 0, bc BK203 1, bc BK203 2, bc BK203 3, bc BK173 0, bc BK173 1, bc BK173 2, bc BK173 3⟩ (fun hHeld => ?_)
     clear hK K
     refine norm_ (a' := ?_) ?_ ?_
     rotate_left
     ·
      show Act.put _ (some 56) _ = _
      simp only [Act.put, setIfInBounds_toArray, set_cons_zero, set_cons_succ, i64_w, i32_w]
      rfl
     refine one_ (i := 3) (N := some 57) #[true, true, true, true, false] rfl rfl (by kernel_rfl) (by decide) (fun K hK => ?_)
     refine goes_ Try.func13 (by kernel_rfl) rfl #[.agg #[.int .i64 t197, .int .i64 t198, .int .i64 t199, .slice Ao54 t200.length co54], .agg #[.int .i64 t220, .int .i64 t221, .int .i64 t222, .slice Ao113 t223.length co113]] (by rfl) rfl rfl (by (try simp only [List.map_toArray, List.map_cons, List.map_nil]); first | done | rfl) ?_
     with_reducible refine (laws_eqTable.calls kj24 t197 t198 t199 _ _ t200 t220 t221 t222 _ _ t223 true _ ?side1 ?side2 ?side3 ?side4 A103.out).mono ?_
     (case side1 => exact uD HO_204003)
     (case side2 => exact (Kd.R_reads' HO_204003.out).2.1)
     (case side3 => exact uD HO225)
     (case side4 => exact (Kd.R_reads' HO225.out).2.1)
     rintro e w114 ⟨rfl, hb⟩
     refine ⟨_, rfl, ?_⟩
     replace HO_197003 := Aside0.mk (Kd.R_below (uR HO_197003) hb)
     replace HO_204003 := Aside0.mk (Kd.R_below (uR HO_204003) hb)
     replace HO_211003 := Aside0.mk (Kd.R_below (uR HO_211003) hb)
     replace HO_219003 := Aside0.mk (Kd.R_below (uR HO_219003) hb)
     replace HO225 := Aside0.mk (Kd.R_below (uR HO225) hb)
     replace BK173 := kB BK173 hb
     replace BK174 := kB BK174 hb
     replace BK196 := kB BK196 hb
     replace BK203 := kB BK203 hb
     replace BK210 := kB BK210 hb
     replace BK218 := kB BK218 hb
     replace HB := Aside0.mk (below_step (uN HB) hb)
     (try clear hb)
     (try clear hb2)
     (try clear hk)
     (try clear hi)
     refine hK.out _ _ ⟨bc BK203 0, bc BK203 1, bc BK203 2, bc BK203 3, bc BK173 0, bc BK173 1, bc BK173 2, bc BK173 3⟩ (fun hHeld => ?_)
     clear hK K
     refine norm_ (a' := ?_) ?_ ?_
     rotate_left
     ·
      show Act.put _ (some 57) _ = _
      simp only [Act.put, setIfInBounds_toArray, set_cons_zero, set_cons_succ, i64_w, i32_w]
      rfl
     refine pure_ (i := 4) (N := some 58) (v := ?_) (a' := ?_) #[true, true, true, true, true] rfl rfl (by kernel_rfl) (fun _ _ _ h => h) (Or.inl ⟨by rfl, ?_⟩) ?_ ?_
     rotate_left
     ·
      intro w'
      go_simp
      with_reducible rfl
     rotate_left
     ·
      simp only [Act.put, setIfInBounds_toArray, set_cons_zero, set_cons_succ, i64_w, i32_w]
      rfl
     refine done_ (by kernel_rfl) ?_
     try go_wp2
     replace HO_197003 := Aside0.mk (Kd.R_drew HO_197003.out)
     replace HO_204003 := Aside0.mk (Kd.R_drew HO_204003.out)
     replace HO_211003 := Aside0.mk (Kd.R_drew HO_211003.out)
     replace HO_219003 := Aside0.mk (Kd.R_drew HO_219003.out)
     replace HO225 := Aside0.mk (Kd.R_drew HO225.out)
     replace BK173 := Aside0.mk (blk_drew BK173.out)
     replace BK174 := Aside0.mk (blk_drew BK174.out)
     replace BK196 := Aside0.mk (blk_drew BK196.out)
     replace BK203 := Aside0.mk (blk_drew BK203.out)
     replace BK210 := Aside0.mk (blk_drew BK210.out)
     replace BK218 := Aside0.mk (blk_drew BK218.out)
     replace HB := Aside0.mk (below_drew1 HB.out)
     refine start_ (n := 5) (S := fun w' => w'.cell? ⟨gb210, 0, none⟩ = some (.int .i64 t204) ∧ w'.cell? ⟨gb210, 1, none⟩ = some (.int .i64 t205) ∧ w'.cell? ⟨gb210, 2, none⟩ = some (.int .i64 t206) ∧ w'.cell? ⟨gb210, 3, none⟩ = some (.slice Ao64 t207.length co64) ∧ w'.cell? ⟨gb174, 0, none⟩ = some (.int .i64 a1_0) ∧ w'.cell? ⟨gb174, 1, none⟩ = some (.int .i64 a1_1) ∧ w'.cell? ⟨gb174, 2, none⟩ = some (.int .i64 a1_2) ∧ w'.cell? ⟨gb174, 3, none⟩ = some (.slice A1_3 l1_3.length c1_3)) (ds := []) #[false, false, false, false, false] (by kernel_rfl) rfl rfl ⟨bc BK210 0, bc BK210 1, bc BK210 2, bc BK210 3, bc BK174 0, bc BK174 1, bc BK174 2, bc BK174 3⟩ (fun hHeld => ?_)
     generalize w114.drew = w115 at HO_197003 HO_204003 HO_211003 HO_219003 HO225 BK173 BK174 BK196 BK203 BK210 BK218 HB hHeld ⊢
     refine take_ (i := 0) (N := some 59) (v := ?_) (a' := ?_) #[true, false, false, false, false] rfl rfl (by kernel_rfl) (fun _ _ _ h => h) (Or.inl ⟨by rfl, ?_⟩) hHeld ?_ ?_
     rotate_left
     ·
      rintro w' ⟨s0, s1, s2, s3, s4, s5, s6, s7⟩
      go_simp
      with_reducible rfl
     rotate_left
     ·
      simp only [Act.put, setIfInBounds_toArray, set_cons_zero, set_cons_succ, i64_w, i32_w]
      rfl
     refine take_ (i := 1) (N := some 60) (v := ?_) (a' := ?_) #[true, true, false, false, false] rfl rfl (by kernel_rfl) (fun _ _ _ h => h) (Or.inl ⟨by rfl, ?_⟩) hHeld ?_ ?_
     rotate_left
     ·
      rintro w' ⟨s0, s1, s2, s3, s4, s5, s6, s7⟩
      go_simp
      with_reducible rfl
     rotate_left
     ·
      simp only [Act.put, setIfInBounds_toArray, set_cons_zero, set_cons_succ, i64_w, i32_w]
      rfl
     refine one_ (i := 2) (N := some 61) #[true, true, true, false, false] rfl rfl (by kernel_rfl) (by decide) (fun K hK => ?_)
     refine goes_ Try.func11 (by kernel_rfl) rfl #[.agg #[.int .i64 a1_0, .int .i64 a1_1, .int .i64 a1_2, .slice A1_3 l1_3.length c1_3]] (by rfl) rfl rfl (by (try simp only [List.map_toArray, List.map_cons, List.map_nil]); first | done | rfl) ?_
     with_reducible refine (laws_toTable.calls kj24 a1_0 a1_1 a1_2 _ _ l1_3 t227 t228 t229 t230 _ ?side1 ?side2 A105.out).mono ?_
     (case side1 => exact uC HR1_3 HB)
     (case side2 => exact HC1_3.out)
     rintro e w116 ⟨v231, rfl, ho0, hb⟩
     refine ⟨_, rfl, ?_⟩
     have HO232 := Aside0.mk (Kd.R_lower (Kd.R_new' (Kd.R_new' (Kd.R_new' (Kd.R_new' (Kd.R_new' ho0 (Kd.R_lt (uR HO_197003))) (Kd.R_lt (uR HO_204003))) (Kd.R_lt (uR HO_211003))) (Kd.R_lt (uR HO_219003))) (Kd.R_lt (uR HO225))) (below_size (uN HB)))
     replace HO_197003 := Aside0.mk (Kd.R_elder' (uR HO_197003) (Kd.R_base ho0) hb)
     replace HO_204003 := Aside0.mk (Kd.R_elder' (uR HO_204003) (Kd.R_base ho0) hb)
     replace HO_211003 := Aside0.mk (Kd.R_elder' (uR HO_211003) (Kd.R_base ho0) hb)
     replace HO_219003 := Aside0.mk (Kd.R_elder' (uR HO_219003) (Kd.R_base ho0) hb)
     replace HO225 := Aside0.mk (Kd.R_elder' (uR HO225) (Kd.R_base ho0) hb)
     replace BK173 := kB BK173 hb
     replace BK174 := kB BK174 hb
     replace BK196 := kB BK196 hb
     replace BK203 := kB BK203 hb
     replace BK210 := kB BK210 hb
     replace BK218 := kB BK218 hb
     replace HB := Aside0.mk (below_step (uN HB) hb)
     (try clear hb)
     (try clear hb2)
     (try clear hk)
     (try clear hi)
     (try clear ho0)
     obtain ⟨Ao117, co117, eo117⟩ := Kd.R_slice HO232.out
     (first | subst eo117 | (injection eo117 with f1_ f2_ f3_; have f4_ := f1_.symm; have f5_ := f3_.symm; clear f1_ f2_ f3_; subst f4_; subst f5_))
     refine hK.out _ _ ⟨bc BK210 0, bc BK210 1, bc BK210 2, bc BK210 3, bc BK174 0, bc BK174 1, bc BK174 2, bc BK174 3⟩ (fun hHeld => ?_)
     clear hK K
     refine norm_ (a' := ?_) ?_ ?_
     rotate_left
     ·
      show Act.put _ (some 61) _ = _
      simp only [Act.put, setIfInBounds_toArray, set_cons_zero, set_cons_succ, i64_w, i32_w]
      rfl
     refine one_ (i := 3) (N := some 62) #[true, true, true, true, false] rfl rfl (by kernel_rfl) (by decide) (fun K hK => ?_)
     refine goes_ Try.func13 (by kernel_rfl) rfl #[.agg #[.int .i64 t204, .int .i64 t205, .int .i64 t206, .slice Ao64 t207.length co64], .agg #[.int .i64 t227, .int .i64 t228, .int .i64 t229, .slice Ao117 t230.length co117]] (by rfl) rfl rfl (by (try simp only [List.map_toArray, List.map_cons, List.map_nil]); first | done | rfl) ?_
     with_reducible refine (laws_eqTable.calls kj24 t204 t205 t206 _ _ t207 t227 t228 t229 _ _ t230 true _ ?side1 ?side2 ?side3 ?side4 A106.out).mono ?_
     (case side1 => exact uD HO_211003)
     (case side2 => exact (Kd.R_reads' HO_211003.out).2.1)
     (case side3 => exact uD HO232)
     (case side4 => exact (Kd.R_reads' HO232.out).2.1)
     rintro e w118 ⟨rfl, hb⟩
     refine ⟨_, rfl, ?_⟩
     replace HO_197003 := Aside0.mk (Kd.R_below (uR HO_197003) hb)
     replace HO_204003 := Aside0.mk (Kd.R_below (uR HO_204003) hb)
     replace HO_211003 := Aside0.mk (Kd.R_below (uR HO_211003) hb)
     replace HO_219003 := Aside0.mk (Kd.R_below (uR HO_219003) hb)
     replace HO225 := Aside0.mk (Kd.R_below (uR HO225) hb)
     replace HO232 := Aside0.mk (Kd.R_below (uR HO232) hb)
     replace BK173 := kB BK173 hb
     replace BK174 := kB BK174 hb
     replace BK196 := kB BK196 hb
     replace BK203 := kB BK203 hb
     replace BK210 := kB BK210 hb
     replace BK218 := kB BK218 hb
     replace HB := Aside0.mk (below_step (uN HB) hb)
     (try clear hb)
     (try clear hb2)
     (try clear hk)
     (try clear hi)
     refine hK.out _ _ ⟨bc BK210 0, bc BK210 1, bc BK210 2, bc BK210 3, bc BK174 0, bc BK174 1, bc BK174 2, bc BK174 3⟩ (fun hHeld => ?_)
     clear hK K
     refine norm_ (a' := ?_) ?_ ?_
     rotate_left
     ·
      show Act.put _ (some 62) _ = _
      simp only [Act.put, setIfInBounds_toArray, set_cons_zero, set_cons_succ, i64_w, i32_w]
      rfl
     refine pure_ (i := 4) (N := some 63) (v := ?_) (a' := ?_) #[true, true, true, true, true] rfl rfl (by kernel_rfl) (fun _ _ _ h => h) (Or.inl ⟨by rfl, ?_⟩) ?_ ?_
     rotate_left
     ·
      intro w'
      go_simp
      with_reducible rfl
     rotate_left
     ·
      simp only [Act.put, setIfInBounds_toArray, set_cons_zero, set_cons_succ, i64_w, i32_w]
      rfl
     refine done_ (by kernel_rfl) ?_
     have hnb119 := NB203_173.out
     have hnc119 := NB173_203.out
     have hnb120 := NB203_174.out
     have hnc120 := NB174_203.out
     have hnb121 := NB203_196.out
     have hnc121 := NB196_203.out
     have hnb122 := NB203_210.out
     have hnc122 := NB210_203.out
     have hnb123 := NB203_218.out
     have hnc123 := NB218_203.out
     obtain ⟨hcz124_0, hcz124_1, hcz124_2, hcz124_3, hfz124_0, hfz124_1, hfz124_2, hfz124_3⟩ := ce4 BK203
     go_upto_region 21 with (first | ((with_reducible refine gate_callee (f := 14) rfl ?_); refine goesL_ (some 66) rfl rfl Try.func14 (by kernel_rfl) rfl #[.agg #[.int .i64 t197, .int .i64 t198, .int .i64 t199, .slice Ao54 t200.length co54], .int .i64 1] rfl (by (try simp only [List.map_toArray, List.map_cons, List.map_nil]); first | done | rfl) ?_; (with_reducible refine (laws_markTable.calls kj24 t197 t198 t199 (fun k_ => some k_ = (.slice Ao54 t200.length co54 : Value).ownBlock) (.slice Ao54 t200.length co54) t200 1 t234 t235 w _ ?side1 ?side2 A108.out).mono ?_); (case side1 => exact uN HB); (case side2 => exact Kd.R_tight rfl HO_204003.out); rintro e w125 ⟨rfl, hy0, hb, hkp⟩; refine ⟨_, rfl, ?_⟩; replace HO_197003 := Aside0.mk (Kd.R_mono (ok' := fun k_ => some k_ ≠ (.slice Ao54 t200.length co54 : Value).ownBlock ∧ some k_ ≠ (.slice Ao64 t207.length co64 : Value).ownBlock ∧ some k_ ≠ (.slice Ao74 t214.length co74 : Value).ownBlock ∧ some k_ ≠ (.slice Ao113 t223.length co113 : Value).ownBlock ∧ some k_ ≠ (.slice Ao117 t230.length co117 : Value).ownBlock) (Kd.R_keptB (HO_197003.out) hkp (fun k_ hk_ hs_ => (hk_.1.1.1) hs_)) (fun k_ hk_ => ⟨hk_.1.1.1.1, hk_.1.1.1.2.1, hk_.1.1.1.2.2, hk_.1.1.2, hk_.1.2⟩)); replace HO_211003 := Aside0.mk (Kd.R_mono (ok' := fun k_ => some k_ ≠ (.slice Ao44 t192.length co44 : Value).ownBlock ∧ some k_ ≠ (.slice Ao54 t200.length co54 : Value).ownBlock ∧ some k_ ≠ (.slice Ao74 t214.length co74 : Value).ownBlock ∧ some k_ ≠ (.slice Ao113 t223.length co113 : Value).ownBlock ∧ some k_ ≠ (.slice Ao117 t230.length co117 : Value).ownBlock) (Kd.R_keptB (HO_211003.out) hkp (fun k_ hk_ hs_ => (hk_.1.1.2.1) hs_)) (fun k_ hk_ => ⟨hk_.1.1.1.1, hk_.1.1.1.2.1, hk_.1.1.1.2.2, hk_.1.1.2, hk_.1.2⟩)); replace HO_219003 := Aside0.mk (Kd.R_mono (ok' := fun k_ => some k_ ≠ (.slice Ao44 t192.length co44 : Value).ownBlock ∧ some k_ ≠ (.slice Ao54 t200.length co54 : Value).ownBlock ∧ some k_ ≠ (.slice Ao64 t207.length co64 : Value).ownBlock ∧ some k_ ≠ (.slice Ao113 t223.length co113 : Value).ownBlock ∧ some k_ ≠ (.slice Ao117 t230.length co117 : Value).ownBlock) (Kd.R_keptB (HO_219003.out) hkp (fun k_ hk_ hs_ => (hk_.1.1.2.1) hs_)) (fun k_ hk_ => ⟨hk_.1.1.1.1, hk_.1.1.1.2.1, hk_.1.1.1.2.2, hk_.1.1.2, hk_.1.2⟩)); replace BK173 := Aside0.mk (blk_kept (uK BK173) hkp (fun hs_ => (fun e_ => (Kd.R_ne HO_204003.out BK173.out (by decide)) e_) hs_)); replace BK174 := Aside0.mk (blk_kept (uK BK174) hkp (fun hs_ => (fun e_ => (Kd.R_ne HO_204003.out BK174.out (by decide)) e_) hs_)); replace BK196 := Aside0.mk (blk_kept (uK BK196) hkp (fun hs_ => (fun e_ => (Kd.R_ne HO_204003.out BK196.out (by decide)) e_) hs_)); replace BK203 := Aside0.mk (blk_kept (uK BK203) hkp (fun hs_ => (fun e_ => (Kd.R_ne HO_204003.out BK203.out (by decide)) e_) hs_)); replace BK210 := Aside0.mk (blk_kept (uK BK210) hkp (fun hs_ => (fun e_ => (Kd.R_ne HO_204003.out BK210.out (by decide)) e_) hs_)); replace BK218 := Aside0.mk (blk_kept (uK BK218) hkp (fun hs_ => (fun e_ => (Kd.R_ne HO_204003.out BK218.out (by decide)) e_) hs_)); replace HO_204003 := Aside0.mk (Kd.R_reok rfl hy0 (fun k_ e_ => HO_204003.out.1 k_ e_)); replace HO225 := Aside0.mk (Kd.R_mono (ok' := fun k_ => some k_ ≠ (.slice Ao44 t192.length co44 : Value).ownBlock ∧ some k_ ≠ (.slice Ao54 t200.length co54 : Value).ownBlock ∧ some k_ ≠ (.slice Ao64 t207.length co64 : Value).ownBlock ∧ some k_ ≠ (.slice Ao74 t214.length co74 : Value).ownBlock ∧ some k_ ≠ (.slice Ao117 t230.length co117 : Value).ownBlock) (Kd.R_keptB (HO225.out) hkp (fun k_ hk_ hs_ => (hk_.1.1.1.2) hs_)) (fun k_ hk_ => ⟨hk_.1.1.1.1.1.2, hk_.1.1.1.1.2, hk_.1.1.1.2, hk_.1.1.2, hk_.1.2⟩)); replace HO232 := Aside0.mk (Kd.R_mono (ok' := fun k_ => some k_ ≠ (.slice Ao44 t192.length co44 : Value).ownBlock ∧ some k_ ≠ (.slice Ao54 t200.length co54 : Value).ownBlock ∧ some k_ ≠ (.slice Ao64 t207.length co64 : Value).ownBlock ∧ some k_ ≠ (.slice Ao74 t214.length co74 : Value).ownBlock ∧ some k_ ≠ (.slice Ao113 t223.length co113 : Value).ownBlock) (Kd.R_keptB (HO232.out) hkp (fun k_ hk_ hs_ => (hk_.1.1.1.2) hs_)) (fun k_ hk_ => ⟨hk_.1.1.1.1.1.2, hk_.1.1.1.1.2, hk_.1.1.1.2, hk_.1.1.2, hk_.1.2⟩)); replace HB := Aside0.mk (hb); (try clear hb); (try clear hkp); (try clear hy0); have hnb126 := NB210_173.out; have hnc126 := NB173_210.out; have hnb127 := NB210_174.out; have hnc127 := NB174_210.out; have hnb128 := NB210_196.out; have hnc128 := NB196_210.out; have hnb129 := NB210_218.out; have hnc129 := NB218_210.out; obtain ⟨hcz130_0, hcz130_1, hcz130_2, hcz130_3, hfz130_0, hfz130_1, hfz130_2, hfz130_3⟩ := ce4 BK210) | ((with_reducible refine gate_callee (f := 14) rfl ?_); refine goesL_ (some 69) rfl rfl Try.func14 (by kernel_rfl) rfl #[.agg #[.int .i64 t204, .int .i64 t205, .int .i64 t206, .slice Ao64 t207.length co64], .int .i64 t234] rfl (by (try simp only [List.map_toArray, List.map_cons, List.map_nil]); first | done | rfl) ?_; (with_reducible refine (laws_markTable.calls kj24 t204 t205 t206 (fun k_ => some k_ = (.slice Ao64 t207.length co64 : Value).ownBlock) (.slice Ao64 t207.length co64) t207 t234 t236 t237 w _ ?side1 ?side2 A109.out).mono ?_); (case side1 => exact uN HB); (case side2 => exact Kd.R_tight rfl HO_211003.out); rintro e w131 ⟨rfl, hy0, hb, hkp⟩; refine ⟨_, rfl, ?_⟩; replace HO_197003 := Aside0.mk (Kd.R_mono (ok' := fun k_ => some k_ ≠ (.slice Ao54 t200.length co54 : Value).ownBlock ∧ some k_ ≠ (.slice Ao64 t207.length co64 : Value).ownBlock ∧ some k_ ≠ (.slice Ao74 t214.length co74 : Value).ownBlock ∧ some k_ ≠ (.slice Ao113 t223.length co113 : Value).ownBlock ∧ some k_ ≠ (.slice Ao117 t230.length co117 : Value).ownBlock) (Kd.R_keptB (HO_197003.out) hkp (fun k_ hk_ hs_ => (hk_.2.1) hs_)) (fun k_ hk_ => ⟨hk_.1.1, hk_.1.2.1, hk_.1.2.2.1, hk_.1.2.2.2.1, hk_.1.2.2.2.2⟩)); replace HO_204003 := Aside0.mk (Kd.R_mono (ok' := fun k_ => some k_ ≠ (.slice Ao44 t192.length co44 : Value).ownBlock ∧ some k_ ≠ (.slice Ao64 t207.length co64 : Value).ownBlock ∧ some k_ ≠ (.slice Ao74 t214.length co74 : Value).ownBlock ∧ some k_ ≠ (.slice Ao113 t223.length co113 : Value).ownBlock ∧ some k_ ≠ (.slice Ao117 t230.length co117 : Value).ownBlock) (Kd.R_keptB (HO_204003.out) hkp (fun k_ hk_ hs_ => (hk_.1.1.2.1) hs_)) (fun k_ hk_ => ⟨hk_.1.1.1.1, hk_.1.1.1.2.1, hk_.1.1.1.2.2, hk_.1.1.2, hk_.1.2⟩)); replace HO_219003 := Aside0.mk (Kd.R_mono (ok' := fun k_ => some k_ ≠ (.slice Ao44 t192.length co44 : Value).ownBlock ∧ some k_ ≠ (.slice Ao54 t200.length co54 : Value).ownBlock ∧ some k_ ≠ (.slice Ao64 t207.length co64 : Value).ownBlock ∧ some k_ ≠ (.slice Ao113 t223.length co113 : Value).ownBlock ∧ some k_ ≠ (.slice Ao117 t230.length co117 : Value).ownBlock) (Kd.R_keptB (HO_219003.out) hkp (fun k_ hk_ hs_ => (hk_.2.2.1) hs_)) (fun k_ hk_ => ⟨hk_.1.1, hk_.1.2.1, hk_.1.2.2.1, hk_.1.2.2.2.1, hk_.1.2.2.2.2⟩)); replace BK173 := Aside0.mk (blk_kept (uK BK173) hkp (fun hs_ => (fun e_ => (Kd.R_ne HO_211003.out BK173.out (by decide)) e_) hs_)); replace BK174 := Aside0.mk (blk_kept (uK BK174) hkp (fun hs_ => (fun e_ => (Kd.R_ne HO_211003.out BK174.out (by decide)) e_) hs_)); replace BK196 := Aside0.mk (blk_kept (uK BK196) hkp (fun hs_ => (fun e_ => (Kd.R_ne HO_211003.out BK196.out (by decide)) e_) hs_)); replace BK203 := Aside0.mk (blk_kept (uK BK203) hkp (fun hs_ => (fun e_ => (Kd.R_ne HO_211003.out BK203.out (by decide)) e_) hs_)); replace BK210 := Aside0.mk (blk_kept (uK BK210) hkp (fun hs_ => (fun e_ => (Kd.R_ne HO_211003.out BK210.out (by decide)) e_) hs_)); replace BK218 := Aside0.mk (blk_kept (uK BK218) hkp (fun hs_ => (fun e_ => (Kd.R_ne HO_211003.out BK218.out (by decide)) e_) hs_)); replace HO_211003 := Aside0.mk (Kd.R_reok rfl hy0 (fun k_ e_ => HO_211003.out.1 k_ e_)); replace HO225 := Aside0.mk (Kd.R_mono (ok' := fun k_ => some k_ ≠ (.slice Ao44 t192.length co44 : Value).ownBlock ∧ some k_ ≠ (.slice Ao54 t200.length co54 : Value).ownBlock ∧ some k_ ≠ (.slice Ao64 t207.length co64 : Value).ownBlock ∧ some k_ ≠ (.slice Ao74 t214.length co74 : Value).ownBlock ∧ some k_ ≠ (.slice Ao117 t230.length co117 : Value).ownBlock) (Kd.R_keptB (HO225.out) hkp (fun k_ hk_ hs_ => (hk_.2.2.1) hs_)) (fun k_ hk_ => ⟨hk_.1.1, hk_.1.2.1, hk_.1.2.2.1, hk_.1.2.2.2.1, hk_.1.2.2.2.2⟩)); replace HO232 := Aside0.mk (Kd.R_mono (ok' := fun k_ => some k_ ≠ (.slice Ao44 t192.length co44 : Value).ownBlock ∧ some k_ ≠ (.slice Ao54 t200.length co54 : Value).ownBlock ∧ some k_ ≠ (.slice Ao64 t207.length co64 : Value).ownBlock ∧ some k_ ≠ (.slice Ao74 t214.length co74 : Value).ownBlock ∧ some k_ ≠ (.slice Ao113 t223.length co113 : Value).ownBlock) (Kd.R_keptB (HO232.out) hkp (fun k_ hk_ hs_ => (hk_.2.2.1) hs_)) (fun k_ hk_ => ⟨hk_.1.1, hk_.1.2.1, hk_.1.2.2.1, hk_.1.2.2.2.1, hk_.1.2.2.2.2⟩)); replace HB := Aside0.mk (hb); (try clear hb); (try clear hkp); (try clear hy0)))
     (try simp only [Act.put, setIfInBounds_toArray, set_cons_zero, set_cons_succ])
     go_cut [82] (fun v82 wc => ∃ (kq : Nat) (x82_109 : Bool), v82 = .bool x82_109 ∧ Aside0 (laws_FnExactAddTables.j1 kq t195 x82_109 a0_0 a0_1 a0_2 l0_3 a1_0 a1_1 a1_2 l1_3 t189 t190 t191 t192 t211 t212 t213 t214 = some r) ∧ Aside0 (kq ≤ kj24) ∧ Aside0 (Kd.R (Kd.int .i64) 3 wc w.heap.size (fun k_ => some k_ ≠ ((.slice Ao54 t200.length co54) : Value).ownBlock ∧ some k_ ≠ ((.slice Ao64 t207.length co64) : Value).ownBlock ∧ some k_ ≠ ((.slice Ao74 t214.length co74) : Value).ownBlock) (.slice Ao44 t192.length co44) t192) ∧ Aside0 (Kd.R (Kd.int .i64) 3 wc w.heap.size (fun k_ => some k_ ≠ ((.slice Ao44 t192.length co44) : Value).ownBlock ∧ some k_ ≠ ((.slice Ao64 t207.length co64) : Value).ownBlock ∧ some k_ ≠ ((.slice Ao74 t214.length co74) : Value).ownBlock) (.slice Ao54 t200.length co54) t235) ∧ Aside0 (Kd.R (Kd.int .i64) 3 wc w.heap.size (fun k_ => some k_ ≠ ((.slice Ao44 t192.length co44) : Value).ownBlock ∧ some k_ ≠ ((.slice Ao54 t200.length co54) : Value).ownBlock ∧ some k_ ≠ ((.slice Ao74 t214.length co74) : Value).ownBlock) (.slice Ao64 t207.length co64) t237) ∧ Aside0 (Kd.R (Kd.int .i64) 3 wc w.heap.size (fun k_ => some k_ ≠ ((.slice Ao44 t192.length co44) : Value).ownBlock ∧ some k_ ≠ ((.slice Ao54 t200.length co54) : Value).ownBlock ∧ some k_ ≠ ((.slice Ao64 t207.length co64) : Value).ownBlock) (.slice Ao74 t214.length co74) t214) ∧ Aside0 (wc.heap[gb173]? = some (.cells #[.int .i64 a0_0, .int .i64 a0_1, .int .i64 a0_2, (.slice A0_3 l0_3.length c0_3)] 24 (0, 0))) ∧ Aside0 (wc.heap[gb174]? = some (.cells #[.int .i64 a1_0, .int .i64 a1_1, .int .i64 a1_2, (.slice A1_3 l1_3.length c1_3)] 24 (0, 0))) ∧ Aside0 (wc.heap[gb196]? = some (.cells #[.int .i64 t189, .int .i64 t190, .int .i64 t191, (.slice Ao44 t192.length co44)] 26 (0, 0))) ∧ Aside0 (wc.heap[gb203]? = some (.cells #[.int .i64 t197, .int .i64 t198, .int .i64 t199, (.slice Ao54 t200.length co54)] 26 (0, 0))) ∧ Aside0 (wc.heap[gb210]? = some (.cells #[.int .i64 t204, .int .i64 t205, .int .i64 t206, (.slice Ao64 t207.length co64)] 26 (0, 0))) ∧ Aside0 (wc.heap[gb218]? = some (.cells #[.int .i64 t211, .int .i64 t212, .int .i64 t213, (.slice Ao74 t214.length co74)] 26 (0, 0))) ∧ Aside0 (Below w.heap.size w wc))
     case first =>
      have H := HC110.out
      clear HC110
      by_cases c132 : t236 < 0
      ·
       rw [if_pos c132] at H
       have c132b0 : decide (t236 < 0) = true := decide_eq_true c132
       clear c132
       (first | rw [c132b0] | (simp only [i64_w, i32_w]; rw [c132b0]) | skip)
       have H' := Aside0.mk H
       clear H
       go_wp2
       go_meet
       case rel => exact ⟨_, (true), (by first | rfl | (simp; done) | (simp [*]; done)), H', ⟨by have := HJ24.out; first | omega | exact Nat.le_refl _⟩, ⟨by (with_reducible repeat (first | apply Kd.R_alloc | apply Kd.R_drewN | apply Kd.R_drew)); exact Kd.R_mono HO_197003.out (fun _ hk => ⟨hk.1, ⟨hk.2.1, hk.2.2.1⟩⟩)⟩, ⟨by (with_reducible repeat (first | apply Kd.R_alloc | apply Kd.R_drewN | apply Kd.R_drew)); exact Kd.R_mono HO_204003.out (fun _ hk => ⟨hk.1, ⟨hk.2.1, hk.2.2.1⟩⟩)⟩, ⟨by (with_reducible repeat (first | apply Kd.R_alloc | apply Kd.R_drewN | apply Kd.R_drew)); exact Kd.R_mono HO_211003.out (fun _ hk => ⟨hk.1, ⟨hk.2.1, hk.2.2.1⟩⟩)⟩, ⟨by (with_reducible repeat (first | apply Kd.R_alloc | apply Kd.R_drewN | apply Kd.R_drew)); exact Kd.R_mono HO_219003.out (fun _ hk => ⟨hk.1, ⟨hk.2.1, hk.2.2.1⟩⟩)⟩, ⟨by refine uW ?_; exact BK173.out⟩, ⟨by refine uW ?_; exact BK174.out⟩, ⟨by refine uW ?_; exact BK196.out⟩, ⟨by refine uW ?_; exact BK203.out⟩, ⟨by refine uW ?_; exact BK210.out⟩, ⟨by refine uW ?_; exact BK218.out⟩, ⟨uN HB⟩⟩
      rw [if_neg c132] at H
      have c132b0 : decide (t236 < 0) = false := decide_eq_false c132
      clear c132
      (first | rw [c132b0] | (simp only [i64_w, i32_w]; rw [c132b0]) | skip)
      replace H := Option.bind_eq_some_iff.mp H
      obtain ⟨t238, A1330, H⟩ := H
      try dsimp only at H
      have A133 := Aside0.mk A1330
      clear A1330
      by_cases c134 : t238 = true
      ·
       subst c134
       rw [if_pos rfl] at H
       have H' := Aside0.mk H
       clear H
       have hnb135 := NB218_173.out
       have hnc135 := NB173_218.out
       have hnb136 := NB218_174.out
       have hnc136 := NB174_218.out
       have hnb137 := NB218_196.out
       have hnc137 := NB196_218.out
       have hnb138 := NB218_203.out
       have hnc138 := NB203_218.out
       have hnb139 := NB218_210.out
       have hnc139 := NB210_218.out
       obtain ⟨hcz140_0, hcz140_1, hcz140_2, hcz140_3, hfz140_0, hfz140_1, hfz140_2, hfz140_3⟩ := ce4 BK218
       have hnb141 := NB196_173.out
       have hnc141 := NB173_196.out
       have hnb142 := NB196_174.out
       have hnc142 := NB174_196.out
       have hnb143 := NB196_203.out
       have hnc143 := NB203_196.out
       have hnb144 := NB196_210.out
       have hnc144 := NB210_196.out
       obtain ⟨hcz145_0, hcz145_1, hcz145_2, hcz145_3, hfz145_0, hfz145_1, hfz145_2, hfz145_3⟩ := ce4 BK196
       go_wp2_with (first | (go_at_call 13; (with_reducible refine (laws_eqTable.calls kj24 t211 t212 t213 _ _ t214 t189 t190 t191 _ _ t192 true _ ?side1 ?side2 ?side3 ?side4 A133.out).mono ?_); (case side1 => exact uD HO_219003); (case side2 => exact (Kd.R_reads' HO_219003.out).2.1); (case side3 => exact uD HO_197003); (case side4 => exact (Kd.R_reads' HO_197003.out).2.1); rintro e w146 ⟨rfl, hb⟩; replace HO_197003 := Aside0.mk (Kd.R_below (uR HO_197003) hb); replace HO_204003 := Aside0.mk (Kd.R_below (uR HO_204003) hb); replace HO_211003 := Aside0.mk (Kd.R_below (uR HO_211003) hb); replace HO_219003 := Aside0.mk (Kd.R_below (uR HO_219003) hb); replace HO225 := Aside0.mk (Kd.R_below (uR HO225) hb); replace HO232 := Aside0.mk (Kd.R_below (uR HO232) hb); replace BK173 := kB BK173 hb; replace BK174 := kB BK174 hb; replace BK196 := kB BK196 hb; replace BK203 := kB BK203 hb; replace BK210 := kB BK210 hb; replace BK218 := kB BK218 hb; replace HB := Aside0.mk (below_step (uN HB) hb); (try clear hb); (try clear hb2); (try clear hk); (try clear hi)))
       go_meet
       case rel => exact ⟨_, ((t217 != t195)), (by first | rfl | (simp; done) | (simp [*]; done)), H', ⟨by have := HJ24.out; first | omega | exact Nat.le_refl _⟩, ⟨by (with_reducible repeat (first | apply Kd.R_alloc | apply Kd.R_drewN | apply Kd.R_drew)); exact Kd.R_mono HO_197003.out (fun _ hk => ⟨hk.1, ⟨hk.2.1, hk.2.2.1⟩⟩)⟩, ⟨by (with_reducible repeat (first | apply Kd.R_alloc | apply Kd.R_drewN | apply Kd.R_drew)); exact Kd.R_mono HO_204003.out (fun _ hk => ⟨hk.1, ⟨hk.2.1, hk.2.2.1⟩⟩)⟩, ⟨by (with_reducible repeat (first | apply Kd.R_alloc | apply Kd.R_drewN | apply Kd.R_drew)); exact Kd.R_mono HO_211003.out (fun _ hk => ⟨hk.1, ⟨hk.2.1, hk.2.2.1⟩⟩)⟩, ⟨by (with_reducible repeat (first | apply Kd.R_alloc | apply Kd.R_drewN | apply Kd.R_drew)); exact Kd.R_mono HO_219003.out (fun _ hk => ⟨hk.1, ⟨hk.2.1, hk.2.2.1⟩⟩)⟩, ⟨by refine uW ?_; exact BK173.out⟩, ⟨by refine uW ?_; exact BK174.out⟩, ⟨by refine uW ?_; exact BK196.out⟩, ⟨by refine uW ?_; exact BK203.out⟩, ⟨by refine uW ?_; exact BK210.out⟩, ⟨by refine uW ?_; exact BK218.out⟩, ⟨uN HB⟩⟩
      replace c134 := Bool.eq_false_iff.mpr c134
      subst c134
      rw [if_neg (show ¬ (false = true) by decide)] at H
      have H' := Aside0.mk H
      clear H
      have hnb147 := NB218_173.out
      have hnc147 := NB173_218.out
      have hnb148 := NB218_174.out
      have hnc148 := NB174_218.out
      have hnb149 := NB218_196.out
      have hnc149 := NB196_218.out
      have hnb150 := NB218_203.out
      have hnc150 := NB203_218.out
      have hnb151 := NB218_210.out
      have hnc151 := NB210_218.out
      obtain ⟨hcz152_0, hcz152_1, hcz152_2, hcz152_3, hfz152_0, hfz152_1, hfz152_2, hfz152_3⟩ := ce4 BK218
      have hnb153 := NB196_173.out
      have hnc153 := NB173_196.out
      have hnb154 := NB196_174.out
      have hnc154 := NB174_196.out
      have hnb155 := NB196_203.out
      have hnc155 := NB203_196.out
      have hnb156 := NB196_210.out
      have hnc156 := NB210_196.out
      obtain ⟨hcz157_0, hcz157_1, hcz157_2, hcz157_3, hfz157_0, hfz157_1, hfz157_2, hfz157_3⟩ := ce4 BK196
      go_wp2_with (first | (go_at_call 13; (with_reducible refine (laws_eqTable.calls kj24 t211 t212 t213 _ _ t214 t189 t190 t191 _ _ t192 false _ ?side1 ?side2 ?side3 ?side4 A133.out).mono ?_); (case side1 => exact uD HO_219003); (case side2 => exact (Kd.R_reads' HO_219003.out).2.1); (case side3 => exact uD HO_197003); (case side4 => exact (Kd.R_reads' HO_197003.out).2.1); rintro e w158 ⟨rfl, hb⟩; replace HO_197003 := Aside0.mk (Kd.R_below (uR HO_197003) hb); replace HO_204003 := Aside0.mk (Kd.R_below (uR HO_204003) hb); replace HO_211003 := Aside0.mk (Kd.R_below (uR HO_211003) hb); replace HO_219003 := Aside0.mk (Kd.R_below (uR HO_219003) hb); replace HO225 := Aside0.mk (Kd.R_below (uR HO225) hb); replace HO232 := Aside0.mk (Kd.R_below (uR HO232) hb); replace BK173 := kB BK173 hb; replace BK174 := kB BK174 hb; replace BK196 := kB BK196 hb; replace BK203 := kB BK203 hb; replace BK210 := kB BK210 hb; replace BK218 := kB BK218 hb; replace HB := Aside0.mk (below_step (uN HB) hb); (try clear hb); (try clear hb2); (try clear hk); (try clear hi)))
      go_meet
      case rel => exact ⟨_, (true), (by first | rfl | (simp; done) | (simp [*]; done)), H', ⟨by have := HJ24.out; first | omega | exact Nat.le_refl _⟩, ⟨by (with_reducible repeat (first | apply Kd.R_alloc | apply Kd.R_drewN | apply Kd.R_drew)); exact Kd.R_mono HO_197003.out (fun _ hk => ⟨hk.1, ⟨hk.2.1, hk.2.2.1⟩⟩)⟩, ⟨by (with_reducible repeat (first | apply Kd.R_alloc | apply Kd.R_drewN | apply Kd.R_drew)); exact Kd.R_mono HO_204003.out (fun _ hk => ⟨hk.1, ⟨hk.2.1, hk.2.2.1⟩⟩)⟩, ⟨by (with_reducible repeat (first | apply Kd.R_alloc | apply Kd.R_drewN | apply Kd.R_drew)); exact Kd.R_mono HO_211003.out (fun _ hk => ⟨hk.1, ⟨hk.2.1, hk.2.2.1⟩⟩)⟩, ⟨by (with_reducible repeat (first | apply Kd.R_alloc | apply Kd.R_drewN | apply Kd.R_drew)); exact Kd.R_mono HO_219003.out (fun _ hk => ⟨hk.1, ⟨hk.2.1, hk.2.2.1⟩⟩)⟩, ⟨by refine uW ?_; exact BK173.out⟩, ⟨by refine uW ?_; exact BK174.out⟩, ⟨by refine uW ?_; exact BK196.out⟩, ⟨by refine uW ?_; exact BK203.out⟩, ⟨by refine uW ?_; exact BK210.out⟩, ⟨by refine uW ?_; exact BK218.out⟩, ⟨uN HB⟩⟩
     case rest =>
      clear HC110
      try clear c1
      try clear p2
      try clear c10
      try clear c11
      try clear c12
      try clear c13
      try clear c14
      try clear c15
      try clear c101
      try clear c104
      try clear c107
      try clear c119
      try clear c120
      try clear c121
      try clear c122
      try clear c123
      try clear c126
      try clear c127
      try clear c128
      try clear c129
      try clear c132
      try clear c132b0
      try clear c134
      try clear c135
      try clear c136
      try clear c137
      try clear c138
      try clear c139
      try clear c141
      try clear c142
      try clear c143
      try clear c144
      try clear c147
      try clear c148
      try clear c149
      try clear c150
      try clear c151
      try clear c153
      try clear c154
      try clear c155
      try clear c156
      try clear hcz124_0
      try clear hcz124_1
      try clear hcz124_2
      try clear hcz124_3
      try clear hcz130_0
      try clear hcz130_1
      try clear hcz130_2
      try clear hcz130_3
      try clear hcz140_0
      try clear hcz140_1
      try clear hcz140_2
      try clear hcz140_3
      try clear hcz145_0
      try clear hcz145_1
      try clear hcz145_2
      try clear hcz145_3
      try clear hcz152_0
      try clear hcz152_1
      try clear hcz152_2
      try clear hcz152_3
      try clear hcz157_0
      try clear hcz157_1
      try clear hcz157_2
      try clear hcz157_3
      try clear hfz124_0
      try clear hfz124_1
      try clear hfz124_2
      try clear hfz124_3
      try clear hfz130_0
      try clear hfz130_1
      try clear hfz130_2
      try clear hfz130_3
      try clear hfz140_0
      try clear hfz140_1
      try clear hfz140_2
      try clear hfz140_3
      try clear hfz145_0
      try clear hfz145_1
      try clear hfz145_2
      try clear hfz145_3
      try clear hfz152_0
      try clear hfz152_1
      try clear hfz152_2
      try clear hfz152_3
      try clear hfz157_0
      try clear hfz157_1
      try clear hfz157_2
      try clear hfz157_3
      try clear hfz47_3
      try clear hfz53_0
      try clear hfz53_1
      try clear hfz53_2
      try clear hfz53_3
      try clear hfz56_0
      try clear hfz56_1
      try clear hfz56_2
      try clear hfz56_3
      try clear hfz63_0
      try clear hfz63_1
      try clear hfz63_2
      try clear hfz63_3
      try clear hfz65_0
      try clear hfz65_1
      try clear hfz65_2
      try clear hfz65_3
      try clear hfz73_0
      try clear hfz73_1
      try clear hfz73_2
      try clear hfz73_3
      try clear hfz82_0
      try clear hfz82_1
      try clear hfz82_2
      try clear hfz82_3
      try clear hfz87_0
      try clear hfz87_1
      try clear hfz87_2
      try clear hfz87_3
      try clear hfz94_0
      try clear hfz94_1
      try clear hfz94_2
      try clear hfz94_3
      try clear hfz99_0
      try clear hfz99_1
      try clear hfz99_2
      try clear hfz99_3
      obtain ⟨kq, x82_109, rfl, HA, HJ109, HO_197003, HO_204003, HO_211003, HO_219003, BK173, BK174, BK196, BK203, BK210, BK218, HB⟩ := hcut
      have hl204003_109 := (Kd.R_reads' HO_204003.out).1
      rw [hl204003_109] at HO_204003
      (try simp only [hl204003_109])
      (try simp only [hl204003_109] at BK173)
      (try simp only [hl204003_109] at BK174)
      (try simp only [hl204003_109] at BK196)
      (try simp only [hl204003_109] at BK203)
      (try simp only [hl204003_109] at BK210)
      (try simp only [hl204003_109] at BK218)
      (try simp only [hl204003_109] at HO_197003)
      (try simp only [hl204003_109] at HO_211003)
      (try simp only [hl204003_109] at HO_219003)
      have hl211003_109 := (Kd.R_reads' HO_211003.out).1
      rw [hl211003_109] at HO_211003
      (try simp only [hl211003_109])
      (try simp only [hl211003_109] at BK173)
      (try simp only [hl211003_109] at BK174)
      (try simp only [hl211003_109] at BK196)
      (try simp only [hl211003_109] at BK203)
      (try simp only [hl211003_109] at BK210)
      (try simp only [hl211003_109] at BK218)
      (try simp only [hl211003_109] at HO_197003)
      (try simp only [hl211003_109] at HO_204003)
      (try simp only [hl211003_109] at HO_219003)
      cases kq with
      | zero => exact absurd HA.out (by simp [laws_FnExactAddTables.j1])
      | succ kj109 =>
       have H := HA.out
       clear HA
       simp only [laws_FnExactAddTables.j1] at H
       by_cases c159 : x82_109 = true
       ·
        subst c159
        rw [if_pos rfl] at H
        obtain rfl := Option.some.inj H
        go_wp2
        go_ret
        exact ⟨by first | rfl | (simp [errW_none, errW_some] <;> rfl) | (simp [*, errW_none, errW_some] <;> rfl), uN HB⟩
       replace c159 := Bool.eq_false_iff.mpr c159
       subst c159
       rw [if_neg (show ¬ (false = true) by decide)] at H
       replace H := Option.bind_eq_some_iff.mp H
       obtain ⟨⟨t239, t240⟩, A1600, H⟩ := H
       try dsimp only at H
       have A160 := Aside0.mk A1600
       clear A1600
       replace H := Option.bind_eq_some_iff.mp H
       obtain ⟨t241, A1610, H⟩ := H
       try dsimp only at H
       have A161 := Aside0.mk A1610
       clear A1610
       by_cases c162 : t241 < 0
       ·
        rw [if_pos c162] at H
        have c162b0 : decide (t241 < 0) = true := decide_eq_true c162
        clear c162
        obtain rfl := Option.some.inj H
        have hnb163 := NB218_173.out
        have hnc163 := NB173_218.out
        have hnb164 := NB218_174.out
        have hnc164 := NB174_218.out
        have hnb165 := NB218_196.out
        have hnc165 := NB196_218.out
        have hnb166 := NB218_203.out
        have hnc166 := NB203_218.out
        have hnb167 := NB218_210.out
        have hnc167 := NB210_218.out
        obtain ⟨hcz168_0, hcz168_1, hcz168_2, hcz168_3, hfz168_0, hfz168_1, hfz168_2, hfz168_3⟩ := ce4 BK218
        go_wp2_with (first | ((with_reducible refine gate_callee (f := 14) rfl ?_); refine goesL_ (some 85) rfl rfl Try.func14 (by kernel_rfl) rfl #[.agg #[.int .i64 t211, .int .i64 t212, .int .i64 t213, .slice Ao74 t214.length co74], .int .i64 1] rfl (by (try simp only [List.map_toArray, List.map_cons, List.map_nil]); first | done | rfl) ?_; (with_reducible refine (laws_markTable.calls kj109 t211 t212 t213 (fun k_ => some k_ = (.slice Ao74 t214.length co74 : Value).ownBlock) (.slice Ao74 t214.length co74) t214 1 t239 t240 w _ ?side1 ?side2 A160.out).mono ?_); (case side1 => exact uN HB); (case side2 => exact Kd.R_tight rfl HO_219003.out); rintro e w169 ⟨rfl, hy0, hb, hkp⟩; refine ⟨_, rfl, ?_⟩; replace HO_197003 := Aside0.mk (Kd.R_mono (ok' := fun k_ => some k_ ≠ (.slice Ao54 t235.length co54 : Value).ownBlock ∧ some k_ ≠ (.slice Ao64 t237.length co64 : Value).ownBlock ∧ some k_ ≠ (.slice Ao74 t214.length co74 : Value).ownBlock) (Kd.R_keptB (HO_197003.out) hkp (fun k_ hk_ hs_ => (hk_.2.2) hs_)) (fun k_ hk_ => ⟨hk_.1.1, hk_.1.2.1, hk_.1.2.2⟩)); replace HO_204003 := Aside0.mk (Kd.R_mono (ok' := fun k_ => some k_ ≠ (.slice Ao44 t192.length co44 : Value).ownBlock ∧ some k_ ≠ (.slice Ao64 t237.length co64 : Value).ownBlock ∧ some k_ ≠ (.slice Ao74 t214.length co74 : Value).ownBlock) (Kd.R_keptB (HO_204003.out) hkp (fun k_ hk_ hs_ => (hk_.2.2) hs_)) (fun k_ hk_ => ⟨hk_.1.1, hk_.1.2.1, hk_.1.2.2⟩)); replace HO_211003 := Aside0.mk (Kd.R_mono (ok' := fun k_ => some k_ ≠ (.slice Ao44 t192.length co44 : Value).ownBlock ∧ some k_ ≠ (.slice Ao54 t235.length co54 : Value).ownBlock ∧ some k_ ≠ (.slice Ao74 t214.length co74 : Value).ownBlock) (Kd.R_keptB (HO_211003.out) hkp (fun k_ hk_ hs_ => (hk_.2.2) hs_)) (fun k_ hk_ => ⟨hk_.1.1, hk_.1.2.1, hk_.1.2.2⟩)); replace BK173 := Aside0.mk (blk_kept (uK BK173) hkp (fun hs_ => (fun e_ => (Kd.R_ne HO_219003.out BK173.out (by decide)) e_) hs_)); replace BK174 := Aside0.mk (blk_kept (uK BK174) hkp (fun hs_ => (fun e_ => (Kd.R_ne HO_219003.out BK174.out (by decide)) e_) hs_)); replace BK196 := Aside0.mk (blk_kept (uK BK196) hkp (fun hs_ => (fun e_ => (Kd.R_ne HO_219003.out BK196.out (by decide)) e_) hs_)); replace BK203 := Aside0.mk (blk_kept (uK BK203) hkp (fun hs_ => (fun e_ => (Kd.R_ne HO_219003.out BK203.out (by decide)) e_) hs_)); replace BK210 := Aside0.mk (blk_kept (uK BK210) hkp (fun hs_ => (fun e_ => (Kd.R_ne HO_219003.out BK210.out (by decide)) e_) hs_)); replace BK218 := Aside0.mk (blk_kept (uK BK218) hkp (fun hs_ => (fun e_ => (Kd.R_ne HO_219003.out BK218.out (by decide)) e_) hs_)); replace HO_219003 := Aside0.mk (Kd.R_reok rfl hy0 (fun k_ e_ => HO_219003.out.1 k_ e_)); replace HB := Aside0.mk (hb); (try clear hb); (try clear hkp); (try clear hy0); obtain ⟨hcz170_0, hcz170_1, hcz170_2, hcz170_3, hfz170_0, hfz170_1, hfz170_2, hfz170_3⟩ := ce4 BK218) | ((with_reducible refine gate_callee (f := 15) rfl ?_); refine goesL_ (some 88) rfl rfl Try.func15 (by kernel_rfl) rfl #[.agg #[.int .i64 t211, .int .i64 t212, .int .i64 t213, .slice Ao74 t240.length co74], .int .i64 1] rfl (by (try simp only [List.map_toArray, List.map_cons, List.map_nil]); first | done | (rw [show t240.length = t214.length from (Kd.R_reads' HO_219003.out).1.symm] <;> rfl) | rfl | (simp only [List.length_drop, List.length_take]; rfl)) ?_; (with_reducible refine (laws_heldTable.calls kj109 t211 t212 t213 _ _ t240 1 t241 _ ?side1 ?side2 A161.out).mono ?_); (case side1 => exact uD HO_219003); (case side2 => rw [show t240.length = t214.length from (Kd.R_reads' HO_219003.out).1.symm]; exact (Kd.R_reads' HO_219003.out).2.1); rintro e w171 ⟨rfl, hb⟩; refine ⟨_, rfl, ?_⟩; replace HO_197003 := Aside0.mk (Kd.R_below (uR HO_197003) hb); replace HO_204003 := Aside0.mk (Kd.R_below (uR HO_204003) hb); replace HO_211003 := Aside0.mk (Kd.R_below (uR HO_211003) hb); replace HO_219003 := Aside0.mk (Kd.R_below (uR HO_219003) hb); replace BK173 := kB BK173 hb; replace BK174 := kB BK174 hb; replace BK196 := kB BK196 hb; replace BK203 := kB BK203 hb; replace BK210 := kB BK210 hb; replace BK218 := kB BK218 hb; replace HB := Aside0.mk (below_step (uN HB) hb); (try clear hb); (try clear hb2); (try clear hk); (try clear hi)))
        go_ret
        exact ⟨by first | rfl | (simp [errW_none, errW_some] <;> rfl) | (simp [*, errW_none, errW_some] <;> rfl), uN HB⟩
       rw [if_neg c162] at H
       have c162b0 : decide (t241 < 0) = false := decide_eq_false c162
       clear c162
       by_cases c172 : t241 = t239
       ·
        rw [if_pos c172] at H
        have c172b0 : (t241 == t239) = true := beq_iff_eq.mpr c172
        have c172b1 : (t241 != t239) = false := bne_eq_false_iff_eq.mpr c172
        clear c172
        replace H := Option.bind_eq_some_iff.mp H
        obtain ⟨⟨t242, t243, t244, t245⟩, A1730, H⟩ := H
        try dsimp only at H
        have A173 := Aside0.mk A1730
        clear A1730
        replace H := Option.bind_eq_some_iff.mp H
        obtain ⟨⟨t248, t249, t250, t251⟩, A1740, H⟩ := H
        try dsimp only at H
        have A174 := Aside0.mk A1740
        clear A1740
        replace H := Option.bind_eq_some_iff.mp H
        obtain ⟨⟨t254, t255, t256, t257, t260⟩, A1750, H⟩ := H
        try dsimp only at H
        have A175 := Aside0.mk A1750
        clear A1750
        have HC176 := Aside0.mk H
        clear H
        have hnb177 := NB218_173.out
        have hnc177 := NB173_218.out
        have hnb178 := NB218_174.out
        have hnc178 := NB174_218.out
        have hnb179 := NB218_196.out
        have hnc179 := NB196_218.out
        have hnb180 := NB218_203.out
        have hnc180 := NB203_218.out
        have hnb181 := NB218_210.out
        have hnc181 := NB210_218.out
        obtain ⟨hcz182_0, hcz182_1, hcz182_2, hcz182_3, hfz182_0, hfz182_1, hfz182_2, hfz182_3⟩ := ce4 BK218
        try go_wp2_with (first | ((with_reducible refine gate_callee (f := 14) rfl ?_); refine goesL_ (some 85) rfl rfl Try.func14 (by kernel_rfl) rfl #[.agg #[.int .i64 t211, .int .i64 t212, .int .i64 t213, .slice Ao74 t214.length co74], .int .i64 1] rfl (by (try simp only [List.map_toArray, List.map_cons, List.map_nil]); first | done | rfl) ?_; (with_reducible refine (laws_markTable.calls kj109 t211 t212 t213 (fun k_ => some k_ = (.slice Ao74 t214.length co74 : Value).ownBlock) (.slice Ao74 t214.length co74) t214 1 t239 t240 w _ ?side1 ?side2 A160.out).mono ?_); (case side1 => exact uN HB); (case side2 => exact Kd.R_tight rfl HO_219003.out); rintro e w183 ⟨rfl, hy0, hb, hkp⟩; refine ⟨_, rfl, ?_⟩; replace HO_197003 := Aside0.mk (Kd.R_mono (ok' := fun k_ => some k_ ≠ (.slice Ao54 t235.length co54 : Value).ownBlock ∧ some k_ ≠ (.slice Ao64 t237.length co64 : Value).ownBlock ∧ some k_ ≠ (.slice Ao74 t214.length co74 : Value).ownBlock) (Kd.R_keptB (HO_197003.out) hkp (fun k_ hk_ hs_ => (hk_.2.2) hs_)) (fun k_ hk_ => ⟨hk_.1.1, hk_.1.2.1, hk_.1.2.2⟩)); replace HO_204003 := Aside0.mk (Kd.R_mono (ok' := fun k_ => some k_ ≠ (.slice Ao44 t192.length co44 : Value).ownBlock ∧ some k_ ≠ (.slice Ao64 t237.length co64 : Value).ownBlock ∧ some k_ ≠ (.slice Ao74 t214.length co74 : Value).ownBlock) (Kd.R_keptB (HO_204003.out) hkp (fun k_ hk_ hs_ => (hk_.2.2) hs_)) (fun k_ hk_ => ⟨hk_.1.1, hk_.1.2.1, hk_.1.2.2⟩)); replace HO_211003 := Aside0.mk (Kd.R_mono (ok' := fun k_ => some k_ ≠ (.slice Ao44 t192.length co44 : Value).ownBlock ∧ some k_ ≠ (.slice Ao54 t235.length co54 : Value).ownBlock ∧ some k_ ≠ (.slice Ao74 t214.length co74 : Value).ownBlock) (Kd.R_keptB (HO_211003.out) hkp (fun k_ hk_ hs_ => (hk_.2.2) hs_)) (fun k_ hk_ => ⟨hk_.1.1, hk_.1.2.1, hk_.1.2.2⟩)); replace BK173 := Aside0.mk (blk_kept (uK BK173) hkp (fun hs_ => (fun e_ => (Kd.R_ne HO_219003.out BK173.out (by decide)) e_) hs_)); replace BK174 := Aside0.mk (blk_kept (uK BK174) hkp (fun hs_ => (fun e_ => (Kd.R_ne HO_219003.out BK174.out (by decide)) e_) hs_)); replace BK196 := Aside0.mk (blk_kept (uK BK196) hkp (fun hs_ => (fun e_ => (Kd.R_ne HO_219003.out BK196.out (by decide)) e_) hs_)); replace BK203 := Aside0.mk (blk_kept (uK BK203) hkp (fun hs_ => (fun e_ => (Kd.R_ne HO_219003.out BK203.out (by decide)) e_) hs_)); replace BK210 := Aside0.mk (blk_kept (uK BK210) hkp (fun hs_ => (fun e_ => (Kd.R_ne HO_219003.out BK210.out (by decide)) e_) hs_)); replace BK218 := Aside0.mk (blk_kept (uK BK218) hkp (fun hs_ => (fun e_ => (Kd.R_ne HO_219003.out BK218.out (by decide)) e_) hs_)); replace HO_219003 := Aside0.mk (Kd.R_reok rfl hy0 (fun k_ e_ => HO_219003.out.1 k_ e_)); replace HB := Aside0.mk (hb); (try clear hb); (try clear hkp); (try clear hy0); obtain ⟨hcz184_0, hcz184_1, hcz184_2, hcz184_3, hfz184_0, hfz184_1, hfz184_2, hfz184_3⟩ := ce4 BK218) | ((with_reducible refine gate_callee (f := 15) rfl ?_); refine goesL_ (some 88) rfl rfl Try.func15 (by kernel_rfl) rfl #[.agg #[.int .i64 t211, .int .i64 t212, .int .i64 t213, .slice Ao74 t240.length co74], .int .i64 1] rfl (by (try simp only [List.map_toArray, List.map_cons, List.map_nil]); first | done | (rw [show t240.length = t214.length from (Kd.R_reads' HO_219003.out).1.symm] <;> rfl) | rfl | (simp only [List.length_drop, List.length_take]; rfl)) ?_; (with_reducible refine (laws_heldTable.calls kj109 t211 t212 t213 _ _ t240 1 t241 _ ?side1 ?side2 A161.out).mono ?_); (case side1 => exact uD HO_219003); (case side2 => rw [show t240.length = t214.length from (Kd.R_reads' HO_219003.out).1.symm]; exact (Kd.R_reads' HO_219003.out).2.1); rintro e w185 ⟨rfl, hb⟩; refine ⟨_, rfl, ?_⟩; replace HO_197003 := Aside0.mk (Kd.R_below (uR HO_197003) hb); replace HO_204003 := Aside0.mk (Kd.R_below (uR HO_204003) hb); replace HO_211003 := Aside0.mk (Kd.R_below (uR HO_211003) hb); replace HO_219003 := Aside0.mk (Kd.R_below (uR HO_219003) hb); replace BK173 := kB BK173 hb; replace BK174 := kB BK174 hb; replace BK196 := kB BK196 hb; replace BK203 := kB BK203 hb; replace BK210 := kB BK210 hb; replace BK218 := kB BK218 hb; replace HB := Aside0.mk (below_step (uN HB) hb); (try clear hb); (try clear hb2); (try clear hk); (try clear hi)))
        replace HO_197003 := Aside0.mk (Kd.R_drew HO_197003.out)
        replace HO_204003 := Aside0.mk (Kd.R_drew HO_204003.out)
        replace HO_211003 := Aside0.mk (Kd.R_drew HO_211003.out)
        replace HO_219003 := Aside0.mk (Kd.R_drew HO_219003.out)
        replace BK173 := Aside0.mk (blk_drew BK173.out)
        replace BK174 := Aside0.mk (blk_drew BK174.out)
        replace BK196 := Aside0.mk (blk_drew BK196.out)
        replace BK203 := Aside0.mk (blk_drew BK203.out)
        replace BK210 := Aside0.mk (blk_drew BK210.out)
        replace BK218 := Aside0.mk (blk_drew BK218.out)
        replace HB := Aside0.mk (below_drew1 HB.out)
        refine start_ (n := 11) (S := fun w' => w'.cell? ⟨gb173, 0, none⟩ = some (.int .i64 a0_0) ∧ w'.cell? ⟨gb173, 1, none⟩ = some (.int .i64 a0_1) ∧ w'.cell? ⟨gb173, 2, none⟩ = some (.int .i64 a0_2) ∧ w'.cell? ⟨gb173, 3, none⟩ = some (.slice A0_3 l0_3.length c0_3) ∧ w'.cell? ⟨gb174, 0, none⟩ = some (.int .i64 a1_0) ∧ w'.cell? ⟨gb174, 1, none⟩ = some (.int .i64 a1_1) ∧ w'.cell? ⟨gb174, 2, none⟩ = some (.int .i64 a1_2) ∧ w'.cell? ⟨gb174, 3, none⟩ = some (.slice A1_3 l1_3.length c1_3)) (ds := []) #[false, false, false, false, false, false, false, false, false, false, false] (by kernel_rfl) rfl rfl ⟨bc BK173 0, bc BK173 1, bc BK173 2, bc BK173 3, bc BK174 0, bc BK174 1, bc BK174 2, bc BK174 3⟩ (fun hHeld => ?_); refine with_tabW laws_FnExactAddTables.tab31 laws_FnExactAddTables.bits31 (fun HT_ HW_ => ?_)
        generalize w185.drew = w186 at HO_197003 HO_204003 HO_211003 HO_219003 BK173 BK174 BK196 BK203 BK210 BK218 HB hHeld ⊢
        refine take_ (i := 0) (N := some 95) (v := ?_) (a' := ?_) #[true, false, false, false, false, false, false, false, false, false, false] rfl rfl (take_ofW HT_.out HW_.out (by kernel_rfl)) (fun _ _ _ h => h) (Or.inl ⟨by rfl, ?_⟩) hHeld ?_ ?_
        rotate_left
        ·
         rintro w' ⟨s0, s1, s2, s3, s4, s5, s6, s7⟩
         go_simp
         with_reducible rfl
        rotate_left
        ·
         simp only [Act.put, setIfInBounds_toArray, set_cons_zero, set_cons_succ, i64_w, i32_w]
         rfl
        refine take_ (i := 2) (N := some 97) (v := ?_) (a' := ?_) #[true, false, true, false, false, false, false, false, false, false, false] rfl rfl (take_ofW HT_.out HW_.out (by kernel_rfl)) (fun _ _ _ h => h) (Or.inl ⟨by rfl, ?_⟩) hHeld ?_ ?_
        rotate_left
        ·
         rintro w' ⟨s0, s1, s2, s3, s4, s5, s6, s7⟩
         go_simp
         with_reducible rfl
        rotate_left
        ·
         simp only [Act.put, setIfInBounds_toArray, set_cons_zero, set_cons_succ, i64_w, i32_w]
         rfl
        refine join_ (σ := Value × Value × Value × Nat) 2 #[true, true, true, true, true, true, true, true, true, false, false] (fun s_ => [(96, .agg #[.int .i64 t242, .int .i64 t243, .int .i64 t244, s_.1]), (98, .agg #[.int .i64 t248, .int .i64 t249, .int .i64 t250, s_.2.1]), (99, .tuple #[.agg #[.int .i64 t254, .int .i64 t255, .int .i64 t256, s_.2.2.1], .bool t260]), (15, .pointer (some ⟨s_.2.2.2, 0, none⟩)), (94, .tuple #[.agg #[.int .i64 t254, .int .i64 t255, .int .i64 t256, s_.2.2.1], .bool t260]), (100, .agg #[.int .i64 t254, .int .i64 t255, .int .i64 t256, s_.2.2.1]), (101, .bool t260)]) (fun s_ w' => (w'.cell? ⟨gb173, 0, none⟩ = some (.int .i64 a0_0) ∧ w'.cell? ⟨gb173, 1, none⟩ = some (.int .i64 a0_1) ∧ w'.cell? ⟨gb173, 2, none⟩ = some (.int .i64 a0_2) ∧ w'.cell? ⟨gb173, 3, none⟩ = some (.slice A0_3 l0_3.length c0_3) ∧ w'.cell? ⟨gb174, 0, none⟩ = some (.int .i64 a1_0) ∧ w'.cell? ⟨gb174, 1, none⟩ = some (.int .i64 a1_1) ∧ w'.cell? ⟨gb174, 2, none⟩ = some (.int .i64 a1_2) ∧ w'.cell? ⟨gb174, 3, none⟩ = some (.slice A1_3 l1_3.length c1_3)) ∧ (Kd.R (Kd.int .i64) 3 w' w.heap.size (fun k_ => some k_ ≠ (s_.2.1 : Value).ownBlock ∧ some k_ ≠ (s_.2.2.1 : Value).ownBlock ∧ some k_ ≠ (.slice Ao44 t192.length co44 : Value).ownBlock ∧ some k_ ≠ (.slice Ao54 t235.length co54 : Value).ownBlock ∧ some k_ ≠ (.slice Ao64 t237.length co64 : Value).ownBlock ∧ some k_ ≠ (.slice Ao74 t214.length co74 : Value).ownBlock) s_.1 t245) ∧ (Kd.R (Kd.int .i64) 3 w' w.heap.size (fun k_ => some k_ ≠ (s_.1 : Value).ownBlock ∧ some k_ ≠ (s_.2.2.1 : Value).ownBlock ∧ some k_ ≠ (.slice Ao44 t192.length co44 : Value).ownBlock ∧ some k_ ≠ (.slice Ao54 t235.length co54 : Value).ownBlock ∧ some k_ ≠ (.slice Ao64 t237.length co64 : Value).ownBlock ∧ some k_ ≠ (.slice Ao74 t214.length co74 : Value).ownBlock) s_.2.1 t251) ∧ (Kd.R (Kd.int .i64) 3 w' w.heap.size (fun k_ => some k_ ≠ (s_.1 : Value).ownBlock ∧ some k_ ≠ (s_.2.1 : Value).ownBlock ∧ some k_ ≠ (.slice Ao44 t192.length co44 : Value).ownBlock ∧ some k_ ≠ (.slice Ao54 t235.length co54 : Value).ownBlock ∧ some k_ ≠ (.slice Ao64 t237.length co64 : Value).ownBlock ∧ some k_ ≠ (.slice Ao74 t214.length co74 : Value).ownBlock) s_.2.2.1 t257) ∧ (Kd.R (Kd.int .i64) 3 w' w.heap.size (fun k_ => some k_ ≠ (s_.1 : Value).ownBlock ∧ some k_ ≠ (s_.2.1 : Value).ownBlock ∧ some k_ ≠ (s_.2.2.1 : Value).ownBlock ∧ some k_ ≠ (.slice Ao54 t235.length co54 : Value).ownBlock ∧ some k_ ≠ (.slice Ao64 t237.length co64 : Value).ownBlock ∧ some k_ ≠ (.slice Ao74 t214.length co74 : Value).ownBlock) (.slice Ao44 t192.length co44) t192) ∧ (Kd.R (Kd.int .i64) 3 w' w.heap.size (fun k_ => some k_ ≠ (s_.1 : Value).ownBlock ∧ some k_ ≠ (s_.2.1 : Value).ownBlock ∧ some k_ ≠ (s_.2.2.1 : Value).ownBlock ∧ some k_ ≠ (.slice Ao44 t192.length co44 : Value).ownBlock ∧ some k_ ≠ (.slice Ao64 t237.length co64 : Value).ownBlock ∧ some k_ ≠ (.slice Ao74 t214.length co74 : Value).ownBlock) (.slice Ao54 t235.length co54) t235) ∧ (Kd.R (Kd.int .i64) 3 w' w.heap.size (fun k_ => some k_ ≠ (s_.1 : Value).ownBlock ∧ some k_ ≠ (s_.2.1 : Value).ownBlock ∧ some k_ ≠ (s_.2.2.1 : Value).ownBlock ∧ some k_ ≠ (.slice Ao44 t192.length co44 : Value).ownBlock ∧ some k_ ≠ (.slice Ao54 t235.length co54 : Value).ownBlock ∧ some k_ ≠ (.slice Ao74 t214.length co74 : Value).ownBlock) (.slice Ao64 t237.length co64) t237) ∧ (Kd.R (Kd.int .i64) 3 w' w.heap.size (fun k_ => some k_ ≠ (s_.1 : Value).ownBlock ∧ some k_ ≠ (s_.2.1 : Value).ownBlock ∧ some k_ ≠ (s_.2.2.1 : Value).ownBlock ∧ some k_ ≠ (.slice Ao44 t192.length co44 : Value).ownBlock ∧ some k_ ≠ (.slice Ao54 t235.length co54 : Value).ownBlock ∧ some k_ ≠ (.slice Ao64 t237.length co64 : Value).ownBlock) (.slice Ao74 t214.length co74) t240) ∧ (w'.heap[gb173]? = some (.cells #[.int .i64 a0_0, .int .i64 a0_1, .int .i64 a0_2, .slice A0_3 l0_3.length c0_3] 24 (0, 0))) ∧ (w'.heap[gb174]? = some (.cells #[.int .i64 a1_0, .int .i64 a1_1, .int .i64 a1_2, .slice A1_3 l1_3.length c1_3] 24 (0, 0))) ∧ (w'.heap[gb196]? = some (.cells #[.int .i64 t189, .int .i64 t190, .int .i64 t191, .slice Ao44 t192.length co44] 26 (0, 0))) ∧ (w'.heap[gb203]? = some (.cells #[.int .i64 t197, .int .i64 t198, .int .i64 t199, .slice Ao54 t235.length co54] 26 (0, 0))) ∧ (w'.heap[gb210]? = some (.cells #[.int .i64 t204, .int .i64 t205, .int .i64 t206, .slice Ao64 t237.length co64] 26 (0, 0))) ∧ (w'.heap[gb218]? = some (.cells #[.int .i64 t211, .int .i64 t212, .int .i64 t213, .slice Ao74 t214.length co74] 26 (0, 0))) ∧ (w'.heap[s_.2.2.2]? = some (.cells #[.int .i64 0, .int .i64 0, .int .i64 0, .slice none 0 0] 26 (0, 0))) ∧ (w.heap.size ≤ s_.2.2.2) ∧ (w.heap.size ≤ s_.2.2.2) ∧ (gb173 ≠ s_.2.2.2) ∧ (s_.2.2.2 ≠ gb173) ∧ (gb174 ≠ s_.2.2.2) ∧ (s_.2.2.2 ≠ gb174) ∧ (gb196 ≠ s_.2.2.2) ∧ (s_.2.2.2 ≠ gb196) ∧ (gb203 ≠ s_.2.2.2) ∧ (s_.2.2.2 ≠ gb203) ∧ (gb210 ≠ s_.2.2.2) ∧ (s_.2.2.2 ≠ gb210) ∧ (gb218 ≠ s_.2.2.2) ∧ (s_.2.2.2 ≠ gb218) ∧ (Below w.heap.size w w')) ?_ ?_
        rotate_left
        ·
         intro hCont
         refine two_ (i := 1) (j := 8) (Ni := some 96) (Nj := some 15) #[true, true, true, false, false, false, false, false, false, false, false] #[true, false, true, false, false, false, false, false, true, false, false] rfl rfl rfl rfl (two_of HT_.out (by kernel_rfl)) (by decide) (by decide) (fun K hK => ?_) (fun K hK => ?_)
         ·
          skip
          refine goes_ Try.func11 (by kernel_rfl) rfl #[.agg #[.int .i64 a0_0, .int .i64 a0_1, .int .i64 a0_2, .slice A0_3 l0_3.length c0_3]] (by rfl) rfl rfl (by (try simp only [List.map_toArray, List.map_cons, List.map_nil]); first | done | rfl) ?_
          with_reducible refine (laws_toTable.calls kj109 a0_0 a0_1 a0_2 _ _ l0_3 t242 t243 t244 t245 _ ?side1 ?side2 A173.out).mono ?_
          (case side1 => exact uC HR0_3 HB)
          (case side2 => exact HC0_3.out)
          rintro e w187 ⟨v246, rfl, ho0, hb⟩
          refine ⟨_, rfl, ?_⟩
          have HO247 := Aside0.mk (Kd.R_lower (Kd.R_new' (Kd.R_new' (Kd.R_new' (Kd.R_new' ho0 (Kd.R_lt (uR HO_197003))) (Kd.R_lt (uR HO_204003))) (Kd.R_lt (uR HO_211003))) (Kd.R_lt (uR HO_219003))) (below_size (uN HB)))
          replace HO_197003 := Aside0.mk (Kd.R_elder' (uR HO_197003) (Kd.R_base ho0) hb)
          replace HO_204003 := Aside0.mk (Kd.R_elder' (uR HO_204003) (Kd.R_base ho0) hb)
          replace HO_211003 := Aside0.mk (Kd.R_elder' (uR HO_211003) (Kd.R_base ho0) hb)
          replace HO_219003 := Aside0.mk (Kd.R_elder' (uR HO_219003) (Kd.R_base ho0) hb)
          replace BK173 := kB BK173 hb
          replace BK174 := kB BK174 hb
          replace BK196 := kB BK196 hb
          replace BK203 := kB BK203 hb
          replace BK210 := kB BK210 hb
          replace BK218 := kB BK218 hb
          replace HB := Aside0.mk (below_step (uN HB) hb)
          (try clear hb)
          (try clear hb2)
          (try clear hk)
          (try clear hi)
          (try clear ho0)
          refine hK.out _ _ ⟨bc BK173 0, bc BK173 1, bc BK173 2, bc BK173 3, bc BK174 0, bc BK174 1, bc BK174 2, bc BK174 3⟩ (fun hHeld => ?_)
          clear hK K
          refine norm_ (a' := ?_) ?_ ?_
          rotate_left
          ·
           show Act.put _ (some 96) _ = _
           simp only [Act.put, setIfInBounds_toArray, set_cons_zero, set_cons_succ, i64_w, i32_w]
           rfl
          refine two_ (i := 3) (j := 8) (Ni := some 98) (Nj := some 15) #[true, true, true, true, false, false, false, false, false, false, false] #[true, true, true, false, false, false, false, false, true, false, false] rfl rfl rfl rfl (two_of HT_.out (by kernel_rfl)) (by decide) (by decide) (fun K hK => ?_) (fun K hK => ?_)
          ·
           skip
           refine goes_ Try.func11 (by kernel_rfl) rfl #[.agg #[.int .i64 a1_0, .int .i64 a1_1, .int .i64 a1_2, .slice A1_3 l1_3.length c1_3]] (by rfl) rfl rfl (by (try simp only [List.map_toArray, List.map_cons, List.map_nil]); first | done | rfl) ?_
           with_reducible refine (laws_toTable.calls kj109 a1_0 a1_1 a1_2 _ _ l1_3 t248 t249 t250 t251 _ ?side1 ?side2 A174.out).mono ?_
           (case side1 => exact uC HR1_3 HB)
           (case side2 => exact HC1_3.out)
           rintro e w188 ⟨v252, rfl, ho0, hb⟩
           refine ⟨_, rfl, ?_⟩
           have HO253 := Aside0.mk (Kd.R_lower (Kd.R_new' (Kd.R_new' (Kd.R_new' (Kd.R_new' (Kd.R_new' ho0 (Kd.R_lt (uR HO_197003))) (Kd.R_lt (uR HO_204003))) (Kd.R_lt (uR HO_211003))) (Kd.R_lt (uR HO_219003))) (Kd.R_lt (uR HO247))) (below_size (uN HB)))
           replace HO_197003 := Aside0.mk (Kd.R_elder' (uR HO_197003) (Kd.R_base ho0) hb)
           replace HO_204003 := Aside0.mk (Kd.R_elder' (uR HO_204003) (Kd.R_base ho0) hb)
           replace HO_211003 := Aside0.mk (Kd.R_elder' (uR HO_211003) (Kd.R_base ho0) hb)
           replace HO_219003 := Aside0.mk (Kd.R_elder' (uR HO_219003) (Kd.R_base ho0) hb)
           replace HO247 := Aside0.mk (Kd.R_elder' (uR HO247) (Kd.R_base ho0) hb)
           replace BK173 := kB BK173 hb
           replace BK174 := kB BK174 hb
           replace BK196 := kB BK196 hb
           replace BK203 := kB BK203 hb
           replace BK210 := kB BK210 hb
           replace BK218 := kB BK218 hb
           replace HB := Aside0.mk (below_step (uN HB) hb)
           (try clear hb)
           (try clear hb2)
           (try clear hk)
           (try clear hi)
           (try clear ho0)
           obtain ⟨Ao189, co189, eo189⟩ := Kd.R_slice HO247.out
           (first | subst eo189 | (injection eo189 with f1_ f2_ f3_; have f4_ := f1_.symm; have f5_ := f3_.symm; clear f1_ f2_ f3_; subst f4_; subst f5_))
           obtain ⟨Ao190, co190, eo190⟩ := Kd.R_slice HO253.out
           (first | subst eo190 | (injection eo190 with f1_ f2_ f3_; have f4_ := f1_.symm; have f5_ := f3_.symm; clear f1_ f2_ f3_; subst f4_; subst f5_))
           refine hK.out _ _ ⟨bc BK173 0, bc BK173 1, bc BK173 2, bc BK173 3, bc BK174 0, bc BK174 1, bc BK174 2, bc BK174 3⟩ (fun hHeld => ?_)
           clear hK K
           refine norm_ (a' := ?_) ?_ ?_
           rotate_left
           ·
            show Act.put _ (some 98) _ = _
            simp only [Act.put, setIfInBounds_toArray, set_cons_zero, set_cons_succ, i64_w, i32_w]
            rfl
           refine two_ (i := 4) (j := 8) (Ni := some 99) (Nj := some 15) #[true, true, true, true, true, false, false, false, false, false, false] #[true, true, true, true, false, false, false, false, true, false, false] rfl rfl rfl rfl (two_of HT_.out (by kernel_rfl)) (by decide) (by decide) (fun K hK => ?_) (fun K hK => ?_)
           ·
            skip
            refine goes_ Try.func12 (by kernel_rfl) rfl #[.agg #[.int .i64 t242, .int .i64 t243, .int .i64 t244, .slice Ao189 t245.length co189], .agg #[.int .i64 t248, .int .i64 t249, .int .i64 t250, .slice Ao190 t251.length co190]] (by rfl) rfl rfl (by (try simp only [List.map_toArray, List.map_cons, List.map_nil]); first | done | rfl) ?_
            with_reducible refine (impl_AddTables.calls kj109 t242 t243 t244 _ _ t245 t248 t249 t250 _ _ t251 t254 t255 t256 t257 t260 _ ?side1 ?side2 ?side3 ?side4 A175.out).mono ?_
            (case side1 => exact uD HO247)
            (case side2 => exact (Kd.R_reads' HO247.out).2.1)
            (case side3 => exact uD HO253)
            (case side4 => exact (Kd.R_reads' HO253.out).2.1)
            rintro e w191 ⟨v258, rfl, ho0, hb⟩
            refine ⟨_, rfl, ?_⟩
            have HO259 := Aside0.mk (Kd.R_lower (Kd.R_new' (Kd.R_new' (Kd.R_new' (Kd.R_new' (Kd.R_new' (Kd.R_new' ho0 (Kd.R_lt (uR HO_197003))) (Kd.R_lt (uR HO_204003))) (Kd.R_lt (uR HO_211003))) (Kd.R_lt (uR HO_219003))) (Kd.R_lt (uR HO247))) (Kd.R_lt (uR HO253))) (below_size (uN HB)))
            replace HO_197003 := Aside0.mk (Kd.R_elder' (uR HO_197003) (Kd.R_base ho0) hb)
            replace HO_204003 := Aside0.mk (Kd.R_elder' (uR HO_204003) (Kd.R_base ho0) hb)
            replace HO_211003 := Aside0.mk (Kd.R_elder' (uR HO_211003) (Kd.R_base ho0) hb)
            replace HO_219003 := Aside0.mk (Kd.R_elder' (uR HO_219003) (Kd.R_base ho0) hb)
            replace HO247 := Aside0.mk (Kd.R_elder' (uR HO247) (Kd.R_base ho0) hb)
            replace HO253 := Aside0.mk (Kd.R_elder' (uR HO253) (Kd.R_base ho0) hb)
            replace BK173 := kB BK173 hb
            replace BK174 := kB BK174 hb
            replace BK196 := kB BK196 hb
            replace BK203 := kB BK203 hb
            replace BK210 := kB BK210 hb
            replace BK218 := kB BK218 hb
            replace HB := Aside0.mk (below_step (uN HB) hb)
            (try clear hb)
            (try clear hb2)
            (try clear hk)
            (try clear hi)
            (try clear ho0)
            refine hK.out _ _ ⟨bc BK173 0, bc BK173 1, bc BK173 2, bc BK173 3, bc BK174 0, bc BK174 1, bc BK174 2, bc BK174 3⟩ (fun hHeld => ?_)
            clear hK K
            refine norm_ (a' := ?_) ?_ ?_
            rotate_left
            ·
             show Act.put _ (some 99) _ = _
             simp only [Act.put, setIfInBounds_toArray, set_cons_zero, set_cons_succ, i64_w, i32_w]
             rfl
            refine pure_ (i := 5) (N := some 94) (v := ?_) (a' := ?_) #[true, true, true, true, true, true, false, false, false, false, false] rfl rfl (any_of HT_.out (by kernel_rfl)) (fun _ _ _ h => h) (Or.inl ⟨by rfl, ?_⟩) ?_ ?_
            rotate_left
            ·
             intro w'
             go_simp
             with_reducible rfl
            rotate_left
            ·
             simp only [Act.put, setIfInBounds_toArray, set_cons_zero, set_cons_succ, i64_w, i32_w]
             rfl
            refine pure_ (i := 6) (N := some 100) (v := ?_) (a' := ?_) #[true, true, true, true, true, true, true, false, false, false, false] rfl rfl (any_of HT_.out (by kernel_rfl)) (fun _ _ _ h => h) (Or.inl ⟨by rfl, ?_⟩) ?_ ?_
            rotate_left
            ·
             intro w'
             go_simp
             with_reducible rfl
            rotate_left
            ·
             simp only [Act.put, setIfInBounds_toArray, set_cons_zero, set_cons_succ, i64_w, i32_w]
             rfl
            refine pure_ (i := 7) (N := some 101) (v := ?_) (a' := ?_) #[true, true, true, true, true, true, true, true, false, false, false] rfl rfl (any_of HT_.out (by kernel_rfl)) (fun _ _ _ h => h) (Or.inl ⟨by rfl, ?_⟩) ?_ ?_
            rotate_left
            ·
             intro w'
             go_simp
             with_reducible rfl
            rotate_left
            ·
             simp only [Act.put, setIfInBounds_toArray, set_cons_zero, set_cons_succ, i64_w, i32_w]
             rfl
            refine one_ (i := 8) (N := some 15) #[true, true, true, true, true, true, true, true, true, false, false] rfl rfl (one_of HT_.out (by kernel_rfl)) (by decide) (fun K hK => ?_)
            refine box_step ?hg (N := 15) ?hd (cs := #[.int .i64 0, .int .i64 0, .int .i64 0, .slice none 0 0]) (t := 26) ?hr ?_; (case hd => rfl); (case hg => rfl); (case hr => first | (go_simp; done) | (go_simp; rfl))
            intro gb261 hg w192 hbox hb
            replace HO_197003 := Aside0.mk (Kd.R_below (uR HO_197003) hb)
            replace HO_204003 := Aside0.mk (Kd.R_below (uR HO_204003) hb)
            replace HO_211003 := Aside0.mk (Kd.R_below (uR HO_211003) hb)
            replace HO_219003 := Aside0.mk (Kd.R_below (uR HO_219003) hb)
            replace HO247 := Aside0.mk (Kd.R_below (uR HO247) hb)
            replace HO253 := Aside0.mk (Kd.R_below (uR HO253) hb)
            replace HO259 := Aside0.mk (Kd.R_below (uR HO259) hb)
            have BK261 := Aside0.mk (hbox)
            have GW261 := nG HB hg
            have GE261 := nG HB hg
            have GI261 := gI GE261
            replace HB := Aside0.mk (below_step (uN HB) hb)
            have NB173_261 := nL BK173 hg
            have NB261_173 := nR BK173 hg
            replace BK173 := kB BK173 hb
            have NB174_261 := nL BK174 hg
            have NB261_174 := nR BK174 hg
            replace BK174 := kB BK174 hb
            have NB196_261 := nL BK196 hg
            have NB261_196 := nR BK196 hg
            replace BK196 := kB BK196 hb
            have NB203_261 := nL BK203 hg
            have NB261_203 := nR BK203 hg
            replace BK203 := kB BK203 hb
            have NB210_261 := nL BK210 hg
            have NB261_210 := nR BK210 hg
            replace BK210 := kB BK210 hb
            have NB218_261 := nL BK218 hg
            have NB261_218 := nR BK218 hg
            replace BK218 := kB BK218 hb
            clear hb hbox hg
            refine hK.out _ _ ⟨bc BK173 0, bc BK173 1, bc BK173 2, bc BK173 3, bc BK174 0, bc BK174 1, bc BK174 2, bc BK174 3⟩ (fun hHeld => ?_)
            clear hK K
            refine norm_ (a' := ?_) ?_ ?_
            rotate_left
            ·
             show Act.put _ (some 15) _ = _
             simp only [Act.put, setIfInBounds_toArray, set_cons_zero, set_cons_succ, i64_w, i32_w]
             rfl
            exact norm_ (by simp only [putAll, Act.put, setIfInBounds_toArray, set_cons_zero, set_cons_succ]) (hCont (.slice Ao189 t245.length co189, .slice Ao190 t251.length co190, v258, gb261) _ ⟨hHeld, (by (with_reducible repeat (first | apply Kd.R_alloc | apply Kd.R_drewN | apply Kd.R_drew)); exact Kd.R_mono HO247.out (fun _ hk => ⟨hk.1.2, ⟨hk.2, ⟨hk.1.1.1.1.1.2, ⟨hk.1.1.1.1.2, ⟨hk.1.1.1.2, hk.1.1.2⟩⟩⟩⟩⟩)), (by (with_reducible repeat (first | apply Kd.R_alloc | apply Kd.R_drewN | apply Kd.R_drew)); exact Kd.R_mono HO253.out (fun _ hk => ⟨hk.1.2, ⟨hk.2, ⟨hk.1.1.1.1.1.2, ⟨hk.1.1.1.1.2, ⟨hk.1.1.1.2, hk.1.1.2⟩⟩⟩⟩⟩)), (by (with_reducible repeat (first | apply Kd.R_alloc | apply Kd.R_drewN | apply Kd.R_drew)); exact Kd.R_mono HO259.out (fun _ hk => ⟨hk.1.2, ⟨hk.2, ⟨hk.1.1.1.1.1.2, ⟨hk.1.1.1.1.2, ⟨hk.1.1.1.2, hk.1.1.2⟩⟩⟩⟩⟩)), (by (with_reducible repeat (first | apply Kd.R_alloc | apply Kd.R_drewN | apply Kd.R_drew)); exact Kd.R_mono HO_197003.out (fun _ hk => ⟨hk.1.1.2, ⟨hk.1.2, ⟨hk.2, ⟨hk.1.1.1.1, ⟨hk.1.1.1.2.1, hk.1.1.1.2.2⟩⟩⟩⟩⟩)), (by (with_reducible repeat (first | apply Kd.R_alloc | apply Kd.R_drewN | apply Kd.R_drew)); exact Kd.R_mono HO_204003.out (fun _ hk => ⟨hk.1.1.2, ⟨hk.1.2, ⟨hk.2, ⟨hk.1.1.1.1, ⟨hk.1.1.1.2.1, hk.1.1.1.2.2⟩⟩⟩⟩⟩)), (by (with_reducible repeat (first | apply Kd.R_alloc | apply Kd.R_drewN | apply Kd.R_drew)); exact Kd.R_mono HO_211003.out (fun _ hk => ⟨hk.1.1.2, ⟨hk.1.2, ⟨hk.2, ⟨hk.1.1.1.1, ⟨hk.1.1.1.2.1, hk.1.1.1.2.2⟩⟩⟩⟩⟩)), (by (with_reducible repeat (first | apply Kd.R_alloc | apply Kd.R_drewN | apply Kd.R_drew)); exact Kd.R_mono HO_219003.out (fun _ hk => ⟨hk.1.1.2, ⟨hk.1.2, ⟨hk.2, ⟨hk.1.1.1.1, ⟨hk.1.1.1.2.1, hk.1.1.1.2.2⟩⟩⟩⟩⟩)), (uK BK173), (uK BK174), (uK BK196), (uK BK203), (uK BK210), (uK BK218), (uK BK261), GW261.out, GE261.out, NB173_261.out, NB261_173.out, NB174_261.out, NB261_174.out, NB196_261.out, NB261_196.out, NB203_261.out, NB261_203.out, NB210_261.out, NB261_210.out, NB218_261.out, NB261_218.out, (uN HB)⟩)
           skip
           refine box_step ?hg (N := 15) ?hd (cs := #[.int .i64 0, .int .i64 0, .int .i64 0, .slice none 0 0]) (t := 26) ?hr ?_; (case hd => rfl); (case hg => rfl); (case hr => first | (go_simp; done) | (go_simp; rfl))
           intro gb261 hg w189 hbox hb
           replace HO_197003 := Aside0.mk (Kd.R_below (uR HO_197003) hb)
           replace HO_204003 := Aside0.mk (Kd.R_below (uR HO_204003) hb)
           replace HO_211003 := Aside0.mk (Kd.R_below (uR HO_211003) hb)
           replace HO_219003 := Aside0.mk (Kd.R_below (uR HO_219003) hb)
           replace HO247 := Aside0.mk (Kd.R_below (uR HO247) hb)
           replace HO253 := Aside0.mk (Kd.R_below (uR HO253) hb)
           have BK261 := Aside0.mk (hbox)
           have GW261 := nG HB hg
           have GE261 := nG HB hg
           have GI261 := gI GE261
           replace HB := Aside0.mk (below_step (uN HB) hb)
           have NB173_261 := nL BK173 hg
           have NB261_173 := nR BK173 hg
           replace BK173 := kB BK173 hb
           have NB174_261 := nL BK174 hg
           have NB261_174 := nR BK174 hg
           replace BK174 := kB BK174 hb
           have NB196_261 := nL BK196 hg
           have NB261_196 := nR BK196 hg
           replace BK196 := kB BK196 hb
           have NB203_261 := nL BK203 hg
           have NB261_203 := nR BK203 hg
           replace BK203 := kB BK203 hb
           have NB210_261 := nL BK210 hg
           have NB261_210 := nR BK210 hg
           replace BK210 := kB BK210 hb
           have NB218_261 := nL BK218 hg
           have NB261_218 := nR BK218 hg
           replace BK218 := kB BK218 hb
           clear hb hbox hg
           obtain ⟨Ao190, co190, eo190⟩ := Kd.R_slice HO247.out
           (first | subst eo190 | (injection eo190 with f1_ f2_ f3_; have f4_ := f1_.symm; have f5_ := f3_.symm; clear f1_ f2_ f3_; subst f4_; subst f5_))
           obtain ⟨Ao191, co191, eo191⟩ := Kd.R_slice HO253.out
           (first | subst eo191 | (injection eo191 with f1_ f2_ f3_; have f4_ := f1_.symm; have f5_ := f3_.symm; clear f1_ f2_ f3_; subst f4_; subst f5_))
           refine hK.out _ _ ⟨bc BK173 0, bc BK173 1, bc BK173 2, bc BK173 3, bc BK174 0, bc BK174 1, bc BK174 2, bc BK174 3⟩ (fun hHeld => ?_)
           clear hK K
           refine norm_ (a' := ?_) ?_ ?_
           rotate_left
           ·
            show Act.put _ (some 15) _ = _
            simp only [Act.put, setIfInBounds_toArray, set_cons_zero, set_cons_succ, i64_w, i32_w]
            rfl
           refine one_ (i := 4) (N := some 99) #[true, true, true, true, true, false, false, false, true, false, false] rfl rfl (one_of HT_.out (by kernel_rfl)) (by decide) (fun K hK => ?_)
           refine goes_ Try.func12 (by kernel_rfl) rfl #[.agg #[.int .i64 t242, .int .i64 t243, .int .i64 t244, .slice Ao190 t245.length co190], .agg #[.int .i64 t248, .int .i64 t249, .int .i64 t250, .slice Ao191 t251.length co191]] (by rfl) rfl rfl (by (try simp only [List.map_toArray, List.map_cons, List.map_nil]); first | done | rfl) ?_
           with_reducible refine (impl_AddTables.calls kj109 t242 t243 t244 _ _ t245 t248 t249 t250 _ _ t251 t254 t255 t256 t257 t260 _ ?side1 ?side2 ?side3 ?side4 A175.out).mono ?_
           (case side1 => exact uD HO247)
           (case side2 => exact (Kd.R_reads' HO247.out).2.1)
           (case side3 => exact uD HO253)
           (case side4 => exact (Kd.R_reads' HO253.out).2.1)
           rintro e w192 ⟨v258, rfl, ho0, hb⟩
           refine ⟨_, rfl, ?_⟩
           have HO259 := Aside0.mk (Kd.R_lower (Kd.R_new' (Kd.R_new' (Kd.R_new' (Kd.R_new' (Kd.R_new' (Kd.R_new' ho0 (Kd.R_lt (uR HO_197003))) (Kd.R_lt (uR HO_204003))) (Kd.R_lt (uR HO_211003))) (Kd.R_lt (uR HO_219003))) (Kd.R_lt (uR HO247))) (Kd.R_lt (uR HO253))) (below_size (uN HB)))
           replace HO_197003 := Aside0.mk (Kd.R_elder' (uR HO_197003) (Kd.R_base ho0) hb)
           replace HO_204003 := Aside0.mk (Kd.R_elder' (uR HO_204003) (Kd.R_base ho0) hb)
           replace HO_211003 := Aside0.mk (Kd.R_elder' (uR HO_211003) (Kd.R_base ho0) hb)
           replace HO_219003 := Aside0.mk (Kd.R_elder' (uR HO_219003) (Kd.R_base ho0) hb)
           replace HO247 := Aside0.mk (Kd.R_elder' (uR HO247) (Kd.R_base ho0) hb)
           replace HO253 := Aside0.mk (Kd.R_elder' (uR HO253) (Kd.R_base ho0) hb)
           replace BK173 := kB BK173 hb
           replace BK174 := kB BK174 hb
           replace BK196 := kB BK196 hb
           replace BK203 := kB BK203 hb
           replace BK210 := kB BK210 hb
           replace BK218 := kB BK218 hb
           replace BK261 := kB BK261 hb
           replace HB := Aside0.mk (below_step (uN HB) hb)
           (try clear hb)
           (try clear hb2)
           (try clear hk)
           (try clear hi)
           (try clear ho0)
           refine hK.out _ _ ⟨bc BK173 0, bc BK173 1, bc BK173 2, bc BK173 3, bc BK174 0, bc BK174 1, bc BK174 2, bc BK174 3⟩ (fun hHeld => ?_)
           clear hK K
           refine norm_ (a' := ?_) ?_ ?_
           rotate_left
           ·
            show Act.put _ (some 99) _ = _
            simp only [Act.put, setIfInBounds_toArray, set_cons_zero, set_cons_succ, i64_w, i32_w]
            rfl
           refine pure_ (i := 5) (N := some 94) (v := ?_) (a' := ?_) #[true, true, true, true, true, true, false, false, true, false, false] rfl rfl (any_of HT_.out (by kernel_rfl)) (fun _ _ _ h => h) (Or.inl ⟨by rfl, ?_⟩) ?_ ?_
           rotate_left
           ·
            intro w'
            go_simp
            with_reducible rfl
           rotate_left
           ·
            simp only [Act.put, setIfInBounds_toArray, set_cons_zero, set_cons_succ, i64_w, i32_w]
            rfl
           refine pure_ (i := 6) (N := some 100) (v := ?_) (a' := ?_) #[true, true, true, true, true, true, true, false, true, false, false] rfl rfl (any_of HT_.out (by kernel_rfl)) (fun _ _ _ h => h) (Or.inl ⟨by rfl, ?_⟩) ?_ ?_
           rotate_left
           ·
            intro w'
            go_simp
            with_reducible rfl
           rotate_left
           ·
            simp only [Act.put, setIfInBounds_toArray, set_cons_zero, set_cons_succ, i64_w, i32_w]
            rfl
           refine pure_ (i := 7) (N := some 101) (v := ?_) (a' := ?_) #[true, true, true, true, true, true, true, true, true, false, false] rfl rfl (any_of HT_.out (by kernel_rfl)) (fun _ _ _ h => h) (Or.inl ⟨by rfl, ?_⟩) ?_ ?_
           rotate_left
           ·
            intro w'
            go_simp
            with_reducible rfl
           rotate_left
           ·
            simp only [Act.put, setIfInBounds_toArray, set_cons_zero, set_cons_succ, i64_w, i32_w]
            rfl
           exact norm_ (by simp only [putAll, Act.put, setIfInBounds_toArray, set_cons_zero, set_cons_succ]) (hCont (.slice Ao190 t245.length co190, .slice Ao191 t251.length co191, v258, gb261) _ ⟨hHeld, (by (with_reducible repeat (first | apply Kd.R_alloc | apply Kd.R_drewN | apply Kd.R_drew)); exact Kd.R_mono HO247.out (fun _ hk => ⟨hk.1.2, ⟨hk.2, ⟨hk.1.1.1.1.1.2, ⟨hk.1.1.1.1.2, ⟨hk.1.1.1.2, hk.1.1.2⟩⟩⟩⟩⟩)), (by (with_reducible repeat (first | apply Kd.R_alloc | apply Kd.R_drewN | apply Kd.R_drew)); exact Kd.R_mono HO253.out (fun _ hk => ⟨hk.1.2, ⟨hk.2, ⟨hk.1.1.1.1.1.2, ⟨hk.1.1.1.1.2, ⟨hk.1.1.1.2, hk.1.1.2⟩⟩⟩⟩⟩)), (by (with_reducible repeat (first | apply Kd.R_alloc | apply Kd.R_drewN | apply Kd.R_drew)); exact Kd.R_mono HO259.out (fun _ hk => ⟨hk.1.2, ⟨hk.2, ⟨hk.1.1.1.1.1.2, ⟨hk.1.1.1.1.2, ⟨hk.1.1.1.2, hk.1.1.2⟩⟩⟩⟩⟩)), (by (with_reducible repeat (first | apply Kd.R_alloc | apply Kd.R_drewN | apply Kd.R_drew)); exact Kd.R_mono HO_197003.out (fun _ hk => ⟨hk.1.1.2, ⟨hk.1.2, ⟨hk.2, ⟨hk.1.1.1.1, ⟨hk.1.1.1.2.1, hk.1.1.1.2.2⟩⟩⟩⟩⟩)), (by (with_reducible repeat (first | apply Kd.R_alloc | apply Kd.R_drewN | apply Kd.R_drew)); exact Kd.R_mono HO_204003.out (fun _ hk => ⟨hk.1.1.2, ⟨hk.1.2, ⟨hk.2, ⟨hk.1.1.1.1, ⟨hk.1.1.1.2.1, hk.1.1.1.2.2⟩⟩⟩⟩⟩)), (by (with_reducible repeat (first | apply Kd.R_alloc | apply Kd.R_drewN | apply Kd.R_drew)); exact Kd.R_mono HO_211003.out (fun _ hk => ⟨hk.1.1.2, ⟨hk.1.2, ⟨hk.2, ⟨hk.1.1.1.1, ⟨hk.1.1.1.2.1, hk.1.1.1.2.2⟩⟩⟩⟩⟩)), (by (with_reducible repeat (first | apply Kd.R_alloc | apply Kd.R_drewN | apply Kd.R_drew)); exact Kd.R_mono HO_219003.out (fun _ hk => ⟨hk.1.1.2, ⟨hk.1.2, ⟨hk.2, ⟨hk.1.1.1.1, ⟨hk.1.1.1.2.1, hk.1.1.1.2.2⟩⟩⟩⟩⟩)), (uK BK173), (uK BK174), (uK BK196), (uK BK203), (uK BK210), (uK BK218), (uK BK261), GW261.out, GE261.out, NB173_261.out, NB261_173.out, NB174_261.out, NB261_174.out, NB196_261.out, NB261_196.out, NB203_261.out, NB261_203.out, NB210_261.out, NB261_210.out, NB218_261.out, NB261_218.out, (uN HB)⟩)
          skip
          refine box_step ?hg (N := 15) ?hd (cs := #[.int .i64 0, .int .i64 0, .int .i64 0, .slice none 0 0]) (t := 26) ?hr ?_; (case hd => rfl); (case hg => rfl); (case hr => first | (go_simp; done) | (go_simp; rfl))
          intro gb261 hg w188 hbox hb
          replace HO_197003 := Aside0.mk (Kd.R_below (uR HO_197003) hb)
          replace HO_204003 := Aside0.mk (Kd.R_below (uR HO_204003) hb)
          replace HO_211003 := Aside0.mk (Kd.R_below (uR HO_211003) hb)
          replace HO_219003 := Aside0.mk (Kd.R_below (uR HO_219003) hb)
          replace HO247 := Aside0.mk (Kd.R_below (uR HO247) hb)
          have BK261 := Aside0.mk (hbox)
          have GW261 := nG HB hg
          have GE261 := nG HB hg
          have GI261 := gI GE261
          replace HB := Aside0.mk (below_step (uN HB) hb)
          have NB173_261 := nL BK173 hg
          have NB261_173 := nR BK173 hg
          replace BK173 := kB BK173 hb
          have NB174_261 := nL BK174 hg
          have NB261_174 := nR BK174 hg
          replace BK174 := kB BK174 hb
          have NB196_261 := nL BK196 hg
          have NB261_196 := nR BK196 hg
          replace BK196 := kB BK196 hb
          have NB203_261 := nL BK203 hg
          have NB261_203 := nR BK203 hg
          replace BK203 := kB BK203 hb
          have NB210_261 := nL BK210 hg
          have NB261_210 := nR BK210 hg
          replace BK210 := kB BK210 hb
          have NB218_261 := nL BK218 hg
          have NB261_218 := nR BK218 hg
          replace BK218 := kB BK218 hb
          clear hb hbox hg
          refine hK.out _ _ ⟨bc BK173 0, bc BK173 1, bc BK173 2, bc BK173 3, bc BK174 0, bc BK174 1, bc BK174 2, bc BK174 3⟩ (fun hHeld => ?_)
          clear hK K
          refine norm_ (a' := ?_) ?_ ?_
          rotate_left
          ·
           show Act.put _ (some 15) _ = _
           simp only [Act.put, setIfInBounds_toArray, set_cons_zero, set_cons_succ, i64_w, i32_w]
           rfl
          refine one_ (i := 3) (N := some 98) #[true, true, true, true, false, false, false, false, true, false, false] rfl rfl (one_of HT_.out (by kernel_rfl)) (by decide) (fun K hK => ?_)
          refine goes_ Try.func11 (by kernel_rfl) rfl #[.agg #[.int .i64 a1_0, .int .i64 a1_1, .int .i64 a1_2, .slice A1_3 l1_3.length c1_3]] (by rfl) rfl rfl (by (try simp only [List.map_toArray, List.map_cons, List.map_nil]); first | done | rfl) ?_
          with_reducible refine (laws_toTable.calls kj109 a1_0 a1_1 a1_2 _ _ l1_3 t248 t249 t250 t251 _ ?side1 ?side2 A174.out).mono ?_
          (case side1 => exact uC HR1_3 HB)
          (case side2 => exact HC1_3.out)
          rintro e w189 ⟨v252, rfl, ho0, hb⟩
          refine ⟨_, rfl, ?_⟩
          have HO253 := Aside0.mk (Kd.R_lower (Kd.R_new' (Kd.R_new' (Kd.R_new' (Kd.R_new' (Kd.R_new' ho0 (Kd.R_lt (uR HO_197003))) (Kd.R_lt (uR HO_204003))) (Kd.R_lt (uR HO_211003))) (Kd.R_lt (uR HO_219003))) (Kd.R_lt (uR HO247))) (below_size (uN HB)))
          replace HO_197003 := Aside0.mk (Kd.R_elder' (uR HO_197003) (Kd.R_base ho0) hb)
          replace HO_204003 := Aside0.mk (Kd.R_elder' (uR HO_204003) (Kd.R_base ho0) hb)
          replace HO_211003 := Aside0.mk (Kd.R_elder' (uR HO_211003) (Kd.R_base ho0) hb)
          replace HO_219003 := Aside0.mk (Kd.R_elder' (uR HO_219003) (Kd.R_base ho0) hb)
          replace HO247 := Aside0.mk (Kd.R_elder' (uR HO247) (Kd.R_base ho0) hb)
          replace BK173 := kB BK173 hb
          replace BK174 := kB BK174 hb
          replace BK196 := kB BK196 hb
          replace BK203 := kB BK203 hb
          replace BK210 := kB BK210 hb
          replace BK218 := kB BK218 hb
          replace BK261 := kB BK261 hb
          replace HB := Aside0.mk (below_step (uN HB) hb)
          (try clear hb)
          (try clear hb2)
          (try clear hk)
          (try clear hi)
          (try clear ho0)
          obtain ⟨Ao190, co190, eo190⟩ := Kd.R_slice HO247.out
          (first | subst eo190 | (injection eo190 with f1_ f2_ f3_; have f4_ := f1_.symm; have f5_ := f3_.symm; clear f1_ f2_ f3_; subst f4_; subst f5_))
          obtain ⟨Ao191, co191, eo191⟩ := Kd.R_slice HO253.out
          (first | subst eo191 | (injection eo191 with f1_ f2_ f3_; have f4_ := f1_.symm; have f5_ := f3_.symm; clear f1_ f2_ f3_; subst f4_; subst f5_))
          refine hK.out _ _ ⟨bc BK173 0, bc BK173 1, bc BK173 2, bc BK173 3, bc BK174 0, bc BK174 1, bc BK174 2, bc BK174 3⟩ (fun hHeld => ?_)
          clear hK K
          refine norm_ (a' := ?_) ?_ ?_
          rotate_left
          ·
           show Act.put _ (some 98) _ = _
           simp only [Act.put, setIfInBounds_toArray, set_cons_zero, set_cons_succ, i64_w, i32_w]
           rfl
          refine one_ (i := 4) (N := some 99) #[true, true, true, true, true, false, false, false, true, false, false] rfl rfl (one_of HT_.out (by kernel_rfl)) (by decide) (fun K hK => ?_)
          refine goes_ Try.func12 (by kernel_rfl) rfl #[.agg #[.int .i64 t242, .int .i64 t243, .int .i64 t244, .slice Ao190 t245.length co190], .agg #[.int .i64 t248, .int .i64 t249, .int .i64 t250, .slice Ao191 t251.length co191]] (by rfl) rfl rfl (by (try simp only [List.map_toArray, List.map_cons, List.map_nil]); first | done | rfl) ?_
          with_reducible refine (impl_AddTables.calls kj109 t242 t243 t244 _ _ t245 t248 t249 t250 _ _ t251 t254 t255 t256 t257 t260 _ ?side1 ?side2 ?side3 ?side4 A175.out).mono ?_
          (case side1 => exact uD HO247)
          (case side2 => exact (Kd.R_reads' HO247.out).2.1)
          (case side3 => exact uD HO253)
          (case side4 => exact (Kd.R_reads' HO253.out).2.1)
          rintro e w192 ⟨v258, rfl, ho0, hb⟩
          refine ⟨_, rfl, ?_⟩
          have HO259 := Aside0.mk (Kd.R_lower (Kd.R_new' (Kd.R_new' (Kd.R_new' (Kd.R_new' (Kd.R_new' (Kd.R_new' ho0 (Kd.R_lt (uR HO_197003))) (Kd.R_lt (uR HO_204003))) (Kd.R_lt (uR HO_211003))) (Kd.R_lt (uR HO_219003))) (Kd.R_lt (uR HO247))) (Kd.R_lt (uR HO253))) (below_size (uN HB)))
          replace HO_197003 := Aside0.mk (Kd.R_elder' (uR HO_197003) (Kd.R_base ho0) hb)
          replace HO_204003 := Aside0.mk (Kd.R_elder' (uR HO_204003) (Kd.R_base ho0) hb)
          replace HO_211003 := Aside0.mk (Kd.R_elder' (uR HO_211003) (Kd.R_base ho0) hb)
          replace HO_219003 := Aside0.mk (Kd.R_elder' (uR HO_219003) (Kd.R_base ho0) hb)
          replace HO247 := Aside0.mk (Kd.R_elder' (uR HO247) (Kd.R_base ho0) hb)
          replace HO253 := Aside0.mk (Kd.R_elder' (uR HO253) (Kd.R_base ho0) hb)
          replace BK173 := kB BK173 hb
          replace BK174 := kB BK174 hb
          replace BK196 := kB BK196 hb
          replace BK203 := kB BK203 hb
          replace BK210 := kB BK210 hb
          replace BK218 := kB BK218 hb
          replace BK261 := kB BK261 hb
          replace HB := Aside0.mk (below_step (uN HB) hb)
          (try clear hb)
          (try clear hb2)
          (try clear hk)
          (try clear hi)
          (try clear ho0)
          refine hK.out _ _ ⟨bc BK173 0, bc BK173 1, bc BK173 2, bc BK173 3, bc BK174 0, bc BK174 1, bc BK174 2, bc BK174 3⟩ (fun hHeld => ?_)
          clear hK K
          refine norm_ (a' := ?_) ?_ ?_
          rotate_left
          ·
           show Act.put _ (some 99) _ = _
           simp only [Act.put, setIfInBounds_toArray, set_cons_zero, set_cons_succ, i64_w, i32_w]
           rfl
          refine pure_ (i := 5) (N := some 94) (v := ?_) (a' := ?_) #[true, true, true, true, true, true, false, false, true, false, false] rfl rfl (any_of HT_.out (by kernel_rfl)) (fun _ _ _ h => h) (Or.inl ⟨by rfl, ?_⟩) ?_ ?_
          rotate_left
          ·
           intro w'
           go_simp
           with_reducible rfl
          rotate_left
          ·
           simp only [Act.put, setIfInBounds_toArray, set_cons_zero, set_cons_succ, i64_w, i32_w]
           rfl
          refine pure_ (i := 6) (N := some 100) (v := ?_) (a' := ?_) #[true, true, true, true, true, true, true, false, true, false, false] rfl rfl (any_of HT_.out (by kernel_rfl)) (fun _ _ _ h => h) (Or.inl ⟨by rfl, ?_⟩) ?_ ?_
          rotate_left
          ·
           intro w'
           go_simp
           with_reducible rfl
          rotate_left
          ·
           simp only [Act.put, setIfInBounds_toArray, set_cons_zero, set_cons_succ, i64_w, i32_w]
           rfl
          refine pure_ (i := 7) (N := some 101) (v := ?_) (a' := ?_) #[true, true, true, true, true, true, true, true, true, false, false] rfl rfl (any_of HT_.out (by kernel_rfl)) (fun _ _ _ h => h) (Or.inl ⟨by rfl, ?_⟩) ?_ ?_
          rotate_left
          ·
           intro w'
           go_simp
           with_reducible rfl
          rotate_left
          ·
           simp only [Act.put, setIfInBounds_toArray, set_cons_zero, set_cons_succ, i64_w, i32_w]
           rfl
          exact norm_ (by simp only [putAll, Act.put, setIfInBounds_toArray, set_cons_zero, set_cons_succ]) (hCont (.slice Ao190 t245.length co190, .slice Ao191 t251.length co191, v258, gb261) _ ⟨hHeld, (by (with_reducible repeat (first | apply Kd.R_alloc | apply Kd.R_drewN | apply Kd.R_drew)); exact Kd.R_mono HO247.out (fun _ hk => ⟨hk.1.2, ⟨hk.2, ⟨hk.1.1.1.1.1.2, ⟨hk.1.1.1.1.2, ⟨hk.1.1.1.2, hk.1.1.2⟩⟩⟩⟩⟩)), (by (with_reducible repeat (first | apply Kd.R_alloc | apply Kd.R_drewN | apply Kd.R_drew)); exact Kd.R_mono HO253.out (fun _ hk => ⟨hk.1.2, ⟨hk.2, ⟨hk.1.1.1.1.1.2, ⟨hk.1.1.1.1.2, ⟨hk.1.1.1.2, hk.1.1.2⟩⟩⟩⟩⟩)), (by (with_reducible repeat (first | apply Kd.R_alloc | apply Kd.R_drewN | apply Kd.R_drew)); exact Kd.R_mono HO259.out (fun _ hk => ⟨hk.1.2, ⟨hk.2, ⟨hk.1.1.1.1.1.2, ⟨hk.1.1.1.1.2, ⟨hk.1.1.1.2, hk.1.1.2⟩⟩⟩⟩⟩)), (by (with_reducible repeat (first | apply Kd.R_alloc | apply Kd.R_drewN | apply Kd.R_drew)); exact Kd.R_mono HO_197003.out (fun _ hk => ⟨hk.1.1.2, ⟨hk.1.2, ⟨hk.2, ⟨hk.1.1.1.1, ⟨hk.1.1.1.2.1, hk.1.1.1.2.2⟩⟩⟩⟩⟩)), (by (with_reducible repeat (first | apply Kd.R_alloc | apply Kd.R_drewN | apply Kd.R_drew)); exact Kd.R_mono HO_204003.out (fun _ hk => ⟨hk.1.1.2, ⟨hk.1.2, ⟨hk.2, ⟨hk.1.1.1.1, ⟨hk.1.1.1.2.1, hk.1.1.1.2.2⟩⟩⟩⟩⟩)), (by (with_reducible repeat (first | apply Kd.R_alloc | apply Kd.R_drewN | apply Kd.R_drew)); exact Kd.R_mono HO_211003.out (fun _ hk => ⟨hk.1.1.2, ⟨hk.1.2, ⟨hk.2, ⟨hk.1.1.1.1, ⟨hk.1.1.1.2.1, hk.1.1.1.2.2⟩⟩⟩⟩⟩)), (by (with_reducible repeat (first | apply Kd.R_alloc | apply Kd.R_drewN | apply Kd.R_drew)); exact Kd.R_mono HO_219003.out (fun _ hk => ⟨hk.1.1.2, ⟨hk.1.2, ⟨hk.2, ⟨hk.1.1.1.1, ⟨hk.1.1.1.2.1, hk.1.1.1.2.2⟩⟩⟩⟩⟩)), (uK BK173), (uK BK174), (uK BK196), (uK BK203), (uK BK210), (uK BK218), (uK BK261), GW261.out, GE261.out, NB173_261.out, NB261_173.out, NB174_261.out, NB261_174.out, NB196_261.out, NB261_196.out, NB203_261.out, NB261_203.out, NB210_261.out, NB261_210.out, NB218_261.out, NB261_218.out, (uN HB)⟩)
         skip
         refine box_step ?hg (N := 15) ?hd (cs := #[.int .i64 0, .int .i64 0, .int .i64 0, .slice none 0 0]) (t := 26) ?hr ?_; (case hd => rfl); (case hg => rfl); (case hr => first | (go_simp; done) | (go_simp; rfl))
         intro gb261 hg w187 hbox hb
         replace HO_197003 := Aside0.mk (Kd.R_below (uR HO_197003) hb)
         replace HO_204003 := Aside0.mk (Kd.R_below (uR HO_204003) hb)
         replace HO_211003 := Aside0.mk (Kd.R_below (uR HO_211003) hb)
         replace HO_219003 := Aside0.mk (Kd.R_below (uR HO_219003) hb)
         have BK261 := Aside0.mk (hbox)
         have GW261 := nG HB hg
         have GE261 := nG HB hg
         have GI261 := gI GE261
         replace HB := Aside0.mk (below_step (uN HB) hb)
         have NB173_261 := nL BK173 hg
         have NB261_173 := nR BK173 hg
         replace BK173 := kB BK173 hb
         have NB174_261 := nL BK174 hg
         have NB261_174 := nR BK174 hg
         replace BK174 := kB BK174 hb
         have NB196_261 := nL BK196 hg
         have NB261_196 := nR BK196 hg
         replace BK196 := kB BK196 hb
         have NB203_261 := nL BK203 hg
         have NB261_203 := nR BK203 hg
         replace BK203 := kB BK203 hb
         have NB210_261 := nL BK210 hg
         have NB261_210 := nR BK210 hg
         replace BK210 := kB BK210 hb
         have NB218_261 := nL BK218 hg
         have NB261_218 := nR BK218 hg
         replace BK218 := kB BK218 hb
         clear hb hbox hg
         refine hK.out _ _ ⟨bc BK173 0, bc BK173 1, bc BK173 2, bc BK173 3, bc BK174 0, bc BK174 1, bc BK174 2, bc BK174 3⟩ (fun hHeld => ?_)
         clear hK K
         refine norm_ (a' := ?_) ?_ ?_
         rotate_left
         ·
          show Act.put _ (some 15) _ = _
          simp only [Act.put, setIfInBounds_toArray, set_cons_zero, set_cons_succ, i64_w, i32_w]
          rfl
         refine one_ (i := 1) (N := some 96) #[true, true, true, false, false, false, false, false, true, false, false] rfl rfl (one_of HT_.out (by kernel_rfl)) (by decide) (fun K hK => ?_)
         refine goes_ Try.func11 (by kernel_rfl) rfl #[.agg #[.int .i64 a0_0, .int .i64 a0_1, .int .i64 a0_2, .slice A0_3 l0_3.length c0_3]] (by rfl) rfl rfl (by (try simp only [List.map_toArray, List.map_cons, List.map_nil]); first | done | rfl) ?_
         with_reducible refine (laws_toTable.calls kj109 a0_0 a0_1 a0_2 _ _ l0_3 t242 t243 t244 t245 _ ?side1 ?side2 A173.out).mono ?_
         (case side1 => exact uC HR0_3 HB)
         (case side2 => exact HC0_3.out)
         rintro e w188 ⟨v246, rfl, ho0, hb⟩
         refine ⟨_, rfl, ?_⟩
         have HO247 := Aside0.mk (Kd.R_lower (Kd.R_new' (Kd.R_new' (Kd.R_new' (Kd.R_new' ho0 (Kd.R_lt (uR HO_197003))) (Kd.R_lt (uR HO_204003))) (Kd.R_lt (uR HO_211003))) (Kd.R_lt (uR HO_219003))) (below_size (uN HB)))
         replace HO_197003 := Aside0.mk (Kd.R_elder' (uR HO_197003) (Kd.R_base ho0) hb)
         replace HO_204003 := Aside0.mk (Kd.R_elder' (uR HO_204003) (Kd.R_base ho0) hb)
         replace HO_211003 := Aside0.mk (Kd.R_elder' (uR HO_211003) (Kd.R_base ho0) hb)
         replace HO_219003 := Aside0.mk (Kd.R_elder' (uR HO_219003) (Kd.R_base ho0) hb)
         replace BK173 := kB BK173 hb
         replace BK174 := kB BK174 hb
         replace BK196 := kB BK196 hb
         replace BK203 := kB BK203 hb
         replace BK210 := kB BK210 hb
         replace BK218 := kB BK218 hb
         replace BK261 := kB BK261 hb
         replace HB := Aside0.mk (below_step (uN HB) hb)
         (try clear hb)
         (try clear hb2)
         (try clear hk)
         (try clear hi)
         (try clear ho0)
         refine hK.out _ _ ⟨bc BK173 0, bc BK173 1, bc BK173 2, bc BK173 3, bc BK174 0, bc BK174 1, bc BK174 2, bc BK174 3⟩ (fun hHeld => ?_)
         clear hK K
         refine norm_ (a' := ?_) ?_ ?_
         rotate_left
         ·
          show Act.put _ (some 96) _ = _
          simp only [Act.put, setIfInBounds_toArray, set_cons_zero, set_cons_succ, i64_w, i32_w]
          rfl
         refine one_ (i := 3) (N := some 98) #[true, true, true, true, false, false, false, false, true, false, false] rfl rfl (one_of HT_.out (by kernel_rfl)) (by decide) (fun K hK => ?_)
         refine goes_ Try.func11 (by kernel_rfl) rfl #[.agg #[.int .i64 a1_0, .int .i64 a1_1, .int .i64 a1_2, .slice A1_3 l1_3.length c1_3]] (by rfl) rfl rfl (by (try simp only [List.map_toArray, List.map_cons, List.map_nil]); first | done | rfl) ?_
         with_reducible refine (laws_toTable.calls kj109 a1_0 a1_1 a1_2 _ _ l1_3 t248 t249 t250 t251 _ ?side1 ?side2 A174.out).mono ?_
         (case side1 => exact uC HR1_3 HB)
         (case side2 => exact HC1_3.out)
         rintro e w189 ⟨v252, rfl, ho0, hb⟩
         refine ⟨_, rfl, ?_⟩
         have HO253 := Aside0.mk (Kd.R_lower (Kd.R_new' (Kd.R_new' (Kd.R_new' (Kd.R_new' (Kd.R_new' ho0 (Kd.R_lt (uR HO_197003))) (Kd.R_lt (uR HO_204003))) (Kd.R_lt (uR HO_211003))) (Kd.R_lt (uR HO_219003))) (Kd.R_lt (uR HO247))) (below_size (uN HB)))
         replace HO_197003 := Aside0.mk (Kd.R_elder' (uR HO_197003) (Kd.R_base ho0) hb)
         replace HO_204003 := Aside0.mk (Kd.R_elder' (uR HO_204003) (Kd.R_base ho0) hb)
         replace HO_211003 := Aside0.mk (Kd.R_elder' (uR HO_211003) (Kd.R_base ho0) hb)
         replace HO_219003 := Aside0.mk (Kd.R_elder' (uR HO_219003) (Kd.R_base ho0) hb)
         replace HO247 := Aside0.mk (Kd.R_elder' (uR HO247) (Kd.R_base ho0) hb)
         replace BK173 := kB BK173 hb
         replace BK174 := kB BK174 hb
         replace BK196 := kB BK196 hb
         replace BK203 := kB BK203 hb
         replace BK210 := kB BK210 hb
         replace BK218 := kB BK218 hb
         replace BK261 := kB BK261 hb
         replace HB := Aside0.mk (below_step (uN HB) hb)
         (try clear hb)
         (try clear hb2)
         (try clear hk)
         (try clear hi)
         (try clear ho0)
         obtain ⟨Ao190, co190, eo190⟩ := Kd.R_slice HO247.out
         (first | subst eo190 | (injection eo190 with f1_ f2_ f3_; have f4_ := f1_.symm; have f5_ := f3_.symm; clear f1_ f2_ f3_; subst f4_; subst f5_))
         obtain ⟨Ao191, co191, eo191⟩ := Kd.R_slice HO253.out
         (first | subst eo191 | (injection eo191 with f1_ f2_ f3_; have f4_ := f1_.symm; have f5_ := f3_.symm; clear f1_ f2_ f3_; subst f4_; subst f5_))
         refine hK.out _ _ ⟨bc BK173 0, bc BK173 1, bc BK173 2, bc BK173 3, bc BK174 0, bc BK174 1, bc BK174 2, bc BK174 3⟩ (fun hHeld => ?_)
         clear hK K
         refine norm_ (a' := ?_) ?_ ?_
         rotate_left
         ·
          show Act.put _ (some 98) _ = _
          simp only [Act.put, setIfInBounds_toArray, set_cons_zero, set_cons_succ, i64_w, i32_w]
          rfl
         refine one_ (i := 4) (N := some 99) #[true, true, true, true, true, false, false, false, true, false, false] rfl rfl (one_of HT_.out (by kernel_rfl)) (by decide) (fun K hK => ?_)
         refine goes_ Try.func12 (by kernel_rfl) rfl #[.agg #[.int .i64 t242, .int .i64 t243, .int .i64 t244, .slice Ao190 t245.length co190], .agg #[.int .i64 t248, .int .i64 t249, .int .i64 t250, .slice Ao191 t251.length co191]] (by rfl) rfl rfl (by (try simp only [List.map_toArray, List.map_cons, List.map_nil]); first | done | rfl) ?_
         with_reducible refine (impl_AddTables.calls kj109 t242 t243 t244 _ _ t245 t248 t249 t250 _ _ t251 t254 t255 t256 t257 t260 _ ?side1 ?side2 ?side3 ?side4 A175.out).mono ?_
         (case side1 => exact uD HO247)
         (case side2 => exact (Kd.R_reads' HO247.out).2.1)
         (case side3 => exact uD HO253)
         (case side4 => exact (Kd.R_reads' HO253.out).2.1)
         rintro e w192 ⟨v258, rfl, ho0, hb⟩
         refine ⟨_, rfl, ?_⟩
         have HO259 := Aside0.mk (Kd.R_lower (Kd.R_new' (Kd.R_new' (Kd.R_new' (Kd.R_new' (Kd.R_new' (Kd.R_new' ho0 (Kd.R_lt (uR HO_197003))) (Kd.R_lt (uR HO_204003))) (Kd.R_lt (uR HO_211003))) (Kd.R_lt (uR HO_219003))) (Kd.R_lt (uR HO247))) (Kd.R_lt (uR HO253))) (below_size (uN HB)))
         replace HO_197003 := Aside0.mk (Kd.R_elder' (uR HO_197003) (Kd.R_base ho0) hb)
         replace HO_204003 := Aside0.mk (Kd.R_elder' (uR HO_204003) (Kd.R_base ho0) hb)
         replace HO_211003 := Aside0.mk (Kd.R_elder' (uR HO_211003) (Kd.R_base ho0) hb)
         replace HO_219003 := Aside0.mk (Kd.R_elder' (uR HO_219003) (Kd.R_base ho0) hb)
         replace HO247 := Aside0.mk (Kd.R_elder' (uR HO247) (Kd.R_base ho0) hb)
         replace HO253 := Aside0.mk (Kd.R_elder' (uR HO253) (Kd.R_base ho0) hb)
         replace BK173 := kB BK173 hb
         replace BK174 := kB BK174 hb
         replace BK196 := kB BK196 hb
         replace BK203 := kB BK203 hb
         replace BK210 := kB BK210 hb
         replace BK218 := kB BK218 hb
         replace BK261 := kB BK261 hb
         replace HB := Aside0.mk (below_step (uN HB) hb)
         (try clear hb)
         (try clear hb2)
         (try clear hk)
         (try clear hi)
         (try clear ho0)
         refine hK.out _ _ ⟨bc BK173 0, bc BK173 1, bc BK173 2, bc BK173 3, bc BK174 0, bc BK174 1, bc BK174 2, bc BK174 3⟩ (fun hHeld => ?_)
         clear hK K
         refine norm_ (a' := ?_) ?_ ?_
         rotate_left
         ·
          show Act.put _ (some 99) _ = _
          simp only [Act.put, setIfInBounds_toArray, set_cons_zero, set_cons_succ, i64_w, i32_w]
          rfl
         refine pure_ (i := 5) (N := some 94) (v := ?_) (a' := ?_) #[true, true, true, true, true, true, false, false, true, false, false] rfl rfl (any_of HT_.out (by kernel_rfl)) (fun _ _ _ h => h) (Or.inl ⟨by rfl, ?_⟩) ?_ ?_
         rotate_left
         ·
          intro w'
          go_simp
          with_reducible rfl
         rotate_left
         ·
          simp only [Act.put, setIfInBounds_toArray, set_cons_zero, set_cons_succ, i64_w, i32_w]
          rfl
         refine pure_ (i := 6) (N := some 100) (v := ?_) (a' := ?_) #[true, true, true, true, true, true, true, false, true, false, false] rfl rfl (any_of HT_.out (by kernel_rfl)) (fun _ _ _ h => h) (Or.inl ⟨by rfl, ?_⟩) ?_ ?_
         rotate_left
         ·
          intro w'
          go_simp
          with_reducible rfl
         rotate_left
         ·
          simp only [Act.put, setIfInBounds_toArray, set_cons_zero, set_cons_succ, i64_w, i32_w]
          rfl
         refine pure_ (i := 7) (N := some 101) (v := ?_) (a' := ?_) #[true, true, true, true, true, true, true, true, true, false, false] rfl rfl (any_of HT_.out (by kernel_rfl)) (fun _ _ _ h => h) (Or.inl ⟨by rfl, ?_⟩) ?_ ?_
         rotate_left
         ·
          intro w'
          go_simp
          with_reducible rfl
         rotate_left
         ·
          simp only [Act.put, setIfInBounds_toArray, set_cons_zero, set_cons_succ, i64_w, i32_w]
          rfl
         exact norm_ (by simp only [putAll, Act.put, setIfInBounds_toArray, set_cons_zero, set_cons_succ]) (hCont (.slice Ao190 t245.length co190, .slice Ao191 t251.length co191, v258, gb261) _ ⟨hHeld, (by (with_reducible repeat (first | apply Kd.R_alloc | apply Kd.R_drewN | apply Kd.R_drew)); exact Kd.R_mono HO247.out (fun _ hk => ⟨hk.1.2, ⟨hk.2, ⟨hk.1.1.1.1.1.2, ⟨hk.1.1.1.1.2, ⟨hk.1.1.1.2, hk.1.1.2⟩⟩⟩⟩⟩)), (by (with_reducible repeat (first | apply Kd.R_alloc | apply Kd.R_drewN | apply Kd.R_drew)); exact Kd.R_mono HO253.out (fun _ hk => ⟨hk.1.2, ⟨hk.2, ⟨hk.1.1.1.1.1.2, ⟨hk.1.1.1.1.2, ⟨hk.1.1.1.2, hk.1.1.2⟩⟩⟩⟩⟩)), (by (with_reducible repeat (first | apply Kd.R_alloc | apply Kd.R_drewN | apply Kd.R_drew)); exact Kd.R_mono HO259.out (fun _ hk => ⟨hk.1.2, ⟨hk.2, ⟨hk.1.1.1.1.1.2, ⟨hk.1.1.1.1.2, ⟨hk.1.1.1.2, hk.1.1.2⟩⟩⟩⟩⟩)), (by (with_reducible repeat (first | apply Kd.R_alloc | apply Kd.R_drewN | apply Kd.R_drew)); exact Kd.R_mono HO_197003.out (fun _ hk => ⟨hk.1.1.2, ⟨hk.1.2, ⟨hk.2, ⟨hk.1.1.1.1, ⟨hk.1.1.1.2.1, hk.1.1.1.2.2⟩⟩⟩⟩⟩)), (by (with_reducible repeat (first | apply Kd.R_alloc | apply Kd.R_drewN | apply Kd.R_drew)); exact Kd.R_mono HO_204003.out (fun _ hk => ⟨hk.1.1.2, ⟨hk.1.2, ⟨hk.2, ⟨hk.1.1.1.1, ⟨hk.1.1.1.2.1, hk.1.1.1.2.2⟩⟩⟩⟩⟩)), (by (with_reducible repeat (first | apply Kd.R_alloc | apply Kd.R_drewN | apply Kd.R_drew)); exact Kd.R_mono HO_211003.out (fun _ hk => ⟨hk.1.1.2, ⟨hk.1.2, ⟨hk.2, ⟨hk.1.1.1.1, ⟨hk.1.1.1.2.1, hk.1.1.1.2.2⟩⟩⟩⟩⟩)), (by (with_reducible repeat (first | apply Kd.R_alloc | apply Kd.R_drewN | apply Kd.R_drew)); exact Kd.R_mono HO_219003.out (fun _ hk => ⟨hk.1.1.2, ⟨hk.1.2, ⟨hk.2, ⟨hk.1.1.1.1, ⟨hk.1.1.1.2.1, hk.1.1.1.2.2⟩⟩⟩⟩⟩)), (uK BK173), (uK BK174), (uK BK196), (uK BK203), (uK BK210), (uK BK218), (uK BK261), GW261.out, GE261.out, NB173_261.out, NB261_173.out, NB174_261.out, NB261_174.out, NB196_261.out, NB261_196.out, NB203_261.out, NB261_203.out, NB210_261.out, NB261_210.out, NB218_261.out, NB261_218.out, (uN HB)⟩)
        rintro ⟨v246, v252, v258, gb261⟩ w193 ⟨hS_, h0_, h1_, h2_, h3_, h4_, h5_, h6_, h7_, h8_, h9_, h10_, h11_, h12_, h13_, h14_, h15_, h16_, h17_, h18_, h19_, h20_, h21_, h22_, h23_, h24_, h25_, h26_, h27_, h28_⟩
        have n0_ : Aside0 (Kd.R (Kd.int .i64) 3 w193 w.heap.size (fun k_ => some k_ ≠ (v252 : Value).ownBlock ∧ some k_ ≠ (v258 : Value).ownBlock ∧ some k_ ≠ (.slice Ao44 t192.length co44 : Value).ownBlock ∧ some k_ ≠ (.slice Ao54 t235.length co54 : Value).ownBlock ∧ some k_ ≠ (.slice Ao64 t237.length co64 : Value).ownBlock ∧ some k_ ≠ (.slice Ao74 t214.length co74 : Value).ownBlock) v246 t245) := ⟨h0_⟩
        have n1_ : Aside0 (Kd.R (Kd.int .i64) 3 w193 w.heap.size (fun k_ => some k_ ≠ (v246 : Value).ownBlock ∧ some k_ ≠ (v258 : Value).ownBlock ∧ some k_ ≠ (.slice Ao44 t192.length co44 : Value).ownBlock ∧ some k_ ≠ (.slice Ao54 t235.length co54 : Value).ownBlock ∧ some k_ ≠ (.slice Ao64 t237.length co64 : Value).ownBlock ∧ some k_ ≠ (.slice Ao74 t214.length co74 : Value).ownBlock) v252 t251) := ⟨h1_⟩
        have n2_ : Aside0 (Kd.R (Kd.int .i64) 3 w193 w.heap.size (fun k_ => some k_ ≠ (v246 : Value).ownBlock ∧ some k_ ≠ (v252 : Value).ownBlock ∧ some k_ ≠ (.slice Ao44 t192.length co44 : Value).ownBlock ∧ some k_ ≠ (.slice Ao54 t235.length co54 : Value).ownBlock ∧ some k_ ≠ (.slice Ao64 t237.length co64 : Value).ownBlock ∧ some k_ ≠ (.slice Ao74 t214.length co74 : Value).ownBlock) v258 t257) := ⟨h2_⟩
        have n3_ : Aside0 (Kd.R (Kd.int .i64) 3 w193 w.heap.size (fun k_ => some k_ ≠ (v246 : Value).ownBlock ∧ some k_ ≠ (v252 : Value).ownBlock ∧ some k_ ≠ (v258 : Value).ownBlock ∧ some k_ ≠ (.slice Ao54 t235.length co54 : Value).ownBlock ∧ some k_ ≠ (.slice Ao64 t237.length co64 : Value).ownBlock ∧ some k_ ≠ (.slice Ao74 t214.length co74 : Value).ownBlock) (.slice Ao44 t192.length co44) t192) := ⟨h3_⟩
        have n4_ : Aside0 (Kd.R (Kd.int .i64) 3 w193 w.heap.size (fun k_ => some k_ ≠ (v246 : Value).ownBlock ∧ some k_ ≠ (v252 : Value).ownBlock ∧ some k_ ≠ (v258 : Value).ownBlock ∧ some k_ ≠ (.slice Ao44 t192.length co44 : Value).ownBlock ∧ some k_ ≠ (.slice Ao64 t237.length co64 : Value).ownBlock ∧ some k_ ≠ (.slice Ao74 t214.length co74 : Value).ownBlock) (.slice Ao54 t235.length co54) t235) := ⟨h4_⟩
        have n5_ : Aside0 (Kd.R (Kd.int .i64) 3 w193 w.heap.size (fun k_ => some k_ ≠ (v246 : Value).ownBlock ∧ some k_ ≠ (v252 : Value).ownBlock ∧ some k_ ≠ (v258 : Value).ownBlock ∧ some k_ ≠ (.slice Ao44 t192.length co44 : Value).ownBlock ∧ some k_ ≠ (.slice Ao54 t235.length co54 : Value).ownBlock ∧ some k_ ≠ (.slice Ao74 t214.length co74 : Value).ownBlock) (.slice Ao64 t237.length co64) t237) := ⟨h5_⟩
        have n6_ : Aside0 (Kd.R (Kd.int .i64) 3 w193 w.heap.size (fun k_ => some k_ ≠ (v246 : Value).ownBlock ∧ some k_ ≠ (v252 : Value).ownBlock ∧ some k_ ≠ (v258 : Value).ownBlock ∧ some k_ ≠ (.slice Ao44 t192.length co44 : Value).ownBlock ∧ some k_ ≠ (.slice Ao54 t235.length co54 : Value).ownBlock ∧ some k_ ≠ (.slice Ao64 t237.length co64 : Value).ownBlock) (.slice Ao74 t214.length co74) t240) := ⟨h6_⟩
        have n7_ : Aside0 (w193.heap[gb173]? = some (.cells #[.int .i64 a0_0, .int .i64 a0_1, .int .i64 a0_2, .slice A0_3 l0_3.length c0_3] 24 (0, 0))) := ⟨h7_⟩
        have n8_ : Aside0 (w193.heap[gb174]? = some (.cells #[.int .i64 a1_0, .int .i64 a1_1, .int .i64 a1_2, .slice A1_3 l1_3.length c1_3] 24 (0, 0))) := ⟨h8_⟩
        have n9_ : Aside0 (w193.heap[gb196]? = some (.cells #[.int .i64 t189, .int .i64 t190, .int .i64 t191, .slice Ao44 t192.length co44] 26 (0, 0))) := ⟨h9_⟩
        have n10_ : Aside0 (w193.heap[gb203]? = some (.cells #[.int .i64 t197, .int .i64 t198, .int .i64 t199, .slice Ao54 t235.length co54] 26 (0, 0))) := ⟨h10_⟩
        have n11_ : Aside0 (w193.heap[gb210]? = some (.cells #[.int .i64 t204, .int .i64 t205, .int .i64 t206, .slice Ao64 t237.length co64] 26 (0, 0))) := ⟨h11_⟩
        have n12_ : Aside0 (w193.heap[gb218]? = some (.cells #[.int .i64 t211, .int .i64 t212, .int .i64 t213, .slice Ao74 t214.length co74] 26 (0, 0))) := ⟨h12_⟩
        have n13_ : Aside0 (w193.heap[gb261]? = some (.cells #[.int .i64 0, .int .i64 0, .int .i64 0, .slice none 0 0] 26 (0, 0))) := ⟨h13_⟩
        have n14_ : Aside0 (w.heap.size ≤ gb261) := ⟨h14_⟩
        have n15_ : Aside0 (w.heap.size ≤ gb261) := ⟨h15_⟩
        have n16_ : Aside0 (gb173 ≠ gb261) := ⟨h16_⟩
        have n17_ : Aside0 (gb261 ≠ gb173) := ⟨h17_⟩
        have n18_ : Aside0 (gb174 ≠ gb261) := ⟨h18_⟩
        have n19_ : Aside0 (gb261 ≠ gb174) := ⟨h19_⟩
        have n20_ : Aside0 (gb196 ≠ gb261) := ⟨h20_⟩
        have n21_ : Aside0 (gb261 ≠ gb196) := ⟨h21_⟩
        have n22_ : Aside0 (gb203 ≠ gb261) := ⟨h22_⟩
        have n23_ : Aside0 (gb261 ≠ gb203) := ⟨h23_⟩
        have n24_ : Aside0 (gb210 ≠ gb261) := ⟨h24_⟩
        have n25_ : Aside0 (gb261 ≠ gb210) := ⟨h25_⟩
        have n26_ : Aside0 (gb218 ≠ gb261) := ⟨h26_⟩
        have n27_ : Aside0 (gb261 ≠ gb218) := ⟨h27_⟩
        have n28_ : Aside0 (Below w.heap.size w w193) := ⟨h28_⟩
        clear HO_197003
        clear HO_204003
        clear HO_211003
        clear HO_219003
        clear BK173
        clear BK174
        clear BK196
        clear BK203
        clear BK210
        clear BK218
        clear HB
        clear h0_ h1_ h2_ h3_ h4_ h5_ h6_ h7_ h8_ h9_ h10_ h11_ h12_ h13_ h14_ h15_ h16_ h17_ h18_ h19_ h20_ h21_ h22_ h23_ h24_ h25_ h26_ h27_ h28_
        have HO247 := n0_
        have HO253 := n1_
        have HO259 := n2_
        have HO_197003 := n3_
        have HO_204003 := n4_
        have HO_211003 := n5_
        have HO_219003 := n6_
        have BK173 := n7_
        have BK174 := n8_
        have BK196 := n9_
        have BK203 := n10_
        have BK210 := n11_
        have BK218 := n12_
        have BK261 := n13_
        have GW261 := n14_
        have GE261 := n15_
        have GI261 := gI GE261
        have NB173_261 := n16_
        have NB261_173 := n17_
        have NB174_261 := n18_
        have NB261_174 := n19_
        have NB196_261 := n20_
        have NB261_196 := n21_
        have NB203_261 := n22_
        have NB261_203 := n23_
        have NB210_261 := n24_
        have NB261_210 := n25_
        have NB218_261 := n26_
        have NB261_218 := n27_
        have HB := n28_
        clear n0_ n1_ n2_ n3_ n4_ n5_ n6_ n7_ n8_ n9_ n10_ n11_ n12_ n13_ n14_ n15_ n16_ n17_ n18_ n19_ n20_ n21_ n22_ n23_ n24_ n25_ n26_ n27_ n28_
        have hHeld : w193.cell? ⟨gb173, 0, none⟩ = some (.int .i64 a0_0) ∧ w193.cell? ⟨gb173, 1, none⟩ = some (.int .i64 a0_1) ∧ w193.cell? ⟨gb173, 2, none⟩ = some (.int .i64 a0_2) ∧ w193.cell? ⟨gb173, 3, none⟩ = some (.slice A0_3 l0_3.length c0_3) ∧ w193.cell? ⟨gb174, 0, none⟩ = some (.int .i64 a1_0) ∧ w193.cell? ⟨gb174, 1, none⟩ = some (.int .i64 a1_1) ∧ w193.cell? ⟨gb174, 2, none⟩ = some (.int .i64 a1_2) ∧ w193.cell? ⟨gb174, 3, none⟩ = some (.slice A1_3 l1_3.length c1_3) := hS_
        obtain ⟨Ao197, co197, eo197⟩ := Kd.R_slice HO259.out
        (first | subst eo197 | (injection eo197 with f1_ f2_ f3_; have f4_ := f1_.symm; have f5_ := f3_.symm; clear f1_ f2_ f3_; subst f4_; subst f5_))
        refine norm_ (a' := ?_) ?_ ?_
        rotate_left
        ·
         simp only [putAll, Act.put, setIfInBounds_toArray, set_cons_zero, set_cons_succ]
         rfl
        refine one_ (i := 9) (N := none) #[true, true, true, true, true, true, true, true, true, true, false] rfl rfl (one_of HT_.out (by kernel_rfl)) (by decide) (fun K hK => ?_)
        have hs194 : w193.cell? ⟨gb261, 0, none⟩ = some (.int .i64 0) := bc BK261 0
        have hfs194 := blk_frozen BK261.out 0
        have hns194_0 := NB173_261.out
        have hns194_1 := NB174_261.out
        have hns194_2 := NB196_261.out
        have hns194_3 := NB203_261.out
        have hns194_4 := NB210_261.out
        have hns194_5 := NB218_261.out
        have hms194_0 := NB261_173.out
        have hms194_1 := NB261_174.out
        have hms194_2 := NB261_196.out
        have hms194_3 := NB261_203.out
        have hms194_4 := NB261_210.out
        have hms194_5 := NB261_218.out
        have hs195 : w193.cell? ⟨gb261, 1, none⟩ = some (.int .i64 0) := bc BK261 1
        have hfs195 := blk_frozen BK261.out 1
        have hns195_0 := NB173_261.out
        have hns195_1 := NB174_261.out
        have hns195_2 := NB196_261.out
        have hns195_3 := NB203_261.out
        have hns195_4 := NB210_261.out
        have hns195_5 := NB218_261.out
        have hms195_0 := NB261_173.out
        have hms195_1 := NB261_174.out
        have hms195_2 := NB261_196.out
        have hms195_3 := NB261_203.out
        have hms195_4 := NB261_210.out
        have hms195_5 := NB261_218.out
        have hs196 : w193.cell? ⟨gb261, 2, none⟩ = some (.int .i64 0) := bc BK261 2
        have hfs196 := blk_frozen BK261.out 2
        have hns196_0 := NB173_261.out
        have hns196_1 := NB174_261.out
        have hns196_2 := NB196_261.out
        have hns196_3 := NB203_261.out
        have hns196_4 := NB210_261.out
        have hns196_5 := NB218_261.out
        have hms196_0 := NB261_173.out
        have hms196_1 := NB261_174.out
        have hms196_2 := NB261_196.out
        have hms196_3 := NB261_203.out
        have hms196_4 := NB261_210.out
        have hms196_5 := NB261_218.out
        have hs198 : w193.cell? ⟨gb261, 3, none⟩ = some (.slice none 0 0) := bc BK261 3
        have hfs198 := blk_frozen BK261.out 3
        have hns198_0 := NB173_261.out
        have hns198_1 := NB174_261.out
        have hns198_2 := NB196_261.out
        have hns198_3 := NB203_261.out
        have hns198_4 := NB210_261.out
        have hns198_5 := NB218_261.out
        have hms198_0 := NB261_173.out
        have hms198_1 := NB261_174.out
        have hms198_2 := NB261_196.out
        have hms198_3 := NB261_203.out
        have hms198_4 := NB261_210.out
        have hms198_5 := NB261_218.out
        refine skip_ (w1 := ?_) (by rfl) rfl ?_ ?_
        rotate_left
        ·
         go_simp
         rfl
        refine hK.out _ _ ⟨((cell_far (p := ⟨gb261, _, none⟩) NB173_261.out _).trans (((cell_far (p := ⟨gb261, _, none⟩) NB173_261.out _).trans (((cell_far (p := ⟨gb261, _, none⟩) NB173_261.out _).trans (((cell_far (p := ⟨gb261, _, none⟩) NB173_261.out _).trans (hHeld.1)))))))), ((cell_far (p := ⟨gb261, _, none⟩) NB173_261.out _).trans (((cell_far (p := ⟨gb261, _, none⟩) NB173_261.out _).trans (((cell_far (p := ⟨gb261, _, none⟩) NB173_261.out _).trans (((cell_far (p := ⟨gb261, _, none⟩) NB173_261.out _).trans (hHeld.2.1)))))))), ((cell_far (p := ⟨gb261, _, none⟩) NB173_261.out _).trans (((cell_far (p := ⟨gb261, _, none⟩) NB173_261.out _).trans (((cell_far (p := ⟨gb261, _, none⟩) NB173_261.out _).trans (((cell_far (p := ⟨gb261, _, none⟩) NB173_261.out _).trans (hHeld.2.2.1)))))))), ((cell_far (p := ⟨gb261, _, none⟩) NB173_261.out _).trans (((cell_far (p := ⟨gb261, _, none⟩) NB173_261.out _).trans (((cell_far (p := ⟨gb261, _, none⟩) NB173_261.out _).trans (((cell_far (p := ⟨gb261, _, none⟩) NB173_261.out _).trans (hHeld.2.2.2.1)))))))), ((cell_far (p := ⟨gb261, _, none⟩) NB174_261.out _).trans (((cell_far (p := ⟨gb261, _, none⟩) NB174_261.out _).trans (((cell_far (p := ⟨gb261, _, none⟩) NB174_261.out _).trans (((cell_far (p := ⟨gb261, _, none⟩) NB174_261.out _).trans (hHeld.2.2.2.2.1)))))))), ((cell_far (p := ⟨gb261, _, none⟩) NB174_261.out _).trans (((cell_far (p := ⟨gb261, _, none⟩) NB174_261.out _).trans (((cell_far (p := ⟨gb261, _, none⟩) NB174_261.out _).trans (((cell_far (p := ⟨gb261, _, none⟩) NB174_261.out _).trans (hHeld.2.2.2.2.2.1)))))))), ((cell_far (p := ⟨gb261, _, none⟩) NB174_261.out _).trans (((cell_far (p := ⟨gb261, _, none⟩) NB174_261.out _).trans (((cell_far (p := ⟨gb261, _, none⟩) NB174_261.out _).trans (((cell_far (p := ⟨gb261, _, none⟩) NB174_261.out _).trans (hHeld.2.2.2.2.2.2.1)))))))), ((cell_far (p := ⟨gb261, _, none⟩) NB174_261.out _).trans (((cell_far (p := ⟨gb261, _, none⟩) NB174_261.out _).trans (((cell_far (p := ⟨gb261, _, none⟩) NB174_261.out _).trans (((cell_far (p := ⟨gb261, _, none⟩) NB174_261.out _).trans (hHeld.2.2.2.2.2.2.2))))))))⟩ (fun hHeld => ?_)
        clear hK K
        refine pure_ (i := 10) (N := some 16) (v := ?_) (a' := ?_) #[true, true, true, true, true, true, true, true, true, true, true] rfl rfl (any_of HT_.out (by kernel_rfl)) (fun _ _ _ h => h) (Or.inl ⟨by rfl, ?_⟩) ?_ ?_
        rotate_left
        ·
         intro w'
         go_simp
         with_reducible rfl
        rotate_left
        ·
         simp only [Act.put, setIfInBounds_toArray, set_cons_zero, set_cons_succ, i64_w, i32_w]
         rfl
        refine done_ (done_of HT_.out (by kernel_rfl)) ?_
        go_upto_region 32 with (fail)
        go_cut [110] (fun v110 wc => ∃ (kq : Nat) (x110_175 : Bool), v110 = .bool x110_175 ∧ Aside0 (laws_FnExactAddTables.j2 kq t239 x110_175 t211 t212 t213 t240 = some r) ∧ Aside0 (kq ≤ kj109) ∧ Aside0 (Kd.R (Kd.int .i64) 3 wc w.heap.size (fun k_ => some k_ ≠ ((.slice Ao54 t235.length co54) : Value).ownBlock ∧ some k_ ≠ ((.slice Ao64 t237.length co64) : Value).ownBlock ∧ some k_ ≠ ((.slice Ao74 t214.length co74) : Value).ownBlock ∧ some k_ ≠ ((.slice Ao197 t257.length co197) : Value).ownBlock) (.slice Ao44 t192.length co44) t192) ∧ Aside0 (Kd.R (Kd.int .i64) 3 wc w.heap.size (fun k_ => some k_ ≠ ((.slice Ao44 t192.length co44) : Value).ownBlock ∧ some k_ ≠ ((.slice Ao64 t237.length co64) : Value).ownBlock ∧ some k_ ≠ ((.slice Ao74 t214.length co74) : Value).ownBlock ∧ some k_ ≠ ((.slice Ao197 t257.length co197) : Value).ownBlock) (.slice Ao54 t235.length co54) t235) ∧ Aside0 (Kd.R (Kd.int .i64) 3 wc w.heap.size (fun k_ => some k_ ≠ ((.slice Ao44 t192.length co44) : Value).ownBlock ∧ some k_ ≠ ((.slice Ao54 t235.length co54) : Value).ownBlock ∧ some k_ ≠ ((.slice Ao74 t214.length co74) : Value).ownBlock ∧ some k_ ≠ ((.slice Ao197 t257.length co197) : Value).ownBlock) (.slice Ao64 t237.length co64) t237) ∧ Aside0 (Kd.R (Kd.int .i64) 3 wc w.heap.size (fun k_ => some k_ ≠ ((.slice Ao44 t192.length co44) : Value).ownBlock ∧ some k_ ≠ ((.slice Ao54 t235.length co54) : Value).ownBlock ∧ some k_ ≠ ((.slice Ao64 t237.length co64) : Value).ownBlock ∧ some k_ ≠ ((.slice Ao197 t257.length co197) : Value).ownBlock) (.slice Ao74 t214.length co74) t240) ∧ Aside0 (Kd.R (Kd.int .i64) 3 wc w.heap.size (fun k_ => some k_ ≠ ((.slice Ao44 t192.length co44) : Value).ownBlock ∧ some k_ ≠ ((.slice Ao54 t235.length co54) : Value).ownBlock ∧ some k_ ≠ ((.slice Ao64 t237.length co64) : Value).ownBlock ∧ some k_ ≠ ((.slice Ao74 t214.length co74) : Value).ownBlock) (.slice Ao197 t257.length co197) t257) ∧ Aside0 (wc.heap[gb173]? = some (.cells #[.int .i64 a0_0, .int .i64 a0_1, .int .i64 a0_2, (.slice A0_3 l0_3.length c0_3)] 24 (0, 0))) ∧ Aside0 (wc.heap[gb174]? = some (.cells #[.int .i64 a1_0, .int .i64 a1_1, .int .i64 a1_2, (.slice A1_3 l1_3.length c1_3)] 24 (0, 0))) ∧ Aside0 (wc.heap[gb196]? = some (.cells #[.int .i64 t189, .int .i64 t190, .int .i64 t191, (.slice Ao44 t192.length co44)] 26 (0, 0))) ∧ Aside0 (wc.heap[gb203]? = some (.cells #[.int .i64 t197, .int .i64 t198, .int .i64 t199, (.slice Ao54 t235.length co54)] 26 (0, 0))) ∧ Aside0 (wc.heap[gb210]? = some (.cells #[.int .i64 t204, .int .i64 t205, .int .i64 t206, (.slice Ao64 t237.length co64)] 26 (0, 0))) ∧ Aside0 (wc.heap[gb218]? = some (.cells #[.int .i64 t211, .int .i64 t212, .int .i64 t213, (.slice Ao74 t214.length co74)] 26 (0, 0))) ∧ Aside0 (wc.heap[gb261]? = some (.cells #[.int .i64 t254, .int .i64 t255, .int .i64 t256, (.slice Ao197 t257.length co197)] 26 (0, 0))) ∧ Aside0 (Below w.heap.size w wc))
        case first =>
         have H := HC176.out
         clear HC176
         replace H := Option.bind_eq_some_iff.mp H
         obtain ⟨t262, A1990, H⟩ := H
         try dsimp only at H
         have A199 := Aside0.mk A1990
         clear A1990
         by_cases c200 : t262 = true
         ·
          subst c200
          rw [if_pos rfl] at H
          have H' := Aside0.mk H
          clear H
          have hnb201 := NB261_173.out
          have hnc201 := NB173_261.out
          have hnb202 := NB261_174.out
          have hnc202 := NB174_261.out
          have hnb203 := NB261_196.out
          have hnc203 := NB196_261.out
          have hnb204 := NB261_203.out
          have hnc204 := NB203_261.out
          have hnb205 := NB261_210.out
          have hnc205 := NB210_261.out
          have hnb206 := NB261_218.out
          have hnc206 := NB218_261.out
          obtain ⟨hcz207_0, hcz207_1, hcz207_2, hcz207_3, hfz207_0, hfz207_1, hfz207_2, hfz207_3⟩ := ce4 BK261
          have hnb208 := NB196_173.out
          have hnc208 := NB173_196.out
          have hnb209 := NB196_174.out
          have hnc209 := NB174_196.out
          have hnb210 := NB196_203.out
          have hnc210 := NB203_196.out
          have hnb211 := NB196_210.out
          have hnc211 := NB210_196.out
          have hnb212 := NB196_218.out
          have hnc212 := NB218_196.out
          obtain ⟨hcz213_0, hcz213_1, hcz213_2, hcz213_3, hfz213_0, hfz213_1, hfz213_2, hfz213_3⟩ := ce4 BK196
          go_wp2_with (first | ((with_reducible refine gate_callee (f := 13) rfl ?_); refine goesL_ (some 104) rfl rfl Try.func13 (by kernel_rfl) rfl #[.agg #[.int .i64 t254, .int .i64 t255, .int .i64 t256, .slice Ao197 t257.length co197], .agg #[.int .i64 t189, .int .i64 t190, .int .i64 t191, .slice Ao44 t192.length co44]] rfl (by (try simp only [List.map_toArray, List.map_cons, List.map_nil]); first | done | rfl) ?_; (with_reducible refine (laws_eqTable.calls kj109 t254 t255 t256 _ _ t257 t189 t190 t191 _ _ t192 true _ ?side1 ?side2 ?side3 ?side4 A199.out).mono ?_); (case side1 => refine (Kd.R_reads' (e := 3) (base := w.heap.size) (ok := fun k_ => (some k_ ≠ (v246 : Value).ownBlock ∧ (some k_ ≠ (v252 : Value).ownBlock ∧ (some k_ ≠ (.slice Ao44 t192.length co44 : Value).ownBlock ∧ (some k_ ≠ (.slice Ao54 t235.length co54 : Value).ownBlock ∧ (some k_ ≠ (.slice Ao64 t237.length co64 : Value).ownBlock ∧ some k_ ≠ (.slice Ao74 t214.length co74 : Value).ownBlock)))))) (n := t257.length) (c := co197) ?_).2.2; exact (fS HO259 BK261 (by decide))); (case side2 => exact (Kd.R_reads' HO259.out).2.1); (case side3 => refine (Kd.R_reads' (e := 3) (base := w.heap.size) (ok := fun k_ => (some k_ ≠ (v246 : Value).ownBlock ∧ (some k_ ≠ (v252 : Value).ownBlock ∧ (some k_ ≠ (.slice Ao197 t257.length co197 : Value).ownBlock ∧ (some k_ ≠ (.slice Ao54 t235.length co54 : Value).ownBlock ∧ (some k_ ≠ (.slice Ao64 t237.length co64 : Value).ownBlock ∧ some k_ ≠ (.slice Ao74 t214.length co74 : Value).ownBlock)))))) (n := t192.length) (c := co44) ?_).2.2; exact (fS HO_197003 BK261 (by decide))); (case side4 => exact (Kd.R_reads' HO_197003.out).2.1); rintro e w214 ⟨rfl, hb⟩; refine ⟨_, rfl, ?_⟩; replace HO_197003 := Aside0.mk (Kd.R_below (fS HO_197003 BK261 (by decide)) hb); replace HO_204003 := Aside0.mk (Kd.R_below (fS HO_204003 BK261 (by decide)) hb); replace HO_211003 := Aside0.mk (Kd.R_below (fS HO_211003 BK261 (by decide)) hb); replace HO_219003 := Aside0.mk (Kd.R_below (fS HO_219003 BK261 (by decide)) hb); replace HO247 := Aside0.mk (Kd.R_below (fS HO247 BK261 (by decide)) hb); replace HO253 := Aside0.mk (Kd.R_below (fS HO253 BK261 (by decide)) hb); replace HO259 := Aside0.mk (Kd.R_below (fS HO259 BK261 (by decide)) hb); replace BK173 := Aside0.mk (blk_below (g := gb173) (o := .cells #[.int .i64 a0_0, .int .i64 a0_1, .int .i64 a0_2, .slice A0_3 l0_3.length c0_3] 24 (0, 0)) (by refine uW ?_; refine blk_far ?_ NB173_261.out _; refine uW ?_; refine blk_far ?_ NB173_261.out _; refine uW ?_; refine blk_far ?_ NB173_261.out _; refine uW ?_; refine blk_far ?_ NB173_261.out _; refine uW ?_; exact BK173.out) hb); replace BK174 := Aside0.mk (blk_below (g := gb174) (o := .cells #[.int .i64 a1_0, .int .i64 a1_1, .int .i64 a1_2, .slice A1_3 l1_3.length c1_3] 24 (0, 0)) (by refine uW ?_; refine blk_far ?_ NB174_261.out _; refine uW ?_; refine blk_far ?_ NB174_261.out _; refine uW ?_; refine blk_far ?_ NB174_261.out _; refine uW ?_; refine blk_far ?_ NB174_261.out _; refine uW ?_; exact BK174.out) hb); replace BK196 := Aside0.mk (blk_below (g := gb196) (o := .cells #[.int .i64 t189, .int .i64 t190, .int .i64 t191, .slice Ao44 t192.length co44] 26 (0, 0)) (by refine uW ?_; refine blk_far ?_ NB196_261.out _; refine uW ?_; refine blk_far ?_ NB196_261.out _; refine uW ?_; refine blk_far ?_ NB196_261.out _; refine uW ?_; refine blk_far ?_ NB196_261.out _; refine uW ?_; exact BK196.out) hb); replace BK203 := Aside0.mk (blk_below (g := gb203) (o := .cells #[.int .i64 t197, .int .i64 t198, .int .i64 t199, .slice Ao54 t235.length co54] 26 (0, 0)) (by refine uW ?_; refine blk_far ?_ NB203_261.out _; refine uW ?_; refine blk_far ?_ NB203_261.out _; refine uW ?_; refine blk_far ?_ NB203_261.out _; refine uW ?_; refine blk_far ?_ NB203_261.out _; refine uW ?_; exact BK203.out) hb); replace BK210 := Aside0.mk (blk_below (g := gb210) (o := .cells #[.int .i64 t204, .int .i64 t205, .int .i64 t206, .slice Ao64 t237.length co64] 26 (0, 0)) (by refine uW ?_; refine blk_far ?_ NB210_261.out _; refine uW ?_; refine blk_far ?_ NB210_261.out _; refine uW ?_; refine blk_far ?_ NB210_261.out _; refine uW ?_; refine blk_far ?_ NB210_261.out _; refine uW ?_; exact BK210.out) hb); replace BK218 := Aside0.mk (blk_below (g := gb218) (o := .cells #[.int .i64 t211, .int .i64 t212, .int .i64 t213, .slice Ao74 t214.length co74] 26 (0, 0)) (by refine uW ?_; refine blk_far ?_ NB218_261.out _; refine uW ?_; refine blk_far ?_ NB218_261.out _; refine uW ?_; refine blk_far ?_ NB218_261.out _; refine uW ?_; refine blk_far ?_ NB218_261.out _; refine uW ?_; exact BK218.out) hb); replace BK261 := Aside0.mk (blk_below (g := gb261) (o := .cells #[.int .i64 t254, .int .i64 t255, .int .i64 t256, .slice Ao197 t257.length co197] 26 (0, 0)) (by refine uW ?_; refine blk_put (cs := #[.int .i64 t254, .int .i64 t255, .int .i64 t256, .slice none 0 0]) ?_ 3 _ rfl; refine uW ?_; refine blk_put (cs := #[.int .i64 t254, .int .i64 t255, .int .i64 0, .slice none 0 0]) ?_ 2 _ rfl; refine uW ?_; refine blk_put (cs := #[.int .i64 t254, .int .i64 0, .int .i64 0, .slice none 0 0]) ?_ 1 _ rfl; refine uW ?_; refine blk_put (cs := #[.int .i64 0, .int .i64 0, .int .i64 0, .slice none 0 0]) ?_ 0 _ rfl; refine uW ?_; exact BK261.out) hb); replace HB := Aside0.mk (below_step (uN HB) hb); (try clear hb); (try clear hb2); (try clear hk); (try clear hi)))
          go_meet
          case rel => exact ⟨_, ((t260 != t195)), (by first | rfl | (simp; done) | (simp [*]; done)), H', ⟨by have := HJ24.out; have := HJ109.out; first | omega | exact Nat.le_refl _⟩, ⟨by (try simp only [hl204003_109]); (try simp only [hl211003_109]); (with_reducible repeat (first | apply Kd.R_alloc | apply Kd.R_drewN | apply Kd.R_drew)); exact Kd.R_mono HO_197003.out (fun _ hk => ⟨hk.2.2.2.1, ⟨hk.2.2.2.2.1, ⟨hk.2.2.2.2.2, hk.2.2.1⟩⟩⟩)⟩, ⟨by (try simp only [hl204003_109]); (try simp only [hl211003_109]); (with_reducible repeat (first | apply Kd.R_alloc | apply Kd.R_drewN | apply Kd.R_drew)); exact Kd.R_mono HO_204003.out (fun _ hk => ⟨hk.2.2.2.1, ⟨hk.2.2.2.2.1, ⟨hk.2.2.2.2.2, hk.2.2.1⟩⟩⟩)⟩, ⟨by (try simp only [hl204003_109]); (try simp only [hl211003_109]); (with_reducible repeat (first | apply Kd.R_alloc | apply Kd.R_drewN | apply Kd.R_drew)); exact Kd.R_mono HO_211003.out (fun _ hk => ⟨hk.2.2.2.1, ⟨hk.2.2.2.2.1, ⟨hk.2.2.2.2.2, hk.2.2.1⟩⟩⟩)⟩, ⟨by (try simp only [hl204003_109]); (try simp only [hl211003_109]); (with_reducible repeat (first | apply Kd.R_alloc | apply Kd.R_drewN | apply Kd.R_drew)); exact Kd.R_mono HO_219003.out (fun _ hk => ⟨hk.2.2.2.1, ⟨hk.2.2.2.2.1, ⟨hk.2.2.2.2.2, hk.2.2.1⟩⟩⟩)⟩, ⟨by (try simp only [hl204003_109]); (try simp only [hl211003_109]); (with_reducible repeat (first | apply Kd.R_alloc | apply Kd.R_drewN | apply Kd.R_drew)); exact Kd.R_mono HO259.out (fun _ hk => ⟨hk.2.2.1, ⟨hk.2.2.2.1, ⟨hk.2.2.2.2.1, hk.2.2.2.2.2⟩⟩⟩)⟩, ⟨by (try simp only [hl204003_109]); (try simp only [hl211003_109]); refine uW ?_; exact BK173.out⟩, ⟨by (try simp only [hl204003_109]); (try simp only [hl211003_109]); refine uW ?_; exact BK174.out⟩, ⟨by (try simp only [hl204003_109]); (try simp only [hl211003_109]); refine uW ?_; exact BK196.out⟩, ⟨by (try simp only [hl204003_109]); (try simp only [hl211003_109]); refine uW ?_; exact BK203.out⟩, ⟨by (try simp only [hl204003_109]); (try simp only [hl211003_109]); refine uW ?_; exact BK210.out⟩, ⟨by (try simp only [hl204003_109]); (try simp only [hl211003_109]); refine uW ?_; exact BK218.out⟩, ⟨by (try simp only [hl204003_109]); (try simp only [hl211003_109]); refine uW ?_; exact BK261.out⟩, ⟨uN HB⟩⟩
         replace c200 := Bool.eq_false_iff.mpr c200
         subst c200
         rw [if_neg (show ¬ (false = true) by decide)] at H
         have H' := Aside0.mk H
         clear H
         have hnb215 := NB261_173.out
         have hnc215 := NB173_261.out
         have hnb216 := NB261_174.out
         have hnc216 := NB174_261.out
         have hnb217 := NB261_196.out
         have hnc217 := NB196_261.out
         have hnb218 := NB261_203.out
         have hnc218 := NB203_261.out
         have hnb219 := NB261_210.out
         have hnc219 := NB210_261.out
         have hnb220 := NB261_218.out
         have hnc220 := NB218_261.out
         obtain ⟨hcz221_0, hcz221_1, hcz221_2, hcz221_3, hfz221_0, hfz221_1, hfz221_2, hfz221_3⟩ := ce4 BK261
         have hnb222 := NB196_173.out
         have hnc222 := NB173_196.out
         have hnb223 := NB196_174.out
         have hnc223 := NB174_196.out
         have hnb224 := NB196_203.out
         have hnc224 := NB203_196.out
         have hnb225 := NB196_210.out
         have hnc225 := NB210_196.out
         have hnb226 := NB196_218.out
         have hnc226 := NB218_196.out
         obtain ⟨hcz227_0, hcz227_1, hcz227_2, hcz227_3, hfz227_0, hfz227_1, hfz227_2, hfz227_3⟩ := ce4 BK196
         go_wp2_with (first | ((with_reducible refine gate_callee (f := 13) rfl ?_); refine goesL_ (some 104) rfl rfl Try.func13 (by kernel_rfl) rfl #[.agg #[.int .i64 t254, .int .i64 t255, .int .i64 t256, .slice Ao197 t257.length co197], .agg #[.int .i64 t189, .int .i64 t190, .int .i64 t191, .slice Ao44 t192.length co44]] rfl (by (try simp only [List.map_toArray, List.map_cons, List.map_nil]); first | done | rfl) ?_; (with_reducible refine (laws_eqTable.calls kj109 t254 t255 t256 _ _ t257 t189 t190 t191 _ _ t192 false _ ?side1 ?side2 ?side3 ?side4 A199.out).mono ?_); (case side1 => refine (Kd.R_reads' (e := 3) (base := w.heap.size) (ok := fun k_ => (some k_ ≠ (v246 : Value).ownBlock ∧ (some k_ ≠ (v252 : Value).ownBlock ∧ (some k_ ≠ (.slice Ao44 t192.length co44 : Value).ownBlock ∧ (some k_ ≠ (.slice Ao54 t235.length co54 : Value).ownBlock ∧ (some k_ ≠ (.slice Ao64 t237.length co64 : Value).ownBlock ∧ some k_ ≠ (.slice Ao74 t214.length co74 : Value).ownBlock)))))) (n := t257.length) (c := co197) ?_).2.2; exact (fS HO259 BK261 (by decide))); (case side2 => exact (Kd.R_reads' HO259.out).2.1); (case side3 => refine (Kd.R_reads' (e := 3) (base := w.heap.size) (ok := fun k_ => (some k_ ≠ (v246 : Value).ownBlock ∧ (some k_ ≠ (v252 : Value).ownBlock ∧ (some k_ ≠ (.slice Ao197 t257.length co197 : Value).ownBlock ∧ (some k_ ≠ (.slice Ao54 t235.length co54 : Value).ownBlock ∧ (some k_ ≠ (.slice Ao64 t237.length co64 : Value).ownBlock ∧ some k_ ≠ (.slice Ao74 t214.length co74 : Value).ownBlock)))))) (n := t192.length) (c := co44) ?_).2.2; exact (fS HO_197003 BK261 (by decide))); (case side4 => exact (Kd.R_reads' HO_197003.out).2.1); rintro e w228 ⟨rfl, hb⟩; refine ⟨_, rfl, ?_⟩; replace HO_197003 := Aside0.mk (Kd.R_below (fS HO_197003 BK261 (by decide)) hb); replace HO_204003 := Aside0.mk (Kd.R_below (fS HO_204003 BK261 (by decide)) hb); replace HO_211003 := Aside0.mk (Kd.R_below (fS HO_211003 BK261 (by decide)) hb); replace HO_219003 := Aside0.mk (Kd.R_below (fS HO_219003 BK261 (by decide)) hb); replace HO247 := Aside0.mk (Kd.R_below (fS HO247 BK261 (by decide)) hb); replace HO253 := Aside0.mk (Kd.R_below (fS HO253 BK261 (by decide)) hb); replace HO259 := Aside0.mk (Kd.R_below (fS HO259 BK261 (by decide)) hb); replace BK173 := Aside0.mk (blk_below (g := gb173) (o := .cells #[.int .i64 a0_0, .int .i64 a0_1, .int .i64 a0_2, .slice A0_3 l0_3.length c0_3] 24 (0, 0)) (by refine uW ?_; refine blk_far ?_ NB173_261.out _; refine uW ?_; refine blk_far ?_ NB173_261.out _; refine uW ?_; refine blk_far ?_ NB173_261.out _; refine uW ?_; refine blk_far ?_ NB173_261.out _; refine uW ?_; exact BK173.out) hb); replace BK174 := Aside0.mk (blk_below (g := gb174) (o := .cells #[.int .i64 a1_0, .int .i64 a1_1, .int .i64 a1_2, .slice A1_3 l1_3.length c1_3] 24 (0, 0)) (by refine uW ?_; refine blk_far ?_ NB174_261.out _; refine uW ?_; refine blk_far ?_ NB174_261.out _; refine uW ?_; refine blk_far ?_ NB174_261.out _; refine uW ?_; refine blk_far ?_ NB174_261.out _; refine uW ?_; exact BK174.out) hb); replace BK196 := Aside0.mk (blk_below (g := gb196) (o := .cells #[.int .i64 t189, .int .i64 t190, .int .i64 t191, .slice Ao44 t192.length co44] 26 (0, 0)) (by refine uW ?_; refine blk_far ?_ NB196_261.out _; refine uW ?_; refine blk_far ?_ NB196_261.out _; refine uW ?_; refine blk_far ?_ NB196_261.out _; refine uW ?_; refine blk_far ?_ NB196_261.out _; refine uW ?_; exact BK196.out) hb); replace BK203 := Aside0.mk (blk_below (g := gb203) (o := .cells #[.int .i64 t197, .int .i64 t198, .int .i64 t199, .slice Ao54 t235.length co54] 26 (0, 0)) (by refine uW ?_; refine blk_far ?_ NB203_261.out _; refine uW ?_; refine blk_far ?_ NB203_261.out _; refine uW ?_; refine blk_far ?_ NB203_261.out _; refine uW ?_; refine blk_far ?_ NB203_261.out _; refine uW ?_; exact BK203.out) hb); replace BK210 := Aside0.mk (blk_below (g := gb210) (o := .cells #[.int .i64 t204, .int .i64 t205, .int .i64 t206, .slice Ao64 t237.length co64] 26 (0, 0)) (by refine uW ?_; refine blk_far ?_ NB210_261.out _; refine uW ?_; refine blk_far ?_ NB210_261.out _; refine uW ?_; refine blk_far ?_ NB210_261.out _; refine uW ?_; refine blk_far ?_ NB210_261.out _; refine uW ?_; exact BK210.out) hb); replace BK218 := Aside0.mk (blk_below (g := gb218) (o := .cells #[.int .i64 t211, .int .i64 t212, .int .i64 t213, .slice Ao74 t214.length co74] 26 (0, 0)) (by refine uW ?_; refine blk_far ?_ NB218_261.out _; refine uW ?_; refine blk_far ?_ NB218_261.out _; refine uW ?_; refine blk_far ?_ NB218_261.out _; refine uW ?_; refine blk_far ?_ NB218_261.out _; refine uW ?_; exact BK218.out) hb); replace BK261 := Aside0.mk (blk_below (g := gb261) (o := .cells #[.int .i64 t254, .int .i64 t255, .int .i64 t256, .slice Ao197 t257.length co197] 26 (0, 0)) (by refine uW ?_; refine blk_put (cs := #[.int .i64 t254, .int .i64 t255, .int .i64 t256, .slice none 0 0]) ?_ 3 _ rfl; refine uW ?_; refine blk_put (cs := #[.int .i64 t254, .int .i64 t255, .int .i64 0, .slice none 0 0]) ?_ 2 _ rfl; refine uW ?_; refine blk_put (cs := #[.int .i64 t254, .int .i64 0, .int .i64 0, .slice none 0 0]) ?_ 1 _ rfl; refine uW ?_; refine blk_put (cs := #[.int .i64 0, .int .i64 0, .int .i64 0, .slice none 0 0]) ?_ 0 _ rfl; refine uW ?_; exact BK261.out) hb); replace HB := Aside0.mk (below_step (uN HB) hb); (try clear hb); (try clear hb2); (try clear hk); (try clear hi)))
         go_meet
         case rel => exact ⟨_, (true), (by first | rfl | (simp; done) | (simp [*]; done)), H', ⟨by have := HJ24.out; have := HJ109.out; first | omega | exact Nat.le_refl _⟩, ⟨by (try simp only [hl204003_109]); (try simp only [hl211003_109]); (with_reducible repeat (first | apply Kd.R_alloc | apply Kd.R_drewN | apply Kd.R_drew)); exact Kd.R_mono HO_197003.out (fun _ hk => ⟨hk.2.2.2.1, ⟨hk.2.2.2.2.1, ⟨hk.2.2.2.2.2, hk.2.2.1⟩⟩⟩)⟩, ⟨by (try simp only [hl204003_109]); (try simp only [hl211003_109]); (with_reducible repeat (first | apply Kd.R_alloc | apply Kd.R_drewN | apply Kd.R_drew)); exact Kd.R_mono HO_204003.out (fun _ hk => ⟨hk.2.2.2.1, ⟨hk.2.2.2.2.1, ⟨hk.2.2.2.2.2, hk.2.2.1⟩⟩⟩)⟩, ⟨by (try simp only [hl204003_109]); (try simp only [hl211003_109]); (with_reducible repeat (first | apply Kd.R_alloc | apply Kd.R_drewN | apply Kd.R_drew)); exact Kd.R_mono HO_211003.out (fun _ hk => ⟨hk.2.2.2.1, ⟨hk.2.2.2.2.1, ⟨hk.2.2.2.2.2, hk.2.2.1⟩⟩⟩)⟩, ⟨by (try simp only [hl204003_109]); (try simp only [hl211003_109]); (with_reducible repeat (first | apply Kd.R_alloc | apply Kd.R_drewN | apply Kd.R_drew)); exact Kd.R_mono HO_219003.out (fun _ hk => ⟨hk.2.2.2.1, ⟨hk.2.2.2.2.1, ⟨hk.2.2.2.2.2, hk.2.2.1⟩⟩⟩)⟩, ⟨by (try simp only [hl204003_109]); (try simp only [hl211003_109]); (with_reducible repeat (first | apply Kd.R_alloc | apply Kd.R_drewN | apply Kd.R_drew)); exact Kd.R_mono HO259.out (fun _ hk => ⟨hk.2.2.1, ⟨hk.2.2.2.1, ⟨hk.2.2.2.2.1, hk.2.2.2.2.2⟩⟩⟩)⟩, ⟨by (try simp only [hl204003_109]); (try simp only [hl211003_109]); refine uW ?_; exact BK173.out⟩, ⟨by (try simp only [hl204003_109]); (try simp only [hl211003_109]); refine uW ?_; exact BK174.out⟩, ⟨by (try simp only [hl204003_109]); (try simp only [hl211003_109]); refine uW ?_; exact BK196.out⟩, ⟨by (try simp only [hl204003_109]); (try simp only [hl211003_109]); refine uW ?_; exact BK203.out⟩, ⟨by (try simp only [hl204003_109]); (try simp only [hl211003_109]); refine uW ?_; exact BK210.out⟩, ⟨by (try simp only [hl204003_109]); (try simp only [hl211003_109]); refine uW ?_; exact BK218.out⟩, ⟨by (try simp only [hl204003_109]); (try simp only [hl211003_109]); refine uW ?_; exact BK261.out⟩, ⟨uN HB⟩⟩
        case rest =>
         clear HC176
         try clear c1
         try clear c2
         try clear p2
         try clear c11
         try clear c12
         try clear c13
         try clear c20
         try clear c21
         try clear c22
         try clear c200
         try clear c201
         try clear c202
         try clear c203
         try clear c204
         try clear c205
         try clear c206
         try clear c208
         try clear c209
         try clear c210
         try clear c211
         try clear c212
         try clear c215
         try clear c216
         try clear c217
         try clear c218
         try clear c219
         try clear c220
         try clear c222
         try clear c223
         try clear c224
         try clear c225
         try clear c226
         try clear hcz207_0
         try clear hcz207_1
         try clear hcz207_2
         try clear hcz207_3
         try clear hcz213_0
         try clear hcz213_1
         try clear hcz213_2
         try clear hcz213_3
         try clear hcz221_0
         try clear hcz221_1
         try clear hcz221_2
         try clear hcz221_3
         try clear hcz227_0
         try clear hcz227_1
         try clear hcz227_2
         try clear hcz227_3
         try clear hfz207_0
         try clear hfz207_1
         try clear hfz207_2
         try clear hfz207_3
         try clear hfz213_0
         try clear hfz213_1
         try clear hfz213_2
         try clear hfz213_3
         try clear hfz221_0
         try clear hfz221_1
         try clear hfz221_2
         try clear hfz221_3
         try clear hfz227_0
         try clear hfz227_1
         try clear hfz227_2
         try clear hfz227_3
         obtain ⟨kq, x110_175, rfl, HA, HJ175, HO_197003, HO_204003, HO_211003, HO_219003, HO_262003, BK173, BK174, BK196, BK203, BK210, BK218, BK261, HB⟩ := hcut
         have hl219003_175 := (Kd.R_reads' HO_219003.out).1
         rw [hl219003_175] at HO_219003
         (try simp only [hl219003_175])
         (try simp only [hl219003_175] at BK173)
         (try simp only [hl219003_175] at BK174)
         (try simp only [hl219003_175] at BK196)
         (try simp only [hl219003_175] at BK203)
         (try simp only [hl219003_175] at BK210)
         (try simp only [hl219003_175] at BK218)
         (try simp only [hl219003_175] at BK261)
         (try simp only [hl219003_175] at HO_197003)
         (try simp only [hl219003_175] at HO_204003)
         (try simp only [hl219003_175] at HO_211003)
         (try simp only [hl219003_175] at HO_262003)
         cases kq with
         | zero => exact absurd HA.out (by simp [laws_FnExactAddTables.j2])
         | succ kj175 =>
          have H := HA.out
          clear HA
          simp only [laws_FnExactAddTables.j2] at H
          by_cases c229 : x110_175 = true
          ·
           subst c229
           rw [if_pos rfl] at H
           obtain rfl := Option.some.inj H
           go_wp2
           go_ret
           exact ⟨by first | rfl | (simp [errW_none, errW_some] <;> rfl) | (simp [*, errW_none, errW_some] <;> rfl), uN HB⟩
          replace c229 := Bool.eq_false_iff.mpr c229
          subst c229
          rw [if_neg (show ¬ (false = true) by decide)] at H
          replace H := Option.bind_eq_some_iff.mp H
          obtain ⟨t263, A2300, H⟩ := H
          try dsimp only at H
          have A230 := Aside0.mk A2300
          clear A2300
          by_cases c231 : t263 < 0
          ·
           rw [if_pos c231] at H
           have c231b0 : decide (t263 < 0) = true := decide_eq_true c231
           clear c231
           obtain rfl := Option.some.inj H
           have hnb232 := NB218_173.out
           have hnc232 := NB173_218.out
           have hnb233 := NB218_174.out
           have hnc233 := NB174_218.out
           have hnb234 := NB218_196.out
           have hnc234 := NB196_218.out
           have hnb235 := NB218_203.out
           have hnc235 := NB203_218.out
           have hnb236 := NB218_210.out
           have hnc236 := NB210_218.out
           have hnb237 := NB218_261.out
           have hnc237 := NB261_218.out
           obtain ⟨hcz238_0, hcz238_1, hcz238_2, hcz238_3, hfz238_0, hfz238_1, hfz238_2, hfz238_3⟩ := ce4 BK218
           go_wp2_with (first | ((with_reducible refine gate_callee (f := 15) rfl ?_); refine goesL_ (some 113) rfl rfl Try.func15 (by kernel_rfl) rfl #[.agg #[.int .i64 t211, .int .i64 t212, .int .i64 t213, .slice Ao74 t240.length co74], .int .i64 1] rfl (by (try simp only [List.map_toArray, List.map_cons, List.map_nil]); first | done | rfl) ?_; (with_reducible refine (laws_heldTable.calls kj175 t211 t212 t213 _ _ t240 1 t263 _ ?side1 ?side2 A230.out).mono ?_); (case side1 => exact uD HO_219003); (case side2 => exact (Kd.R_reads' HO_219003.out).2.1); rintro e w239 ⟨rfl, hb⟩; refine ⟨_, rfl, ?_⟩; replace HO_197003 := Aside0.mk (Kd.R_below (uR HO_197003) hb); replace HO_204003 := Aside0.mk (Kd.R_below (uR HO_204003) hb); replace HO_211003 := Aside0.mk (Kd.R_below (uR HO_211003) hb); replace HO_219003 := Aside0.mk (Kd.R_below (uR HO_219003) hb); replace HO_262003 := Aside0.mk (Kd.R_below (uR HO_262003) hb); replace BK173 := kB BK173 hb; replace BK174 := kB BK174 hb; replace BK196 := kB BK196 hb; replace BK203 := kB BK203 hb; replace BK210 := kB BK210 hb; replace BK218 := kB BK218 hb; replace BK261 := kB BK261 hb; replace HB := Aside0.mk (below_step (uN HB) hb); (try clear hb); (try clear hb2); (try clear hk); (try clear hi)))
           go_ret
           exact ⟨by first | rfl | (simp [errW_none, errW_some] <;> rfl) | (simp [*, errW_none, errW_some] <;> rfl), uN HB⟩
          rw [if_neg c231] at H
          have c231b0 : decide (t263 < 0) = false := decide_eq_false c231
          clear c231
          by_cases c240 : t263 = t239
          ·
           rw [if_pos c240] at H
           have c240b0 : (t263 == t239) = true := beq_iff_eq.mpr c240
           have c240b1 : (t263 != t239) = false := bne_eq_false_iff_eq.mpr c240
           clear c240
           obtain rfl := Option.some.inj H
           have hnb241 := NB218_173.out
           have hnc241 := NB173_218.out
           have hnb242 := NB218_174.out
           have hnc242 := NB174_218.out
           have hnb243 := NB218_196.out
           have hnc243 := NB196_218.out
           have hnb244 := NB218_203.out
           have hnc244 := NB203_218.out
           have hnb245 := NB218_210.out
           have hnc245 := NB210_218.out
           have hnb246 := NB218_261.out
           have hnc246 := NB261_218.out
           obtain ⟨hcz247_0, hcz247_1, hcz247_2, hcz247_3, hfz247_0, hfz247_1, hfz247_2, hfz247_3⟩ := ce4 BK218
           go_wp2_with (first | ((with_reducible refine gate_callee (f := 15) rfl ?_); refine goesL_ (some 113) rfl rfl Try.func15 (by kernel_rfl) rfl #[.agg #[.int .i64 t211, .int .i64 t212, .int .i64 t213, .slice Ao74 t240.length co74], .int .i64 1] rfl (by (try simp only [List.map_toArray, List.map_cons, List.map_nil]); first | done | rfl) ?_; (with_reducible refine (laws_heldTable.calls kj175 t211 t212 t213 _ _ t240 1 t263 _ ?side1 ?side2 A230.out).mono ?_); (case side1 => exact uD HO_219003); (case side2 => exact (Kd.R_reads' HO_219003.out).2.1); rintro e w248 ⟨rfl, hb⟩; refine ⟨_, rfl, ?_⟩; replace HO_197003 := Aside0.mk (Kd.R_below (uR HO_197003) hb); replace HO_204003 := Aside0.mk (Kd.R_below (uR HO_204003) hb); replace HO_211003 := Aside0.mk (Kd.R_below (uR HO_211003) hb); replace HO_219003 := Aside0.mk (Kd.R_below (uR HO_219003) hb); replace HO_262003 := Aside0.mk (Kd.R_below (uR HO_262003) hb); replace BK173 := kB BK173 hb; replace BK174 := kB BK174 hb; replace BK196 := kB BK196 hb; replace BK203 := kB BK203 hb; replace BK210 := kB BK210 hb; replace BK218 := kB BK218 hb; replace BK261 := kB BK261 hb; replace HB := Aside0.mk (below_step (uN HB) hb); (try clear hb); (try clear hb2); (try clear hk); (try clear hi)))
           go_ret
           exact ⟨by first | rfl | (simp [errW_none, errW_some] <;> rfl) | (simp [*, errW_none, errW_some] <;> rfl), uN HB⟩
          rw [if_neg c240] at H
          have c240b0 : (t263 == t239) = false := beq_eq_false_iff_ne.mpr c240
          have c240b1 : (t263 != t239) = true := bne_iff_ne.mpr c240
          obtain rfl := Option.some.inj H
          have hnb249 := NB218_173.out
          have hnc249 := NB173_218.out
          have hnb250 := NB218_174.out
          have hnc250 := NB174_218.out
          have hnb251 := NB218_196.out
          have hnc251 := NB196_218.out
          have hnb252 := NB218_203.out
          have hnc252 := NB203_218.out
          have hnb253 := NB218_210.out
          have hnc253 := NB210_218.out
          have hnb254 := NB218_261.out
          have hnc254 := NB261_218.out
          obtain ⟨hcz255_0, hcz255_1, hcz255_2, hcz255_3, hfz255_0, hfz255_1, hfz255_2, hfz255_3⟩ := ce4 BK218
          go_wp2_with (first | ((with_reducible refine gate_callee (f := 15) rfl ?_); refine goesL_ (some 113) rfl rfl Try.func15 (by kernel_rfl) rfl #[.agg #[.int .i64 t211, .int .i64 t212, .int .i64 t213, .slice Ao74 t240.length co74], .int .i64 1] rfl (by (try simp only [List.map_toArray, List.map_cons, List.map_nil]); first | done | rfl) ?_; (with_reducible refine (laws_heldTable.calls kj175 t211 t212 t213 _ _ t240 1 t263 _ ?side1 ?side2 A230.out).mono ?_); (case side1 => exact uD HO_219003); (case side2 => exact (Kd.R_reads' HO_219003.out).2.1); rintro e w256 ⟨rfl, hb⟩; refine ⟨_, rfl, ?_⟩; replace HO_197003 := Aside0.mk (Kd.R_below (uR HO_197003) hb); replace HO_204003 := Aside0.mk (Kd.R_below (uR HO_204003) hb); replace HO_211003 := Aside0.mk (Kd.R_below (uR HO_211003) hb); replace HO_219003 := Aside0.mk (Kd.R_below (uR HO_219003) hb); replace HO_262003 := Aside0.mk (Kd.R_below (uR HO_262003) hb); replace BK173 := kB BK173 hb; replace BK174 := kB BK174 hb; replace BK196 := kB BK196 hb; replace BK203 := kB BK203 hb; replace BK210 := kB BK210 hb; replace BK218 := kB BK218 hb; replace BK261 := kB BK261 hb; replace HB := Aside0.mk (below_step (uN HB) hb); (try clear hb); (try clear hb2); (try clear hk); (try clear hi)))
          go_ret
          exact ⟨by first | rfl | (simp [errW_none, errW_some] <;> rfl) | (simp [*, errW_none, errW_some] <;> rfl), uN HB⟩
       rw [if_neg c172] at H
       have c172b0 : (t241 == t239) = false := beq_eq_false_iff_ne.mpr c172
       have c172b1 : (t241 != t239) = true := bne_iff_ne.mpr c172
       obtain rfl := Option.some.inj H
       have hnb257 := NB218_173.out
       have hnc257 := NB173_218.out
       have hnb258 := NB218_174.out
       have hnc258 := NB174_218.out
       have hnb259 := NB218_196.out
       have hnc259 := NB196_218.out
       have hnb260 := NB218_203.out
       have hnc260 := NB203_218.out
       have hnb261 := NB218_210.out
       have hnc261 := NB210_218.out
       obtain ⟨hcz262_0, hcz262_1, hcz262_2, hcz262_3, hfz262_0, hfz262_1, hfz262_2, hfz262_3⟩ := ce4 BK218
       go_wp2_with (first | ((with_reducible refine gate_callee (f := 14) rfl ?_); refine goesL_ (some 85) rfl rfl Try.func14 (by kernel_rfl) rfl #[.agg #[.int .i64 t211, .int .i64 t212, .int .i64 t213, .slice Ao74 t214.length co74], .int .i64 1] rfl (by (try simp only [List.map_toArray, List.map_cons, List.map_nil]); first | done | rfl) ?_; (with_reducible refine (laws_markTable.calls kj109 t211 t212 t213 (fun k_ => some k_ = (.slice Ao74 t214.length co74 : Value).ownBlock) (.slice Ao74 t214.length co74) t214 1 t239 t240 w _ ?side1 ?side2 A160.out).mono ?_); (case side1 => exact uN HB); (case side2 => exact Kd.R_tight rfl HO_219003.out); rintro e w263 ⟨rfl, hy0, hb, hkp⟩; refine ⟨_, rfl, ?_⟩; replace HO_197003 := Aside0.mk (Kd.R_mono (ok' := fun k_ => some k_ ≠ (.slice Ao54 t235.length co54 : Value).ownBlock ∧ some k_ ≠ (.slice Ao64 t237.length co64 : Value).ownBlock ∧ some k_ ≠ (.slice Ao74 t214.length co74 : Value).ownBlock) (Kd.R_keptB (HO_197003.out) hkp (fun k_ hk_ hs_ => (hk_.2.2) hs_)) (fun k_ hk_ => ⟨hk_.1.1, hk_.1.2.1, hk_.1.2.2⟩)); replace HO_204003 := Aside0.mk (Kd.R_mono (ok' := fun k_ => some k_ ≠ (.slice Ao44 t192.length co44 : Value).ownBlock ∧ some k_ ≠ (.slice Ao64 t237.length co64 : Value).ownBlock ∧ some k_ ≠ (.slice Ao74 t214.length co74 : Value).ownBlock) (Kd.R_keptB (HO_204003.out) hkp (fun k_ hk_ hs_ => (hk_.2.2) hs_)) (fun k_ hk_ => ⟨hk_.1.1, hk_.1.2.1, hk_.1.2.2⟩)); replace HO_211003 := Aside0.mk (Kd.R_mono (ok' := fun k_ => some k_ ≠ (.slice Ao44 t192.length co44 : Value).ownBlock ∧ some k_ ≠ (.slice Ao54 t235.length co54 : Value).ownBlock ∧ some k_ ≠ (.slice Ao74 t214.length co74 : Value).ownBlock) (Kd.R_keptB (HO_211003.out) hkp (fun k_ hk_ hs_ => (hk_.2.2) hs_)) (fun k_ hk_ => ⟨hk_.1.1, hk_.1.2.1, hk_.1.2.2⟩)); replace BK173 := Aside0.mk (blk_kept (uK BK173) hkp (fun hs_ => (fun e_ => (Kd.R_ne HO_219003.out BK173.out (by decide)) e_) hs_)); replace BK174 := Aside0.mk (blk_kept (uK BK174) hkp (fun hs_ => (fun e_ => (Kd.R_ne HO_219003.out BK174.out (by decide)) e_) hs_)); replace BK196 := Aside0.mk (blk_kept (uK BK196) hkp (fun hs_ => (fun e_ => (Kd.R_ne HO_219003.out BK196.out (by decide)) e_) hs_)); replace BK203 := Aside0.mk (blk_kept (uK BK203) hkp (fun hs_ => (fun e_ => (Kd.R_ne HO_219003.out BK203.out (by decide)) e_) hs_)); replace BK210 := Aside0.mk (blk_kept (uK BK210) hkp (fun hs_ => (fun e_ => (Kd.R_ne HO_219003.out BK210.out (by decide)) e_) hs_)); replace BK218 := Aside0.mk (blk_kept (uK BK218) hkp (fun hs_ => (fun e_ => (Kd.R_ne HO_219003.out BK218.out (by decide)) e_) hs_)); replace HO_219003 := Aside0.mk (Kd.R_reok rfl hy0 (fun k_ e_ => HO_219003.out.1 k_ e_)); replace HB := Aside0.mk (hb); (try clear hb); (try clear hkp); (try clear hy0); obtain ⟨hcz264_0, hcz264_1, hcz264_2, hcz264_3, hfz264_0, hfz264_1, hfz264_2, hfz264_3⟩ := ce4 BK218) | ((with_reducible refine gate_callee (f := 15) rfl ?_); refine goesL_ (some 88) rfl rfl Try.func15 (by kernel_rfl) rfl #[.agg #[.int .i64 t211, .int .i64 t212, .int .i64 t213, .slice Ao74 t240.length co74], .int .i64 1] rfl (by (try simp only [List.map_toArray, List.map_cons, List.map_nil]); first | done | (rw [show t240.length = t214.length from (Kd.R_reads' HO_219003.out).1.symm] <;> rfl) | rfl | (simp only [List.length_drop, List.length_take]; rfl)) ?_; (with_reducible refine (laws_heldTable.calls kj109 t211 t212 t213 _ _ t240 1 t241 _ ?side1 ?side2 A161.out).mono ?_); (case side1 => exact uD HO_219003); (case side2 => rw [show t240.length = t214.length from (Kd.R_reads' HO_219003.out).1.symm]; exact (Kd.R_reads' HO_219003.out).2.1); rintro e w265 ⟨rfl, hb⟩; refine ⟨_, rfl, ?_⟩; replace HO_197003 := Aside0.mk (Kd.R_below (uR HO_197003) hb); replace HO_204003 := Aside0.mk (Kd.R_below (uR HO_204003) hb); replace HO_211003 := Aside0.mk (Kd.R_below (uR HO_211003) hb); replace HO_219003 := Aside0.mk (Kd.R_below (uR HO_219003) hb); replace BK173 := kB BK173 hb; replace BK174 := kB BK174 hb; replace BK196 := kB BK196 hb; replace BK203 := kB BK203 hb; replace BK210 := kB BK210 hb; replace BK218 := kB BK218 hb; replace HB := Aside0.mk (below_step (uN HB) hb); (try clear hb); (try clear hb2); (try clear hk); (try clear hi)))
       go_ret
       exact ⟨by first | rfl | (simp [errW_none, errW_some] <;> rfl) | (simp [*, errW_none, errW_some] <;> rfl), uN HB⟩
    replace c107 := Bool.eq_false_iff.mpr c107
    subst c107
    rw [if_neg (show ¬ (false = true) by decide)] at H
    obtain rfl := Option.some.inj H
    try go_wp2
    replace HO_197003 := Aside0.mk (Kd.R_drew HO_197003.out)
    replace HO_204003 := Aside0.mk (Kd.R_drew HO_204003.out)
    replace HO_211003 := Aside0.mk (Kd.R_drew HO_211003.out)
    replace HO_219003 := Aside0.mk (Kd.R_drew HO_219003.out)
    replace BK173 := Aside0.mk (blk_drew BK173.out)
    replace BK174 := Aside0.mk (blk_drew BK174.out)
    replace BK196 := Aside0.mk (blk_drew BK196.out)
    replace BK203 := Aside0.mk (blk_drew BK203.out)
    replace BK210 := Aside0.mk (blk_drew BK210.out)
    replace BK218 := Aside0.mk (blk_drew BK218.out)
    replace HB := Aside0.mk (below_drew1 HB.out)
    refine start_ (n := 5) (S := fun w' => w'.cell? ⟨gb203, 0, none⟩ = some (.int .i64 t197) ∧ w'.cell? ⟨gb203, 1, none⟩ = some (.int .i64 t198) ∧ w'.cell? ⟨gb203, 2, none⟩ = some (.int .i64 t199) ∧ w'.cell? ⟨gb203, 3, none⟩ = some (.slice Ao54 t200.length co54) ∧ w'.cell? ⟨gb173, 0, none⟩ = some (.int .i64 a0_0) ∧ w'.cell? ⟨gb173, 1, none⟩ = some (.int .i64 a0_1) ∧ w'.cell? ⟨gb173, 2, none⟩ = some (.int .i64 a0_2) ∧ w'.cell? ⟨gb173, 3, none⟩ = some (.slice A0_3 l0_3.length c0_3)) (ds := []) #[false, false, false, false, false] (by kernel_rfl) rfl rfl ⟨bc BK203 0, bc BK203 1, bc BK203 2, bc BK203 3, bc BK173 0, bc BK173 1, bc BK173 2, bc BK173 3⟩ (fun hHeld => ?_)
    generalize wc.drew = w266 at HO_197003 HO_204003 HO_211003 HO_219003 BK173 BK174 BK196 BK203 BK210 BK218 HB hHeld ⊢
    refine take_ (i := 0) (N := some 54) (v := ?_) (a' := ?_) #[true, false, false, false, false] rfl rfl (by kernel_rfl) (fun _ _ _ h => h) (Or.inl ⟨by rfl, ?_⟩) hHeld ?_ ?_
    rotate_left
    ·
     rintro w' ⟨s0, s1, s2, s3, s4, s5, s6, s7⟩
     go_simp
     with_reducible rfl
    rotate_left
    ·
     simp only [Act.put, setIfInBounds_toArray, set_cons_zero, set_cons_succ, i64_w, i32_w]
     rfl
    refine take_ (i := 1) (N := some 55) (v := ?_) (a' := ?_) #[true, true, false, false, false] rfl rfl (by kernel_rfl) (fun _ _ _ h => h) (Or.inl ⟨by rfl, ?_⟩) hHeld ?_ ?_
    rotate_left
    ·
     rintro w' ⟨s0, s1, s2, s3, s4, s5, s6, s7⟩
     go_simp
     with_reducible rfl
    rotate_left
    ·
     simp only [Act.put, setIfInBounds_toArray, set_cons_zero, set_cons_succ, i64_w, i32_w]
     rfl
    refine one_ (i := 2) (N := some 56) #[true, true, true, false, false] rfl rfl (by kernel_rfl) (by decide) (fun K hK => ?_)
    refine goes_ Try.func11 (by kernel_rfl) rfl #[.agg #[.int .i64 a0_0, .int .i64 a0_1, .int .i64 a0_2, .slice A0_3 l0_3.length c0_3]] (by rfl) rfl rfl (by (try simp only [List.map_toArray, List.map_cons, List.map_nil]); first | done | rfl) ?_
    with_reducible refine (laws_toTable.calls kj24 a0_0 a0_1 a0_2 _ _ l0_3 t220 t221 t222 t223 _ ?side1 ?side2 A102.out).mono ?_
    (case side1 => exact uC HR0_3 HB)
    (case side2 => exact HC0_3.out)
    rintro e w267 ⟨v224, rfl, ho0, hb⟩
    refine ⟨_, rfl, ?_⟩
    have HO225 := Aside0.mk (Kd.R_lower (Kd.R_new' (Kd.R_new' (Kd.R_new' (Kd.R_new' ho0 (Kd.R_lt (uR HO_197003))) (Kd.R_lt (uR HO_204003))) (Kd.R_lt (uR HO_211003))) (Kd.R_lt (uR HO_219003))) (below_size (uN HB)))
    replace HO_197003 := Aside0.mk (Kd.R_elder' (uR HO_197003) (Kd.R_base ho0) hb)
    replace HO_204003 := Aside0.mk (Kd.R_elder' (uR HO_204003) (Kd.R_base ho0) hb)
    replace HO_211003 := Aside0.mk (Kd.R_elder' (uR HO_211003) (Kd.R_base ho0) hb)
    replace HO_219003 := Aside0.mk (Kd.R_elder' (uR HO_219003) (Kd.R_base ho0) hb)
    replace BK173 := kB BK173 hb
    replace BK174 := kB BK174 hb
    replace BK196 := kB BK196 hb
    replace BK203 := kB BK203 hb
    replace BK210 := kB BK210 hb
    replace BK218 := kB BK218 hb
    replace HB := Aside0.mk (below_step (uN HB) hb)
    (try clear hb)
    (try clear hb2)
    (try clear hk)
    (try clear hi)
    (try clear ho0)
    obtain ⟨Ao268, co268, eo268⟩ := Kd.R_slice HO225.out
    (first | subst eo268 | (injection eo268 with f1_ f2_ f3_; have f4_ := f1_.symm; have f5_ := f3_.symm; clear f1_ f2_ f3_; subst f4_; subst f5_))
    refine hK.out _ _ ⟨bc BK203 0, bc BK203 1, bc BK203 2, bc BK203 3, bc BK173 0, bc BK173 1, bc BK173 2, bc BK173 3⟩ (fun hHeld => ?_)
    clear hK K
    refine norm_ (a' := ?_) ?_ ?_
    rotate_left
    ·
     show Act.put _ (some 56) _ = _
     simp only [Act.put, setIfInBounds_toArray, set_cons_zero, set_cons_succ, i64_w, i32_w]
     rfl
    refine one_ (i := 3) (N := some 57) #[true, true, true, true, false] rfl rfl (by kernel_rfl) (by decide) (fun K hK => ?_)
    refine goes_ Try.func13 (by kernel_rfl) rfl #[.agg #[.int .i64 t197, .int .i64 t198, .int .i64 t199, .slice Ao54 t200.length co54], .agg #[.int .i64 t220, .int .i64 t221, .int .i64 t222, .slice Ao268 t223.length co268]] (by rfl) rfl rfl (by (try simp only [List.map_toArray, List.map_cons, List.map_nil]); first | done | rfl) ?_
    with_reducible refine (laws_eqTable.calls kj24 t197 t198 t199 _ _ t200 t220 t221 t222 _ _ t223 true _ ?side1 ?side2 ?side3 ?side4 A103.out).mono ?_
    (case side1 => exact uD HO_204003)
    (case side2 => exact (Kd.R_reads' HO_204003.out).2.1)
    (case side3 => exact uD HO225)
    (case side4 => exact (Kd.R_reads' HO225.out).2.1)
    rintro e w269 ⟨rfl, hb⟩
    refine ⟨_, rfl, ?_⟩
    replace HO_197003 := Aside0.mk (Kd.R_below (uR HO_197003) hb)
    replace HO_204003 := Aside0.mk (Kd.R_below (uR HO_204003) hb)
    replace HO_211003 := Aside0.mk (Kd.R_below (uR HO_211003) hb)
    replace HO_219003 := Aside0.mk (Kd.R_below (uR HO_219003) hb)
    replace HO225 := Aside0.mk (Kd.R_below (uR HO225) hb)
    replace BK173 := kB BK173 hb
    replace BK174 := kB BK174 hb
    replace BK196 := kB BK196 hb
    replace BK203 := kB BK203 hb
    replace BK210 := kB BK210 hb
    replace BK218 := kB BK218 hb
    replace HB := Aside0.mk (below_step (uN HB) hb)
    (try clear hb)
    (try clear hb2)
    (try clear hk)
    (try clear hi)
    refine hK.out _ _ ⟨bc BK203 0, bc BK203 1, bc BK203 2, bc BK203 3, bc BK173 0, bc BK173 1, bc BK173 2, bc BK173 3⟩ (fun hHeld => ?_)
    clear hK K
    refine norm_ (a' := ?_) ?_ ?_
    rotate_left
    ·
     show Act.put _ (some 57) _ = _
     simp only [Act.put, setIfInBounds_toArray, set_cons_zero, set_cons_succ, i64_w, i32_w]
     rfl
    refine pure_ (i := 4) (N := some 58) (v := ?_) (a' := ?_) #[true, true, true, true, true] rfl rfl (by kernel_rfl) (fun _ _ _ h => h) (Or.inl ⟨by rfl, ?_⟩) ?_ ?_
    rotate_left
    ·
     intro w'
     go_simp
     with_reducible rfl
    rotate_left
    ·
     simp only [Act.put, setIfInBounds_toArray, set_cons_zero, set_cons_succ, i64_w, i32_w]
     rfl
    refine done_ (by kernel_rfl) ?_
    try go_wp2
    replace HO_197003 := Aside0.mk (Kd.R_drew HO_197003.out)
    replace HO_204003 := Aside0.mk (Kd.R_drew HO_204003.out)
    replace HO_211003 := Aside0.mk (Kd.R_drew HO_211003.out)
    replace HO_219003 := Aside0.mk (Kd.R_drew HO_219003.out)
    replace HO225 := Aside0.mk (Kd.R_drew HO225.out)
    replace BK173 := Aside0.mk (blk_drew BK173.out)
    replace BK174 := Aside0.mk (blk_drew BK174.out)
    replace BK196 := Aside0.mk (blk_drew BK196.out)
    replace BK203 := Aside0.mk (blk_drew BK203.out)
    replace BK210 := Aside0.mk (blk_drew BK210.out)
    replace BK218 := Aside0.mk (blk_drew BK218.out)
    replace HB := Aside0.mk (below_drew1 HB.out)
    refine start_ (n := 5) (S := fun w' => w'.cell? ⟨gb210, 0, none⟩ = some (.int .i64 t204) ∧ w'.cell? ⟨gb210, 1, none⟩ = some (.int .i64 t205) ∧ w'.cell? ⟨gb210, 2, none⟩ = some (.int .i64 t206) ∧ w'.cell? ⟨gb210, 3, none⟩ = some (.slice Ao64 t207.length co64) ∧ w'.cell? ⟨gb174, 0, none⟩ = some (.int .i64 a1_0) ∧ w'.cell? ⟨gb174, 1, none⟩ = some (.int .i64 a1_1) ∧ w'.cell? ⟨gb174, 2, none⟩ = some (.int .i64 a1_2) ∧ w'.cell? ⟨gb174, 3, none⟩ = some (.slice A1_3 l1_3.length c1_3)) (ds := []) #[false, false, false, false, false] (by kernel_rfl) rfl rfl ⟨bc BK210 0, bc BK210 1, bc BK210 2, bc BK210 3, bc BK174 0, bc BK174 1, bc BK174 2, bc BK174 3⟩ (fun hHeld => ?_)
    generalize w269.drew = w270 at HO_197003 HO_204003 HO_211003 HO_219003 HO225 BK173 BK174 BK196 BK203 BK210 BK218 HB hHeld ⊢
    refine take_ (i := 0) (N := some 59) (v := ?_) (a' := ?_) #[true, false, false, false, false] rfl rfl (by kernel_rfl) (fun _ _ _ h => h) (Or.inl ⟨by rfl, ?_⟩) hHeld ?_ ?_
    rotate_left
    ·
     rintro w' ⟨s0, s1, s2, s3, s4, s5, s6, s7⟩
     go_simp
     with_reducible rfl
    rotate_left
    ·
     simp only [Act.put, setIfInBounds_toArray, set_cons_zero, set_cons_succ, i64_w, i32_w]
     rfl
    refine take_ (i := 1) (N := some 60) (v := ?_) (a' := ?_) #[true, true, false, false, false] rfl rfl (by kernel_rfl) (fun _ _ _ h => h) (Or.inl ⟨by rfl, ?_⟩) hHeld ?_ ?_
    rotate_left
    ·
     rintro w' ⟨s0, s1, s2, s3, s4, s5, s6, s7⟩
     go_simp
     with_reducible rfl
    rotate_left
    ·
     simp only [Act.put, setIfInBounds_toArray, set_cons_zero, set_cons_succ, i64_w, i32_w]
     rfl
    refine one_ (i := 2) (N := some 61) #[true, true, true, false, false] rfl rfl (by kernel_rfl) (by decide) (fun K hK => ?_)
    refine goes_ Try.func11 (by kernel_rfl) rfl #[.agg #[.int .i64 a1_0, .int .i64 a1_1, .int .i64 a1_2, .slice A1_3 l1_3.length c1_3]] (by rfl) rfl rfl (by (try simp only [List.map_toArray, List.map_cons, List.map_nil]); first | done | rfl) ?_
    with_reducible refine (laws_toTable.calls kj24 a1_0 a1_1 a1_2 _ _ l1_3 t227 t228 t229 t230 _ ?side1 ?side2 A105.out).mono ?_
    (case side1 => exact uC HR1_3 HB)
    (case side2 => exact HC1_3.out)
    rintro e w271 ⟨v231, rfl, ho0, hb⟩
    refine ⟨_, rfl, ?_⟩
    have HO232 := Aside0.mk (Kd.R_lower (Kd.R_new' (Kd.R_new' (Kd.R_new' (Kd.R_new' (Kd.R_new' ho0 (Kd.R_lt (uR HO_197003))) (Kd.R_lt (uR HO_204003))) (Kd.R_lt (uR HO_211003))) (Kd.R_lt (uR HO_219003))) (Kd.R_lt (uR HO225))) (below_size (uN HB)))
    replace HO_197003 := Aside0.mk (Kd.R_elder' (uR HO_197003) (Kd.R_base ho0) hb)
    replace HO_204003 := Aside0.mk (Kd.R_elder' (uR HO_204003) (Kd.R_base ho0) hb)
    replace HO_211003 := Aside0.mk (Kd.R_elder' (uR HO_211003) (Kd.R_base ho0) hb)
    replace HO_219003 := Aside0.mk (Kd.R_elder' (uR HO_219003) (Kd.R_base ho0) hb)
    replace HO225 := Aside0.mk (Kd.R_elder' (uR HO225) (Kd.R_base ho0) hb)
    replace BK173 := kB BK173 hb
    replace BK174 := kB BK174 hb
    replace BK196 := kB BK196 hb
    replace BK203 := kB BK203 hb
    replace BK210 := kB BK210 hb
    replace BK218 := kB BK218 hb
    replace HB := Aside0.mk (below_step (uN HB) hb)
    (try clear hb)
    (try clear hb2)
    (try clear hk)
    (try clear hi)
    (try clear ho0)
    obtain ⟨Ao272, co272, eo272⟩ := Kd.R_slice HO232.out
    (first | subst eo272 | (injection eo272 with f1_ f2_ f3_; have f4_ := f1_.symm; have f5_ := f3_.symm; clear f1_ f2_ f3_; subst f4_; subst f5_))
    refine hK.out _ _ ⟨bc BK210 0, bc BK210 1, bc BK210 2, bc BK210 3, bc BK174 0, bc BK174 1, bc BK174 2, bc BK174 3⟩ (fun hHeld => ?_)
    clear hK K
    refine norm_ (a' := ?_) ?_ ?_
    rotate_left
    ·
     show Act.put _ (some 61) _ = _
     simp only [Act.put, setIfInBounds_toArray, set_cons_zero, set_cons_succ, i64_w, i32_w]
     rfl
    refine one_ (i := 3) (N := some 62) #[true, true, true, true, false] rfl rfl (by kernel_rfl) (by decide) (fun K hK => ?_)
    refine goes_ Try.func13 (by kernel_rfl) rfl #[.agg #[.int .i64 t204, .int .i64 t205, .int .i64 t206, .slice Ao64 t207.length co64], .agg #[.int .i64 t227, .int .i64 t228, .int .i64 t229, .slice Ao272 t230.length co272]] (by rfl) rfl rfl (by (try simp only [List.map_toArray, List.map_cons, List.map_nil]); first | done | rfl) ?_
    with_reducible refine (laws_eqTable.calls kj24 t204 t205 t206 _ _ t207 t227 t228 t229 _ _ t230 false _ ?side1 ?side2 ?side3 ?side4 A106.out).mono ?_
    (case side1 => exact uD HO_211003)
    (case side2 => exact (Kd.R_reads' HO_211003.out).2.1)
    (case side3 => exact uD HO232)
    (case side4 => exact (Kd.R_reads' HO232.out).2.1)
    rintro e w273 ⟨rfl, hb⟩
    refine ⟨_, rfl, ?_⟩
    replace HO_197003 := Aside0.mk (Kd.R_below (uR HO_197003) hb)
    replace HO_204003 := Aside0.mk (Kd.R_below (uR HO_204003) hb)
    replace HO_211003 := Aside0.mk (Kd.R_below (uR HO_211003) hb)
    replace HO_219003 := Aside0.mk (Kd.R_below (uR HO_219003) hb)
    replace HO225 := Aside0.mk (Kd.R_below (uR HO225) hb)
    replace HO232 := Aside0.mk (Kd.R_below (uR HO232) hb)
    replace BK173 := kB BK173 hb
    replace BK174 := kB BK174 hb
    replace BK196 := kB BK196 hb
    replace BK203 := kB BK203 hb
    replace BK210 := kB BK210 hb
    replace BK218 := kB BK218 hb
    replace HB := Aside0.mk (below_step (uN HB) hb)
    (try clear hb)
    (try clear hb2)
    (try clear hk)
    (try clear hi)
    refine hK.out _ _ ⟨bc BK210 0, bc BK210 1, bc BK210 2, bc BK210 3, bc BK174 0, bc BK174 1, bc BK174 2, bc BK174 3⟩ (fun hHeld => ?_)
    clear hK K
    refine norm_ (a' := ?_) ?_ ?_
    rotate_left
    ·
     show Act.put _ (some 62) _ = _
     simp only [Act.put, setIfInBounds_toArray, set_cons_zero, set_cons_succ, i64_w, i32_w]
     rfl
    refine pure_ (i := 4) (N := some 63) (v := ?_) (a' := ?_) #[true, true, true, true, true] rfl rfl (by kernel_rfl) (fun _ _ _ h => h) (Or.inl ⟨by rfl, ?_⟩) ?_ ?_
    rotate_left
    ·
     intro w'
     go_simp
     with_reducible rfl
    rotate_left
    ·
     simp only [Act.put, setIfInBounds_toArray, set_cons_zero, set_cons_succ, i64_w, i32_w]
     rfl
    refine done_ (by kernel_rfl) ?_
    try go_wp2
    go_ret
    exact ⟨by first | rfl | (simp [errW_none, errW_some] <;> rfl) | (simp [*, errW_none, errW_some] <;> rfl), uN HB⟩
   replace c104 := Bool.eq_false_iff.mpr c104
   subst c104
   rw [if_neg (show ¬ (false = true) by decide)] at H
   obtain rfl := Option.some.inj H
   try go_wp2
   replace HO_197003 := Aside0.mk (Kd.R_drew HO_197003.out)
   replace HO_204003 := Aside0.mk (Kd.R_drew HO_204003.out)
   replace HO_211003 := Aside0.mk (Kd.R_drew HO_211003.out)
   replace HO_219003 := Aside0.mk (Kd.R_drew HO_219003.out)
   replace BK173 := Aside0.mk (blk_drew BK173.out)
   replace BK174 := Aside0.mk (blk_drew BK174.out)
   replace BK196 := Aside0.mk (blk_drew BK196.out)
   replace BK203 := Aside0.mk (blk_drew BK203.out)
   replace BK210 := Aside0.mk (blk_drew BK210.out)
   replace BK218 := Aside0.mk (blk_drew BK218.out)
   replace HB := Aside0.mk (below_drew1 HB.out)
   refine start_ (n := 5) (S := fun w' => w'.cell? ⟨gb203, 0, none⟩ = some (.int .i64 t197) ∧ w'.cell? ⟨gb203, 1, none⟩ = some (.int .i64 t198) ∧ w'.cell? ⟨gb203, 2, none⟩ = some (.int .i64 t199) ∧ w'.cell? ⟨gb203, 3, none⟩ = some (.slice Ao54 t200.length co54) ∧ w'.cell? ⟨gb173, 0, none⟩ = some (.int .i64 a0_0) ∧ w'.cell? ⟨gb173, 1, none⟩ = some (.int .i64 a0_1) ∧ w'.cell? ⟨gb173, 2, none⟩ = some (.int .i64 a0_2) ∧ w'.cell? ⟨gb173, 3, none⟩ = some (.slice A0_3 l0_3.length c0_3)) (ds := []) #[false, false, false, false, false] (by kernel_rfl) rfl rfl ⟨bc BK203 0, bc BK203 1, bc BK203 2, bc BK203 3, bc BK173 0, bc BK173 1, bc BK173 2, bc BK173 3⟩ (fun hHeld => ?_)
   generalize wc.drew = w274 at HO_197003 HO_204003 HO_211003 HO_219003 BK173 BK174 BK196 BK203 BK210 BK218 HB hHeld ⊢
   refine take_ (i := 0) (N := some 54) (v := ?_) (a' := ?_) #[true, false, false, false, false] rfl rfl (by kernel_rfl) (fun _ _ _ h => h) (Or.inl ⟨by rfl, ?_⟩) hHeld ?_ ?_
   rotate_left
   ·
    rintro w' ⟨s0, s1, s2, s3, s4, s5, s6, s7⟩
    go_simp
    with_reducible rfl
   rotate_left
   ·
    simp only [Act.put, setIfInBounds_toArray, set_cons_zero, set_cons_succ, i64_w, i32_w]
    rfl
   refine take_ (i := 1) (N := some 55) (v := ?_) (a' := ?_) #[true, true, false, false, false] rfl rfl (by kernel_rfl) (fun _ _ _ h => h) (Or.inl ⟨by rfl, ?_⟩) hHeld ?_ ?_
   rotate_left
   ·
    rintro w' ⟨s0, s1, s2, s3, s4, s5, s6, s7⟩
    go_simp
    with_reducible rfl
   rotate_left
   ·
    simp only [Act.put, setIfInBounds_toArray, set_cons_zero, set_cons_succ, i64_w, i32_w]
    rfl
   refine one_ (i := 2) (N := some 56) #[true, true, true, false, false] rfl rfl (by kernel_rfl) (by decide) (fun K hK => ?_)
   refine goes_ Try.func11 (by kernel_rfl) rfl #[.agg #[.int .i64 a0_0, .int .i64 a0_1, .int .i64 a0_2, .slice A0_3 l0_3.length c0_3]] (by rfl) rfl rfl (by (try simp only [List.map_toArray, List.map_cons, List.map_nil]); first | done | rfl) ?_
   with_reducible refine (laws_toTable.calls kj24 a0_0 a0_1 a0_2 _ _ l0_3 t220 t221 t222 t223 _ ?side1 ?side2 A102.out).mono ?_
   (case side1 => exact uC HR0_3 HB)
   (case side2 => exact HC0_3.out)
   rintro e w275 ⟨v224, rfl, ho0, hb⟩
   refine ⟨_, rfl, ?_⟩
   have HO225 := Aside0.mk (Kd.R_lower (Kd.R_new' (Kd.R_new' (Kd.R_new' (Kd.R_new' ho0 (Kd.R_lt (uR HO_197003))) (Kd.R_lt (uR HO_204003))) (Kd.R_lt (uR HO_211003))) (Kd.R_lt (uR HO_219003))) (below_size (uN HB)))
   replace HO_197003 := Aside0.mk (Kd.R_elder' (uR HO_197003) (Kd.R_base ho0) hb)
   replace HO_204003 := Aside0.mk (Kd.R_elder' (uR HO_204003) (Kd.R_base ho0) hb)
   replace HO_211003 := Aside0.mk (Kd.R_elder' (uR HO_211003) (Kd.R_base ho0) hb)
   replace HO_219003 := Aside0.mk (Kd.R_elder' (uR HO_219003) (Kd.R_base ho0) hb)
   replace BK173 := kB BK173 hb
   replace BK174 := kB BK174 hb
   replace BK196 := kB BK196 hb
   replace BK203 := kB BK203 hb
   replace BK210 := kB BK210 hb
   replace BK218 := kB BK218 hb
   replace HB := Aside0.mk (below_step (uN HB) hb)
   (try clear hb)
   (try clear hb2)
   (try clear hk)
   (try clear hi)
   (try clear ho0)
   obtain ⟨Ao276, co276, eo276⟩ := Kd.R_slice HO225.out
   (first | subst eo276 | (injection eo276 with f1_ f2_ f3_; have f4_ := f1_.symm; have f5_ := f3_.symm; clear f1_ f2_ f3_; subst f4_; subst f5_))
   refine hK.out _ _ ⟨bc BK203 0, bc BK203 1, bc BK203 2, bc BK203 3, bc BK173 0, bc BK173 1, bc BK173 2, bc BK173 3⟩ (fun hHeld => ?_)
   clear hK K
   refine norm_ (a' := ?_) ?_ ?_
   rotate_left
   ·
    show Act.put _ (some 56) _ = _
    simp only [Act.put, setIfInBounds_toArray, set_cons_zero, set_cons_succ, i64_w, i32_w]
    rfl
   refine one_ (i := 3) (N := some 57) #[true, true, true, true, false] rfl rfl (by kernel_rfl) (by decide) (fun K hK => ?_)
   refine goes_ Try.func13 (by kernel_rfl) rfl #[.agg #[.int .i64 t197, .int .i64 t198, .int .i64 t199, .slice Ao54 t200.length co54], .agg #[.int .i64 t220, .int .i64 t221, .int .i64 t222, .slice Ao276 t223.length co276]] (by rfl) rfl rfl (by (try simp only [List.map_toArray, List.map_cons, List.map_nil]); first | done | rfl) ?_
   with_reducible refine (laws_eqTable.calls kj24 t197 t198 t199 _ _ t200 t220 t221 t222 _ _ t223 false _ ?side1 ?side2 ?side3 ?side4 A103.out).mono ?_
   (case side1 => exact uD HO_204003)
   (case side2 => exact (Kd.R_reads' HO_204003.out).2.1)
   (case side3 => exact uD HO225)
   (case side4 => exact (Kd.R_reads' HO225.out).2.1)
   rintro e w277 ⟨rfl, hb⟩
   refine ⟨_, rfl, ?_⟩
   replace HO_197003 := Aside0.mk (Kd.R_below (uR HO_197003) hb)
   replace HO_204003 := Aside0.mk (Kd.R_below (uR HO_204003) hb)
   replace HO_211003 := Aside0.mk (Kd.R_below (uR HO_211003) hb)
   replace HO_219003 := Aside0.mk (Kd.R_below (uR HO_219003) hb)
   replace HO225 := Aside0.mk (Kd.R_below (uR HO225) hb)
   replace BK173 := kB BK173 hb
   replace BK174 := kB BK174 hb
   replace BK196 := kB BK196 hb
   replace BK203 := kB BK203 hb
   replace BK210 := kB BK210 hb
   replace BK218 := kB BK218 hb
   replace HB := Aside0.mk (below_step (uN HB) hb)
   (try clear hb)
   (try clear hb2)
   (try clear hk)
   (try clear hi)
   refine hK.out _ _ ⟨bc BK203 0, bc BK203 1, bc BK203 2, bc BK203 3, bc BK173 0, bc BK173 1, bc BK173 2, bc BK173 3⟩ (fun hHeld => ?_)
   clear hK K
   refine norm_ (a' := ?_) ?_ ?_
   rotate_left
   ·
    show Act.put _ (some 57) _ = _
    simp only [Act.put, setIfInBounds_toArray, set_cons_zero, set_cons_succ, i64_w, i32_w]
    rfl
   refine pure_ (i := 4) (N := some 58) (v := ?_) (a' := ?_) #[true, true, true, true, true] rfl rfl (by kernel_rfl) (fun _ _ _ h => h) (Or.inl ⟨by rfl, ?_⟩) ?_ ?_
   rotate_left
   ·
    intro w'
    go_simp
    with_reducible rfl
   rotate_left
   ·
    simp only [Act.put, setIfInBounds_toArray, set_cons_zero, set_cons_succ, i64_w, i32_w]
    rfl
   refine done_ (by kernel_rfl) ?_
   try go_wp2
   go_ret
   exact ⟨by first | rfl | (simp [errW_none, errW_some] <;> rfl) | (simp [*, errW_none, errW_some] <;> rfl), uN HB⟩

end Go.Proofs.Ytgnpledbeohjgaa.PFnExactAddTables
