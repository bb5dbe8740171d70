-- made by wip/tools/myprint.py over the kit's print, for this claim
import Derived.Test.YtgnpledbeohjgaaPFnExactBloomOfCountingx0
import Derived.Test.YtgnpledbeohjgaaPFnExactBloomOfCountingx1
import Derived.Test.YtgnpledbeohjgaaPFnExactBloomOfCountingx2
import Derived.Test.YtgnpledbeohjgaaPFnExactBloomOfCountingx3
import Derived.Test.YtgnpledbeohjgaaPFnExactBloomOfCountingx4
import Derived.Test.YtgnpledbeohjgaaPFnExactBloomOfCountingx5
namespace Go.Proofs.Ytgnpledbeohjgaa.PFnExactBloomOfCounting
open Go.RowKit Go.Proofs.YtgnpledbeohjgaaW.PrintWords Go.Proofs.YtgnpledbeohjgaaW.PrintLast Go.Proofs.YtgnpledbeohjgaaW.PrintMore
attribute [local go_sem] max2_int min2_int max_two min_two max_three min_three max_four min_four   -- for this text's walks alone
set_option linter.unusedVariables false
set_option linter.unusedSimpArgs false

/-! ### laws_FnExactBloomOfCounting: function 5 -/
mutual
def laws_FnExactBloomOfCounting.j0 : Nat → Bool → Bool → Bool → Int → Int → List Int → Int → Int → Int → List Int → Int → Int → List Int → Int → Int → Int → List Int → Option (Bool)
 | 0, _, _, _, _, _, _, _, _, _, _, _, _, _, _, _, _, _ => none
 | k + 1, x5, x8, x40, x197000, x197001, x197002, x211000, x211001, x211002, x211003, x217000, x217001, x217002, x225000, x225001, x225002, x225003 => if x40 = true then (some false) else ((laws_toCounting.f k x197000 x197001 x197002).bind fun bt226 => ((laws_eqCounting.f k x217000 x217001 x217002 bt226.1 bt226.2.1 bt226.2.2).bind fun t231 => (if t231 = true then ((laws_markCounting.f k x217000 x217001 x217002 1).bind fun bt232 => (if bt232.1 < 0 then (laws_FnExactBloomOfCounting.j1 k x5 true x197000 x197001 x197002 x211000 x211001 x211002 x211003 x225000 x225001 x225002 x225003) else ((laws_eqBloom.f k x225000 x225001 x225002 x225003 x211000 x211001 x211002 x211003).bind fun t234 => (if t234 = true then (laws_FnExactBloomOfCounting.j1 k x5 (x8 != x5) x197000 x197001 x197002 x211000 x211001 x211002 x211003 x225000 x225001 x225002 x225003) else (laws_FnExactBloomOfCounting.j1 k x5 true x197000 x197001 x197002 x211000 x211001 x211002 x211003 x225000 x225001 x225002 x225003))))) else (some false))))
def laws_FnExactBloomOfCounting.j1 : Nat → Bool → Bool → Int → Int → List Int → Int → Int → Int → List Int → Int → Int → Int → List Int → Option (Bool)
 | 0, _, _, _, _, _, _, _, _, _, _, _, _, _ => none
 | k + 1, x5, x61, x197000, x197001, x197002, x211000, x211001, x211002, x211003, x225000, x225001, x225002, x225003 => if x61 = true then (some false) else ((laws_markBloom.f k x225000 x225001 x225002 x225003 1).bind fun bt235 => ((laws_heldBloom.f k x225000 x225001 x225002 bt235.2 1).bind fun t237 => (if t237 < 0 then (some false) else (if t237 = bt235.1 then ((laws_toCounting.f k x197000 x197001 x197002).bind fun bt238 => ((impl_BloomOfCounting.f k bt238.1 bt238.2.1 bt238.2.2).bind fun bt243 => ((laws_eqBloom.f k bt243.1 bt243.2.1 bt243.2.2.1 bt243.2.2.2.1 x211000 x211001 x211002 x211003).bind fun t251 => (if t251 = true then (laws_FnExactBloomOfCounting.j2 k bt235.1 (bt243.2.2.2.2 != x5) x225000 x225001 x225002 bt235.2) else (laws_FnExactBloomOfCounting.j2 k bt235.1 true x225000 x225001 x225002 bt235.2))))) else (some false)))))
def laws_FnExactBloomOfCounting.j2 : Nat → Int → Bool → Int → Int → Int → List Int → Option (Bool)
 | 0, _, _, _, _, _, _ => none
 | k + 1, x10, x87, x225000, x225001, x225002, x225003 => if x87 = true then (some false) else ((laws_heldBloom.f k x225000 x225001 x225002 x225003 1).bind fun t252 => (if t252 < 0 then (some false) else (if t252 = x10 then (some true) else (some false))))
end
def laws_FnExactBloomOfCounting.f (k : Nat) (a0_0 : Int) (a0_1 : Int) (l0_2 : List Int) : Option (Bool) := (laws_szCounting.f a0_0 a0_1 l0_2 1048576).bind fun t197 => (if t197 < 0 then (some true) else ((laws_toCounting.f k a0_0 a0_1 l0_2).bind fun bt198 => ((spec_BloomOfCounting.f k bt198.1 bt198.2.1 bt198.2.2).bind fun bt203 => ((laws_toCounting.f k a0_0 a0_1 l0_2).bind fun bt211 => ((impl_BloomOfCounting.f k bt211.1 bt211.2.1 bt211.2.2).bind fun bt217 => ((laws_eqBloom.f k bt217.1 bt217.2.1 bt217.2.2.1 bt217.2.2.2.1 bt203.1 bt203.2.1 bt203.2.2.1 bt203.2.2.2.1).bind fun t225 => (if t225 = true then (laws_FnExactBloomOfCounting.j0 k bt203.2.2.2.2 bt217.2.2.2.2 (bt217.2.2.2.2 != bt203.2.2.2.2) a0_0 a0_1 l0_2 bt203.1 bt203.2.1 bt203.2.2.1 bt203.2.2.2.1 bt211.1 bt211.2.1 bt211.2.2 bt217.1 bt217.2.1 bt217.2.2.1 bt217.2.2.2.1) else (laws_FnExactBloomOfCounting.j0 k bt203.2.2.2.2 bt217.2.2.2.2 true a0_0 a0_1 l0_2 bt203.1 bt203.2.1 bt203.2.2.1 bt203.2.2.2.1 bt211.1 bt211.2.1 bt211.2.2 bt217.1 bt217.2.1 bt217.2.2.1 bt217.2.2.2.1))))))))
theorem laws_FnExactBloomOfCounting.mono_l : ∀ k, (∀ y0 y1 y2 y3 y4 y5 y6 y7 y8 y9 y10 y11 y12 y13 y14 y15 y16, LeO (laws_FnExactBloomOfCounting.j0 k y0 y1 y2 y3 y4 y5 y6 y7 y8 y9 y10 y11 y12 y13 y14 y15 y16) (laws_FnExactBloomOfCounting.j0 (k + 1) y0 y1 y2 y3 y4 y5 y6 y7 y8 y9 y10 y11 y12 y13 y14 y15 y16)) ∧ (∀ y0 y1 y2 y3 y4 y5 y6 y7 y8 y9 y10 y11 y12, LeO (laws_FnExactBloomOfCounting.j1 k y0 y1 y2 y3 y4 y5 y6 y7 y8 y9 y10 y11 y12) (laws_FnExactBloomOfCounting.j1 (k + 1) y0 y1 y2 y3 y4 y5 y6 y7 y8 y9 y10 y11 y12)) ∧ (∀ y0 y1 y2 y3 y4 y5, LeO (laws_FnExactBloomOfCounting.j2 k y0 y1 y2 y3 y4 y5) (laws_FnExactBloomOfCounting.j2 (k + 1) y0 y1 y2 y3 y4 y5))
 | 0 => ⟨fun _ _ _ _ _ _ _ _ _ _ _ _ _ _ _ _ _ r h => by simp [laws_FnExactBloomOfCounting.j0] at h, fun _ _ _ _ _ _ _ _ _ _ _ _ _ r h => by simp [laws_FnExactBloomOfCounting.j1] at h, fun _ _ _ _ _ _ r h => by simp [laws_FnExactBloomOfCounting.j2] at h⟩
 | k + 1 => by
  obtain ⟨ih0, ih1, ih2⟩ := laws_FnExactBloomOfCounting.mono_l k
  refine ⟨?_, ?_, ?_⟩
  ·
   intro y0 y1 y2 y3 y4 y5 y6 y7 y8 y9 y10 y11 y12 y13 y14 y15 y16
   unfold laws_FnExactBloomOfCounting.j0
   repeat' first
   | (with_reducible exact ih0 _ _ _ _ _ _ _ _ _ _ _ _ _ _ _ _ _)
   | (with_reducible exact ih1 _ _ _ _ _ _ _ _ _ _ _ _ _)
   | (with_reducible exact ih2 _ _ _ _ _ _)
   | (with_reducible exact impl_BloomOfCounting.mono _ _ _ _)
   | (with_reducible exact laws_eqBloom.mono _ _ _ _ _ _ _ _ _)
   | (with_reducible exact laws_eqCounting.mono _ _ _ _ _ _ _)
   | (with_reducible exact laws_heldBloom.mono _ _ _ _ _ _)
   | (with_reducible exact laws_markBloom.mono _ _ _ _ _ _)
   | (with_reducible exact laws_markCounting.mono _ _ _ _ _)
   | (with_reducible exact laws_toCounting.mono _ _ _ _)
   | (with_reducible exact spec_BloomOfCounting.mono _ _ _ _)
   | (with_reducible exact LeO.refl _)
   | (with_reducible exact LeO.none _)
   | (with_reducible refine LeO.ite ?_ ?_)
   | (with_reducible refine LeO.bind ?_ (fun _ => ?_))
   | exact ih0 _ _ _ _ _ _ _ _ _ _ _ _ _ _ _ _ _
   | exact ih1 _ _ _ _ _ _ _ _ _ _ _ _ _
   | exact ih2 _ _ _ _ _ _
   | exact impl_BloomOfCounting.mono _ _ _ _
   | exact laws_eqBloom.mono _ _ _ _ _ _ _ _ _
   | exact laws_eqCounting.mono _ _ _ _ _ _ _
   | exact laws_heldBloom.mono _ _ _ _ _ _
   | exact laws_markBloom.mono _ _ _ _ _ _
   | exact laws_markCounting.mono _ _ _ _ _
   | exact laws_toCounting.mono _ _ _ _
   | exact spec_BloomOfCounting.mono _ _ _ _
   | exact LeO.none _
   | refine LeO.ite ?_ ?_
   | refine LeO.bind ?_ (fun _ => ?_)
  ·
   intro y0 y1 y2 y3 y4 y5 y6 y7 y8 y9 y10 y11 y12
   unfold laws_FnExactBloomOfCounting.j1
   repeat' first
   | (with_reducible exact ih0 _ _ _ _ _ _ _ _ _ _ _ _ _ _ _ _ _)
   | (with_reducible exact ih1 _ _ _ _ _ _ _ _ _ _ _ _ _)
   | (with_reducible exact ih2 _ _ _ _ _ _)
   | (with_reducible exact impl_BloomOfCounting.mono _ _ _ _)
   | (with_reducible exact laws_eqBloom.mono _ _ _ _ _ _ _ _ _)
   | (with_reducible exact laws_eqCounting.mono _ _ _ _ _ _ _)
   | (with_reducible exact laws_heldBloom.mono _ _ _ _ _ _)
   | (with_reducible exact laws_markBloom.mono _ _ _ _ _ _)
   | (with_reducible exact laws_markCounting.mono _ _ _ _ _)
   | (with_reducible exact laws_toCounting.mono _ _ _ _)
   | (with_reducible exact spec_BloomOfCounting.mono _ _ _ _)
   | (with_reducible exact LeO.refl _)
   | (with_reducible exact LeO.none _)
   | (with_reducible refine LeO.ite ?_ ?_)
   | (with_reducible refine LeO.bind ?_ (fun _ => ?_))
   | exact ih0 _ _ _ _ _ _ _ _ _ _ _ _ _ _ _ _ _
   | exact ih1 _ _ _ _ _ _ _ _ _ _ _ _ _
   | exact ih2 _ _ _ _ _ _
   | exact impl_BloomOfCounting.mono _ _ _ _
   | exact laws_eqBloom.mono _ _ _ _ _ _ _ _ _
   | exact laws_eqCounting.mono _ _ _ _ _ _ _
   | exact laws_heldBloom.mono _ _ _ _ _ _
   | exact laws_markBloom.mono _ _ _ _ _ _
   | exact laws_markCounting.mono _ _ _ _ _
   | exact laws_toCounting.mono _ _ _ _
   | exact spec_BloomOfCounting.mono _ _ _ _
   | exact LeO.none _
   | refine LeO.ite ?_ ?_
   | refine LeO.bind ?_ (fun _ => ?_)
  ·
   intro y0 y1 y2 y3 y4 y5
   unfold laws_FnExactBloomOfCounting.j2
   repeat' first
   | (with_reducible exact ih0 _ _ _ _ _ _ _ _ _ _ _ _ _ _ _ _ _)
   | (with_reducible exact ih1 _ _ _ _ _ _ _ _ _ _ _ _ _)
   | (with_reducible exact ih2 _ _ _ _ _ _)
   | (with_reducible exact impl_BloomOfCounting.mono _ _ _ _)
   | (with_reducible exact laws_eqBloom.mono _ _ _ _ _ _ _ _ _)
   | (with_reducible exact laws_eqCounting.mono _ _ _ _ _ _ _)
   | (with_reducible exact laws_heldBloom.mono _ _ _ _ _ _)
   | (with_reducible exact laws_markBloom.mono _ _ _ _ _ _)
   | (with_reducible exact laws_markCounting.mono _ _ _ _ _)
   | (with_reducible exact laws_toCounting.mono _ _ _ _)
   | (with_reducible exact spec_BloomOfCounting.mono _ _ _ _)
   | (with_reducible exact LeO.refl _)
   | (with_reducible exact LeO.none _)
   | (with_reducible refine LeO.ite ?_ ?_)
   | (with_reducible refine LeO.bind ?_ (fun _ => ?_))
   | exact ih0 _ _ _ _ _ _ _ _ _ _ _ _ _ _ _ _ _
   | exact ih1 _ _ _ _ _ _ _ _ _ _ _ _ _
   | exact ih2 _ _ _ _ _ _
   | exact impl_BloomOfCounting.mono _ _ _ _
   | exact laws_eqBloom.mono _ _ _ _ _ _ _ _ _
   | exact laws_eqCounting.mono _ _ _ _ _ _ _
   | exact laws_heldBloom.mono _ _ _ _ _ _
   | exact laws_markBloom.mono _ _ _ _ _ _
   | exact laws_markCounting.mono _ _ _ _ _
   | exact laws_toCounting.mono _ _ _ _
   | exact spec_BloomOfCounting.mono _ _ _ _
   | exact LeO.none _
   | refine LeO.ite ?_ ?_
   | refine LeO.bind ?_ (fun _ => ?_)
theorem laws_FnExactBloomOfCounting.mono : ∀ a0 a1 a2 k, LeO (laws_FnExactBloomOfCounting.f k a0 a1 a2) (laws_FnExactBloomOfCounting.f (k + 1) a0 a1 a2) := by
 intro a0 a1 a2 k
 obtain ⟨ih0, ih1, ih2⟩ := laws_FnExactBloomOfCounting.mono_l k
 unfold laws_FnExactBloomOfCounting.f
 repeat' first
   | (with_reducible exact ih0 _ _ _ _ _ _ _ _ _ _ _ _ _ _ _ _ _)
   | (with_reducible exact ih1 _ _ _ _ _ _ _ _ _ _ _ _ _)
   | (with_reducible exact ih2 _ _ _ _ _ _)
   | (with_reducible exact impl_BloomOfCounting.mono _ _ _ _)
   | (with_reducible exact laws_eqBloom.mono _ _ _ _ _ _ _ _ _)
   | (with_reducible exact laws_eqCounting.mono _ _ _ _ _ _ _)
   | (with_reducible exact laws_heldBloom.mono _ _ _ _ _ _)
   | (with_reducible exact laws_markBloom.mono _ _ _ _ _ _)
   | (with_reducible exact laws_markCounting.mono _ _ _ _ _)
   | (with_reducible exact laws_toCounting.mono _ _ _ _)
   | (with_reducible exact spec_BloomOfCounting.mono _ _ _ _)
   | (with_reducible exact LeO.refl _)
   | (with_reducible exact LeO.none _)
   | (with_reducible refine LeO.ite ?_ ?_)
   | (with_reducible refine LeO.bind ?_ (fun _ => ?_))
   | exact ih0 _ _ _ _ _ _ _ _ _ _ _ _ _ _ _ _ _
   | exact ih1 _ _ _ _ _ _ _ _ _ _ _ _ _
   | exact ih2 _ _ _ _ _ _
   | exact impl_BloomOfCounting.mono _ _ _ _
   | exact laws_eqBloom.mono _ _ _ _ _ _ _ _ _
   | exact laws_eqCounting.mono _ _ _ _ _ _ _
   | exact laws_heldBloom.mono _ _ _ _ _ _
   | exact laws_markBloom.mono _ _ _ _ _ _
   | exact laws_markCounting.mono _ _ _ _ _
   | exact laws_toCounting.mono _ _ _ _
   | exact spec_BloomOfCounting.mono _ _ _ _
   | exact LeO.none _
   | refine LeO.ite ?_ ?_
   | refine LeO.bind ?_ (fun _ => ?_)
set_option maxHeartbeats 8000000 in
set_option maxRecDepth 100000 in
theorem laws_FnExactBloomOfCounting.calls (k : Nat) (a0_0 : Int) (a0_1 : Int) (A0_2 : Option Addr) (c0_2 : Nat) (l0_2 : List Int) (r : Bool) (w : World) (hr0_2 : Kd.C (Kd.int .i64) w A0_2 l0_2.length l0_2) (hc0_2 : l0_2.length ≤ c0_2) (h : laws_FnExactBloomOfCounting.f k a0_0 a0_1 l0_2 = some r) :
  Calls Try.prog 5 #[.agg #[.int .i64 a0_0, .int .i64 a0_1, .slice A0_2 l0_2.length c0_2]] w fun e w' => e = .returned (.bool r) ∧ Below w.heap.size w w' := by
 have hu48 := Try.underlying48
 have hu40 := Try.underlying40
 have hu51 := Try.underlying51
 have HR0_2 := Aside0.mk hr0_2
 have HC0_2 := Aside0.mk hc0_2
 clear hr0_2 hc0_2
 have HB := Aside0.mk (Below.refl w.heap.size w)
 have H : ((laws_szCounting.f a0_0 a0_1 l0_2 1048576).bind fun t197 => (if t197 < 0 then (some true) else ((laws_toCounting.f k a0_0 a0_1 l0_2).bind fun bt198 => ((spec_BloomOfCounting.f k bt198.1 bt198.2.1 bt198.2.2).bind fun bt203 => ((laws_toCounting.f k a0_0 a0_1 l0_2).bind fun bt211 => ((impl_BloomOfCounting.f k bt211.1 bt211.2.1 bt211.2.2).bind fun bt217 => ((laws_eqBloom.f k bt217.1 bt217.2.1 bt217.2.2.1 bt217.2.2.2.1 bt203.1 bt203.2.1 bt203.2.2.1 bt203.2.2.2.1).bind fun t225 => (if t225 = true then (laws_FnExactBloomOfCounting.j0 k bt203.2.2.2.2 bt217.2.2.2.2 (bt217.2.2.2.2 != bt203.2.2.2.2) a0_0 a0_1 l0_2 bt203.1 bt203.2.1 bt203.2.2.1 bt203.2.2.2.1 bt211.1 bt211.2.1 bt211.2.2 bt217.1 bt217.2.1 bt217.2.2.1 bt217.2.2.2.1) else (laws_FnExactBloomOfCounting.j0 k bt203.2.2.2.2 bt217.2.2.2.2 true a0_0 a0_1 l0_2 bt203.1 bt203.2.1 bt203.2.2.1 bt203.2.2.2.1 bt211.1 bt211.2.1 bt211.2.2 bt217.1 bt217.2.1 bt217.2.2.1 bt217.2.2.2.1))))))))) = some r := h
 clear h
 replace H := Option.bind_eq_some_iff.mp H
 obtain ⟨t197, A20, H⟩ := H
 replace H : (if t197 < 0 then (some true) else ((laws_toCounting.f k a0_0 a0_1 l0_2).bind fun bt198 => ((spec_BloomOfCounting.f k bt198.1 bt198.2.1 bt198.2.2).bind fun bt203 => ((laws_toCounting.f k a0_0 a0_1 l0_2).bind fun bt211 => ((impl_BloomOfCounting.f k bt211.1 bt211.2.1 bt211.2.2).bind fun bt217 => ((laws_eqBloom.f k bt217.1 bt217.2.1 bt217.2.2.1 bt217.2.2.2.1 bt203.1 bt203.2.1 bt203.2.2.1 bt203.2.2.2.1).bind fun t225 => (if t225 = true then (laws_FnExactBloomOfCounting.j0 k bt203.2.2.2.2 bt217.2.2.2.2 (bt217.2.2.2.2 != bt203.2.2.2.2) a0_0 a0_1 l0_2 bt203.1 bt203.2.1 bt203.2.2.1 bt203.2.2.2.1 bt211.1 bt211.2.1 bt211.2.2 bt217.1 bt217.2.1 bt217.2.2.1 bt217.2.2.2.1) else (laws_FnExactBloomOfCounting.j0 k bt203.2.2.2.2 bt217.2.2.2.2 true a0_0 a0_1 l0_2 bt203.1 bt203.2.1 bt203.2.2.1 bt203.2.2.2.1 bt211.1 bt211.2.1 bt211.2.2 bt217.1 bt217.2.1 bt217.2.2.1 bt217.2.2.2.1)))))))) = some r := H
 have A2 := Aside0.mk A20
 clear A20
 by_cases c3 : t197 < 0
 ·
  rw [if_pos c3] at H
  have c3b0 : decide (t197 < 0) = true := decide_eq_true c3
  clear c3
  obtain rfl := Option.some.inj H
  go_enter Try.func5, Try.ntmps5
  go_wp2_with (first | ((with_reducible refine gate_dst (N := 1) rfl ?_); refine box_event ?hg (N := 1) ?hd (cs := #[.int .i64 a0_0, .int .i64 a0_1, .slice A0_2 l0_2.length c0_2]) (t := 48) ?hr ?_; (case hd => rfl); (case hg => rfl); (case hr => first | (go_simp; done) | (go_simp; rfl)); intro gb196 hg w4 hbox hb; have n0_ := Aside0.mk (below_step (uB HB) hb); have n1_ := Aside0.mk (hbox); have n2_ := Aside0.mk ((by rw [hg]; exact (below_size (uB HB)) : w.heap.size ≤ gb196)); have n3_ := Aside0.mk ((by rw [hg]; exact (below_size (uB HB)) : w.heap.size ≤ gb196)); clear HB; have HB := n0_; have BK196 := n1_; have GW196 := n2_; have GE196 := n3_; clear n0_ n1_ n2_ n3_ hb hbox hg; have hcz5_0 : w4.cell? ⟨gb196, 0, none⟩ = some (.int .i64 a0_0) := (blk_cell BK196.out 0).trans rfl; have hcz5_1 : w4.cell? ⟨gb196, 1, none⟩ = some (.int .i64 a0_1) := (blk_cell BK196.out 1).trans rfl; have hcz5_2 : w4.cell? ⟨gb196, 2, none⟩ = some (.slice A0_2 l0_2.length c0_2) := (blk_cell BK196.out 2).trans rfl; have hfz5_0 := blk_frozen BK196.out 0; have hfz5_1 := blk_frozen BK196.out 1; have hfz5_2 := blk_frozen BK196.out 2) | ((with_reducible refine gate_callee (f := 23) rfl ?_); refine goesL_ (some 16) rfl rfl Try.func23 (by kernel_rfl) rfl #[.agg #[.int .i64 a0_0, .int .i64 a0_1, .slice A0_2 l0_2.length c0_2], .int .i64 1048576] rfl (by (try simp only [List.map_toArray, List.map_cons, List.map_nil]); first | done | rfl | (simp only [List.length_drop, List.length_take]; rfl)) ?_; (with_reducible refine (laws_szCounting.calls a0_0 a0_1 _ _ l0_2 1048576 t197 _ ?side1 ?side2 A2.out).mono ?_); (case side1 => exact uC HR0_2 HB); (case side2 => exact HC0_2.out); rintro e w6 ⟨rfl, hb⟩; refine ⟨_, rfl, ?_⟩; have n0_ := Aside0.mk (blk_below (g := gb196) (o := .cells #[.int .i64 a0_0, .int .i64 a0_1, .slice A0_2 l0_2.length c0_2] 48 (0, 0)) (uK BK196) hb); have n1_ := Aside0.mk (below_step (by first | exact uB HB | exact uS HB (gC GE196 gN)) hb); clear BK196 HB; have BK196 := n0_; have HB := n1_; clear n0_ n1_; (try clear hb); (try clear hb2); (try clear hk); (try clear hi)))
  go_ret
  exact ⟨by first | rfl | (simp [errW_none, errW_some] <;> rfl) | (simp [*, errW_none, errW_some] <;> rfl), by first | exact uB HB | exact uS HB (gC GE196 gN)⟩
 ·
  rw [if_neg c3] at H
  have c3b0 : decide (t197 < 0) = false := decide_eq_false c3
  clear c3
  replace H := Option.bind_eq_some_iff.mp H
  obtain ⟨⟨t198, t199, t200⟩, A70, H⟩ := H
  replace H : ((spec_BloomOfCounting.f k t198 t199 t200).bind fun bt203 => ((laws_toCounting.f k a0_0 a0_1 l0_2).bind fun bt211 => ((impl_BloomOfCounting.f k bt211.1 bt211.2.1 bt211.2.2).bind fun bt217 => ((laws_eqBloom.f k bt217.1 bt217.2.1 bt217.2.2.1 bt217.2.2.2.1 bt203.1 bt203.2.1 bt203.2.2.1 bt203.2.2.2.1).bind fun t225 => (if t225 = true then (laws_FnExactBloomOfCounting.j0 k bt203.2.2.2.2 bt217.2.2.2.2 (bt217.2.2.2.2 != bt203.2.2.2.2) a0_0 a0_1 l0_2 bt203.1 bt203.2.1 bt203.2.2.1 bt203.2.2.2.1 bt211.1 bt211.2.1 bt211.2.2 bt217.1 bt217.2.1 bt217.2.2.1 bt217.2.2.2.1) else (laws_FnExactBloomOfCounting.j0 k bt203.2.2.2.2 bt217.2.2.2.2 true a0_0 a0_1 l0_2 bt203.1 bt203.2.1 bt203.2.2.1 bt203.2.2.2.1 bt211.1 bt211.2.1 bt211.2.2 bt217.1 bt217.2.1 bt217.2.2.1 bt217.2.2.2.1)))))) = some r := H
  have A7 := Aside0.mk A70
  clear A70
  replace H := Option.bind_eq_some_iff.mp H
  obtain ⟨⟨t203, t204, t205, t206, t209⟩, A80, H⟩ := H
  replace H : ((laws_toCounting.f k a0_0 a0_1 l0_2).bind fun bt211 => ((impl_BloomOfCounting.f k bt211.1 bt211.2.1 bt211.2.2).bind fun bt217 => ((laws_eqBloom.f k bt217.1 bt217.2.1 bt217.2.2.1 bt217.2.2.2.1 t203 t204 t205 t206).bind fun t225 => (if t225 = true then (laws_FnExactBloomOfCounting.j0 k t209 bt217.2.2.2.2 (bt217.2.2.2.2 != t209) a0_0 a0_1 l0_2 t203 t204 t205 t206 bt211.1 bt211.2.1 bt211.2.2 bt217.1 bt217.2.1 bt217.2.2.1 bt217.2.2.2.1) else (laws_FnExactBloomOfCounting.j0 k t209 bt217.2.2.2.2 true a0_0 a0_1 l0_2 t203 t204 t205 t206 bt211.1 bt211.2.1 bt211.2.2 bt217.1 bt217.2.1 bt217.2.2.1 bt217.2.2.2.1))))) = some r := H
  have A8 := Aside0.mk A80
  clear A80
  replace H := Option.bind_eq_some_iff.mp H
  obtain ⟨⟨t211, t212, t213⟩, A90, H⟩ := H
  replace H : ((impl_BloomOfCounting.f k t211 t212 t213).bind fun bt217 => ((laws_eqBloom.f k bt217.1 bt217.2.1 bt217.2.2.1 bt217.2.2.2.1 t203 t204 t205 t206).bind fun t225 => (if t225 = true then (laws_FnExactBloomOfCounting.j0 k t209 bt217.2.2.2.2 (bt217.2.2.2.2 != t209) a0_0 a0_1 l0_2 t203 t204 t205 t206 t211 t212 t213 bt217.1 bt217.2.1 bt217.2.2.1 bt217.2.2.2.1) else (laws_FnExactBloomOfCounting.j0 k t209 bt217.2.2.2.2 true a0_0 a0_1 l0_2 t203 t204 t205 t206 t211 t212 t213 bt217.1 bt217.2.1 bt217.2.2.1 bt217.2.2.2.1)))) = some r := H
  have A9 := Aside0.mk A90
  clear A90
  replace H := Option.bind_eq_some_iff.mp H
  obtain ⟨⟨t217, t218, t219, t220, t223⟩, A100, H⟩ := H
  replace H : ((laws_eqBloom.f k t217 t218 t219 t220 t203 t204 t205 t206).bind fun t225 => (if t225 = true then (laws_FnExactBloomOfCounting.j0 k t209 t223 (t223 != t209) a0_0 a0_1 l0_2 t203 t204 t205 t206 t211 t212 t213 t217 t218 t219 t220) else (laws_FnExactBloomOfCounting.j0 k t209 t223 true a0_0 a0_1 l0_2 t203 t204 t205 t206 t211 t212 t213 t217 t218 t219 t220))) = some r := H
  have A10 := Aside0.mk A100
  clear A100
  have HC11 := Aside0.mk H
  clear H
  go_enter Try.func5, Try.ntmps5
  go_upto_region 8 with (first | ((with_reducible refine gate_dst (N := 1) rfl ?_); refine box_event ?hg (N := 1) ?hd (cs := #[.int .i64 a0_0, .int .i64 a0_1, .slice A0_2 l0_2.length c0_2]) (t := 48) ?hr ?_; (case hd => rfl); (case hg => rfl); (case hr => first | (go_simp; done) | (go_simp; rfl)); intro gb196 hg w12 hbox hb; have n0_ := Aside0.mk (below_step (uB HB) hb); have n1_ := Aside0.mk (hbox); have n2_ := Aside0.mk ((by rw [hg]; exact (below_size (uB HB)) : w.heap.size ≤ gb196)); have n3_ := Aside0.mk ((by rw [hg]; exact (below_size (uB HB)) : w.heap.size ≤ gb196)); clear HB; have HB := n0_; have BK196 := n1_; have GW196 := n2_; have GE196 := n3_; clear n0_ n1_ n2_ n3_ hb hbox hg; have hcz13_0 : w12.cell? ⟨gb196, 0, none⟩ = some (.int .i64 a0_0) := (blk_cell BK196.out 0).trans rfl; have hcz13_1 : w12.cell? ⟨gb196, 1, none⟩ = some (.int .i64 a0_1) := (blk_cell BK196.out 1).trans rfl; have hcz13_2 : w12.cell? ⟨gb196, 2, none⟩ = some (.slice A0_2 l0_2.length c0_2) := (blk_cell BK196.out 2).trans rfl; have hfz13_0 := blk_frozen BK196.out 0; have hfz13_1 := blk_frozen BK196.out 1; have hfz13_2 := blk_frozen BK196.out 2) | ((with_reducible refine gate_callee (f := 23) rfl ?_); refine goesL_ (some 16) rfl rfl Try.func23 (by kernel_rfl) rfl #[.agg #[.int .i64 a0_0, .int .i64 a0_1, .slice A0_2 l0_2.length c0_2], .int .i64 1048576] rfl (by (try simp only [List.map_toArray, List.map_cons, List.map_nil]); first | done | rfl | (simp only [List.length_drop, List.length_take]; rfl)) ?_; (with_reducible refine (laws_szCounting.calls a0_0 a0_1 _ _ l0_2 1048576 t197 _ ?side1 ?side2 A2.out).mono ?_); (case side1 => exact uC HR0_2 HB); (case side2 => exact HC0_2.out); rintro e w14 ⟨rfl, hb⟩; refine ⟨_, rfl, ?_⟩; have n0_ := Aside0.mk (blk_below (g := gb196) (o := .cells #[.int .i64 a0_0, .int .i64 a0_1, .slice A0_2 l0_2.length c0_2] 48 (0, 0)) (uK BK196) hb); have n1_ := Aside0.mk (below_step (by first | exact uB HB | exact uS HB (gC GE196 gN)) hb); clear BK196 HB; have BK196 := n0_; have HB := n1_; clear n0_ n1_; (try clear hb); (try clear hb2); (try clear hk); (try clear hi); have hcz15_0 : w14.cell? ⟨gb196, 0, none⟩ = some (.int .i64 a0_0) := (blk_cell BK196.out 0).trans rfl; have hcz15_1 : w14.cell? ⟨gb196, 1, none⟩ = some (.int .i64 a0_1) := (blk_cell BK196.out 1).trans rfl; have hcz15_2 : w14.cell? ⟨gb196, 2, none⟩ = some (.slice A0_2 l0_2.length c0_2) := (blk_cell BK196.out 2).trans rfl; have hfz15_0 := blk_frozen BK196.out 0; have hfz15_1 := blk_frozen BK196.out 1; have hfz15_2 := blk_frozen BK196.out 2) | ((with_reducible refine gate_callee (f := 25) rfl ?_); refine goesL_ (some 21) rfl rfl Try.func25 (by kernel_rfl) rfl #[.agg #[.int .i64 a0_0, .int .i64 a0_1, .slice A0_2 l0_2.length c0_2]] rfl (by (try simp only [List.map_toArray, List.map_cons, List.map_nil]); first | done | rfl | (simp only [List.length_drop, List.length_take]; rfl)) ?_; (with_reducible refine (laws_toCounting.calls k a0_0 a0_1 _ _ l0_2 t198 t199 t200 _ ?side1 ?side2 A7.out).mono ?_); (case side1 => exact uC HR0_2 HB); (case side2 => exact HC0_2.out); rintro e w16 ⟨v201, rfl, ho0, hb⟩; refine ⟨_, rfl, ?_⟩; have n0_ := Aside0.mk (Kd.R_lower ho0 (below_size (by first | exact uB HB | exact uS HB (gC GE196 gN)))); have n1_ := Aside0.mk (blk_below (g := gb196) (o := .cells #[.int .i64 a0_0, .int .i64 a0_1, .slice A0_2 l0_2.length c0_2] 48 (0, 0)) (uK BK196) hb); have n2_ := Aside0.mk (below_step (by first | exact uB HB | exact uS HB (gC GE196 gN)) hb); clear BK196 HB; have HO202 := n0_; have BK196 := n1_; have HB := n2_; clear n0_ n1_ n2_; (try clear hb); (try clear hb2); (try clear hk); (try clear hi); (try clear ho0); obtain ⟨Ao17, co17, eo17⟩ := Kd.R_slice HO202.out; subst eo17) | ((with_reducible refine gate_callee (f := 24) rfl ?_); refine goesL_ (some 22) rfl rfl Try.func24 (by kernel_rfl) rfl #[.agg #[.int .i64 t198, .int .i64 t199, .slice Ao17 t200.length co17]] rfl (by (try simp only [List.map_toArray, List.map_cons, List.map_nil]); first | done | rfl | (simp only [List.length_drop, List.length_take]; rfl)) ?_; (with_reducible refine (spec_BloomOfCounting.calls k t198 t199 _ _ t200 t203 t204 t205 t206 t209 _ ?side1 ?side2 A8.out).mono ?_); (case side1 => exact uD HO202); (case side2 => exact (Kd.R_reads' HO202.out).2.1); rintro e w18 ⟨v207, rfl, ho0, hb⟩; refine ⟨_, rfl, ?_⟩; have n0_ := Aside0.mk (Kd.R_elder' (uR HO202) (Kd.R_base ho0) hb); have n1_ := Aside0.mk (Kd.R_lower (Kd.R_new' ho0 (Kd.R_lt (uR HO202))) (below_size (by first | exact uB HB | exact uS HB (gC GE196 gN)))); have n2_ := Aside0.mk (blk_below (g := gb196) (o := .cells #[.int .i64 a0_0, .int .i64 a0_1, .slice A0_2 l0_2.length c0_2] 48 (0, 0)) (uK BK196) hb); have n3_ := Aside0.mk (below_step (by first | exact uB HB | exact uS HB (gC GE196 gN)) hb); clear HO202 BK196 HB; have HO202 := n0_; have HO208 := n1_; have BK196 := n2_; have HB := n3_; clear n0_ n1_ n2_ n3_; (try clear hb); (try clear hb2); (try clear hk); (try clear hi); (try clear ho0)) | ((with_reducible refine gate_dst (N := 4) rfl ?_); refine box_event ?hg (N := 4) ?hd (cs := #[.int .i64 0, .int .i64 0, .int .i64 0, .slice none 0 0]) (t := 40) ?hr ?_; (case hd => rfl); (case hg => rfl); (case hr => first | (go_simp; done) | (go_simp; rfl)); intro gb210 hg w19 hbox hb; have n0_ := Aside0.mk (Kd.R_below (uR HO202) hb); have n1_ := Aside0.mk (Kd.R_below (uR HO208) hb); have n2_ := Aside0.mk (blk_below (g := gb196) (o := .cells #[.int .i64 a0_0, .int .i64 a0_1, .slice A0_2 l0_2.length c0_2] 48 (0, 0)) (uK BK196) hb); have n3_ := Aside0.mk (below_step (by first | exact uB HB | exact uS HB (gC GE196 gN)) hb); have n4_ := Aside0.mk (hbox); have n5_ := Aside0.mk ((by rw [hg]; exact (below_size (by first | exact uB HB | exact uS HB (gC GE196 gN))) : w.heap.size ≤ gb210)); have n6_ := Aside0.mk ((by rw [hg]; exact (below_size (by first | exact uB HB | exact uS HB (gC GE196 gN))) : w.heap.size ≤ gb210)); have n7_ := Aside0.mk ((by rw [hg]; exact Nat.ne_of_lt (blk_lt (g := gb196) (o := .cells #[.int .i64 a0_0, .int .i64 a0_1, .slice A0_2 l0_2.length c0_2] 48 (0, 0)) (uK BK196)) : gb196 ≠ gb210)); have n8_ := Aside0.mk ((by rw [hg]; exact Nat.ne_of_gt (blk_lt (g := gb196) (o := .cells #[.int .i64 a0_0, .int .i64 a0_1, .slice A0_2 l0_2.length c0_2] 48 (0, 0)) (uK BK196)) : gb210 ≠ gb196)); clear HO202 HO208 BK196 HB; have HO202 := n0_; have HO208 := n1_; have BK196 := n2_; have HB := n3_; have BK210 := n4_; have GW210 := n5_; have GE210 := n6_; have NB196_210 := n7_; have NB210_196 := n8_; clear n0_ n1_ n2_ n3_ n4_ n5_ n6_ n7_ n8_ hb hbox hg; have hnb20 := NB210_196.out; have hnc20 := NB196_210.out; have hcz21_0 : w19.cell? ⟨gb210, 0, none⟩ = some (.int .i64 0) := (blk_cell BK210.out 0).trans rfl; have hcz21_1 : w19.cell? ⟨gb210, 1, none⟩ = some (.int .i64 0) := (blk_cell BK210.out 1).trans rfl; have hcz21_2 : w19.cell? ⟨gb210, 2, none⟩ = some (.int .i64 0) := (blk_cell BK210.out 2).trans rfl; have hcz21_3 : w19.cell? ⟨gb210, 3, none⟩ = some (.slice none 0 0) := (blk_cell BK210.out 3).trans rfl; have hfz21_0 := blk_frozen BK210.out 0; have hfz21_1 := blk_frozen BK210.out 1; have hfz21_2 := blk_frozen BK210.out 2; have hfz21_3 := blk_frozen BK210.out 3; obtain ⟨Ao22, co22, eo22⟩ := Kd.R_slice HO208.out; subst eo22; have hcz23_0 : w19.cell? ⟨gb196, 0, none⟩ = some (.int .i64 a0_0) := (blk_cell BK196.out 0).trans rfl; have hcz23_1 : w19.cell? ⟨gb196, 1, none⟩ = some (.int .i64 a0_1) := (blk_cell BK196.out 1).trans rfl; have hcz23_2 : w19.cell? ⟨gb196, 2, none⟩ = some (.slice A0_2 l0_2.length c0_2) := (blk_cell BK196.out 2).trans rfl; have hfz23_0 := blk_frozen BK196.out 0; have hfz23_1 := blk_frozen BK196.out 1; have hfz23_2 := blk_frozen BK196.out 2) | ((with_reducible refine gate_callee (f := 25) rfl ?_); refine goesL_ (some 26) rfl rfl Try.func25 (by kernel_rfl) rfl #[.agg #[.int .i64 a0_0, .int .i64 a0_1, .slice A0_2 l0_2.length c0_2]] rfl (by (try simp only [List.map_toArray, List.map_cons, List.map_nil]); first | done | rfl | (simp only [List.length_drop, List.length_take]; rfl)) ?_; (with_reducible refine (laws_toCounting.calls k a0_0 a0_1 _ _ l0_2 t211 t212 t213 _ ?side1 ?side2 A9.out).mono ?_); (case side1 => exact Kd.C_below HR0_2.out (by first | exact uB HB | exact uS HB (gC GE196 (gC GE210 gN)))); (case side2 => exact HC0_2.out); rintro e w24 ⟨v214, rfl, ho0, hb⟩; refine ⟨_, rfl, ?_⟩; have n0_ := Aside0.mk (Kd.R_elder' (by (with_reducible repeat (first | apply Kd.R_alloc | apply Kd.R_drewN | apply Kd.R_drew)); exact (Kd.R_mono (Kd.R_far (p := ⟨gb210, 3, none⟩) (Kd.R_far (p := ⟨gb210, 2, none⟩) (Kd.R_far (p := ⟨gb210, 1, none⟩) (Kd.R_far (p := ⟨gb210, 0, none⟩) (Kd.R_types HO202.out BK210.out (by decide)) (fun _ hk => hk.2) (.int .i64 t203)) (fun _ hk => hk.2) (.int .i64 t204)) (fun _ hk => hk.2) (.int .i64 t205)) (fun _ hk => hk.2) (.slice Ao22 t206.length co22)) (fun _ h_ => h_.1))) (Kd.R_base ho0) hb); have n1_ := Aside0.mk (Kd.R_elder' (by (with_reducible repeat (first | apply Kd.R_alloc | apply Kd.R_drewN | apply Kd.R_drew)); exact (Kd.R_mono (Kd.R_far (p := ⟨gb210, 3, none⟩) (Kd.R_far (p := ⟨gb210, 2, none⟩) (Kd.R_far (p := ⟨gb210, 1, none⟩) (Kd.R_far (p := ⟨gb210, 0, none⟩) (Kd.R_types HO208.out BK210.out (by decide)) (fun _ hk => hk.2) (.int .i64 t203)) (fun _ hk => hk.2) (.int .i64 t204)) (fun _ hk => hk.2) (.int .i64 t205)) (fun _ hk => hk.2) (.slice Ao22 t206.length co22)) (fun _ h_ => h_.1))) (Kd.R_base ho0) hb); have n2_ := Aside0.mk (Kd.R_lower (Kd.R_new' (Kd.R_new' ho0 (Kd.R_lt (by (with_reducible repeat (first | apply Kd.R_alloc | apply Kd.R_drewN | apply Kd.R_drew)); exact (Kd.R_mono (Kd.R_far (p := ⟨gb210, 3, none⟩) (Kd.R_far (p := ⟨gb210, 2, none⟩) (Kd.R_far (p := ⟨gb210, 1, none⟩) (Kd.R_far (p := ⟨gb210, 0, none⟩) (Kd.R_types HO202.out BK210.out (by decide)) (fun _ hk => hk.2) (.int .i64 t203)) (fun _ hk => hk.2) (.int .i64 t204)) (fun _ hk => hk.2) (.int .i64 t205)) (fun _ hk => hk.2) (.slice Ao22 t206.length co22)) (fun _ h_ => h_.1))))) (Kd.R_lt (by (with_reducible repeat (first | apply Kd.R_alloc | apply Kd.R_drewN | apply Kd.R_drew)); exact (Kd.R_mono (Kd.R_far (p := ⟨gb210, 3, none⟩) (Kd.R_far (p := ⟨gb210, 2, none⟩) (Kd.R_far (p := ⟨gb210, 1, none⟩) (Kd.R_far (p := ⟨gb210, 0, none⟩) (Kd.R_types HO208.out BK210.out (by decide)) (fun _ hk => hk.2) (.int .i64 t203)) (fun _ hk => hk.2) (.int .i64 t204)) (fun _ hk => hk.2) (.int .i64 t205)) (fun _ hk => hk.2) (.slice Ao22 t206.length co22)) (fun _ h_ => h_.1))))) (below_size (by first | exact uB HB | exact uS HB (gC GE196 (gC GE210 gN))))); have n3_ := Aside0.mk (blk_below (g := gb196) (o := .cells #[.int .i64 a0_0, .int .i64 a0_1, .slice A0_2 l0_2.length c0_2] 48 (0, 0)) (by refine uW ?_; refine blk_far ?_ NB196_210.out _; refine uW ?_; refine blk_far ?_ NB196_210.out _; refine uW ?_; refine blk_far ?_ NB196_210.out _; refine uW ?_; refine blk_far ?_ NB196_210.out _; refine uW ?_; exact BK196.out) hb); have n4_ := Aside0.mk (blk_below (g := gb210) (o := .cells #[.int .i64 t203, .int .i64 t204, .int .i64 t205, .slice Ao22 t206.length co22] 40 (0, 0)) (by refine uW ?_; refine blk_put (cs := #[.int .i64 t203, .int .i64 t204, .int .i64 t205, .slice none 0 0]) ?_ 3 _ rfl; refine uW ?_; refine blk_put (cs := #[.int .i64 t203, .int .i64 t204, .int .i64 0, .slice none 0 0]) ?_ 2 _ rfl; refine uW ?_; refine blk_put (cs := #[.int .i64 t203, .int .i64 0, .int .i64 0, .slice none 0 0]) ?_ 1 _ rfl; refine uW ?_; refine blk_put (cs := #[.int .i64 0, .int .i64 0, .int .i64 0, .slice none 0 0]) ?_ 0 _ rfl; refine uW ?_; exact BK210.out) hb); have n5_ := Aside0.mk (below_step (by first | exact uB HB | exact uS HB (gC GE196 (gC GE210 gN))) hb); clear HO202 HO208 BK196 BK210 HB; have HO202 := n0_; have HO208 := n1_; have HO215 := n2_; have BK196 := n3_; have BK210 := n4_; have HB := n5_; clear n0_ n1_ n2_ n3_ n4_ n5_; (try clear hb); (try clear hb2); (try clear hk); (try clear hi); (try clear ho0)) | ((with_reducible refine gate_dst (N := 6) rfl ?_); refine box_event ?hg (N := 6) ?hd (cs := #[.int .i64 0, .int .i64 0, .slice none 0 0]) (t := 51) ?hr ?_; (case hd => rfl); (case hg => rfl); (case hr => first | (go_simp; done) | (go_simp; rfl)); intro gb216 hg w25 hbox hb; have n0_ := Aside0.mk (Kd.R_below (uR HO202) hb); have n1_ := Aside0.mk (Kd.R_below (uR HO208) hb); have n2_ := Aside0.mk (Kd.R_below (uR HO215) hb); have n3_ := Aside0.mk (blk_below (g := gb196) (o := .cells #[.int .i64 a0_0, .int .i64 a0_1, .slice A0_2 l0_2.length c0_2] 48 (0, 0)) (uK BK196) hb); have n4_ := Aside0.mk (blk_below (g := gb210) (o := .cells #[.int .i64 t203, .int .i64 t204, .int .i64 t205, .slice Ao22 t206.length co22] 40 (0, 0)) (uK BK210) hb); have n5_ := Aside0.mk (below_step (by first | exact uB HB | exact uS HB (gC GE196 (gC GE210 gN))) hb); have n6_ := Aside0.mk (hbox); have n7_ := Aside0.mk ((by rw [hg]; exact (below_size (by first | exact uB HB | exact uS HB (gC GE196 (gC GE210 gN)))) : w.heap.size ≤ gb216)); have n8_ := Aside0.mk ((by rw [hg]; exact (below_size (by first | exact uB HB | exact uS HB (gC GE196 (gC GE210 gN)))) : w.heap.size ≤ gb216)); have n9_ := Aside0.mk ((by rw [hg]; exact Nat.ne_of_lt (blk_lt (g := gb196) (o := .cells #[.int .i64 a0_0, .int .i64 a0_1, .slice A0_2 l0_2.length c0_2] 48 (0, 0)) (uK BK196)) : gb196 ≠ gb216)); have n10_ := Aside0.mk ((by rw [hg]; exact Nat.ne_of_gt (blk_lt (g := gb196) (o := .cells #[.int .i64 a0_0, .int .i64 a0_1, .slice A0_2 l0_2.length c0_2] 48 (0, 0)) (uK BK196)) : gb216 ≠ gb196)); have n11_ := Aside0.mk ((by rw [hg]; exact Nat.ne_of_lt (blk_lt (g := gb210) (o := .cells #[.int .i64 t203, .int .i64 t204, .int .i64 t205, .slice Ao22 t206.length co22] 40 (0, 0)) (uK BK210)) : gb210 ≠ gb216)); have n12_ := Aside0.mk ((by rw [hg]; exact Nat.ne_of_gt (blk_lt (g := gb210) (o := .cells #[.int .i64 t203, .int .i64 t204, .int .i64 t205, .slice Ao22 t206.length co22] 40 (0, 0)) (uK BK210)) : gb216 ≠ gb210)); clear HO202 HO208 HO215 BK196 BK210 HB; have HO202 := n0_; have HO208 := n1_; have HO215 := n2_; have BK196 := n3_; have BK210 := n4_; have HB := n5_; have BK216 := n6_; have GW216 := n7_; have GE216 := n8_; have NB196_216 := n9_; have NB216_196 := n10_; have NB210_216 := n11_; have NB216_210 := n12_; clear n0_ n1_ n2_ n3_ n4_ n5_ n6_ n7_ n8_ n9_ n10_ n11_ n12_ hb hbox hg; have hnb26 := NB216_196.out; have hnc26 := NB196_216.out; have hnb27 := NB216_210.out; have hnc27 := NB210_216.out; have hcz28_0 : w25.cell? ⟨gb216, 0, none⟩ = some (.int .i64 0) := (blk_cell BK216.out 0).trans rfl; have hcz28_1 : w25.cell? ⟨gb216, 1, none⟩ = some (.int .i64 0) := (blk_cell BK216.out 1).trans rfl; have hcz28_2 : w25.cell? ⟨gb216, 2, none⟩ = some (.slice none 0 0) := (blk_cell BK216.out 2).trans rfl; have hfz28_0 := blk_frozen BK216.out 0; have hfz28_1 := blk_frozen BK216.out 1; have hfz28_2 := blk_frozen BK216.out 2; obtain ⟨Ao29, co29, eo29⟩ := Kd.R_slice HO215.out; subst eo29) | ((with_reducible refine gate_callee (f := 26) rfl ?_); refine goesL_ (some 29) rfl rfl Try.func26 (by kernel_rfl) rfl #[.agg #[.int .i64 t211, .int .i64 t212, .slice Ao29 t213.length co29]] rfl (by (try simp only [List.map_toArray, List.map_cons, List.map_nil]); first | done | rfl | (simp only [List.length_drop, List.length_take]; rfl)) ?_; (with_reducible refine (impl_BloomOfCounting.calls k t211 t212 _ _ t213 t217 t218 t219 t220 t223 _ ?side1 ?side2 A10.out).mono ?_); (case side1 => refine (Kd.R_reads' (e := 3) (base := w.heap.size) (ok := fun k_ => ((True ∧ some k_ ≠ (.slice Ao17 t200.length co17 : Value).ownBlock) ∧ some k_ ≠ (.slice Ao22 t206.length co22 : Value).ownBlock)) (n := t213.length) (c := co29) ?_).2.2; exact (by (with_reducible repeat (first | apply Kd.R_alloc | apply Kd.R_drewN | apply Kd.R_drew)); exact (Kd.R_mono (Kd.R_far (p := ⟨gb216, 2, none⟩) (Kd.R_far (p := ⟨gb216, 1, none⟩) (Kd.R_far (p := ⟨gb216, 0, none⟩) (Kd.R_types HO215.out BK216.out (by decide)) (fun _ hk => hk.2) (.int .i64 t211)) (fun _ hk => hk.2) (.int .i64 t212)) (fun _ hk => hk.2) (.slice Ao29 t213.length co29)) (fun _ h_ => h_.1)))); (case side2 => exact (Kd.R_reads' HO215.out).2.1); rintro e w30 ⟨v221, rfl, ho0, hb⟩; refine ⟨_, rfl, ?_⟩; have n0_ := Aside0.mk (Kd.R_elder' (by (with_reducible repeat (first | apply Kd.R_alloc | apply Kd.R_drewN | apply Kd.R_drew)); exact (Kd.R_mono (Kd.R_far (p := ⟨gb216, 2, none⟩) (Kd.R_far (p := ⟨gb216, 1, none⟩) (Kd.R_far (p := ⟨gb216, 0, none⟩) (Kd.R_types HO202.out BK216.out (by decide)) (fun _ hk => hk.2) (.int .i64 t211)) (fun _ hk => hk.2) (.int .i64 t212)) (fun _ hk => hk.2) (.slice Ao29 t213.length co29)) (fun _ h_ => h_.1))) (Kd.R_base ho0) hb); have n1_ := Aside0.mk (Kd.R_elder' (by (with_reducible repeat (first | apply Kd.R_alloc | apply Kd.R_drewN | apply Kd.R_drew)); exact (Kd.R_mono (Kd.R_far (p := ⟨gb216, 2, none⟩) (Kd.R_far (p := ⟨gb216, 1, none⟩) (Kd.R_far (p := ⟨gb216, 0, none⟩) (Kd.R_types HO208.out BK216.out (by decide)) (fun _ hk => hk.2) (.int .i64 t211)) (fun _ hk => hk.2) (.int .i64 t212)) (fun _ hk => hk.2) (.slice Ao29 t213.length co29)) (fun _ h_ => h_.1))) (Kd.R_base ho0) hb); have n2_ := Aside0.mk (Kd.R_elder' (by (with_reducible repeat (first | apply Kd.R_alloc | apply Kd.R_drewN | apply Kd.R_drew)); exact (Kd.R_mono (Kd.R_far (p := ⟨gb216, 2, none⟩) (Kd.R_far (p := ⟨gb216, 1, none⟩) (Kd.R_far (p := ⟨gb216, 0, none⟩) (Kd.R_types HO215.out BK216.out (by decide)) (fun _ hk => hk.2) (.int .i64 t211)) (fun _ hk => hk.2) (.int .i64 t212)) (fun _ hk => hk.2) (.slice Ao29 t213.length co29)) (fun _ h_ => h_.1))) (Kd.R_base ho0) hb); have n3_ := Aside0.mk (Kd.R_lower (Kd.R_new' (Kd.R_new' (Kd.R_new' ho0 (Kd.R_lt (by (with_reducible repeat (first | apply Kd.R_alloc | apply Kd.R_drewN | apply Kd.R_drew)); exact (Kd.R_mono (Kd.R_far (p := ⟨gb216, 2, none⟩) (Kd.R_far (p := ⟨gb216, 1, none⟩) (Kd.R_far (p := ⟨gb216, 0, none⟩) (Kd.R_types HO202.out BK216.out (by decide)) (fun _ hk => hk.2) (.int .i64 t211)) (fun _ hk => hk.2) (.int .i64 t212)) (fun _ hk => hk.2) (.slice Ao29 t213.length co29)) (fun _ h_ => h_.1))))) (Kd.R_lt (by (with_reducible repeat (first | apply Kd.R_alloc | apply Kd.R_drewN | apply Kd.R_drew)); exact (Kd.R_mono (Kd.R_far (p := ⟨gb216, 2, none⟩) (Kd.R_far (p := ⟨gb216, 1, none⟩) (Kd.R_far (p := ⟨gb216, 0, none⟩) (Kd.R_types HO208.out BK216.out (by decide)) (fun _ hk => hk.2) (.int .i64 t211)) (fun _ hk => hk.2) (.int .i64 t212)) (fun _ hk => hk.2) (.slice Ao29 t213.length co29)) (fun _ h_ => h_.1))))) (Kd.R_lt (by (with_reducible repeat (first | apply Kd.R_alloc | apply Kd.R_drewN | apply Kd.R_drew)); exact (Kd.R_mono (Kd.R_far (p := ⟨gb216, 2, none⟩) (Kd.R_far (p := ⟨gb216, 1, none⟩) (Kd.R_far (p := ⟨gb216, 0, none⟩) (Kd.R_types HO215.out BK216.out (by decide)) (fun _ hk => hk.2) (.int .i64 t211)) (fun _ hk => hk.2) (.int .i64 t212)) (fun _ hk => hk.2) (.slice Ao29 t213.length co29)) (fun _ h_ => h_.1))))) (below_size (by first | exact uB HB | exact uS HB (gC GE196 (gC GE210 (gC GE216 gN)))))); have n4_ := Aside0.mk (blk_below (g := gb196) (o := .cells #[.int .i64 a0_0, .int .i64 a0_1, .slice A0_2 l0_2.length c0_2] 48 (0, 0)) (by refine uW ?_; refine blk_far ?_ NB196_216.out _; refine uW ?_; refine blk_far ?_ NB196_216.out _; refine uW ?_; refine blk_far ?_ NB196_216.out _; refine uW ?_; exact BK196.out) hb); have n5_ := Aside0.mk (blk_below (g := gb210) (o := .cells #[.int .i64 t203, .int .i64 t204, .int .i64 t205, .slice Ao22 t206.length co22] 40 (0, 0)) (by refine uW ?_; refine blk_far ?_ NB210_216.out _; refine uW ?_; refine blk_far ?_ NB210_216.out _; refine uW ?_; refine blk_far ?_ NB210_216.out _; refine uW ?_; exact BK210.out) hb); have n6_ := Aside0.mk (blk_below (g := gb216) (o := .cells #[.int .i64 t211, .int .i64 t212, .slice Ao29 t213.length co29] 51 (0, 0)) (by refine uW ?_; refine blk_put (cs := #[.int .i64 t211, .int .i64 t212, .slice none 0 0]) ?_ 2 _ rfl; refine uW ?_; refine blk_put (cs := #[.int .i64 t211, .int .i64 0, .slice none 0 0]) ?_ 1 _ rfl; refine uW ?_; refine blk_put (cs := #[.int .i64 0, .int .i64 0, .slice none 0 0]) ?_ 0 _ rfl; refine uW ?_; exact BK216.out) hb); have n7_ := Aside0.mk (below_step (by first | exact uB HB | exact uS HB (gC GE196 (gC GE210 (gC GE216 gN)))) hb); clear HO202 HO208 HO215 BK196 BK210 BK216 HB; have HO202 := n0_; have HO208 := n1_; have HO215 := n2_; have HO222 := n3_; have BK196 := n4_; have BK210 := n5_; have BK216 := n6_; have HB := n7_; clear n0_ n1_ n2_ n3_ n4_ n5_ n6_ n7_; (try clear hb); (try clear hb2); (try clear hk); (try clear hi); (try clear ho0)) | ((with_reducible refine gate_dst (N := 7) rfl ?_); refine box_event ?hg (N := 7) ?hd (cs := #[.int .i64 0, .int .i64 0, .int .i64 0, .slice none 0 0]) (t := 40) ?hr ?_; (case hd => rfl); (case hg => rfl); (case hr => first | (go_simp; done) | (go_simp; rfl)); intro gb224 hg w31 hbox hb; have n0_ := Aside0.mk (Kd.R_below (uR HO202) hb); have n1_ := Aside0.mk (Kd.R_below (uR HO208) hb); have n2_ := Aside0.mk (Kd.R_below (uR HO215) hb); have n3_ := Aside0.mk (Kd.R_below (uR HO222) hb); have n4_ := Aside0.mk (blk_below (g := gb196) (o := .cells #[.int .i64 a0_0, .int .i64 a0_1, .slice A0_2 l0_2.length c0_2] 48 (0, 0)) (uK BK196) hb); have n5_ := Aside0.mk (blk_below (g := gb210) (o := .cells #[.int .i64 t203, .int .i64 t204, .int .i64 t205, .slice Ao22 t206.length co22] 40 (0, 0)) (uK BK210) hb); have n6_ := Aside0.mk (blk_below (g := gb216) (o := .cells #[.int .i64 t211, .int .i64 t212, .slice Ao29 t213.length co29] 51 (0, 0)) (uK BK216) hb); have n7_ := Aside0.mk (below_step (by first | exact uB HB | exact uS HB (gC GE196 (gC GE210 (gC GE216 gN)))) hb); have n8_ := Aside0.mk (hbox); have n9_ := Aside0.mk ((by rw [hg]; exact (below_size (by first | exact uB HB | exact uS HB (gC GE196 (gC GE210 (gC GE216 gN))))) : w.heap.size ≤ gb224)); have n10_ := Aside0.mk ((by rw [hg]; exact (below_size (by first | exact uB HB | exact uS HB (gC GE196 (gC GE210 (gC GE216 gN))))) : w.heap.size ≤ gb224)); have n11_ := Aside0.mk ((by rw [hg]; exact Nat.ne_of_lt (blk_lt (g := gb196) (o := .cells #[.int .i64 a0_0, .int .i64 a0_1, .slice A0_2 l0_2.length c0_2] 48 (0, 0)) (uK BK196)) : gb196 ≠ gb224)); have n12_ := Aside0.mk ((by rw [hg]; exact Nat.ne_of_gt (blk_lt (g := gb196) (o := .cells #[.int .i64 a0_0, .int .i64 a0_1, .slice A0_2 l0_2.length c0_2] 48 (0, 0)) (uK BK196)) : gb224 ≠ gb196)); have n13_ := Aside0.mk ((by rw [hg]; exact Nat.ne_of_lt (blk_lt (g := gb210) (o := .cells #[.int .i64 t203, .int .i64 t204, .int .i64 t205, .slice Ao22 t206.length co22] 40 (0, 0)) (uK BK210)) : gb210 ≠ gb224)); have n14_ := Aside0.mk ((by rw [hg]; exact Nat.ne_of_gt (blk_lt (g := gb210) (o := .cells #[.int .i64 t203, .int .i64 t204, .int .i64 t205, .slice Ao22 t206.length co22] 40 (0, 0)) (uK BK210)) : gb224 ≠ gb210)); have n15_ := Aside0.mk ((by rw [hg]; exact Nat.ne_of_lt (blk_lt (g := gb216) (o := .cells #[.int .i64 t211, .int .i64 t212, .slice Ao29 t213.length co29] 51 (0, 0)) (uK BK216)) : gb216 ≠ gb224)); have n16_ := Aside0.mk ((by rw [hg]; exact Nat.ne_of_gt (blk_lt (g := gb216) (o := .cells #[.int .i64 t211, .int .i64 t212, .slice Ao29 t213.length co29] 51 (0, 0)) (uK BK216)) : gb224 ≠ gb216)); clear HO202 HO208 HO215 HO222 BK196 BK210 BK216 HB; have HO202 := n0_; have HO208 := n1_; have HO215 := n2_; have HO222 := n3_; have BK196 := n4_; have BK210 := n5_; have BK216 := n6_; have HB := n7_; have BK224 := n8_; have GW224 := n9_; have GE224 := n10_; have NB196_224 := n11_; have NB224_196 := n12_; have NB210_224 := n13_; have NB224_210 := n14_; have NB216_224 := n15_; have NB224_216 := n16_; clear n0_ n1_ n2_ n3_ n4_ n5_ n6_ n7_ n8_ n9_ n10_ n11_ n12_ n13_ n14_ n15_ n16_ hb hbox hg; have hnb32 := NB224_196.out; have hnc32 := NB196_224.out; have hnb33 := NB224_210.out; have hnc33 := NB210_224.out; have hnb34 := NB224_216.out; have hnc34 := NB216_224.out; have hcz35_0 : w31.cell? ⟨gb224, 0, none⟩ = some (.int .i64 0) := (blk_cell BK224.out 0).trans rfl; have hcz35_1 : w31.cell? ⟨gb224, 1, none⟩ = some (.int .i64 0) := (blk_cell BK224.out 1).trans rfl; have hcz35_2 : w31.cell? ⟨gb224, 2, none⟩ = some (.int .i64 0) := (blk_cell BK224.out 2).trans rfl; have hcz35_3 : w31.cell? ⟨gb224, 3, none⟩ = some (.slice none 0 0) := (blk_cell BK224.out 3).trans rfl; have hfz35_0 := blk_frozen BK224.out 0; have hfz35_1 := blk_frozen BK224.out 1; have hfz35_2 := blk_frozen BK224.out 2; have hfz35_3 := blk_frozen BK224.out 3; obtain ⟨Ao36, co36, eo36⟩ := Kd.R_slice HO222.out; subst eo36))
  (try simp only [Act.put, List.setIfInBounds_toArray, List.set_cons_zero, List.set_cons_succ])
  go_cut [40] (fun v40 wc => ∃ (kq : Nat) (x40_10 : Bool), v40 = .bool x40_10 ∧ Aside0 (laws_FnExactBloomOfCounting.j0 kq t209 t223 x40_10 a0_0 a0_1 l0_2 t203 t204 t205 t206 t211 t212 t213 t217 t218 t219 t220 = some r) ∧ Aside0 (kq ≤ k) ∧ Aside0 (Kd.R (Kd.int .i64) 3 wc w.heap.size (fun k_ => some k_ ≠ ((.slice Ao29 t213.length co29) : Value).ownBlock ∧ some k_ ≠ ((.slice Ao36 t220.length co36) : Value).ownBlock) (.slice Ao22 t206.length co22) t206) ∧ Aside0 (Kd.R (Kd.int .i64) 3 wc w.heap.size (fun k_ => some k_ ≠ ((.slice Ao22 t206.length co22) : Value).ownBlock ∧ some k_ ≠ ((.slice Ao36 t220.length co36) : Value).ownBlock) (.slice Ao29 t213.length co29) t213) ∧ Aside0 (Kd.R (Kd.int .i64) 3 wc w.heap.size (fun k_ => some k_ ≠ ((.slice Ao22 t206.length co22) : Value).ownBlock ∧ some k_ ≠ ((.slice Ao29 t213.length co29) : Value).ownBlock) (.slice Ao36 t220.length co36) t220) ∧ Aside0 (wc.heap[gb196]? = some (.cells #[.int .i64 a0_0, .int .i64 a0_1, (.slice A0_2 l0_2.length c0_2)] 48 (0, 0))) ∧ Aside0 (wc.heap[gb210]? = some (.cells #[.int .i64 t203, .int .i64 t204, .int .i64 t205, (.slice Ao22 t206.length co22)] 40 (0, 0))) ∧ Aside0 (wc.heap[gb216]? = some (.cells #[.int .i64 t211, .int .i64 t212, (.slice Ao29 t213.length co29)] 51 (0, 0))) ∧ Aside0 (wc.heap[gb224]? = some (.cells #[.int .i64 t217, .int .i64 t218, .int .i64 t219, (.slice Ao36 t220.length co36)] 40 (0, 0))) ∧ Aside0 (Below w.heap.size w wc))
  case first =>
   have H := HC11.out
   clear HC11
   replace H := Option.bind_eq_some_iff.mp H
   obtain ⟨t225, A370, H⟩ := H
   replace H : (if t225 = true then (laws_FnExactBloomOfCounting.j0 k t209 t223 (t223 != t209) a0_0 a0_1 l0_2 t203 t204 t205 t206 t211 t212 t213 t217 t218 t219 t220) else (laws_FnExactBloomOfCounting.j0 k t209 t223 true a0_0 a0_1 l0_2 t203 t204 t205 t206 t211 t212 t213 t217 t218 t219 t220)) = some r := H
   have A37 := Aside0.mk A370
   clear A370
   by_cases c38 : t225 = true
   ·
    subst c38
    have H1 : (laws_FnExactBloomOfCounting.j0 k t209 t223 (t223 != t209) a0_0 a0_1 l0_2 t203 t204 t205 t206 t211 t212 t213 t217 t218 t219 t220) = some r := by rw [if_pos rfl] at H; exact H
    clear H
    have H := H1
    clear H1
    have H' := Aside0.mk H
    clear H
    have hnb39 := NB224_196.out
    have hnc39 := NB196_224.out
    have hnb40 := NB224_210.out
    have hnc40 := NB210_224.out
    have hnb41 := NB224_216.out
    have hnc41 := NB216_224.out
    have hcz42_0 : w31.cell? ⟨gb224, 0, none⟩ = some (.int .i64 0) := (blk_cell BK224.out 0).trans rfl
    have hcz42_1 : w31.cell? ⟨gb224, 1, none⟩ = some (.int .i64 0) := (blk_cell BK224.out 1).trans rfl
    have hcz42_2 : w31.cell? ⟨gb224, 2, none⟩ = some (.int .i64 0) := (blk_cell BK224.out 2).trans rfl
    have hcz42_3 : w31.cell? ⟨gb224, 3, none⟩ = some (.slice none 0 0) := (blk_cell BK224.out 3).trans rfl
    have hfz42_0 := blk_frozen BK224.out 0
    have hfz42_1 := blk_frozen BK224.out 1
    have hfz42_2 := blk_frozen BK224.out 2
    have hfz42_3 := blk_frozen BK224.out 3
    have hnb43 := NB210_196.out
    have hnc43 := NB196_210.out
    have hnb44 := NB210_216.out
    have hnc44 := NB216_210.out
    have hcz45_0 : w31.cell? ⟨gb210, 0, none⟩ = some (.int .i64 t203) := (blk_cell BK210.out 0).trans rfl
    have hcz45_1 : w31.cell? ⟨gb210, 1, none⟩ = some (.int .i64 t204) := (blk_cell BK210.out 1).trans rfl
    have hcz45_2 : w31.cell? ⟨gb210, 2, none⟩ = some (.int .i64 t205) := (blk_cell BK210.out 2).trans rfl
    have hcz45_3 : w31.cell? ⟨gb210, 3, none⟩ = some (.slice Ao22 t206.length co22) := (blk_cell BK210.out 3).trans rfl
    have hfz45_0 := blk_frozen BK210.out 0
    have hfz45_1 := blk_frozen BK210.out 1
    have hfz45_2 := blk_frozen BK210.out 2
    have hfz45_3 := blk_frozen BK210.out 3
    go_wp2_with (first | ((with_reducible refine gate_callee (f := 20) rfl ?_); refine goesL_ (some 34) rfl rfl Try.func20 (by kernel_rfl) rfl #[.agg #[.int .i64 t217, .int .i64 t218, .int .i64 t219, .slice Ao36 t220.length co36], .agg #[.int .i64 t203, .int .i64 t204, .int .i64 t205, .slice Ao22 t206.length co22]] rfl (by (try simp only [List.map_toArray, List.map_cons, List.map_nil]); first | done | rfl | (simp only [List.length_drop, List.length_take]; rfl)) ?_; (with_reducible refine (laws_eqBloom.calls k t217 t218 t219 _ _ t220 t203 t204 t205 _ _ t206 true _ ?side1 ?side2 ?side3 ?side4 A37.out).mono ?_); (case side1 => refine (Kd.R_reads' (e := 3) (base := w.heap.size) (ok := fun k_ => (((True ∧ some k_ ≠ (.slice Ao17 t200.length co17 : Value).ownBlock) ∧ some k_ ≠ (.slice Ao22 t206.length co22 : Value).ownBlock) ∧ some k_ ≠ (.slice Ao29 t213.length co29 : Value).ownBlock)) (n := t220.length) (c := co36) ?_).2.2; exact (by (with_reducible repeat (first | apply Kd.R_alloc | apply Kd.R_drewN | apply Kd.R_drew)); exact (Kd.R_mono (Kd.R_far (p := ⟨gb224, 3, none⟩) (Kd.R_far (p := ⟨gb224, 2, none⟩) (Kd.R_far (p := ⟨gb224, 1, none⟩) (Kd.R_far (p := ⟨gb224, 0, none⟩) (Kd.R_types HO222.out BK224.out (by decide)) (fun _ hk => hk.2) (.int .i64 t217)) (fun _ hk => hk.2) (.int .i64 t218)) (fun _ hk => hk.2) (.int .i64 t219)) (fun _ hk => hk.2) (.slice Ao36 t220.length co36)) (fun _ h_ => h_.1)))); (case side2 => exact (Kd.R_reads' HO222.out).2.1); (case side3 => refine (Kd.R_reads' (e := 3) (base := w.heap.size) (ok := fun k_ => (((True ∧ some k_ ≠ (.slice Ao17 t200.length co17 : Value).ownBlock) ∧ some k_ ≠ (.slice Ao29 t213.length co29 : Value).ownBlock) ∧ some k_ ≠ (.slice Ao36 t220.length co36 : Value).ownBlock)) (n := t206.length) (c := co22) ?_).2.2; exact (by (with_reducible repeat (first | apply Kd.R_alloc | apply Kd.R_drewN | apply Kd.R_drew)); exact (Kd.R_mono (Kd.R_far (p := ⟨gb224, 3, none⟩) (Kd.R_far (p := ⟨gb224, 2, none⟩) (Kd.R_far (p := ⟨gb224, 1, none⟩) (Kd.R_far (p := ⟨gb224, 0, none⟩) (Kd.R_types HO208.out BK224.out (by decide)) (fun _ hk => hk.2) (.int .i64 t217)) (fun _ hk => hk.2) (.int .i64 t218)) (fun _ hk => hk.2) (.int .i64 t219)) (fun _ hk => hk.2) (.slice Ao36 t220.length co36)) (fun _ h_ => h_.1)))); (case side4 => exact (Kd.R_reads' HO208.out).2.1); rintro e w46 ⟨rfl, hb⟩; refine ⟨_, rfl, ?_⟩; have n0_ := Aside0.mk (Kd.R_below (by (with_reducible repeat (first | apply Kd.R_alloc | apply Kd.R_drewN | apply Kd.R_drew)); exact (Kd.R_mono (Kd.R_far (p := ⟨gb224, 3, none⟩) (Kd.R_far (p := ⟨gb224, 2, none⟩) (Kd.R_far (p := ⟨gb224, 1, none⟩) (Kd.R_far (p := ⟨gb224, 0, none⟩) (Kd.R_types HO202.out BK224.out (by decide)) (fun _ hk => hk.2) (.int .i64 t217)) (fun _ hk => hk.2) (.int .i64 t218)) (fun _ hk => hk.2) (.int .i64 t219)) (fun _ hk => hk.2) (.slice Ao36 t220.length co36)) (fun _ h_ => h_.1))) hb); have n1_ := Aside0.mk (Kd.R_below (by (with_reducible repeat (first | apply Kd.R_alloc | apply Kd.R_drewN | apply Kd.R_drew)); exact (Kd.R_mono (Kd.R_far (p := ⟨gb224, 3, none⟩) (Kd.R_far (p := ⟨gb224, 2, none⟩) (Kd.R_far (p := ⟨gb224, 1, none⟩) (Kd.R_far (p := ⟨gb224, 0, none⟩) (Kd.R_types HO208.out BK224.out (by decide)) (fun _ hk => hk.2) (.int .i64 t217)) (fun _ hk => hk.2) (.int .i64 t218)) (fun _ hk => hk.2) (.int .i64 t219)) (fun _ hk => hk.2) (.slice Ao36 t220.length co36)) (fun _ h_ => h_.1))) hb); have n2_ := Aside0.mk (Kd.R_below (by (with_reducible repeat (first | apply Kd.R_alloc | apply Kd.R_drewN | apply Kd.R_drew)); exact (Kd.R_mono (Kd.R_far (p := ⟨gb224, 3, none⟩) (Kd.R_far (p := ⟨gb224, 2, none⟩) (Kd.R_far (p := ⟨gb224, 1, none⟩) (Kd.R_far (p := ⟨gb224, 0, none⟩) (Kd.R_types HO215.out BK224.out (by decide)) (fun _ hk => hk.2) (.int .i64 t217)) (fun _ hk => hk.2) (.int .i64 t218)) (fun _ hk => hk.2) (.int .i64 t219)) (fun _ hk => hk.2) (.slice Ao36 t220.length co36)) (fun _ h_ => h_.1))) hb); have n3_ := Aside0.mk (Kd.R_below (by (with_reducible repeat (first | apply Kd.R_alloc | apply Kd.R_drewN | apply Kd.R_drew)); exact (Kd.R_mono (Kd.R_far (p := ⟨gb224, 3, none⟩) (Kd.R_far (p := ⟨gb224, 2, none⟩) (Kd.R_far (p := ⟨gb224, 1, none⟩) (Kd.R_far (p := ⟨gb224, 0, none⟩) (Kd.R_types HO222.out BK224.out (by decide)) (fun _ hk => hk.2) (.int .i64 t217)) (fun _ hk => hk.2) (.int .i64 t218)) (fun _ hk => hk.2) (.int .i64 t219)) (fun _ hk => hk.2) (.slice Ao36 t220.length co36)) (fun _ h_ => h_.1))) hb); have n4_ := Aside0.mk (blk_below (g := gb196) (o := .cells #[.int .i64 a0_0, .int .i64 a0_1, .slice A0_2 l0_2.length c0_2] 48 (0, 0)) (by refine uW ?_; refine blk_far ?_ NB196_224.out _; refine uW ?_; refine blk_far ?_ NB196_224.out _; refine uW ?_; refine blk_far ?_ NB196_224.out _; refine uW ?_; refine blk_far ?_ NB196_224.out _; refine uW ?_; exact BK196.out) hb); have n5_ := Aside0.mk (blk_below (g := gb210) (o := .cells #[.int .i64 t203, .int .i64 t204, .int .i64 t205, .slice Ao22 t206.length co22] 40 (0, 0)) (by refine uW ?_; refine blk_far ?_ NB210_224.out _; refine uW ?_; refine blk_far ?_ NB210_224.out _; refine uW ?_; refine blk_far ?_ NB210_224.out _; refine uW ?_; refine blk_far ?_ NB210_224.out _; refine uW ?_; exact BK210.out) hb); have n6_ := Aside0.mk (blk_below (g := gb216) (o := .cells #[.int .i64 t211, .int .i64 t212, .slice Ao29 t213.length co29] 51 (0, 0)) (by refine uW ?_; refine blk_far ?_ NB216_224.out _; refine uW ?_; refine blk_far ?_ NB216_224.out _; refine uW ?_; refine blk_far ?_ NB216_224.out _; refine uW ?_; refine blk_far ?_ NB216_224.out _; refine uW ?_; exact BK216.out) hb); have n7_ := Aside0.mk (blk_below (g := gb224) (o := .cells #[.int .i64 t217, .int .i64 t218, .int .i64 t219, .slice Ao36 t220.length co36] 40 (0, 0)) (by refine uW ?_; refine blk_put (cs := #[.int .i64 t217, .int .i64 t218, .int .i64 t219, .slice none 0 0]) ?_ 3 _ rfl; refine uW ?_; refine blk_put (cs := #[.int .i64 t217, .int .i64 t218, .int .i64 0, .slice none 0 0]) ?_ 2 _ rfl; refine uW ?_; refine blk_put (cs := #[.int .i64 t217, .int .i64 0, .int .i64 0, .slice none 0 0]) ?_ 1 _ rfl; refine uW ?_; refine blk_put (cs := #[.int .i64 0, .int .i64 0, .int .i64 0, .slice none 0 0]) ?_ 0 _ rfl; refine uW ?_; exact BK224.out) hb); have n8_ := Aside0.mk (below_step (by first | exact uB HB | exact uS HB (gC GE196 (gC GE210 (gC GE216 (gC GE224 gN))))) hb); clear HO202 HO208 HO215 HO222 BK196 BK210 BK216 BK224 HB; have HO202 := n0_; have HO208 := n1_; have HO215 := n2_; have HO222 := n3_; have BK196 := n4_; have BK210 := n5_; have BK216 := n6_; have BK224 := n7_; have HB := n8_; clear n0_ n1_ n2_ n3_ n4_ n5_ n6_ n7_ n8_; (try clear hb); (try clear hb2); (try clear hk); (try clear hi)))
    go_meet
    case rel => exact ⟨_, ((t223 != t209)), (by first | rfl | (simp; done) | (simp [*]; done)), H', ⟨by first | omega | exact Nat.le_refl _⟩, ⟨by (with_reducible repeat (first | apply Kd.R_alloc | apply Kd.R_drewN | apply Kd.R_drew)); exact Kd.R_mono HO208.out (fun _ hk => ⟨hk.1.2, hk.2⟩)⟩, ⟨by (with_reducible repeat (first | apply Kd.R_alloc | apply Kd.R_drewN | apply Kd.R_drew)); exact Kd.R_mono HO215.out (fun _ hk => ⟨hk.1.2, hk.2⟩)⟩, ⟨by (with_reducible repeat (first | apply Kd.R_alloc | apply Kd.R_drewN | apply Kd.R_drew)); exact Kd.R_mono HO222.out (fun _ hk => ⟨hk.1.2, hk.2⟩)⟩, ⟨by refine uW ?_; exact BK196.out⟩, ⟨by refine uW ?_; exact BK210.out⟩, ⟨by refine uW ?_; exact BK216.out⟩, ⟨by refine uW ?_; exact BK224.out⟩, ⟨by first | exact uB HB | exact uS HB (gC GE196 (gC GE210 (gC GE216 (gC GE224 gN))))⟩⟩
   ·
    replace c38 := Bool.eq_false_iff.mpr c38
    subst c38
    have H1 : (laws_FnExactBloomOfCounting.j0 k t209 t223 true a0_0 a0_1 l0_2 t203 t204 t205 t206 t211 t212 t213 t217 t218 t219 t220) = some r := by rw [if_neg (show ¬ (false = true) by decide)] at H; exact H
    clear H
    have H := H1
    clear H1
    have H' := Aside0.mk H
    clear H
    have hnb47 := NB224_196.out
    have hnc47 := NB196_224.out
    have hnb48 := NB224_210.out
    have hnc48 := NB210_224.out
    have hnb49 := NB224_216.out
    have hnc49 := NB216_224.out
    have hcz50_0 : w31.cell? ⟨gb224, 0, none⟩ = some (.int .i64 0) := (blk_cell BK224.out 0).trans rfl
    have hcz50_1 : w31.cell? ⟨gb224, 1, none⟩ = some (.int .i64 0) := (blk_cell BK224.out 1).trans rfl
    have hcz50_2 : w31.cell? ⟨gb224, 2, none⟩ = some (.int .i64 0) := (blk_cell BK224.out 2).trans rfl
    have hcz50_3 : w31.cell? ⟨gb224, 3, none⟩ = some (.slice none 0 0) := (blk_cell BK224.out 3).trans rfl
    have hfz50_0 := blk_frozen BK224.out 0
    have hfz50_1 := blk_frozen BK224.out 1
    have hfz50_2 := blk_frozen BK224.out 2
    have hfz50_3 := blk_frozen BK224.out 3
    have hnb51 := NB210_196.out
    have hnc51 := NB196_210.out
    have hnb52 := NB210_216.out
    have hnc52 := NB216_210.out
    have hcz53_0 : w31.cell? ⟨gb210, 0, none⟩ = some (.int .i64 t203) := (blk_cell BK210.out 0).trans rfl
    have hcz53_1 : w31.cell? ⟨gb210, 1, none⟩ = some (.int .i64 t204) := (blk_cell BK210.out 1).trans rfl
    have hcz53_2 : w31.cell? ⟨gb210, 2, none⟩ = some (.int .i64 t205) := (blk_cell BK210.out 2).trans rfl
    have hcz53_3 : w31.cell? ⟨gb210, 3, none⟩ = some (.slice Ao22 t206.length co22) := (blk_cell BK210.out 3).trans rfl
    have hfz53_0 := blk_frozen BK210.out 0
    have hfz53_1 := blk_frozen BK210.out 1
    have hfz53_2 := blk_frozen BK210.out 2
    have hfz53_3 := blk_frozen BK210.out 3
    go_wp2_with (first | ((with_reducible refine gate_callee (f := 20) rfl ?_); refine goesL_ (some 34) rfl rfl Try.func20 (by kernel_rfl) rfl #[.agg #[.int .i64 t217, .int .i64 t218, .int .i64 t219, .slice Ao36 t220.length co36], .agg #[.int .i64 t203, .int .i64 t204, .int .i64 t205, .slice Ao22 t206.length co22]] rfl (by (try simp only [List.map_toArray, List.map_cons, List.map_nil]); first | done | rfl | (simp only [List.length_drop, List.length_take]; rfl)) ?_; (with_reducible refine (laws_eqBloom.calls k t217 t218 t219 _ _ t220 t203 t204 t205 _ _ t206 false _ ?side1 ?side2 ?side3 ?side4 A37.out).mono ?_); (case side1 => refine (Kd.R_reads' (e := 3) (base := w.heap.size) (ok := fun k_ => (((True ∧ some k_ ≠ (.slice Ao17 t200.length co17 : Value).ownBlock) ∧ some k_ ≠ (.slice Ao22 t206.length co22 : Value).ownBlock) ∧ some k_ ≠ (.slice Ao29 t213.length co29 : Value).ownBlock)) (n := t220.length) (c := co36) ?_).2.2; exact (by (with_reducible repeat (first | apply Kd.R_alloc | apply Kd.R_drewN | apply Kd.R_drew)); exact (Kd.R_mono (Kd.R_far (p := ⟨gb224, 3, none⟩) (Kd.R_far (p := ⟨gb224, 2, none⟩) (Kd.R_far (p := ⟨gb224, 1, none⟩) (Kd.R_far (p := ⟨gb224, 0, none⟩) (Kd.R_types HO222.out BK224.out (by decide)) (fun _ hk => hk.2) (.int .i64 t217)) (fun _ hk => hk.2) (.int .i64 t218)) (fun _ hk => hk.2) (.int .i64 t219)) (fun _ hk => hk.2) (.slice Ao36 t220.length co36)) (fun _ h_ => h_.1)))); (case side2 => exact (Kd.R_reads' HO222.out).2.1); (case side3 => refine (Kd.R_reads' (e := 3) (base := w.heap.size) (ok := fun k_ => (((True ∧ some k_ ≠ (.slice Ao17 t200.length co17 : Value).ownBlock) ∧ some k_ ≠ (.slice Ao29 t213.length co29 : Value).ownBlock) ∧ some k_ ≠ (.slice Ao36 t220.length co36 : Value).ownBlock)) (n := t206.length) (c := co22) ?_).2.2; exact (by (with_reducible repeat (first | apply Kd.R_alloc | apply Kd.R_drewN | apply Kd.R_drew)); exact (Kd.R_mono (Kd.R_far (p := ⟨gb224, 3, none⟩) (Kd.R_far (p := ⟨gb224, 2, none⟩) (Kd.R_far (p := ⟨gb224, 1, none⟩) (Kd.R_far (p := ⟨gb224, 0, none⟩) (Kd.R_types HO208.out BK224.out (by decide)) (fun _ hk => hk.2) (.int .i64 t217)) (fun _ hk => hk.2) (.int .i64 t218)) (fun _ hk => hk.2) (.int .i64 t219)) (fun _ hk => hk.2) (.slice Ao36 t220.length co36)) (fun _ h_ => h_.1)))); (case side4 => exact (Kd.R_reads' HO208.out).2.1); rintro e w54 ⟨rfl, hb⟩; refine ⟨_, rfl, ?_⟩; have n0_ := Aside0.mk (Kd.R_below (by (with_reducible repeat (first | apply Kd.R_alloc | apply Kd.R_drewN | apply Kd.R_drew)); exact (Kd.R_mono (Kd.R_far (p := ⟨gb224, 3, none⟩) (Kd.R_far (p := ⟨gb224, 2, none⟩) (Kd.R_far (p := ⟨gb224, 1, none⟩) (Kd.R_far (p := ⟨gb224, 0, none⟩) (Kd.R_types HO202.out BK224.out (by decide)) (fun _ hk => hk.2) (.int .i64 t217)) (fun _ hk => hk.2) (.int .i64 t218)) (fun _ hk => hk.2) (.int .i64 t219)) (fun _ hk => hk.2) (.slice Ao36 t220.length co36)) (fun _ h_ => h_.1))) hb); have n1_ := Aside0.mk (Kd.R_below (by (with_reducible repeat (first | apply Kd.R_alloc | apply Kd.R_drewN | apply Kd.R_drew)); exact (Kd.R_mono (Kd.R_far (p := ⟨gb224, 3, none⟩) (Kd.R_far (p := ⟨gb224, 2, none⟩) (Kd.R_far (p := ⟨gb224, 1, none⟩) (Kd.R_far (p := ⟨gb224, 0, none⟩) (Kd.R_types HO208.out BK224.out (by decide)) (fun _ hk => hk.2) (.int .i64 t217)) (fun _ hk => hk.2) (.int .i64 t218)) (fun _ hk => hk.2) (.int .i64 t219)) (fun _ hk => hk.2) (.slice Ao36 t220.length co36)) (fun _ h_ => h_.1))) hb); have n2_ := Aside0.mk (Kd.R_below (by (with_reducible repeat (first | apply Kd.R_alloc | apply Kd.R_drewN | apply Kd.R_drew)); exact (Kd.R_mono (Kd.R_far (p := ⟨gb224, 3, none⟩) (Kd.R_far (p := ⟨gb224, 2, none⟩) (Kd.R_far (p := ⟨gb224, 1, none⟩) (Kd.R_far (p := ⟨gb224, 0, none⟩) (Kd.R_types HO215.out BK224.out (by decide)) (fun _ hk => hk.2) (.int .i64 t217)) (fun _ hk => hk.2) (.int .i64 t218)) (fun _ hk => hk.2) (.int .i64 t219)) (fun _ hk => hk.2) (.slice Ao36 t220.length co36)) (fun _ h_ => h_.1))) hb); have n3_ := Aside0.mk (Kd.R_below (by (with_reducible repeat (first | apply Kd.R_alloc | apply Kd.R_drewN | apply Kd.R_drew)); exact (Kd.R_mono (Kd.R_far (p := ⟨gb224, 3, none⟩) (Kd.R_far (p := ⟨gb224, 2, none⟩) (Kd.R_far (p := ⟨gb224, 1, none⟩) (Kd.R_far (p := ⟨gb224, 0, none⟩) (Kd.R_types HO222.out BK224.out (by decide)) (fun _ hk => hk.2) (.int .i64 t217)) (fun _ hk => hk.2) (.int .i64 t218)) (fun _ hk => hk.2) (.int .i64 t219)) (fun _ hk => hk.2) (.slice Ao36 t220.length co36)) (fun _ h_ => h_.1))) hb); have n4_ := Aside0.mk (blk_below (g := gb196) (o := .cells #[.int .i64 a0_0, .int .i64 a0_1, .slice A0_2 l0_2.length c0_2] 48 (0, 0)) (by refine uW ?_; refine blk_far ?_ NB196_224.out _; refine uW ?_; refine blk_far ?_ NB196_224.out _; refine uW ?_; refine blk_far ?_ NB196_224.out _; refine uW ?_; refine blk_far ?_ NB196_224.out _; refine uW ?_; exact BK196.out) hb); have n5_ := Aside0.mk (blk_below (g := gb210) (o := .cells #[.int .i64 t203, .int .i64 t204, .int .i64 t205, .slice Ao22 t206.length co22] 40 (0, 0)) (by refine uW ?_; refine blk_far ?_ NB210_224.out _; refine uW ?_; refine blk_far ?_ NB210_224.out _; refine uW ?_; refine blk_far ?_ NB210_224.out _; refine uW ?_; refine blk_far ?_ NB210_224.out _; refine uW ?_; exact BK210.out) hb); have n6_ := Aside0.mk (blk_below (g := gb216) (o := .cells #[.int .i64 t211, .int .i64 t212, .slice Ao29 t213.length co29] 51 (0, 0)) (by refine uW ?_; refine blk_far ?_ NB216_224.out _; refine uW ?_; refine blk_far ?_ NB216_224.out _; refine uW ?_; refine blk_far ?_ NB216_224.out _; refine uW ?_; refine blk_far ?_ NB216_224.out _; refine uW ?_; exact BK216.out) hb); have n7_ := Aside0.mk (blk_below (g := gb224) (o := .cells #[.int .i64 t217, .int .i64 t218, .int .i64 t219, .slice Ao36 t220.length co36] 40 (0, 0)) (by refine uW ?_; refine blk_put (cs := #[.int .i64 t217, .int .i64 t218, .int .i64 t219, .slice none 0 0]) ?_ 3 _ rfl; refine uW ?_; refine blk_put (cs := #[.int .i64 t217, .int .i64 t218, .int .i64 0, .slice none 0 0]) ?_ 2 _ rfl; refine uW ?_; refine blk_put (cs := #[.int .i64 t217, .int .i64 0, .int .i64 0, .slice none 0 0]) ?_ 1 _ rfl; refine uW ?_; refine blk_put (cs := #[.int .i64 0, .int .i64 0, .int .i64 0, .slice none 0 0]) ?_ 0 _ rfl; refine uW ?_; exact BK224.out) hb); have n8_ := Aside0.mk (below_step (by first | exact uB HB | exact uS HB (gC GE196 (gC GE210 (gC GE216 (gC GE224 gN))))) hb); clear HO202 HO208 HO215 HO222 BK196 BK210 BK216 BK224 HB; have HO202 := n0_; have HO208 := n1_; have HO215 := n2_; have HO222 := n3_; have BK196 := n4_; have BK210 := n5_; have BK216 := n6_; have BK224 := n7_; have HB := n8_; clear n0_ n1_ n2_ n3_ n4_ n5_ n6_ n7_ n8_; (try clear hb); (try clear hb2); (try clear hk); (try clear hi)))
    go_meet
    case rel => exact ⟨_, (true), (by first | rfl | (simp; done) | (simp [*]; done)), H', ⟨by first | omega | exact Nat.le_refl _⟩, ⟨by (with_reducible repeat (first | apply Kd.R_alloc | apply Kd.R_drewN | apply Kd.R_drew)); exact Kd.R_mono HO208.out (fun _ hk => ⟨hk.1.2, hk.2⟩)⟩, ⟨by (with_reducible repeat (first | apply Kd.R_alloc | apply Kd.R_drewN | apply Kd.R_drew)); exact Kd.R_mono HO215.out (fun _ hk => ⟨hk.1.2, hk.2⟩)⟩, ⟨by (with_reducible repeat (first | apply Kd.R_alloc | apply Kd.R_drewN | apply Kd.R_drew)); exact Kd.R_mono HO222.out (fun _ hk => ⟨hk.1.2, hk.2⟩)⟩, ⟨by refine uW ?_; exact BK196.out⟩, ⟨by refine uW ?_; exact BK210.out⟩, ⟨by refine uW ?_; exact BK216.out⟩, ⟨by refine uW ?_; exact BK224.out⟩, ⟨by first | exact uB HB | exact uS HB (gC GE196 (gC GE210 (gC GE216 (gC GE224 gN))))⟩⟩
  case rest =>
   clear HC11
   try clear c2
   try clear p2
   try clear c3
   try clear c3b0
   try clear c4
   try clear c5
   try clear c20
   try clear c23
   try clear c24
   try clear c25
   try clear c26
   try clear c27
   try clear c32
   try clear c33
   try clear c34
   try clear c38
   try clear c39
   try clear c40
   try clear c41
   try clear c43
   try clear c44
   try clear c47
   try clear c48
   try clear c49
   try clear c51
   try clear c52
   try clear hcz13_0
   try clear hcz13_1
   try clear hcz13_2
   try clear hcz15_0
   try clear hcz15_1
   try clear hcz15_2
   try clear hcz21_0
   try clear hcz21_1
   try clear hcz21_2
   try clear hcz21_3
   try clear hcz23_0
   try clear hcz23_1
   try clear hcz23_2
   try clear hcz28_0
   try clear hcz28_1
   try clear hcz28_2
   try clear hcz35_0
   try clear hcz35_1
   try clear hcz35_2
   try clear hcz35_3
   try clear hcz42_0
   try clear hcz42_1
   try clear hcz42_2
   try clear hcz42_3
   try clear hcz45_0
   try clear hcz45_1
   try clear hcz45_2
   try clear hcz45_3
   try clear hcz50_0
   try clear hcz50_1
   try clear hcz50_2
   try clear hcz50_3
   try clear hcz53_0
   try clear hcz53_1
   try clear hcz53_2
   try clear hcz53_3
   try clear hcz5_0
   try clear hcz5_1
   try clear hcz5_2
   try clear hfz13_0
   try clear hfz13_1
   try clear hfz13_2
   try clear hfz15_0
   try clear hfz15_1
   try clear hfz15_2
   try clear hfz21_0
   try clear hfz21_1
   try clear hfz21_2
   try clear hfz21_3
   try clear hfz23_0
   try clear hfz23_1
   try clear hfz23_2
   try clear hfz28_0
   try clear hfz28_1
   try clear hfz28_2
   try clear hfz35_0
   try clear hfz35_1
   try clear hfz35_2
   try clear hfz35_3
   try clear hfz42_0
   try clear hfz42_1
   try clear hfz42_2
   try clear hfz42_3
   try clear hfz45_0
   try clear hfz45_1
   try clear hfz45_2
   try clear hfz45_3
   try clear hfz50_0
   try clear hfz50_1
   try clear hfz50_2
   try clear hfz50_3
   try clear hfz53_0
   try clear hfz53_1
   try clear hfz53_2
   try clear hfz53_3
   try clear hfz5_0
   try clear hfz5_1
   try clear hfz5_2
   obtain ⟨kq, x40_10, rfl, HA, HJ10, HO_211003, HO_217002, HO_225003, BK196, BK210, BK216, BK224, HB⟩ := hcut
   cases kq with
   | zero => exact absurd HA.out (by simp [laws_FnExactBloomOfCounting.j0])
   | succ kj10 =>
    have H := HA.out
    clear HA
    simp only [laws_FnExactBloomOfCounting.j0] at H
    by_cases c55 : x40_10 = true
    ·
     subst c55
     have H1 : (some false) = some r := by rw [if_pos rfl] at H; exact H
     clear H
     have H := H1
     clear H1
     obtain rfl := Option.some.inj H
     go_wp2
     go_ret
     exact ⟨by first | rfl | (simp [errW_none, errW_some] <;> rfl) | (simp [*, errW_none, errW_some] <;> rfl), by first | exact uB HB | exact uS HB (gC GE196 (gC GE210 (gC GE216 (gC GE224 gN))))⟩
    ·
     replace c55 := Bool.eq_false_iff.mpr c55
     subst c55
     have H1 : ((laws_toCounting.f kj10 a0_0 a0_1 l0_2).bind fun bt226 => ((laws_eqCounting.f kj10 t211 t212 t213 bt226.1 bt226.2.1 bt226.2.2).bind fun t231 => (if t231 = true then ((laws_markCounting.f kj10 t211 t212 t213 1).bind fun bt232 => (if bt232.1 < 0 then (laws_FnExactBloomOfCounting.j1 kj10 t209 true a0_0 a0_1 l0_2 t203 t204 t205 t206 t217 t218 t219 t220) else ((laws_eqBloom.f kj10 t217 t218 t219 t220 t203 t204 t205 t206).bind fun t234 => (if t234 = true then (laws_FnExactBloomOfCounting.j1 kj10 t209 (t223 != t209) a0_0 a0_1 l0_2 t203 t204 t205 t206 t217 t218 t219 t220) else (laws_FnExactBloomOfCounting.j1 kj10 t209 true a0_0 a0_1 l0_2 t203 t204 t205 t206 t217 t218 t219 t220))))) else (some false)))) = some r := by rw [if_neg (show ¬ (false = true) by decide)] at H; exact H
     clear H
     have H := H1
     clear H1
     replace H := Option.bind_eq_some_iff.mp H
     obtain ⟨⟨t226, t227, t228⟩, A560, H⟩ := H
     replace H : ((laws_eqCounting.f kj10 t211 t212 t213 t226 t227 t228).bind fun t231 => (if t231 = true then ((laws_markCounting.f kj10 t211 t212 t213 1).bind fun bt232 => (if bt232.1 < 0 then (laws_FnExactBloomOfCounting.j1 kj10 t209 true a0_0 a0_1 l0_2 t203 t204 t205 t206 t217 t218 t219 t220) else ((laws_eqBloom.f kj10 t217 t218 t219 t220 t203 t204 t205 t206).bind fun t234 => (if t234 = true then (laws_FnExactBloomOfCounting.j1 kj10 t209 (t223 != t209) a0_0 a0_1 l0_2 t203 t204 t205 t206 t217 t218 t219 t220) else (laws_FnExactBloomOfCounting.j1 kj10 t209 true a0_0 a0_1 l0_2 t203 t204 t205 t206 t217 t218 t219 t220))))) else (some false))) = some r := H
     have A56 := Aside0.mk A560
     clear A560
     replace H := Option.bind_eq_some_iff.mp H
     obtain ⟨t231, A570, H⟩ := H
     replace H : (if t231 = true then ((laws_markCounting.f kj10 t211 t212 t213 1).bind fun bt232 => (if bt232.1 < 0 then (laws_FnExactBloomOfCounting.j1 kj10 t209 true a0_0 a0_1 l0_2 t203 t204 t205 t206 t217 t218 t219 t220) else ((laws_eqBloom.f kj10 t217 t218 t219 t220 t203 t204 t205 t206).bind fun t234 => (if t234 = true then (laws_FnExactBloomOfCounting.j1 kj10 t209 (t223 != t209) a0_0 a0_1 l0_2 t203 t204 t205 t206 t217 t218 t219 t220) else (laws_FnExactBloomOfCounting.j1 kj10 t209 true a0_0 a0_1 l0_2 t203 t204 t205 t206 t217 t218 t219 t220))))) else (some false)) = some r := H
     have A57 := Aside0.mk A570
     clear A570
     by_cases c58 : t231 = true
     ·
      subst c58
      have H1 : ((laws_markCounting.f kj10 t211 t212 t213 1).bind fun bt232 => (if bt232.1 < 0 then (laws_FnExactBloomOfCounting.j1 kj10 t209 true a0_0 a0_1 l0_2 t203 t204 t205 t206 t217 t218 t219 t220) else ((laws_eqBloom.f kj10 t217 t218 t219 t220 t203 t204 t205 t206).bind fun t234 => (if t234 = true then (laws_FnExactBloomOfCounting.j1 kj10 t209 (t223 != t209) a0_0 a0_1 l0_2 t203 t204 t205 t206 t217 t218 t219 t220) else (laws_FnExactBloomOfCounting.j1 kj10 t209 true a0_0 a0_1 l0_2 t203 t204 t205 t206 t217 t218 t219 t220))))) = some r := by rw [if_pos rfl] at H; exact H
      clear H
      have H := H1
      clear H1
      replace H := Option.bind_eq_some_iff.mp H
      obtain ⟨⟨t232, t233⟩, A590, H⟩ := H
      replace H : (if t232 < 0 then (laws_FnExactBloomOfCounting.j1 kj10 t209 true a0_0 a0_1 l0_2 t203 t204 t205 t206 t217 t218 t219 t220) else ((laws_eqBloom.f kj10 t217 t218 t219 t220 t203 t204 t205 t206).bind fun t234 => (if t234 = true then (laws_FnExactBloomOfCounting.j1 kj10 t209 (t223 != t209) a0_0 a0_1 l0_2 t203 t204 t205 t206 t217 t218 t219 t220) else (laws_FnExactBloomOfCounting.j1 kj10 t209 true a0_0 a0_1 l0_2 t203 t204 t205 t206 t217 t218 t219 t220)))) = some r := H
      have A59 := Aside0.mk A590
      clear A590
      have HC60 := Aside0.mk H
      clear H
      try go_wp2
      have n0_ := Aside0.mk (Kd.R_drew HO_211003.out)
      have n1_ := Aside0.mk (Kd.R_drew HO_217002.out)
      have n2_ := Aside0.mk (Kd.R_drew HO_225003.out)
      have n3_ := Aside0.mk (blk_drew BK196.out)
      have n4_ := Aside0.mk (blk_drew BK210.out)
      have n5_ := Aside0.mk (blk_drew BK216.out)
      have n6_ := Aside0.mk (blk_drew BK224.out)
      have n7_ := Aside0.mk (below_drew1 HB.out)
      clear HO_211003
      clear HO_217002
      clear HO_225003
      clear BK196
      clear BK210
      clear BK216
      clear BK224
      clear HB
      have HO_211003 := n0_
      have HO_217002 := n1_
      have HO_225003 := n2_
      have BK196 := n3_
      have BK210 := n4_
      have BK216 := n5_
      have BK224 := n6_
      have HB := n7_
      clear n0_ n1_ n2_ n3_ n4_ n5_ n6_ n7_
      refine start_ (n := 5) (S := fun w' => w'.cell? ⟨gb216, 0, none⟩ = some (.int .i64 t211) ∧ w'.cell? ⟨gb216, 1, none⟩ = some (.int .i64 t212) ∧ w'.cell? ⟨gb216, 2, none⟩ = some (.slice Ao29 t213.length co29) ∧ w'.cell? ⟨gb196, 0, none⟩ = some (.int .i64 a0_0) ∧ w'.cell? ⟨gb196, 1, none⟩ = some (.int .i64 a0_1) ∧ w'.cell? ⟨gb196, 2, none⟩ = some (.slice A0_2 l0_2.length c0_2)) (ds := []) #[false, false, false, false, false] (by kernel_rfl) rfl rfl ⟨(blk_cell BK216.out 0).trans rfl, (blk_cell BK216.out 1).trans rfl, (blk_cell BK216.out 2).trans rfl, (blk_cell BK196.out 0).trans rfl, (blk_cell BK196.out 1).trans rfl, (blk_cell BK196.out 2).trans rfl⟩ (fun hHeld => ?_)
      generalize wc.drew = w61 at HO_211003 HO_217002 HO_225003 BK196 BK210 BK216 BK224 HB hHeld ⊢
      refine take_ (i := 0) (N := some 41) (v := ?_) (a' := ?_) #[true, false, false, false, false] rfl rfl (by kernel_rfl) (fun _ _ _ h => h) (Or.inl ⟨by rfl, ?_⟩) hHeld ?_ ?_
      rotate_left
      ·
       rintro w' ⟨s0, s1, s2, s3, s4, s5⟩
       go_simp
       with_reducible rfl
      rotate_left
      ·
       simp only [Act.put, List.setIfInBounds_toArray, List.set_cons_zero, List.set_cons_succ, i64_w, i32_w]
       rfl
      refine take_ (i := 1) (N := some 42) (v := ?_) (a' := ?_) #[true, true, false, false, false] rfl rfl (by kernel_rfl) (fun _ _ _ h => h) (Or.inl ⟨by rfl, ?_⟩) hHeld ?_ ?_
      rotate_left
      ·
       rintro w' ⟨s0, s1, s2, s3, s4, s5⟩
       go_simp
       with_reducible rfl
      rotate_left
      ·
       simp only [Act.put, List.setIfInBounds_toArray, List.set_cons_zero, List.set_cons_succ, i64_w, i32_w]
       rfl
      refine one_ (i := 2) (N := some 43) #[true, true, true, false, false] rfl rfl (by kernel_rfl) (by decide) (fun K hK => ?_)
      refine goes_ Try.func25 (by kernel_rfl) rfl #[.agg #[.int .i64 a0_0, .int .i64 a0_1, .slice A0_2 l0_2.length c0_2]] (by rfl) rfl rfl (by (try simp only [List.map_toArray, List.map_cons, List.map_nil]); first | done | rfl | (simp only [List.length_drop, List.length_take]; rfl)) ?_
      with_reducible refine (laws_toCounting.calls kj10 a0_0 a0_1 _ _ l0_2 t226 t227 t228 _ ?side1 ?side2 A56.out).mono ?_
      (case side1 => exact uC HR0_2 HB)
      (case side2 => exact HC0_2.out)
      rintro e w62 ⟨v229, rfl, ho0, hb⟩
      refine ⟨_, rfl, ?_⟩
      have n0_ := Aside0.mk (Kd.R_elder' (uR HO_211003) (Kd.R_base ho0) hb)
      have n1_ := Aside0.mk (Kd.R_elder' (uR HO_217002) (Kd.R_base ho0) hb)
      have n2_ := Aside0.mk (Kd.R_elder' (uR HO_225003) (Kd.R_base ho0) hb)
      have n3_ := Aside0.mk (Kd.R_lower (Kd.R_new' (Kd.R_new' (Kd.R_new' ho0 (Kd.R_lt (uR HO_211003))) (Kd.R_lt (uR HO_217002))) (Kd.R_lt (uR HO_225003))) (below_size (by first | exact uB HB | exact uS HB (gC GE196 (gC GE210 (gC GE216 (gC GE224 gN)))))))
      have n4_ := Aside0.mk (blk_below (g := gb196) (o := .cells #[.int .i64 a0_0, .int .i64 a0_1, .slice A0_2 l0_2.length c0_2] 48 (0, 0)) (uK BK196) hb)
      have n5_ := Aside0.mk (blk_below (g := gb210) (o := .cells #[.int .i64 t203, .int .i64 t204, .int .i64 t205, .slice Ao22 t206.length co22] 40 (0, 0)) (uK BK210) hb)
      have n6_ := Aside0.mk (blk_below (g := gb216) (o := .cells #[.int .i64 t211, .int .i64 t212, .slice Ao29 t213.length co29] 51 (0, 0)) (uK BK216) hb)
      have n7_ := Aside0.mk (blk_below (g := gb224) (o := .cells #[.int .i64 t217, .int .i64 t218, .int .i64 t219, .slice Ao36 t220.length co36] 40 (0, 0)) (uK BK224) hb)
      have n8_ := Aside0.mk (below_step (by first | exact uB HB | exact uS HB (gC GE196 (gC GE210 (gC GE216 (gC GE224 gN))))) hb)
      clear HO_211003
      clear HO_217002
      clear HO_225003
      clear BK196
      clear BK210
      clear BK216
      clear BK224
      clear HB
      have HO_211003 := n0_
      have HO_217002 := n1_
      have HO_225003 := n2_
      have HO230 := n3_
      have BK196 := n4_
      have BK210 := n5_
      have BK216 := n6_
      have BK224 := n7_
      have HB := n8_
      clear n0_ n1_ n2_ n3_ n4_ n5_ n6_ n7_ n8_
      (try clear hb)
      (try clear hb2)
      (try clear hk)
      (try clear hi)
      (try clear ho0)
      obtain ⟨Ao63, co63, eo63⟩ := Kd.R_slice HO230.out
      (first | subst eo63 | (injection eo63 with f1_ f2_ f3_; have f4_ := f1_.symm; have f5_ := f3_.symm; clear f1_ f2_ f3_; subst f4_; subst f5_))
      refine hK.out _ _ ⟨(blk_cell BK216.out 0).trans rfl, (blk_cell BK216.out 1).trans rfl, (blk_cell BK216.out 2).trans rfl, (blk_cell BK196.out 0).trans rfl, (blk_cell BK196.out 1).trans rfl, (blk_cell BK196.out 2).trans rfl⟩ (fun hHeld => ?_)
      clear hK K
      refine norm_ (a' := ?_) ?_ ?_
      rotate_left
      ·
       show Act.put _ (some 43) _ = _
       simp only [Act.put, List.setIfInBounds_toArray, List.set_cons_zero, List.set_cons_succ, i64_w, i32_w]
       rfl
      refine one_ (i := 3) (N := some 44) #[true, true, true, true, false] rfl rfl (by kernel_rfl) (by decide) (fun K hK => ?_)
      refine goes_ Try.func27 (by kernel_rfl) rfl #[.agg #[.int .i64 t211, .int .i64 t212, .slice Ao29 t213.length co29], .agg #[.int .i64 t226, .int .i64 t227, .slice Ao63 t228.length co63]] (by rfl) rfl rfl (by (try simp only [List.map_toArray, List.map_cons, List.map_nil]); first | done | rfl | (simp only [List.length_drop, List.length_take]; rfl)) ?_
      with_reducible refine (laws_eqCounting.calls kj10 t211 t212 _ _ t213 t226 t227 _ _ t228 true _ ?side1 ?side2 ?side3 ?side4 A57.out).mono ?_
      (case side1 => exact uD HO_217002)
      (case side2 => exact (Kd.R_reads' HO_217002.out).2.1)
      (case side3 => exact uD HO230)
      (case side4 => exact (Kd.R_reads' HO230.out).2.1)
      rintro e w64 ⟨rfl, hb⟩
      refine ⟨_, rfl, ?_⟩
      have n0_ := Aside0.mk (Kd.R_below (uR HO_211003) hb)
      have n1_ := Aside0.mk (Kd.R_below (uR HO_217002) hb)
      have n2_ := Aside0.mk (Kd.R_below (uR HO_225003) hb)
      have n3_ := Aside0.mk (Kd.R_below (uR HO230) hb)
      have n4_ := Aside0.mk (blk_below (g := gb196) (o := .cells #[.int .i64 a0_0, .int .i64 a0_1, .slice A0_2 l0_2.length c0_2] 48 (0, 0)) (uK BK196) hb)
      have n5_ := Aside0.mk (blk_below (g := gb210) (o := .cells #[.int .i64 t203, .int .i64 t204, .int .i64 t205, .slice Ao22 t206.length co22] 40 (0, 0)) (uK BK210) hb)
      have n6_ := Aside0.mk (blk_below (g := gb216) (o := .cells #[.int .i64 t211, .int .i64 t212, .slice Ao29 t213.length co29] 51 (0, 0)) (uK BK216) hb)
      have n7_ := Aside0.mk (blk_below (g := gb224) (o := .cells #[.int .i64 t217, .int .i64 t218, .int .i64 t219, .slice Ao36 t220.length co36] 40 (0, 0)) (uK BK224) hb)
      have n8_ := Aside0.mk (below_step (by first | exact uB HB | exact uS HB (gC GE196 (gC GE210 (gC GE216 (gC GE224 gN))))) hb)
      clear HO_211003
      clear HO_217002
      clear HO_225003
      clear HO230
      clear BK196
      clear BK210
      clear BK216
      clear BK224
      clear HB
      have HO_211003 := n0_
      have HO_217002 := n1_
      have HO_225003 := n2_
      have HO230 := n3_
      have BK196 := n4_
      have BK210 := n5_
      have BK216 := n6_
      have BK224 := n7_
      have HB := n8_
      clear n0_ n1_ n2_ n3_ n4_ n5_ n6_ n7_ n8_
      (try clear hb)
      (try clear hb2)
      (try clear hk)
      (try clear hi)
      refine hK.out _ _ ⟨(blk_cell BK216.out 0).trans rfl, (blk_cell BK216.out 1).trans rfl, (blk_cell BK216.out 2).trans rfl, (blk_cell BK196.out 0).trans rfl, (blk_cell BK196.out 1).trans rfl, (blk_cell BK196.out 2).trans rfl⟩ (fun hHeld => ?_)
      clear hK K
      refine norm_ (a' := ?_) ?_ ?_
      rotate_left
      ·
       show Act.put _ (some 44) _ = _
       simp only [Act.put, List.setIfInBounds_toArray, List.set_cons_zero, List.set_cons_succ, i64_w, i32_w]
       rfl
      refine pure_ (i := 4) (N := some 45) (v := ?_) (a' := ?_) #[true, true, true, true, true] rfl rfl (by kernel_rfl) (fun _ _ _ h => h) (Or.inl ⟨by rfl, ?_⟩) ?_ ?_
      rotate_left
      ·
       intro w'
       go_simp
       with_reducible rfl
      rotate_left
      ·
       simp only [Act.put, List.setIfInBounds_toArray, List.set_cons_zero, List.set_cons_succ, i64_w, i32_w]
       rfl
      refine done_ (by kernel_rfl) ?_
      have hnb65 := NB216_196.out
      have hnc65 := NB196_216.out
      have hnb66 := NB216_210.out
      have hnc66 := NB210_216.out
      have hnb67 := NB216_224.out
      have hnc67 := NB224_216.out
      have hcz68_0 : w64.cell? ⟨gb216, 0, none⟩ = some (.int .i64 t211) := (blk_cell BK216.out 0).trans rfl
      have hcz68_1 : w64.cell? ⟨gb216, 1, none⟩ = some (.int .i64 t212) := (blk_cell BK216.out 1).trans rfl
      have hcz68_2 : w64.cell? ⟨gb216, 2, none⟩ = some (.slice Ao29 t213.length co29) := (blk_cell BK216.out 2).trans rfl
      have hfz68_0 := blk_frozen BK216.out 0
      have hfz68_1 := blk_frozen BK216.out 1
      have hfz68_2 := blk_frozen BK216.out 2
      go_upto_region 14 with (first | ((with_reducible refine gate_callee (f := 28) rfl ?_); refine goesL_ (some 48) rfl rfl Try.func28 (by kernel_rfl) rfl #[.agg #[.int .i64 t211, .int .i64 t212, .slice Ao29 t213.length co29], .int .i64 1] rfl (by (try simp only [List.map_toArray, List.map_cons, List.map_nil]); first | done | rfl | (simp only [List.length_drop, List.length_take]; rfl)) ?_; (with_reducible refine (laws_markCounting.calls kj10 t211 t212 (fun k_ => some k_ = (.slice Ao29 t213.length co29 : Value).ownBlock) (.slice Ao29 t213.length co29) t213 1 t232 t233 w _ ?side1 ?side2 A59.out).mono ?_); (case side1 => first | exact uB HB | exact uS HB (gC GE196 (gC GE210 (gC GE216 (gC GE224 gN))))); (case side2 => exact Kd.R_tight rfl HO_217002.out); rintro e w69 ⟨rfl, hy0, hb, hkp⟩; refine ⟨_, rfl, ?_⟩; have n0_ := Aside0.mk (Kd.R_mono (ok' := fun k_ => some k_ ≠ (.slice Ao29 t213.length co29 : Value).ownBlock ∧ some k_ ≠ (.slice Ao36 t220.length co36 : Value).ownBlock ∧ some k_ ≠ (.slice Ao63 t228.length co63 : Value).ownBlock) (Kd.R_keptB (HO_211003.out) hkp (fun k_ hk_ hs_ => (hk_.1.1) hs_)) (fun k_ hk_ => ⟨hk_.1.1.1, hk_.1.1.2, hk_.1.2⟩)); have n1_ := Aside0.mk (Kd.R_reok rfl hy0 (fun k_ e_ => HO_217002.out.1 k_ e_)); have n2_ := Aside0.mk (Kd.R_mono (ok' := fun k_ => some k_ ≠ (.slice Ao22 t206.length co22 : Value).ownBlock ∧ some k_ ≠ (.slice Ao29 t213.length co29 : Value).ownBlock ∧ some k_ ≠ (.slice Ao63 t228.length co63 : Value).ownBlock) (Kd.R_keptB (HO_225003.out) hkp (fun k_ hk_ hs_ => (hk_.1.2) hs_)) (fun k_ hk_ => ⟨hk_.1.1.1, hk_.1.1.2, hk_.1.2⟩)); have n3_ := Aside0.mk (blk_kept (uK BK196) hkp (fun hs_ => (fun e_ => (Kd.R_ne HO_217002.out BK196.out (by decide)) e_) hs_)); have n4_ := Aside0.mk (blk_kept (uK BK210) hkp (fun hs_ => (fun e_ => (Kd.R_ne HO_217002.out BK210.out (by decide)) e_) hs_)); have n5_ := Aside0.mk (blk_kept (uK BK216) hkp (fun hs_ => (fun e_ => (Kd.R_ne HO_217002.out BK216.out (by decide)) e_) hs_)); have n6_ := Aside0.mk (blk_kept (uK BK224) hkp (fun hs_ => (fun e_ => (Kd.R_ne HO_217002.out BK224.out (by decide)) e_) hs_)); have n7_ := Aside0.mk (Kd.R_mono (ok' := fun k_ => some k_ ≠ (.slice Ao22 t206.length co22 : Value).ownBlock ∧ some k_ ≠ (.slice Ao29 t213.length co29 : Value).ownBlock ∧ some k_ ≠ (.slice Ao36 t220.length co36 : Value).ownBlock) (Kd.R_keptB (HO230.out) hkp (fun k_ hk_ hs_ => (hk_.1.2) hs_)) (fun k_ hk_ => ⟨hk_.1.1.1.2, hk_.1.1.2, hk_.1.2⟩)); have n8_ := Aside0.mk (hb); clear HO_211003 HO_217002 HO_225003 BK196 BK210 BK216 BK224 HO230 HB; have HO_211003 := n0_; have HO_217002 := n1_; have HO_225003 := n2_; have BK196 := n3_; have BK210 := n4_; have BK216 := n5_; have BK224 := n6_; have HO230 := n7_; have HB := n8_; clear n0_ n1_ n2_ n3_ n4_ n5_ n6_ n7_ n8_; (try clear hb); (try clear hkp); (try clear hy0)))
      (try simp only [Act.put, List.setIfInBounds_toArray, List.set_cons_zero, List.set_cons_succ])
      go_cut [61] (fun v61 wc => ∃ (kq : Nat) (x61_59 : Bool), v61 = .bool x61_59 ∧ Aside0 (laws_FnExactBloomOfCounting.j1 kq t209 x61_59 a0_0 a0_1 l0_2 t203 t204 t205 t206 t217 t218 t219 t220 = some r) ∧ Aside0 (kq ≤ kj10) ∧ Aside0 (Kd.R (Kd.int .i64) 3 wc w.heap.size (fun k_ => some k_ ≠ ((.slice Ao29 t213.length co29) : Value).ownBlock ∧ some k_ ≠ ((.slice Ao36 t220.length co36) : Value).ownBlock) (.slice Ao22 t206.length co22) t206) ∧ Aside0 (Kd.R (Kd.int .i64) 3 wc w.heap.size (fun k_ => some k_ ≠ ((.slice Ao22 t206.length co22) : Value).ownBlock ∧ some k_ ≠ ((.slice Ao36 t220.length co36) : Value).ownBlock) (.slice Ao29 t213.length co29) t233) ∧ Aside0 (Kd.R (Kd.int .i64) 3 wc w.heap.size (fun k_ => some k_ ≠ ((.slice Ao22 t206.length co22) : Value).ownBlock ∧ some k_ ≠ ((.slice Ao29 t213.length co29) : Value).ownBlock) (.slice Ao36 t220.length co36) t220) ∧ Aside0 (wc.heap[gb196]? = some (.cells #[.int .i64 a0_0, .int .i64 a0_1, (.slice A0_2 l0_2.length c0_2)] 48 (0, 0))) ∧ Aside0 (wc.heap[gb210]? = some (.cells #[.int .i64 t203, .int .i64 t204, .int .i64 t205, (.slice Ao22 t206.length co22)] 40 (0, 0))) ∧ Aside0 (wc.heap[gb216]? = some (.cells #[.int .i64 t211, .int .i64 t212, (.slice Ao29 t213.length co29)] 51 (0, 0))) ∧ Aside0 (wc.heap[gb224]? = some (.cells #[.int .i64 t217, .int .i64 t218, .int .i64 t219, (.slice Ao36 t220.length co36)] 40 (0, 0))) ∧ Aside0 (Below w.heap.size w wc))
      case first =>
       have H := HC60.out
       clear HC60
       by_cases c70 : t232 < 0
       ·
        rw [if_pos c70] at H
        have c70b0 : decide (t232 < 0) = true := decide_eq_true c70
        clear c70
        (first | rw [c70b0] | (simp only [i64_w, i32_w]; rw [c70b0]) | skip)
        have H' := Aside0.mk H
        clear H
        go_wp2
        go_meet
        case rel => exact ⟨_, (true), (by first | rfl | (simp; done) | (simp [*]; done)), H', ⟨by have := HJ10.out; first | omega | exact Nat.le_refl _⟩, ⟨by (with_reducible repeat (first | apply Kd.R_alloc | apply Kd.R_drewN | apply Kd.R_drew)); exact Kd.R_mono HO_211003.out (fun _ hk => ⟨hk.1, hk.2.1⟩)⟩, ⟨by (with_reducible repeat (first | apply Kd.R_alloc | apply Kd.R_drewN | apply Kd.R_drew)); exact Kd.R_mono HO_217002.out (fun _ hk => ⟨hk.1.1, hk.1.2⟩)⟩, ⟨by (with_reducible repeat (first | apply Kd.R_alloc | apply Kd.R_drewN | apply Kd.R_drew)); exact Kd.R_mono HO_225003.out (fun _ hk => ⟨hk.1, hk.2.1⟩)⟩, ⟨by refine uW ?_; exact BK196.out⟩, ⟨by refine uW ?_; exact BK210.out⟩, ⟨by refine uW ?_; exact BK216.out⟩, ⟨by refine uW ?_; exact BK224.out⟩, ⟨by first | exact uB HB | exact uS HB (gC GE196 (gC GE210 (gC GE216 (gC GE224 gN))))⟩⟩
       ·
        rw [if_neg c70] at H
        have c70b0 : decide (t232 < 0) = false := decide_eq_false c70
        clear c70
        (first | rw [c70b0] | (simp only [i64_w, i32_w]; rw [c70b0]) | skip)
        replace H := Option.bind_eq_some_iff.mp H
        obtain ⟨t234, A710, H⟩ := H
        replace H : (if t234 = true then (laws_FnExactBloomOfCounting.j1 kj10 t209 (t223 != t209) a0_0 a0_1 l0_2 t203 t204 t205 t206 t217 t218 t219 t220) else (laws_FnExactBloomOfCounting.j1 kj10 t209 true a0_0 a0_1 l0_2 t203 t204 t205 t206 t217 t218 t219 t220)) = some r := H
        have A71 := Aside0.mk A710
        clear A710
        by_cases c72 : t234 = true
        ·
         subst c72
         have H1 : (laws_FnExactBloomOfCounting.j1 kj10 t209 (t223 != t209) a0_0 a0_1 l0_2 t203 t204 t205 t206 t217 t218 t219 t220) = some r := by rw [if_pos rfl] at H; exact H
         clear H
         have H := H1
         clear H1
         have H' := Aside0.mk H
         clear H
         have hnb73 := NB224_196.out
         have hnc73 := NB196_224.out
         have hnb74 := NB224_210.out
         have hnc74 := NB210_224.out
         have hnb75 := NB224_216.out
         have hnc75 := NB216_224.out
         have hcz76_0 : w69.cell? ⟨gb224, 0, none⟩ = some (.int .i64 t217) := (blk_cell BK224.out 0).trans rfl
         have hcz76_1 : w69.cell? ⟨gb224, 1, none⟩ = some (.int .i64 t218) := (blk_cell BK224.out 1).trans rfl
         have hcz76_2 : w69.cell? ⟨gb224, 2, none⟩ = some (.int .i64 t219) := (blk_cell BK224.out 2).trans rfl
         have hcz76_3 : w69.cell? ⟨gb224, 3, none⟩ = some (.slice Ao36 t220.length co36) := (blk_cell BK224.out 3).trans rfl
         have hfz76_0 := blk_frozen BK224.out 0
         have hfz76_1 := blk_frozen BK224.out 1
         have hfz76_2 := blk_frozen BK224.out 2
         have hfz76_3 := blk_frozen BK224.out 3
         have hnb77 := NB210_196.out
         have hnc77 := NB196_210.out
         have hnb78 := NB210_216.out
         have hnc78 := NB216_210.out
         have hcz79_0 : w69.cell? ⟨gb210, 0, none⟩ = some (.int .i64 t203) := (blk_cell BK210.out 0).trans rfl
         have hcz79_1 : w69.cell? ⟨gb210, 1, none⟩ = some (.int .i64 t204) := (blk_cell BK210.out 1).trans rfl
         have hcz79_2 : w69.cell? ⟨gb210, 2, none⟩ = some (.int .i64 t205) := (blk_cell BK210.out 2).trans rfl
         have hcz79_3 : w69.cell? ⟨gb210, 3, none⟩ = some (.slice Ao22 t206.length co22) := (blk_cell BK210.out 3).trans rfl
         have hfz79_0 := blk_frozen BK210.out 0
         have hfz79_1 := blk_frozen BK210.out 1
         have hfz79_2 := blk_frozen BK210.out 2
         have hfz79_3 := blk_frozen BK210.out 3
         go_wp2_with (first | (go_at_call 20; (with_reducible refine (laws_eqBloom.calls kj10 t217 t218 t219 _ _ t220 t203 t204 t205 _ _ t206 true _ ?side1 ?side2 ?side3 ?side4 A71.out).mono ?_); (case side1 => exact uD HO_225003); (case side2 => exact (Kd.R_reads' HO_225003.out).2.1); (case side3 => exact uD HO_211003); (case side4 => exact (Kd.R_reads' HO_211003.out).2.1); rintro e w80 ⟨rfl, hb⟩; have n0_ := Aside0.mk (Kd.R_below (uR HO_211003) hb); have n1_ := Aside0.mk (Kd.R_below (uR HO_217002) hb); have n2_ := Aside0.mk (Kd.R_below (uR HO_225003) hb); have n3_ := Aside0.mk (Kd.R_below (uR HO230) hb); have n4_ := Aside0.mk (blk_below (g := gb196) (o := .cells #[.int .i64 a0_0, .int .i64 a0_1, .slice A0_2 l0_2.length c0_2] 48 (0, 0)) (uK BK196) hb); have n5_ := Aside0.mk (blk_below (g := gb210) (o := .cells #[.int .i64 t203, .int .i64 t204, .int .i64 t205, .slice Ao22 t206.length co22] 40 (0, 0)) (uK BK210) hb); have n6_ := Aside0.mk (blk_below (g := gb216) (o := .cells #[.int .i64 t211, .int .i64 t212, .slice Ao29 t213.length co29] 51 (0, 0)) (uK BK216) hb); have n7_ := Aside0.mk (blk_below (g := gb224) (o := .cells #[.int .i64 t217, .int .i64 t218, .int .i64 t219, .slice Ao36 t220.length co36] 40 (0, 0)) (uK BK224) hb); have n8_ := Aside0.mk (below_step (by first | exact uB HB | exact uS HB (gC GE196 (gC GE210 (gC GE216 (gC GE224 gN))))) hb); clear HO_211003 HO_217002 HO_225003 HO230 BK196 BK210 BK216 BK224 HB; have HO_211003 := n0_; have HO_217002 := n1_; have HO_225003 := n2_; have HO230 := n3_; have BK196 := n4_; have BK210 := n5_; have BK216 := n6_; have BK224 := n7_; have HB := n8_; clear n0_ n1_ n2_ n3_ n4_ n5_ n6_ n7_ n8_; (try clear hb); (try clear hb2); (try clear hk); (try clear hi)))
         go_meet
         case rel => exact ⟨_, ((t223 != t209)), (by first | rfl | (simp; done) | (simp [*]; done)), H', ⟨by have := HJ10.out; first | omega | exact Nat.le_refl _⟩, ⟨by (with_reducible repeat (first | apply Kd.R_alloc | apply Kd.R_drewN | apply Kd.R_drew)); exact Kd.R_mono HO_211003.out (fun _ hk => ⟨hk.1, hk.2.1⟩)⟩, ⟨by (with_reducible repeat (first | apply Kd.R_alloc | apply Kd.R_drewN | apply Kd.R_drew)); exact Kd.R_mono HO_217002.out (fun _ hk => ⟨hk.1.1, hk.1.2⟩)⟩, ⟨by (with_reducible repeat (first | apply Kd.R_alloc | apply Kd.R_drewN | apply Kd.R_drew)); exact Kd.R_mono HO_225003.out (fun _ hk => ⟨hk.1, hk.2.1⟩)⟩, ⟨by refine uW ?_; exact BK196.out⟩, ⟨by refine uW ?_; exact BK210.out⟩, ⟨by refine uW ?_; exact BK216.out⟩, ⟨by refine uW ?_; exact BK224.out⟩, ⟨by first | exact uB HB | exact uS HB (gC GE196 (gC GE210 (gC GE216 (gC GE224 gN))))⟩⟩
        ·
         replace c72 := Bool.eq_false_iff.mpr c72
         subst c72
         have H1 : (laws_FnExactBloomOfCounting.j1 kj10 t209 true a0_0 a0_1 l0_2 t203 t204 t205 t206 t217 t218 t219 t220) = some r := by rw [if_neg (show ¬ (false = true) by decide)] at H; exact H
         clear H
         have H := H1
         clear H1
         have H' := Aside0.mk H
         clear H
         have hnb81 := NB224_196.out
         have hnc81 := NB196_224.out
         have hnb82 := NB224_210.out
         have hnc82 := NB210_224.out
         have hnb83 := NB224_216.out
         have hnc83 := NB216_224.out
         have hcz84_0 : w69.cell? ⟨gb224, 0, none⟩ = some (.int .i64 t217) := (blk_cell BK224.out 0).trans rfl
         have hcz84_1 : w69.cell? ⟨gb224, 1, none⟩ = some (.int .i64 t218) := (blk_cell BK224.out 1).trans rfl
         have hcz84_2 : w69.cell? ⟨gb224, 2, none⟩ = some (.int .i64 t219) := (blk_cell BK224.out 2).trans rfl
         have hcz84_3 : w69.cell? ⟨gb224, 3, none⟩ = some (.slice Ao36 t220.length co36) := (blk_cell BK224.out 3).trans rfl
         have hfz84_0 := blk_frozen BK224.out 0
         have hfz84_1 := blk_frozen BK224.out 1
         have hfz84_2 := blk_frozen BK224.out 2
         have hfz84_3 := blk_frozen BK224.out 3
         have hnb85 := NB210_196.out
         have hnc85 := NB196_210.out
         have hnb86 := NB210_216.out
         have hnc86 := NB216_210.out
         have hcz87_0 : w69.cell? ⟨gb210, 0, none⟩ = some (.int .i64 t203) := (blk_cell BK210.out 0).trans rfl
         have hcz87_1 : w69.cell? ⟨gb210, 1, none⟩ = some (.int .i64 t204) := (blk_cell BK210.out 1).trans rfl
         have hcz87_2 : w69.cell? ⟨gb210, 2, none⟩ = some (.int .i64 t205) := (blk_cell BK210.out 2).trans rfl
         have hcz87_3 : w69.cell? ⟨gb210, 3, none⟩ = some (.slice Ao22 t206.length co22) := (blk_cell BK210.out 3).trans rfl
         have hfz87_0 := blk_frozen BK210.out 0
         have hfz87_1 := blk_frozen BK210.out 1
         have hfz87_2 := blk_frozen BK210.out 2
         have hfz87_3 := blk_frozen BK210.out 3
         go_wp2_with (first | (go_at_call 20; (with_reducible refine (laws_eqBloom.calls kj10 t217 t218 t219 _ _ t220 t203 t204 t205 _ _ t206 false _ ?side1 ?side2 ?side3 ?side4 A71.out).mono ?_); (case side1 => exact uD HO_225003); (case side2 => exact (Kd.R_reads' HO_225003.out).2.1); (case side3 => exact uD HO_211003); (case side4 => exact (Kd.R_reads' HO_211003.out).2.1); rintro e w88 ⟨rfl, hb⟩; have n0_ := Aside0.mk (Kd.R_below (uR HO_211003) hb); have n1_ := Aside0.mk (Kd.R_below (uR HO_217002) hb); have n2_ := Aside0.mk (Kd.R_below (uR HO_225003) hb); have n3_ := Aside0.mk (Kd.R_below (uR HO230) hb); have n4_ := Aside0.mk (blk_below (g := gb196) (o := .cells #[.int .i64 a0_0, .int .i64 a0_1, .slice A0_2 l0_2.length c0_2] 48 (0, 0)) (uK BK196) hb); have n5_ := Aside0.mk (blk_below (g := gb210) (o := .cells #[.int .i64 t203, .int .i64 t204, .int .i64 t205, .slice Ao22 t206.length co22] 40 (0, 0)) (uK BK210) hb); have n6_ := Aside0.mk (blk_below (g := gb216) (o := .cells #[.int .i64 t211, .int .i64 t212, .slice Ao29 t213.length co29] 51 (0, 0)) (uK BK216) hb); have n7_ := Aside0.mk (blk_below (g := gb224) (o := .cells #[.int .i64 t217, .int .i64 t218, .int .i64 t219, .slice Ao36 t220.length co36] 40 (0, 0)) (uK BK224) hb); have n8_ := Aside0.mk (below_step (by first | exact uB HB | exact uS HB (gC GE196 (gC GE210 (gC GE216 (gC GE224 gN))))) hb); clear HO_211003 HO_217002 HO_225003 HO230 BK196 BK210 BK216 BK224 HB; have HO_211003 := n0_; have HO_217002 := n1_; have HO_225003 := n2_; have HO230 := n3_; have BK196 := n4_; have BK210 := n5_; have BK216 := n6_; have BK224 := n7_; have HB := n8_; clear n0_ n1_ n2_ n3_ n4_ n5_ n6_ n7_ n8_; (try clear hb); (try clear hb2); (try clear hk); (try clear hi)))
         go_meet
         case rel => exact ⟨_, (true), (by first | rfl | (simp; done) | (simp [*]; done)), H', ⟨by have := HJ10.out; first | omega | exact Nat.le_refl _⟩, ⟨by (with_reducible repeat (first | apply Kd.R_alloc | apply Kd.R_drewN | apply Kd.R_drew)); exact Kd.R_mono HO_211003.out (fun _ hk => ⟨hk.1, hk.2.1⟩)⟩, ⟨by (with_reducible repeat (first | apply Kd.R_alloc | apply Kd.R_drewN | apply Kd.R_drew)); exact Kd.R_mono HO_217002.out (fun _ hk => ⟨hk.1.1, hk.1.2⟩)⟩, ⟨by (with_reducible repeat (first | apply Kd.R_alloc | apply Kd.R_drewN | apply Kd.R_drew)); exact Kd.R_mono HO_225003.out (fun _ hk => ⟨hk.1, hk.2.1⟩)⟩, ⟨by refine uW ?_; exact BK196.out⟩, ⟨by refine uW ?_; exact BK210.out⟩, ⟨by refine uW ?_; exact BK216.out⟩, ⟨by refine uW ?_; exact BK224.out⟩, ⟨by first | exact uB HB | exact uS HB (gC GE196 (gC GE210 (gC GE216 (gC GE224 gN))))⟩⟩
      case rest =>
       clear HC60
       try clear c2
       try clear p2
       try clear c3
       try clear c3b0
       try clear c4
       try clear c5
       try clear c6
       try clear c7
       try clear c8
       try clear c20
       try clear c23
       try clear c24
       try clear c25
       try clear c26
       try clear c27
       try clear c28
       try clear c32
       try clear c33
       try clear c34
       try clear c38
       try clear c39
       try clear c40
       try clear c41
       try clear c43
       try clear c44
       try clear c47
       try clear c48
       try clear c49
       try clear c51
       try clear c52
       try clear c55
       try clear c58
       try clear c65
       try clear c66
       try clear c67
       try clear c70
       try clear c70b0
       try clear c72
       try clear c73
       try clear c74
       try clear c75
       try clear c77
       try clear c78
       try clear c81
       try clear c82
       try clear c83
       try clear c85
       try clear c86
       try clear hcz13_0
       try clear hcz13_1
       try clear hcz13_2
       try clear hcz15_0
       try clear hcz15_1
       try clear hcz15_2
       try clear hcz21_0
       try clear hcz21_1
       try clear hcz21_2
       try clear hcz21_3
       try clear hcz23_0
       try clear hcz23_1
       try clear hcz23_2
       try clear hcz28_0
       try clear hcz28_1
       try clear hcz28_2
       try clear hcz35_0
       try clear hcz35_1
       try clear hcz35_2
       try clear hcz35_3
       try clear hcz42_0
       try clear hcz42_1
       try clear hcz42_2
       try clear hcz42_3
       try clear hcz45_0
       try clear hcz45_1
       try clear hcz45_2
       try clear hcz45_3
       try clear hcz50_0
       try clear hcz50_1
       try clear hcz50_2
       try clear hcz50_3
       try clear hcz53_0
       try clear hcz53_1
       try clear hcz53_2
       try clear hcz53_3
       try clear hcz5_0
       try clear hcz5_1
       try clear hcz5_2
       try clear hcz68_0
       try clear hcz68_1
       try clear hcz68_2
       try clear hcz76_0
       try clear hcz76_1
       try clear hcz76_2
       try clear hcz76_3
       try clear hcz79_0
       try clear hcz79_1
       try clear hcz79_2
       try clear hcz79_3
       try clear hcz84_0
       try clear hcz84_1
       try clear hcz84_2
       try clear hcz84_3
       try clear hcz87_0
       try clear hcz87_1
       try clear hcz87_2
       try clear hcz87_3
       try clear hfz13_0
       try clear hfz13_1
       try clear hfz13_2
       try clear hfz15_0
       try clear hfz15_1
       try clear hfz15_2
       try clear hfz21_0
       try clear hfz21_1
       try clear hfz21_2
       try clear hfz21_3
       try clear hfz23_0
       try clear hfz23_1
       try clear hfz23_2
       try clear hfz28_0
       try clear hfz28_1
       try clear hfz28_2
       try clear hfz35_0
       try clear hfz35_1
       try clear hfz35_2
       try clear hfz35_3
       try clear hfz42_0
       try clear hfz42_1
       try clear hfz42_2
       try clear hfz42_3
       try clear hfz45_0
       try clear hfz45_1
       try clear hfz45_2
       try clear hfz45_3
       try clear hfz50_0
       try clear hfz50_1
       try clear hfz50_2
       try clear hfz50_3
       try clear hfz53_0
       try clear hfz53_1
       try clear hfz53_2
       try clear hfz53_3
       try clear hfz5_0
       try clear hfz5_1
       try clear hfz5_2
       try clear hfz68_0
       try clear hfz68_1
       try clear hfz68_2
       try clear hfz76_0
       try clear hfz76_1
       try clear hfz76_2
       try clear hfz76_3
       try clear hfz79_0
       try clear hfz79_1
       try clear hfz79_2
       try clear hfz79_3
       try clear hfz84_0
       try clear hfz84_1
       try clear hfz84_2
       try clear hfz84_3
       try clear hfz87_0
       try clear hfz87_1
       try clear hfz87_2
       try clear hfz87_3
       try clear p2
       obtain ⟨kq, x61_59, rfl, HA, HJ59, HO_211003, HO_217002, HO_225003, BK196, BK210, BK216, BK224, HB⟩ := hcut
       have hl217002_59 := (Kd.R_reads' HO_217002.out).1
       rw [hl217002_59] at HO_217002
       (try simp only [hl217002_59])
       (try simp only [hl217002_59] at BK196)
       (try simp only [hl217002_59] at BK210)
       (try simp only [hl217002_59] at BK216)
       (try simp only [hl217002_59] at BK224)
       (try simp only [hl217002_59] at HO_211003)
       (try simp only [hl217002_59] at HO_225003)
       cases kq with
       | zero => exact absurd HA.out (by simp [laws_FnExactBloomOfCounting.j1])
       | succ kj59 =>
        have H := HA.out
        clear HA
        simp only [laws_FnExactBloomOfCounting.j1] at H
        by_cases c89 : x61_59 = true
        ·
         subst c89
         have H1 : (some false) = some r := by rw [if_pos rfl] at H; exact H
         clear H
         have H := H1
         clear H1
         obtain rfl := Option.some.inj H
         go_wp2
         go_ret
         exact ⟨by first | rfl | (simp [errW_none, errW_some] <;> rfl) | (simp [*, errW_none, errW_some] <;> rfl), by first | exact uB HB | exact uS HB (gC GE196 (gC GE210 (gC GE216 (gC GE224 gN))))⟩
        ·
         replace c89 := Bool.eq_false_iff.mpr c89
         subst c89
         have H1 : ((laws_markBloom.f kj59 t217 t218 t219 t220 1).bind fun bt235 => ((laws_heldBloom.f kj59 t217 t218 t219 bt235.2 1).bind fun t237 => (if t237 < 0 then (some false) else (if t237 = bt235.1 then ((laws_toCounting.f kj59 a0_0 a0_1 l0_2).bind fun bt238 => ((impl_BloomOfCounting.f kj59 bt238.1 bt238.2.1 bt238.2.2).bind fun bt243 => ((laws_eqBloom.f kj59 bt243.1 bt243.2.1 bt243.2.2.1 bt243.2.2.2.1 t203 t204 t205 t206).bind fun t251 => (if t251 = true then (laws_FnExactBloomOfCounting.j2 kj59 bt235.1 (bt243.2.2.2.2 != t209) t217 t218 t219 bt235.2) else (laws_FnExactBloomOfCounting.j2 kj59 bt235.1 true t217 t218 t219 bt235.2))))) else (some false))))) = some r := by rw [if_neg (show ¬ (false = true) by decide)] at H; exact H
         clear H
         have H := H1
         clear H1
         replace H := Option.bind_eq_some_iff.mp H
         obtain ⟨⟨t235, t236⟩, A900, H⟩ := H
         replace H : ((laws_heldBloom.f kj59 t217 t218 t219 t236 1).bind fun t237 => (if t237 < 0 then (some false) else (if t237 = t235 then ((laws_toCounting.f kj59 a0_0 a0_1 l0_2).bind fun bt238 => ((impl_BloomOfCounting.f kj59 bt238.1 bt238.2.1 bt238.2.2).bind fun bt243 => ((laws_eqBloom.f kj59 bt243.1 bt243.2.1 bt243.2.2.1 bt243.2.2.2.1 t203 t204 t205 t206).bind fun t251 => (if t251 = true then (laws_FnExactBloomOfCounting.j2 kj59 t235 (bt243.2.2.2.2 != t209) t217 t218 t219 t236) else (laws_FnExactBloomOfCounting.j2 kj59 t235 true t217 t218 t219 t236))))) else (some false)))) = some r := H
         have A90 := Aside0.mk A900
         clear A900
         replace H := Option.bind_eq_some_iff.mp H
         obtain ⟨t237, A910, H⟩ := H
         replace H : (if t237 < 0 then (some false) else (if t237 = t235 then ((laws_toCounting.f kj59 a0_0 a0_1 l0_2).bind fun bt238 => ((impl_BloomOfCounting.f kj59 bt238.1 bt238.2.1 bt238.2.2).bind fun bt243 => ((laws_eqBloom.f kj59 bt243.1 bt243.2.1 bt243.2.2.1 bt243.2.2.2.1 t203 t204 t205 t206).bind fun t251 => (if t251 = true then (laws_FnExactBloomOfCounting.j2 kj59 t235 (bt243.2.2.2.2 != t209) t217 t218 t219 t236) else (laws_FnExactBloomOfCounting.j2 kj59 t235 true t217 t218 t219 t236))))) else (some false))) = some r := H
         have A91 := Aside0.mk A910
         clear A910
         by_cases c92 : t237 < 0
         ·
          rw [if_pos c92] at H
          have c92b0 : decide (t237 < 0) = true := decide_eq_true c92
          clear c92
          obtain rfl := Option.some.inj H
          have hnb93 := NB224_196.out
          have hnc93 := NB196_224.out
          have hnb94 := NB224_210.out
          have hnc94 := NB210_224.out
          have hnb95 := NB224_216.out
          have hnc95 := NB216_224.out
          have hcz96_0 : wc.cell? ⟨gb224, 0, none⟩ = some (.int .i64 t217) := (blk_cell BK224.out 0).trans rfl
          have hcz96_1 : wc.cell? ⟨gb224, 1, none⟩ = some (.int .i64 t218) := (blk_cell BK224.out 1).trans rfl
          have hcz96_2 : wc.cell? ⟨gb224, 2, none⟩ = some (.int .i64 t219) := (blk_cell BK224.out 2).trans rfl
          have hcz96_3 : wc.cell? ⟨gb224, 3, none⟩ = some (.slice Ao36 t220.length co36) := (blk_cell BK224.out 3).trans rfl
          have hfz96_0 := blk_frozen BK224.out 0
          have hfz96_1 := blk_frozen BK224.out 1
          have hfz96_2 := blk_frozen BK224.out 2
          have hfz96_3 := blk_frozen BK224.out 3
          go_wp2_with (first | ((with_reducible refine gate_callee (f := 21) rfl ?_); refine goesL_ (some 64) rfl rfl Try.func21 (by kernel_rfl) rfl #[.agg #[.int .i64 t217, .int .i64 t218, .int .i64 t219, .slice Ao36 t220.length co36], .int .i64 1] rfl (by (try simp only [List.map_toArray, List.map_cons, List.map_nil]); first | done | rfl | (simp only [List.length_drop, List.length_take]; rfl)) ?_; (with_reducible refine (laws_markBloom.calls kj59 t217 t218 t219 (fun k_ => some k_ = (.slice Ao36 t220.length co36 : Value).ownBlock) (.slice Ao36 t220.length co36) t220 1 t235 t236 w _ ?side1 ?side2 A90.out).mono ?_); (case side1 => first | exact uB HB | exact uS HB (gC GE196 (gC GE210 (gC GE216 (gC GE224 gN))))); (case side2 => exact Kd.R_tight rfl HO_225003.out); rintro e w97 ⟨rfl, hy0, hb, hkp⟩; refine ⟨_, rfl, ?_⟩; have n0_ := Aside0.mk (Kd.R_mono (ok' := fun k_ => some k_ ≠ (.slice Ao29 t233.length co29 : Value).ownBlock ∧ some k_ ≠ (.slice Ao36 t220.length co36 : Value).ownBlock) (Kd.R_keptB (HO_211003.out) hkp (fun k_ hk_ hs_ => (hk_.2) hs_)) (fun k_ hk_ => ⟨hk_.1.1, hk_.1.2⟩)); have n1_ := Aside0.mk (Kd.R_mono (ok' := fun k_ => some k_ ≠ (.slice Ao22 t206.length co22 : Value).ownBlock ∧ some k_ ≠ (.slice Ao36 t220.length co36 : Value).ownBlock) (Kd.R_keptB (HO_217002.out) hkp (fun k_ hk_ hs_ => (hk_.2) hs_)) (fun k_ hk_ => ⟨hk_.1.1, hk_.1.2⟩)); have n2_ := Aside0.mk (Kd.R_reok rfl hy0 (fun k_ e_ => HO_225003.out.1 k_ e_)); have n3_ := Aside0.mk (blk_kept (uK BK196) hkp (fun hs_ => (fun e_ => (Kd.R_ne HO_225003.out BK196.out (by decide)) e_) hs_)); have n4_ := Aside0.mk (blk_kept (uK BK210) hkp (fun hs_ => (fun e_ => (Kd.R_ne HO_225003.out BK210.out (by decide)) e_) hs_)); have n5_ := Aside0.mk (blk_kept (uK BK216) hkp (fun hs_ => (fun e_ => (Kd.R_ne HO_225003.out BK216.out (by decide)) e_) hs_)); have n6_ := Aside0.mk (blk_kept (uK BK224) hkp (fun hs_ => (fun e_ => (Kd.R_ne HO_225003.out BK224.out (by decide)) e_) hs_)); have n7_ := Aside0.mk (hb); clear HO_211003 HO_217002 HO_225003 BK196 BK210 BK216 BK224 HB; have HO_211003 := n0_; have HO_217002 := n1_; have HO_225003 := n2_; have BK196 := n3_; have BK210 := n4_; have BK216 := n5_; have BK224 := n6_; have HB := n7_; clear n0_ n1_ n2_ n3_ n4_ n5_ n6_ n7_; (try clear hb); (try clear hkp); (try clear hy0); have hcz98_0 : w97.cell? ⟨gb224, 0, none⟩ = some (.int .i64 t217) := (blk_cell BK224.out 0).trans rfl; have hcz98_1 : w97.cell? ⟨gb224, 1, none⟩ = some (.int .i64 t218) := (blk_cell BK224.out 1).trans rfl; have hcz98_2 : w97.cell? ⟨gb224, 2, none⟩ = some (.int .i64 t219) := (blk_cell BK224.out 2).trans rfl; have hcz98_3 : w97.cell? ⟨gb224, 3, none⟩ = some (.slice Ao36 t220.length co36) := (blk_cell BK224.out 3).trans rfl; have hfz98_0 := blk_frozen BK224.out 0; have hfz98_1 := blk_frozen BK224.out 1; have hfz98_2 := blk_frozen BK224.out 2; have hfz98_3 := blk_frozen BK224.out 3) | ((with_reducible refine gate_callee (f := 22) rfl ?_); refine goesL_ (some 67) rfl rfl Try.func22 (by kernel_rfl) rfl #[.agg #[.int .i64 t217, .int .i64 t218, .int .i64 t219, .slice Ao36 t236.length co36], .int .i64 1] rfl (by (try simp only [List.map_toArray, List.map_cons, List.map_nil]); first | done | (rw [show t236.length = t220.length from (Kd.R_reads' HO_225003.out).1.symm] <;> rfl) | rfl | (simp only [List.length_drop, List.length_take]; rfl)) ?_; (with_reducible refine (laws_heldBloom.calls kj59 t217 t218 t219 _ _ t236 1 t237 _ ?side1 ?side2 A91.out).mono ?_); (case side1 => exact uD HO_225003); (case side2 => rw [show t236.length = t220.length from (Kd.R_reads' HO_225003.out).1.symm]; exact (Kd.R_reads' HO_225003.out).2.1); rintro e w99 ⟨rfl, hb⟩; refine ⟨_, rfl, ?_⟩; have n0_ := Aside0.mk (Kd.R_below (uR HO_211003) hb); have n1_ := Aside0.mk (Kd.R_below (uR HO_217002) hb); have n2_ := Aside0.mk (Kd.R_below (uR HO_225003) hb); have n3_ := Aside0.mk (blk_below (g := gb196) (o := .cells #[.int .i64 a0_0, .int .i64 a0_1, .slice A0_2 l0_2.length c0_2] 48 (0, 0)) (uK BK196) hb); have n4_ := Aside0.mk (blk_below (g := gb210) (o := .cells #[.int .i64 t203, .int .i64 t204, .int .i64 t205, .slice Ao22 t206.length co22] 40 (0, 0)) (uK BK210) hb); have n5_ := Aside0.mk (blk_below (g := gb216) (o := .cells #[.int .i64 t211, .int .i64 t212, .slice Ao29 t233.length co29] 51 (0, 0)) (uK BK216) hb); have n6_ := Aside0.mk (blk_below (g := gb224) (o := .cells #[.int .i64 t217, .int .i64 t218, .int .i64 t219, .slice Ao36 t220.length co36] 40 (0, 0)) (uK BK224) hb); have n7_ := Aside0.mk (below_step (by first | exact uB HB | exact uS HB (gC GE196 (gC GE210 (gC GE216 (gC GE224 gN))))) hb); clear HO_211003 HO_217002 HO_225003 BK196 BK210 BK216 BK224 HB; have HO_211003 := n0_; have HO_217002 := n1_; have HO_225003 := n2_; have BK196 := n3_; have BK210 := n4_; have BK216 := n5_; have BK224 := n6_; have HB := n7_; clear n0_ n1_ n2_ n3_ n4_ n5_ n6_ n7_; (try clear hb); (try clear hb2); (try clear hk); (try clear hi)))
          go_ret
          exact ⟨by first | rfl | (simp [errW_none, errW_some] <;> rfl) | (simp [*, errW_none, errW_some] <;> rfl), by first | exact uB HB | exact uS HB (gC GE196 (gC GE210 (gC GE216 (gC GE224 gN))))⟩
         ·
          rw [if_neg c92] at H
          have c92b0 : decide (t237 < 0) = false := decide_eq_false c92
          clear c92
          by_cases c100 : t237 = t235
          ·
           rw [if_pos c100] at H
           have c100b0 : (t237 == t235) = true := beq_iff_eq.mpr c100
           have c100b1 : (t237 != t235) = false := bne_eq_false_iff_eq.mpr c100
           clear c100
           replace H := Option.bind_eq_some_iff.mp H
           obtain ⟨⟨t238, t239, t240⟩, A1010, H⟩ := H
           replace H : ((impl_BloomOfCounting.f kj59 t238 t239 t240).bind fun bt243 => ((laws_eqBloom.f kj59 bt243.1 bt243.2.1 bt243.2.2.1 bt243.2.2.2.1 t203 t204 t205 t206).bind fun t251 => (if t251 = true then (laws_FnExactBloomOfCounting.j2 kj59 t235 (bt243.2.2.2.2 != t209) t217 t218 t219 t236) else (laws_FnExactBloomOfCounting.j2 kj59 t235 true t217 t218 t219 t236)))) = some r := H
           have A101 := Aside0.mk A1010
           clear A1010
           replace H := Option.bind_eq_some_iff.mp H
           obtain ⟨⟨t243, t244, t245, t246, t249⟩, A1020, H⟩ := H
           replace H : ((laws_eqBloom.f kj59 t243 t244 t245 t246 t203 t204 t205 t206).bind fun t251 => (if t251 = true then (laws_FnExactBloomOfCounting.j2 kj59 t235 (t249 != t209) t217 t218 t219 t236) else (laws_FnExactBloomOfCounting.j2 kj59 t235 true t217 t218 t219 t236))) = some r := H
           have A102 := Aside0.mk A1020
           clear A1020
           have HC103 := Aside0.mk H
           clear H
           have hnb104 := NB224_196.out
           have hnc104 := NB196_224.out
           have hnb105 := NB224_210.out
           have hnc105 := NB210_224.out
           have hnb106 := NB224_216.out
           have hnc106 := NB216_224.out
           have hcz107_0 : wc.cell? ⟨gb224, 0, none⟩ = some (.int .i64 t217) := (blk_cell BK224.out 0).trans rfl
           have hcz107_1 : wc.cell? ⟨gb224, 1, none⟩ = some (.int .i64 t218) := (blk_cell BK224.out 1).trans rfl
           have hcz107_2 : wc.cell? ⟨gb224, 2, none⟩ = some (.int .i64 t219) := (blk_cell BK224.out 2).trans rfl
           have hcz107_3 : wc.cell? ⟨gb224, 3, none⟩ = some (.slice Ao36 t220.length co36) := (blk_cell BK224.out 3).trans rfl
           have hfz107_0 := blk_frozen BK224.out 0
           have hfz107_1 := blk_frozen BK224.out 1
           have hfz107_2 := blk_frozen BK224.out 2
           have hfz107_3 := blk_frozen BK224.out 3
           go_upto_region 25 with (first | ((with_reducible refine gate_callee (f := 21) rfl ?_); refine goesL_ (some 64) rfl rfl Try.func21 (by kernel_rfl) rfl #[.agg #[.int .i64 t217, .int .i64 t218, .int .i64 t219, .slice Ao36 t220.length co36], .int .i64 1] rfl (by (try simp only [List.map_toArray, List.map_cons, List.map_nil]); first | done | rfl | (simp only [List.length_drop, List.length_take]; rfl)) ?_; (with_reducible refine (laws_markBloom.calls kj59 t217 t218 t219 (fun k_ => some k_ = (.slice Ao36 t220.length co36 : Value).ownBlock) (.slice Ao36 t220.length co36) t220 1 t235 t236 w _ ?side1 ?side2 A90.out).mono ?_); (case side1 => first | exact uB HB | exact uS HB (gC GE196 (gC GE210 (gC GE216 (gC GE224 gN))))); (case side2 => exact Kd.R_tight rfl HO_225003.out); rintro e w108 ⟨rfl, hy0, hb, hkp⟩; refine ⟨_, rfl, ?_⟩; have n0_ := Aside0.mk (Kd.R_mono (ok' := fun k_ => some k_ ≠ (.slice Ao29 t233.length co29 : Value).ownBlock ∧ some k_ ≠ (.slice Ao36 t220.length co36 : Value).ownBlock) (Kd.R_keptB (HO_211003.out) hkp (fun k_ hk_ hs_ => (hk_.2) hs_)) (fun k_ hk_ => ⟨hk_.1.1, hk_.1.2⟩)); have n1_ := Aside0.mk (Kd.R_mono (ok' := fun k_ => some k_ ≠ (.slice Ao22 t206.length co22 : Value).ownBlock ∧ some k_ ≠ (.slice Ao36 t220.length co36 : Value).ownBlock) (Kd.R_keptB (HO_217002.out) hkp (fun k_ hk_ hs_ => (hk_.2) hs_)) (fun k_ hk_ => ⟨hk_.1.1, hk_.1.2⟩)); have n2_ := Aside0.mk (Kd.R_reok rfl hy0 (fun k_ e_ => HO_225003.out.1 k_ e_)); have n3_ := Aside0.mk (blk_kept (uK BK196) hkp (fun hs_ => (fun e_ => (Kd.R_ne HO_225003.out BK196.out (by decide)) e_) hs_)); have n4_ := Aside0.mk (blk_kept (uK BK210) hkp (fun hs_ => (fun e_ => (Kd.R_ne HO_225003.out BK210.out (by decide)) e_) hs_)); have n5_ := Aside0.mk (blk_kept (uK BK216) hkp (fun hs_ => (fun e_ => (Kd.R_ne HO_225003.out BK216.out (by decide)) e_) hs_)); have n6_ := Aside0.mk (blk_kept (uK BK224) hkp (fun hs_ => (fun e_ => (Kd.R_ne HO_225003.out BK224.out (by decide)) e_) hs_)); have n7_ := Aside0.mk (hb); clear HO_211003 HO_217002 HO_225003 BK196 BK210 BK216 BK224 HB; have HO_211003 := n0_; have HO_217002 := n1_; have HO_225003 := n2_; have BK196 := n3_; have BK210 := n4_; have BK216 := n5_; have BK224 := n6_; have HB := n7_; clear n0_ n1_ n2_ n3_ n4_ n5_ n6_ n7_; (try clear hb); (try clear hkp); (try clear hy0); have hcz109_0 : w108.cell? ⟨gb224, 0, none⟩ = some (.int .i64 t217) := (blk_cell BK224.out 0).trans rfl; have hcz109_1 : w108.cell? ⟨gb224, 1, none⟩ = some (.int .i64 t218) := (blk_cell BK224.out 1).trans rfl; have hcz109_2 : w108.cell? ⟨gb224, 2, none⟩ = some (.int .i64 t219) := (blk_cell BK224.out 2).trans rfl; have hcz109_3 : w108.cell? ⟨gb224, 3, none⟩ = some (.slice Ao36 t220.length co36) := (blk_cell BK224.out 3).trans rfl; have hfz109_0 := blk_frozen BK224.out 0; have hfz109_1 := blk_frozen BK224.out 1; have hfz109_2 := blk_frozen BK224.out 2; have hfz109_3 := blk_frozen BK224.out 3) | ((with_reducible refine gate_callee (f := 22) rfl ?_); refine goesL_ (some 67) rfl rfl Try.func22 (by kernel_rfl) rfl #[.agg #[.int .i64 t217, .int .i64 t218, .int .i64 t219, .slice Ao36 t236.length co36], .int .i64 1] rfl (by (try simp only [List.map_toArray, List.map_cons, List.map_nil]); first | done | (rw [show t236.length = t220.length from (Kd.R_reads' HO_225003.out).1.symm] <;> rfl) | rfl | (simp only [List.length_drop, List.length_take]; rfl)) ?_; (with_reducible refine (laws_heldBloom.calls kj59 t217 t218 t219 _ _ t236 1 t237 _ ?side1 ?side2 A91.out).mono ?_); (case side1 => exact uD HO_225003); (case side2 => rw [show t236.length = t220.length from (Kd.R_reads' HO_225003.out).1.symm]; exact (Kd.R_reads' HO_225003.out).2.1); rintro e w110 ⟨rfl, hb⟩; refine ⟨_, rfl, ?_⟩; have n0_ := Aside0.mk (Kd.R_below (uR HO_211003) hb); have n1_ := Aside0.mk (Kd.R_below (uR HO_217002) hb); have n2_ := Aside0.mk (Kd.R_below (uR HO_225003) hb); have n3_ := Aside0.mk (blk_below (g := gb196) (o := .cells #[.int .i64 a0_0, .int .i64 a0_1, .slice A0_2 l0_2.length c0_2] 48 (0, 0)) (uK BK196) hb); have n4_ := Aside0.mk (blk_below (g := gb210) (o := .cells #[.int .i64 t203, .int .i64 t204, .int .i64 t205, .slice Ao22 t206.length co22] 40 (0, 0)) (uK BK210) hb); have n5_ := Aside0.mk (blk_below (g := gb216) (o := .cells #[.int .i64 t211, .int .i64 t212, .slice Ao29 t233.length co29] 51 (0, 0)) (uK BK216) hb); have n6_ := Aside0.mk (blk_below (g := gb224) (o := .cells #[.int .i64 t217, .int .i64 t218, .int .i64 t219, .slice Ao36 t220.length co36] 40 (0, 0)) (uK BK224) hb); have n7_ := Aside0.mk (below_step (by first | exact uB HB | exact uS HB (gC GE196 (gC GE210 (gC GE216 (gC GE224 gN))))) hb); clear HO_211003 HO_217002 HO_225003 BK196 BK210 BK216 BK224 HB; have HO_211003 := n0_; have HO_217002 := n1_; have HO_225003 := n2_; have BK196 := n3_; have BK210 := n4_; have BK216 := n5_; have BK224 := n6_; have HB := n7_; clear n0_ n1_ n2_ n3_ n4_ n5_ n6_ n7_; (try clear hb); (try clear hb2); (try clear hk); (try clear hi); have hnb111 := NB196_210.out; have hnc111 := NB210_196.out; have hnb112 := NB196_216.out; have hnc112 := NB216_196.out; have hcz113_0 : w110.cell? ⟨gb196, 0, none⟩ = some (.int .i64 a0_0) := (blk_cell BK196.out 0).trans rfl; have hcz113_1 : w110.cell? ⟨gb196, 1, none⟩ = some (.int .i64 a0_1) := (blk_cell BK196.out 1).trans rfl; have hcz113_2 : w110.cell? ⟨gb196, 2, none⟩ = some (.slice A0_2 l0_2.length c0_2) := (blk_cell BK196.out 2).trans rfl; have hfz113_0 := blk_frozen BK196.out 0; have hfz113_1 := blk_frozen BK196.out 1; have hfz113_2 := blk_frozen BK196.out 2) | ((with_reducible refine gate_callee (f := 25) rfl ?_); refine goesL_ (some 75) rfl rfl Try.func25 (by kernel_rfl) rfl #[.agg #[.int .i64 a0_0, .int .i64 a0_1, .slice A0_2 l0_2.length c0_2]] rfl (by (try simp only [List.map_toArray, List.map_cons, List.map_nil]); first | done | rfl | (simp only [List.length_drop, List.length_take]; rfl)) ?_; (with_reducible refine (laws_toCounting.calls kj59 a0_0 a0_1 _ _ l0_2 t238 t239 t240 _ ?side1 ?side2 A101.out).mono ?_); (case side1 => exact uC HR0_2 HB); (case side2 => exact HC0_2.out); rintro e w114 ⟨v241, rfl, ho0, hb⟩; refine ⟨_, rfl, ?_⟩; have n0_ := Aside0.mk (Kd.R_elder' (uR HO_211003) (Kd.R_base ho0) hb); have n1_ := Aside0.mk (Kd.R_elder' (uR HO_217002) (Kd.R_base ho0) hb); have n2_ := Aside0.mk (Kd.R_elder' (uR HO_225003) (Kd.R_base ho0) hb); have n3_ := Aside0.mk (Kd.R_lower (Kd.R_new' (Kd.R_new' (Kd.R_new' ho0 (Kd.R_lt (uR HO_211003))) (Kd.R_lt (uR HO_217002))) (Kd.R_lt (uR HO_225003))) (below_size (by first | exact uB HB | exact uS HB (gC GE196 (gC GE210 (gC GE216 (gC GE224 gN))))))); have n4_ := Aside0.mk (blk_below (g := gb196) (o := .cells #[.int .i64 a0_0, .int .i64 a0_1, .slice A0_2 l0_2.length c0_2] 48 (0, 0)) (uK BK196) hb); have n5_ := Aside0.mk (blk_below (g := gb210) (o := .cells #[.int .i64 t203, .int .i64 t204, .int .i64 t205, .slice Ao22 t206.length co22] 40 (0, 0)) (uK BK210) hb); have n6_ := Aside0.mk (blk_below (g := gb216) (o := .cells #[.int .i64 t211, .int .i64 t212, .slice Ao29 t233.length co29] 51 (0, 0)) (uK BK216) hb); have n7_ := Aside0.mk (blk_below (g := gb224) (o := .cells #[.int .i64 t217, .int .i64 t218, .int .i64 t219, .slice Ao36 t220.length co36] 40 (0, 0)) (uK BK224) hb); have n8_ := Aside0.mk (below_step (by first | exact uB HB | exact uS HB (gC GE196 (gC GE210 (gC GE216 (gC GE224 gN))))) hb); clear HO_211003 HO_217002 HO_225003 BK196 BK210 BK216 BK224 HB; have HO_211003 := n0_; have HO_217002 := n1_; have HO_225003 := n2_; have HO242 := n3_; have BK196 := n4_; have BK210 := n5_; have BK216 := n6_; have BK224 := n7_; have HB := n8_; clear n0_ n1_ n2_ n3_ n4_ n5_ n6_ n7_ n8_; (try clear hb); (try clear hb2); (try clear hk); (try clear hi); (try clear ho0); obtain ⟨Ao115, co115, eo115⟩ := Kd.R_slice HO242.out; subst eo115) | ((with_reducible refine gate_callee (f := 26) rfl ?_); refine goesL_ (some 76) rfl rfl Try.func26 (by kernel_rfl) rfl #[.agg #[.int .i64 t238, .int .i64 t239, .slice Ao115 t240.length co115]] rfl (by (try simp only [List.map_toArray, List.map_cons, List.map_nil]); first | done | rfl | (simp only [List.length_drop, List.length_take]; rfl)) ?_; (with_reducible refine (impl_BloomOfCounting.calls kj59 t238 t239 _ _ t240 t243 t244 t245 t246 t249 _ ?side1 ?side2 A102.out).mono ?_); (case side1 => exact uD HO242); (case side2 => exact (Kd.R_reads' HO242.out).2.1); rintro e w116 ⟨v247, rfl, ho0, hb⟩; refine ⟨_, rfl, ?_⟩; have n0_ := Aside0.mk (Kd.R_elder' (uR HO_211003) (Kd.R_base ho0) hb); have n1_ := Aside0.mk (Kd.R_elder' (uR HO_217002) (Kd.R_base ho0) hb); have n2_ := Aside0.mk (Kd.R_elder' (uR HO_225003) (Kd.R_base ho0) hb); have n3_ := Aside0.mk (Kd.R_elder' (uR HO242) (Kd.R_base ho0) hb); have n4_ := Aside0.mk (Kd.R_lower (Kd.R_new' (Kd.R_new' (Kd.R_new' (Kd.R_new' ho0 (Kd.R_lt (uR HO_211003))) (Kd.R_lt (uR HO_217002))) (Kd.R_lt (uR HO_225003))) (Kd.R_lt (uR HO242))) (below_size (by first | exact uB HB | exact uS HB (gC GE196 (gC GE210 (gC GE216 (gC GE224 gN))))))); have n5_ := Aside0.mk (blk_below (g := gb196) (o := .cells #[.int .i64 a0_0, .int .i64 a0_1, .slice A0_2 l0_2.length c0_2] 48 (0, 0)) (uK BK196) hb); have n6_ := Aside0.mk (blk_below (g := gb210) (o := .cells #[.int .i64 t203, .int .i64 t204, .int .i64 t205, .slice Ao22 t206.length co22] 40 (0, 0)) (uK BK210) hb); have n7_ := Aside0.mk (blk_below (g := gb216) (o := .cells #[.int .i64 t211, .int .i64 t212, .slice Ao29 t233.length co29] 51 (0, 0)) (uK BK216) hb); have n8_ := Aside0.mk (blk_below (g := gb224) (o := .cells #[.int .i64 t217, .int .i64 t218, .int .i64 t219, .slice Ao36 t220.length co36] 40 (0, 0)) (uK BK224) hb); have n9_ := Aside0.mk (below_step (by first | exact uB HB | exact uS HB (gC GE196 (gC GE210 (gC GE216 (gC GE224 gN))))) hb); clear HO_211003 HO_217002 HO_225003 HO242 BK196 BK210 BK216 BK224 HB; have HO_211003 := n0_; have HO_217002 := n1_; have HO_225003 := n2_; have HO242 := n3_; have HO248 := n4_; have BK196 := n5_; have BK210 := n6_; have BK216 := n7_; have BK224 := n8_; have HB := n9_; clear n0_ n1_ n2_ n3_ n4_ n5_ n6_ n7_ n8_ n9_; (try clear hb); (try clear hb2); (try clear hk); (try clear hi); (try clear ho0)) | ((with_reducible refine gate_dst (N := 12) rfl ?_); refine box_event ?hg (N := 12) ?hd (cs := #[.int .i64 0, .int .i64 0, .int .i64 0, .slice none 0 0]) (t := 40) ?hr ?_; (case hd => rfl); (case hg => rfl); (case hr => first | (go_simp; done) | (go_simp; rfl)); intro gb250 hg w117 hbox hb; have n0_ := Aside0.mk (Kd.R_below (uR HO_211003) hb); have n1_ := Aside0.mk (Kd.R_below (uR HO_217002) hb); have n2_ := Aside0.mk (Kd.R_below (uR HO_225003) hb); have n3_ := Aside0.mk (Kd.R_below (uR HO242) hb); have n4_ := Aside0.mk (Kd.R_below (uR HO248) hb); have n5_ := Aside0.mk (blk_below (g := gb196) (o := .cells #[.int .i64 a0_0, .int .i64 a0_1, .slice A0_2 l0_2.length c0_2] 48 (0, 0)) (uK BK196) hb); have n6_ := Aside0.mk (blk_below (g := gb210) (o := .cells #[.int .i64 t203, .int .i64 t204, .int .i64 t205, .slice Ao22 t206.length co22] 40 (0, 0)) (uK BK210) hb); have n7_ := Aside0.mk (blk_below (g := gb216) (o := .cells #[.int .i64 t211, .int .i64 t212, .slice Ao29 t233.length co29] 51 (0, 0)) (uK BK216) hb); have n8_ := Aside0.mk (blk_below (g := gb224) (o := .cells #[.int .i64 t217, .int .i64 t218, .int .i64 t219, .slice Ao36 t220.length co36] 40 (0, 0)) (uK BK224) hb); have n9_ := Aside0.mk (below_step (by first | exact uB HB | exact uS HB (gC GE196 (gC GE210 (gC GE216 (gC GE224 gN))))) hb); have n10_ := Aside0.mk (hbox); have n11_ := Aside0.mk ((by rw [hg]; exact (below_size (by first | exact uB HB | exact uS HB (gC GE196 (gC GE210 (gC GE216 (gC GE224 gN)))))) : w.heap.size ≤ gb250)); have n12_ := Aside0.mk ((by rw [hg]; exact (below_size (by first | exact uB HB | exact uS HB (gC GE196 (gC GE210 (gC GE216 (gC GE224 gN)))))) : w.heap.size ≤ gb250)); have n13_ := Aside0.mk ((by rw [hg]; exact Nat.ne_of_lt (blk_lt (g := gb196) (o := .cells #[.int .i64 a0_0, .int .i64 a0_1, .slice A0_2 l0_2.length c0_2] 48 (0, 0)) (uK BK196)) : gb196 ≠ gb250)); have n14_ := Aside0.mk ((by rw [hg]; exact Nat.ne_of_gt (blk_lt (g := gb196) (o := .cells #[.int .i64 a0_0, .int .i64 a0_1, .slice A0_2 l0_2.length c0_2] 48 (0, 0)) (uK BK196)) : gb250 ≠ gb196)); have n15_ := Aside0.mk ((by rw [hg]; exact Nat.ne_of_lt (blk_lt (g := gb210) (o := .cells #[.int .i64 t203, .int .i64 t204, .int .i64 t205, .slice Ao22 t206.length co22] 40 (0, 0)) (uK BK210)) : gb210 ≠ gb250)); have n16_ := Aside0.mk ((by rw [hg]; exact Nat.ne_of_gt (blk_lt (g := gb210) (o := .cells #[.int .i64 t203, .int .i64 t204, .int .i64 t205, .slice Ao22 t206.length co22] 40 (0, 0)) (uK BK210)) : gb250 ≠ gb210)); have n17_ := Aside0.mk ((by rw [hg]; exact Nat.ne_of_lt (blk_lt (g := gb216) (o := .cells #[.int .i64 t211, .int .i64 t212, .slice Ao29 t233.length co29] 51 (0, 0)) (uK BK216)) : gb216 ≠ gb250)); have n18_ := Aside0.mk ((by rw [hg]; exact Nat.ne_of_gt (blk_lt (g := gb216) (o := .cells #[.int .i64 t211, .int .i64 t212, .slice Ao29 t233.length co29] 51 (0, 0)) (uK BK216)) : gb250 ≠ gb216)); have n19_ := Aside0.mk ((by rw [hg]; exact Nat.ne_of_lt (blk_lt (g := gb224) (o := .cells #[.int .i64 t217, .int .i64 t218, .int .i64 t219, .slice Ao36 t220.length co36] 40 (0, 0)) (uK BK224)) : gb224 ≠ gb250)); have n20_ := Aside0.mk ((by rw [hg]; exact Nat.ne_of_gt (blk_lt (g := gb224) (o := .cells #[.int .i64 t217, .int .i64 t218, .int .i64 t219, .slice Ao36 t220.length co36] 40 (0, 0)) (uK BK224)) : gb250 ≠ gb224)); clear HO_211003 HO_217002 HO_225003 HO242 HO248 BK196 BK210 BK216 BK224 HB; have HO_211003 := n0_; have HO_217002 := n1_; have HO_225003 := n2_; have HO242 := n3_; have HO248 := n4_; have BK196 := n5_; have BK210 := n6_; have BK216 := n7_; have BK224 := n8_; have HB := n9_; have BK250 := n10_; have GW250 := n11_; have GE250 := n12_; have NB196_250 := n13_; have NB250_196 := n14_; have NB210_250 := n15_; have NB250_210 := n16_; have NB216_250 := n17_; have NB250_216 := n18_; have NB224_250 := n19_; have NB250_224 := n20_; clear n0_ n1_ n2_ n3_ n4_ n5_ n6_ n7_ n8_ n9_ n10_ n11_ n12_ n13_ n14_ n15_ n16_ n17_ n18_ n19_ n20_ hb hbox hg; have hnb118 := NB250_196.out; have hnc118 := NB196_250.out; have hnb119 := NB250_210.out; have hnc119 := NB210_250.out; have hnb120 := NB250_216.out; have hnc120 := NB216_250.out; have hnb121 := NB250_224.out; have hnc121 := NB224_250.out; have hcz122_0 : w117.cell? ⟨gb250, 0, none⟩ = some (.int .i64 0) := (blk_cell BK250.out 0).trans rfl; have hcz122_1 : w117.cell? ⟨gb250, 1, none⟩ = some (.int .i64 0) := (blk_cell BK250.out 1).trans rfl; have hcz122_2 : w117.cell? ⟨gb250, 2, none⟩ = some (.int .i64 0) := (blk_cell BK250.out 2).trans rfl; have hcz122_3 : w117.cell? ⟨gb250, 3, none⟩ = some (.slice none 0 0) := (blk_cell BK250.out 3).trans rfl; have hfz122_0 := blk_frozen BK250.out 0; have hfz122_1 := blk_frozen BK250.out 1; have hfz122_2 := blk_frozen BK250.out 2; have hfz122_3 := blk_frozen BK250.out 3; obtain ⟨Ao123, co123, eo123⟩ := Kd.R_slice HO248.out; subst eo123))
           (try simp only [Act.put, List.setIfInBounds_toArray, List.set_cons_zero, List.set_cons_succ])
           go_cut [87] (fun v87 wc => ∃ (kq : Nat) (x87_102 : Bool), v87 = .bool x87_102 ∧ Aside0 (laws_FnExactBloomOfCounting.j2 kq t235 x87_102 t217 t218 t219 t236 = some r) ∧ Aside0 (kq ≤ kj59) ∧ Aside0 (Kd.R (Kd.int .i64) 3 wc w.heap.size (fun k_ => some k_ ≠ ((.slice Ao29 t233.length co29) : Value).ownBlock ∧ some k_ ≠ ((.slice Ao36 t220.length co36) : Value).ownBlock ∧ some k_ ≠ ((.slice Ao123 t246.length co123) : Value).ownBlock) (.slice Ao22 t206.length co22) t206) ∧ Aside0 (Kd.R (Kd.int .i64) 3 wc w.heap.size (fun k_ => some k_ ≠ ((.slice Ao22 t206.length co22) : Value).ownBlock ∧ some k_ ≠ ((.slice Ao36 t220.length co36) : Value).ownBlock ∧ some k_ ≠ ((.slice Ao123 t246.length co123) : Value).ownBlock) (.slice Ao29 t233.length co29) t233) ∧ Aside0 (Kd.R (Kd.int .i64) 3 wc w.heap.size (fun k_ => some k_ ≠ ((.slice Ao22 t206.length co22) : Value).ownBlock ∧ some k_ ≠ ((.slice Ao29 t233.length co29) : Value).ownBlock ∧ some k_ ≠ ((.slice Ao123 t246.length co123) : Value).ownBlock) (.slice Ao36 t220.length co36) t236) ∧ Aside0 (Kd.R (Kd.int .i64) 3 wc w.heap.size (fun k_ => some k_ ≠ ((.slice Ao22 t206.length co22) : Value).ownBlock ∧ some k_ ≠ ((.slice Ao29 t233.length co29) : Value).ownBlock ∧ some k_ ≠ ((.slice Ao36 t220.length co36) : Value).ownBlock) (.slice Ao123 t246.length co123) t246) ∧ Aside0 (wc.heap[gb196]? = some (.cells #[.int .i64 a0_0, .int .i64 a0_1, (.slice A0_2 l0_2.length c0_2)] 48 (0, 0))) ∧ Aside0 (wc.heap[gb210]? = some (.cells #[.int .i64 t203, .int .i64 t204, .int .i64 t205, (.slice Ao22 t206.length co22)] 40 (0, 0))) ∧ Aside0 (wc.heap[gb216]? = some (.cells #[.int .i64 t211, .int .i64 t212, (.slice Ao29 t233.length co29)] 51 (0, 0))) ∧ Aside0 (wc.heap[gb224]? = some (.cells #[.int .i64 t217, .int .i64 t218, .int .i64 t219, (.slice Ao36 t220.length co36)] 40 (0, 0))) ∧ Aside0 (wc.heap[gb250]? = some (.cells #[.int .i64 t243, .int .i64 t244, .int .i64 t245, (.slice Ao123 t246.length co123)] 40 (0, 0))) ∧ Aside0 (Below w.heap.size w wc))
           case first =>
            have H := HC103.out
            clear HC103
            replace H := Option.bind_eq_some_iff.mp H
            obtain ⟨t251, A1240, H⟩ := H
            replace H : (if t251 = true then (laws_FnExactBloomOfCounting.j2 kj59 t235 (t249 != t209) t217 t218 t219 t236) else (laws_FnExactBloomOfCounting.j2 kj59 t235 true t217 t218 t219 t236)) = some r := H
            have A124 := Aside0.mk A1240
            clear A1240
            by_cases c125 : t251 = true
            ·
             subst c125
             have H1 : (laws_FnExactBloomOfCounting.j2 kj59 t235 (t249 != t209) t217 t218 t219 t236) = some r := by rw [if_pos rfl] at H; exact H
             clear H
             have H := H1
             clear H1
             have H' := Aside0.mk H
             clear H
             have hnb126 := NB250_196.out
             have hnc126 := NB196_250.out
             have hnb127 := NB250_210.out
             have hnc127 := NB210_250.out
             have hnb128 := NB250_216.out
             have hnc128 := NB216_250.out
             have hnb129 := NB250_224.out
             have hnc129 := NB224_250.out
             have hcz130_0 : w117.cell? ⟨gb250, 0, none⟩ = some (.int .i64 0) := (blk_cell BK250.out 0).trans rfl
             have hcz130_1 : w117.cell? ⟨gb250, 1, none⟩ = some (.int .i64 0) := (blk_cell BK250.out 1).trans rfl
             have hcz130_2 : w117.cell? ⟨gb250, 2, none⟩ = some (.int .i64 0) := (blk_cell BK250.out 2).trans rfl
             have hcz130_3 : w117.cell? ⟨gb250, 3, none⟩ = some (.slice none 0 0) := (blk_cell BK250.out 3).trans rfl
             have hfz130_0 := blk_frozen BK250.out 0
             have hfz130_1 := blk_frozen BK250.out 1
             have hfz130_2 := blk_frozen BK250.out 2
             have hfz130_3 := blk_frozen BK250.out 3
             have hnb131 := NB210_196.out
             have hnc131 := NB196_210.out
             have hnb132 := NB210_216.out
             have hnc132 := NB216_210.out
             have hnb133 := NB210_224.out
             have hnc133 := NB224_210.out
             have hcz134_0 : w117.cell? ⟨gb210, 0, none⟩ = some (.int .i64 t203) := (blk_cell BK210.out 0).trans rfl
             have hcz134_1 : w117.cell? ⟨gb210, 1, none⟩ = some (.int .i64 t204) := (blk_cell BK210.out 1).trans rfl
             have hcz134_2 : w117.cell? ⟨gb210, 2, none⟩ = some (.int .i64 t205) := (blk_cell BK210.out 2).trans rfl
             have hcz134_3 : w117.cell? ⟨gb210, 3, none⟩ = some (.slice Ao22 t206.length co22) := (blk_cell BK210.out 3).trans rfl
             have hfz134_0 := blk_frozen BK210.out 0
             have hfz134_1 := blk_frozen BK210.out 1
             have hfz134_2 := blk_frozen BK210.out 2
             have hfz134_3 := blk_frozen BK210.out 3
             go_wp2_with (first | ((with_reducible refine gate_callee (f := 20) rfl ?_); refine goesL_ (some 81) rfl rfl Try.func20 (by kernel_rfl) rfl #[.agg #[.int .i64 t243, .int .i64 t244, .int .i64 t245, .slice Ao123 t246.length co123], .agg #[.int .i64 t203, .int .i64 t204, .int .i64 t205, .slice Ao22 t206.length co22]] rfl (by (try simp only [List.map_toArray, List.map_cons, List.map_nil]); first | done | rfl | (simp only [List.length_drop, List.length_take]; rfl)) ?_; (with_reducible refine (laws_eqBloom.calls kj59 t243 t244 t245 _ _ t246 t203 t204 t205 _ _ t206 true _ ?side1 ?side2 ?side3 ?side4 A124.out).mono ?_); (case side1 => refine (Kd.R_reads' (e := 3) (base := w.heap.size) (ok := fun k_ => ((((True ∧ some k_ ≠ (.slice Ao22 t206.length co22 : Value).ownBlock) ∧ some k_ ≠ (.slice Ao29 t233.length co29 : Value).ownBlock) ∧ some k_ ≠ (.slice Ao36 t220.length co36 : Value).ownBlock) ∧ some k_ ≠ (.slice Ao115 t240.length co115 : Value).ownBlock)) (n := t246.length) (c := co123) ?_).2.2; exact (by (with_reducible repeat (first | apply Kd.R_alloc | apply Kd.R_drewN | apply Kd.R_drew)); exact (Kd.R_mono (Kd.R_far (p := ⟨gb250, 3, none⟩) (Kd.R_far (p := ⟨gb250, 2, none⟩) (Kd.R_far (p := ⟨gb250, 1, none⟩) (Kd.R_far (p := ⟨gb250, 0, none⟩) (Kd.R_types HO248.out BK250.out (by decide)) (fun _ hk => hk.2) (.int .i64 t243)) (fun _ hk => hk.2) (.int .i64 t244)) (fun _ hk => hk.2) (.int .i64 t245)) (fun _ hk => hk.2) (.slice Ao123 t246.length co123)) (fun _ h_ => h_.1)))); (case side2 => exact (Kd.R_reads' HO248.out).2.1); (case side3 => refine (Kd.R_reads' (e := 3) (base := w.heap.size) (ok := fun k_ => (((some k_ ≠ (.slice Ao29 t233.length co29 : Value).ownBlock ∧ some k_ ≠ (.slice Ao36 t220.length co36 : Value).ownBlock) ∧ some k_ ≠ (.slice Ao115 t240.length co115 : Value).ownBlock) ∧ some k_ ≠ (.slice Ao123 t246.length co123 : Value).ownBlock)) (n := t206.length) (c := co22) ?_).2.2; exact (by (with_reducible repeat (first | apply Kd.R_alloc | apply Kd.R_drewN | apply Kd.R_drew)); exact (Kd.R_mono (Kd.R_far (p := ⟨gb250, 3, none⟩) (Kd.R_far (p := ⟨gb250, 2, none⟩) (Kd.R_far (p := ⟨gb250, 1, none⟩) (Kd.R_far (p := ⟨gb250, 0, none⟩) (Kd.R_types HO_211003.out BK250.out (by decide)) (fun _ hk => hk.2) (.int .i64 t243)) (fun _ hk => hk.2) (.int .i64 t244)) (fun _ hk => hk.2) (.int .i64 t245)) (fun _ hk => hk.2) (.slice Ao123 t246.length co123)) (fun _ h_ => h_.1)))); (case side4 => exact (Kd.R_reads' HO_211003.out).2.1); rintro e w135 ⟨rfl, hb⟩; refine ⟨_, rfl, ?_⟩; have n0_ := Aside0.mk (Kd.R_below (by (with_reducible repeat (first | apply Kd.R_alloc | apply Kd.R_drewN | apply Kd.R_drew)); exact (Kd.R_mono (Kd.R_far (p := ⟨gb250, 3, none⟩) (Kd.R_far (p := ⟨gb250, 2, none⟩) (Kd.R_far (p := ⟨gb250, 1, none⟩) (Kd.R_far (p := ⟨gb250, 0, none⟩) (Kd.R_types HO_211003.out BK250.out (by decide)) (fun _ hk => hk.2) (.int .i64 t243)) (fun _ hk => hk.2) (.int .i64 t244)) (fun _ hk => hk.2) (.int .i64 t245)) (fun _ hk => hk.2) (.slice Ao123 t246.length co123)) (fun _ h_ => h_.1))) hb); have n1_ := Aside0.mk (Kd.R_below (by (with_reducible repeat (first | apply Kd.R_alloc | apply Kd.R_drewN | apply Kd.R_drew)); exact (Kd.R_mono (Kd.R_far (p := ⟨gb250, 3, none⟩) (Kd.R_far (p := ⟨gb250, 2, none⟩) (Kd.R_far (p := ⟨gb250, 1, none⟩) (Kd.R_far (p := ⟨gb250, 0, none⟩) (Kd.R_types HO_217002.out BK250.out (by decide)) (fun _ hk => hk.2) (.int .i64 t243)) (fun _ hk => hk.2) (.int .i64 t244)) (fun _ hk => hk.2) (.int .i64 t245)) (fun _ hk => hk.2) (.slice Ao123 t246.length co123)) (fun _ h_ => h_.1))) hb); have n2_ := Aside0.mk (Kd.R_below (by (with_reducible repeat (first | apply Kd.R_alloc | apply Kd.R_drewN | apply Kd.R_drew)); exact (Kd.R_mono (Kd.R_far (p := ⟨gb250, 3, none⟩) (Kd.R_far (p := ⟨gb250, 2, none⟩) (Kd.R_far (p := ⟨gb250, 1, none⟩) (Kd.R_far (p := ⟨gb250, 0, none⟩) (Kd.R_types HO_225003.out BK250.out (by decide)) (fun _ hk => hk.2) (.int .i64 t243)) (fun _ hk => hk.2) (.int .i64 t244)) (fun _ hk => hk.2) (.int .i64 t245)) (fun _ hk => hk.2) (.slice Ao123 t246.length co123)) (fun _ h_ => h_.1))) hb); have n3_ := Aside0.mk (Kd.R_below (by (with_reducible repeat (first | apply Kd.R_alloc | apply Kd.R_drewN | apply Kd.R_drew)); exact (Kd.R_mono (Kd.R_far (p := ⟨gb250, 3, none⟩) (Kd.R_far (p := ⟨gb250, 2, none⟩) (Kd.R_far (p := ⟨gb250, 1, none⟩) (Kd.R_far (p := ⟨gb250, 0, none⟩) (Kd.R_types HO242.out BK250.out (by decide)) (fun _ hk => hk.2) (.int .i64 t243)) (fun _ hk => hk.2) (.int .i64 t244)) (fun _ hk => hk.2) (.int .i64 t245)) (fun _ hk => hk.2) (.slice Ao123 t246.length co123)) (fun _ h_ => h_.1))) hb); have n4_ := Aside0.mk (Kd.R_below (by (with_reducible repeat (first | apply Kd.R_alloc | apply Kd.R_drewN | apply Kd.R_drew)); exact (Kd.R_mono (Kd.R_far (p := ⟨gb250, 3, none⟩) (Kd.R_far (p := ⟨gb250, 2, none⟩) (Kd.R_far (p := ⟨gb250, 1, none⟩) (Kd.R_far (p := ⟨gb250, 0, none⟩) (Kd.R_types HO248.out BK250.out (by decide)) (fun _ hk => hk.2) (.int .i64 t243)) (fun _ hk => hk.2) (.int .i64 t244)) (fun _ hk => hk.2) (.int .i64 t245)) (fun _ hk => hk.2) (.slice Ao123 t246.length co123)) (fun _ h_ => h_.1))) hb); have n5_ := Aside0.mk (blk_below (g := gb196) (o := .cells #[.int .i64 a0_0, .int .i64 a0_1, .slice A0_2 l0_2.length c0_2] 48 (0, 0)) (by refine uW ?_; refine blk_far ?_ NB196_250.out _; refine uW ?_; refine blk_far ?_ NB196_250.out _; refine uW ?_; refine blk_far ?_ NB196_250.out _; refine uW ?_; refine blk_far ?_ NB196_250.out _; refine uW ?_; exact BK196.out) hb); have n6_ := Aside0.mk (blk_below (g := gb210) (o := .cells #[.int .i64 t203, .int .i64 t204, .int .i64 t205, .slice Ao22 t206.length co22] 40 (0, 0)) (by refine uW ?_; refine blk_far ?_ NB210_250.out _; refine uW ?_; refine blk_far ?_ NB210_250.out _; refine uW ?_; refine blk_far ?_ NB210_250.out _; refine uW ?_; refine blk_far ?_ NB210_250.out _; refine uW ?_; exact BK210.out) hb); have n7_ := Aside0.mk (blk_below (g := gb216) (o := .cells #[.int .i64 t211, .int .i64 t212, .slice Ao29 t233.length co29] 51 (0, 0)) (by refine uW ?_; refine blk_far ?_ NB216_250.out _; refine uW ?_; refine blk_far ?_ NB216_250.out _; refine uW ?_; refine blk_far ?_ NB216_250.out _; refine uW ?_; refine blk_far ?_ NB216_250.out _; refine uW ?_; exact BK216.out) hb); have n8_ := Aside0.mk (blk_below (g := gb224) (o := .cells #[.int .i64 t217, .int .i64 t218, .int .i64 t219, .slice Ao36 t220.length co36] 40 (0, 0)) (by refine uW ?_; refine blk_far ?_ NB224_250.out _; refine uW ?_; refine blk_far ?_ NB224_250.out _; refine uW ?_; refine blk_far ?_ NB224_250.out _; refine uW ?_; refine blk_far ?_ NB224_250.out _; refine uW ?_; exact BK224.out) hb); have n9_ := Aside0.mk (blk_below (g := gb250) (o := .cells #[.int .i64 t243, .int .i64 t244, .int .i64 t245, .slice Ao123 t246.length co123] 40 (0, 0)) (by refine uW ?_; refine blk_put (cs := #[.int .i64 t243, .int .i64 t244, .int .i64 t245, .slice none 0 0]) ?_ 3 _ rfl; refine uW ?_; refine blk_put (cs := #[.int .i64 t243, .int .i64 t244, .int .i64 0, .slice none 0 0]) ?_ 2 _ rfl; refine uW ?_; refine blk_put (cs := #[.int .i64 t243, .int .i64 0, .int .i64 0, .slice none 0 0]) ?_ 1 _ rfl; refine uW ?_; refine blk_put (cs := #[.int .i64 0, .int .i64 0, .int .i64 0, .slice none 0 0]) ?_ 0 _ rfl; refine uW ?_; exact BK250.out) hb); have n10_ := Aside0.mk (below_step (by first | exact uB HB | exact uS HB (gC GE196 (gC GE210 (gC GE216 (gC GE224 (gC GE250 gN)))))) hb); clear HO_211003 HO_217002 HO_225003 HO242 HO248 BK196 BK210 BK216 BK224 BK250 HB; have HO_211003 := n0_; have HO_217002 := n1_; have HO_225003 := n2_; have HO242 := n3_; have HO248 := n4_; have BK196 := n5_; have BK210 := n6_; have BK216 := n7_; have BK224 := n8_; have BK250 := n9_; have HB := n10_; clear n0_ n1_ n2_ n3_ n4_ n5_ n6_ n7_ n8_ n9_ n10_; (try clear hb); (try clear hb2); (try clear hk); (try clear hi)))
             go_meet
             case rel => exact ⟨_, ((t249 != t209)), (by first | rfl | (simp; done) | (simp [*]; done)), H', ⟨by have := HJ10.out; have := HJ59.out; first | omega | exact Nat.le_refl _⟩, ⟨by (try simp only [hl217002_59]); (with_reducible repeat (first | apply Kd.R_alloc | apply Kd.R_drewN | apply Kd.R_drew)); exact Kd.R_mono HO_211003.out (fun _ hk => ⟨hk.1.1.1, ⟨hk.1.1.2, hk.2⟩⟩)⟩, ⟨by (try simp only [hl217002_59]); (with_reducible repeat (first | apply Kd.R_alloc | apply Kd.R_drewN | apply Kd.R_drew)); exact Kd.R_mono HO_217002.out (fun _ hk => ⟨hk.1.1.1, ⟨hk.1.1.2, hk.2⟩⟩)⟩, ⟨by (try simp only [hl217002_59]); (with_reducible repeat (first | apply Kd.R_alloc | apply Kd.R_drewN | apply Kd.R_drew)); exact Kd.R_mono HO_225003.out (fun _ hk => ⟨hk.1.1.1, ⟨hk.1.1.2, hk.2⟩⟩)⟩, ⟨by (try simp only [hl217002_59]); (with_reducible repeat (first | apply Kd.R_alloc | apply Kd.R_drewN | apply Kd.R_drew)); exact Kd.R_mono HO248.out (fun _ hk => ⟨hk.1.1.1.2, ⟨hk.1.1.2, hk.1.2⟩⟩)⟩, ⟨by (try simp only [hl217002_59]); refine uW ?_; exact BK196.out⟩, ⟨by (try simp only [hl217002_59]); refine uW ?_; exact BK210.out⟩, ⟨by (try simp only [hl217002_59]); refine uW ?_; exact BK216.out⟩, ⟨by (try simp only [hl217002_59]); refine uW ?_; exact BK224.out⟩, ⟨by (try simp only [hl217002_59]); refine uW ?_; exact BK250.out⟩, ⟨by first | exact uB HB | exact uS HB (gC GE196 (gC GE210 (gC GE216 (gC GE224 (gC GE250 gN)))))⟩⟩
            ·
             replace c125 := Bool.eq_false_iff.mpr c125
             subst c125
             have H1 : (laws_FnExactBloomOfCounting.j2 kj59 t235 true t217 t218 t219 t236) = some r := by rw [if_neg (show ¬ (false = true) by decide)] at H; exact H
             clear H
             have H := H1
             clear H1
             have H' := Aside0.mk H
             clear H
             have hnb136 := NB250_196.out
             have hnc136 := NB196_250.out
             have hnb137 := NB250_210.out
             have hnc137 := NB210_250.out
             have hnb138 := NB250_216.out
             have hnc138 := NB216_250.out
             have hnb139 := NB250_224.out
             have hnc139 := NB224_250.out
             have hcz140_0 : w117.cell? ⟨gb250, 0, none⟩ = some (.int .i64 0) := (blk_cell BK250.out 0).trans rfl
             have hcz140_1 : w117.cell? ⟨gb250, 1, none⟩ = some (.int .i64 0) := (blk_cell BK250.out 1).trans rfl
             have hcz140_2 : w117.cell? ⟨gb250, 2, none⟩ = some (.int .i64 0) := (blk_cell BK250.out 2).trans rfl
             have hcz140_3 : w117.cell? ⟨gb250, 3, none⟩ = some (.slice none 0 0) := (blk_cell BK250.out 3).trans rfl
             have hfz140_0 := blk_frozen BK250.out 0
             have hfz140_1 := blk_frozen BK250.out 1
             have hfz140_2 := blk_frozen BK250.out 2
             have hfz140_3 := blk_frozen BK250.out 3
             have hnb141 := NB210_196.out
             have hnc141 := NB196_210.out
             have hnb142 := NB210_216.out
             have hnc142 := NB216_210.out
             have hnb143 := NB210_224.out
             have hnc143 := NB224_210.out
             have hcz144_0 : w117.cell? ⟨gb210, 0, none⟩ = some (.int .i64 t203) := (blk_cell BK210.out 0).trans rfl
             have hcz144_1 : w117.cell? ⟨gb210, 1, none⟩ = some (.int .i64 t204) := (blk_cell BK210.out 1).trans rfl
             have hcz144_2 : w117.cell? ⟨gb210, 2, none⟩ = some (.int .i64 t205) := (blk_cell BK210.out 2).trans rfl
             have hcz144_3 : w117.cell? ⟨gb210, 3, none⟩ = some (.slice Ao22 t206.length co22) := (blk_cell BK210.out 3).trans rfl
             have hfz144_0 := blk_frozen BK210.out 0
             have hfz144_1 := blk_frozen BK210.out 1
             have hfz144_2 := blk_frozen BK210.out 2
             have hfz144_3 := blk_frozen BK210.out 3
             go_wp2_with (first | ((with_reducible refine gate_callee (f := 20) rfl ?_); refine goesL_ (some 81) rfl rfl Try.func20 (by kernel_rfl) rfl #[.agg #[.int .i64 t243, .int .i64 t244, .int .i64 t245, .slice Ao123 t246.length co123], .agg #[.int .i64 t203, .int .i64 t204, .int .i64 t205, .slice Ao22 t206.length co22]] rfl (by (try simp only [List.map_toArray, List.map_cons, List.map_nil]); first | done | rfl | (simp only [List.length_drop, List.length_take]; rfl)) ?_; (with_reducible refine (laws_eqBloom.calls kj59 t243 t244 t245 _ _ t246 t203 t204 t205 _ _ t206 false _ ?side1 ?side2 ?side3 ?side4 A124.out).mono ?_); (case side1 => refine (Kd.R_reads' (e := 3) (base := w.heap.size) (ok := fun k_ => ((((True ∧ some k_ ≠ (.slice Ao22 t206.length co22 : Value).ownBlock) ∧ some k_ ≠ (.slice Ao29 t233.length co29 : Value).ownBlock) ∧ some k_ ≠ (.slice Ao36 t220.length co36 : Value).ownBlock) ∧ some k_ ≠ (.slice Ao115 t240.length co115 : Value).ownBlock)) (n := t246.length) (c := co123) ?_).2.2; exact (by (with_reducible repeat (first | apply Kd.R_alloc | apply Kd.R_drewN | apply Kd.R_drew)); exact (Kd.R_mono (Kd.R_far (p := ⟨gb250, 3, none⟩) (Kd.R_far (p := ⟨gb250, 2, none⟩) (Kd.R_far (p := ⟨gb250, 1, none⟩) (Kd.R_far (p := ⟨gb250, 0, none⟩) (Kd.R_types HO248.out BK250.out (by decide)) (fun _ hk => hk.2) (.int .i64 t243)) (fun _ hk => hk.2) (.int .i64 t244)) (fun _ hk => hk.2) (.int .i64 t245)) (fun _ hk => hk.2) (.slice Ao123 t246.length co123)) (fun _ h_ => h_.1)))); (case side2 => exact (Kd.R_reads' HO248.out).2.1); (case side3 => refine (Kd.R_reads' (e := 3) (base := w.heap.size) (ok := fun k_ => (((some k_ ≠ (.slice Ao29 t233.length co29 : Value).ownBlock ∧ some k_ ≠ (.slice Ao36 t220.length co36 : Value).ownBlock) ∧ some k_ ≠ (.slice Ao115 t240.length co115 : Value).ownBlock) ∧ some k_ ≠ (.slice Ao123 t246.length co123 : Value).ownBlock)) (n := t206.length) (c := co22) ?_).2.2; exact (by (with_reducible repeat (first | apply Kd.R_alloc | apply Kd.R_drewN | apply Kd.R_drew)); exact (Kd.R_mono (Kd.R_far (p := ⟨gb250, 3, none⟩) (Kd.R_far (p := ⟨gb250, 2, none⟩) (Kd.R_far (p := ⟨gb250, 1, none⟩) (Kd.R_far (p := ⟨gb250, 0, none⟩) (Kd.R_types HO_211003.out BK250.out (by decide)) (fun _ hk => hk.2) (.int .i64 t243)) (fun _ hk => hk.2) (.int .i64 t244)) (fun _ hk => hk.2) (.int .i64 t245)) (fun _ hk => hk.2) (.slice Ao123 t246.length co123)) (fun _ h_ => h_.1)))); (case side4 => exact (Kd.R_reads' HO_211003.out).2.1); rintro e w145 ⟨rfl, hb⟩; refine ⟨_, rfl, ?_⟩; have n0_ := Aside0.mk (Kd.R_below (by (with_reducible repeat (first | apply Kd.R_alloc | apply Kd.R_drewN | apply Kd.R_drew)); exact (Kd.R_mono (Kd.R_far (p := ⟨gb250, 3, none⟩) (Kd.R_far (p := ⟨gb250, 2, none⟩) (Kd.R_far (p := ⟨gb250, 1, none⟩) (Kd.R_far (p := ⟨gb250, 0, none⟩) (Kd.R_types HO_211003.out BK250.out (by decide)) (fun _ hk => hk.2) (.int .i64 t243)) (fun _ hk => hk.2) (.int .i64 t244)) (fun _ hk => hk.2) (.int .i64 t245)) (fun _ hk => hk.2) (.slice Ao123 t246.length co123)) (fun _ h_ => h_.1))) hb); have n1_ := Aside0.mk (Kd.R_below (by (with_reducible repeat (first | apply Kd.R_alloc | apply Kd.R_drewN | apply Kd.R_drew)); exact (Kd.R_mono (Kd.R_far (p := ⟨gb250, 3, none⟩) (Kd.R_far (p := ⟨gb250, 2, none⟩) (Kd.R_far (p := ⟨gb250, 1, none⟩) (Kd.R_far (p := ⟨gb250, 0, none⟩) (Kd.R_types HO_217002.out BK250.out (by decide)) (fun _ hk => hk.2) (.int .i64 t243)) (fun _ hk => hk.2) (.int .i64 t244)) (fun _ hk => hk.2) (.int .i64 t245)) (fun _ hk => hk.2) (.slice Ao123 t246.length co123)) (fun _ h_ => h_.1))) hb); have n2_ := Aside0.mk (Kd.R_below (by (with_reducible repeat (first | apply Kd.R_alloc | apply Kd.R_drewN | apply Kd.R_drew)); exact (Kd.R_mono (Kd.R_far (p := ⟨gb250, 3, none⟩) (Kd.R_far (p := ⟨gb250, 2, none⟩) (Kd.R_far (p := ⟨gb250, 1, none⟩) (Kd.R_far (p := ⟨gb250, 0, none⟩) (Kd.R_types HO_225003.out BK250.out (by decide)) (fun _ hk => hk.2) (.int .i64 t243)) (fun _ hk => hk.2) (.int .i64 t244)) (fun _ hk => hk.2) (.int .i64 t245)) (fun _ hk => hk.2) (.slice Ao123 t246.length co123)) (fun _ h_ => h_.1))) hb); have n3_ := Aside0.mk (Kd.R_below (by (with_reducible repeat (first | apply Kd.R_alloc | apply Kd.R_drewN | apply Kd.R_drew)); exact (Kd.R_mono (Kd.R_far (p := ⟨gb250, 3, none⟩) (Kd.R_far (p := ⟨gb250, 2, none⟩) (Kd.R_far (p := ⟨gb250, 1, none⟩) (Kd.R_far (p := ⟨gb250, 0, none⟩) (Kd.R_types HO242.out BK250.out (by decide)) (fun _ hk => hk.2) (.int .i64 t243)) (fun _ hk => hk.2) (.int .i64 t244)) (fun _ hk => hk.2) (.int .i64 t245)) (fun _ hk => hk.2) (.slice Ao123 t246.length co123)) (fun _ h_ => h_.1))) hb); have n4_ := Aside0.mk (Kd.R_below (by (with_reducible repeat (first | apply Kd.R_alloc | apply Kd.R_drewN | apply Kd.R_drew)); exact (Kd.R_mono (Kd.R_far (p := ⟨gb250, 3, none⟩) (Kd.R_far (p := ⟨gb250, 2, none⟩) (Kd.R_far (p := ⟨gb250, 1, none⟩) (Kd.R_far (p := ⟨gb250, 0, none⟩) (Kd.R_types HO248.out BK250.out (by decide)) (fun _ hk => hk.2) (.int .i64 t243)) (fun _ hk => hk.2) (.int .i64 t244)) (fun _ hk => hk.2) (.int .i64 t245)) (fun _ hk => hk.2) (.slice Ao123 t246.length co123)) (fun _ h_ => h_.1))) hb); have n5_ := Aside0.mk (blk_below (g := gb196) (o := .cells #[.int .i64 a0_0, .int .i64 a0_1, .slice A0_2 l0_2.length c0_2] 48 (0, 0)) (by refine uW ?_; refine blk_far ?_ NB196_250.out _; refine uW ?_; refine blk_far ?_ NB196_250.out _; refine uW ?_; refine blk_far ?_ NB196_250.out _; refine uW ?_; refine blk_far ?_ NB196_250.out _; refine uW ?_; exact BK196.out) hb); have n6_ := Aside0.mk (blk_below (g := gb210) (o := .cells #[.int .i64 t203, .int .i64 t204, .int .i64 t205, .slice Ao22 t206.length co22] 40 (0, 0)) (by refine uW ?_; refine blk_far ?_ NB210_250.out _; refine uW ?_; refine blk_far ?_ NB210_250.out _; refine uW ?_; refine blk_far ?_ NB210_250.out _; refine uW ?_; refine blk_far ?_ NB210_250.out _; refine uW ?_; exact BK210.out) hb); have n7_ := Aside0.mk (blk_below (g := gb216) (o := .cells #[.int .i64 t211, .int .i64 t212, .slice Ao29 t233.length co29] 51 (0, 0)) (by refine uW ?_; refine blk_far ?_ NB216_250.out _; refine uW ?_; refine blk_far ?_ NB216_250.out _; refine uW ?_; refine blk_far ?_ NB216_250.out _; refine uW ?_; refine blk_far ?_ NB216_250.out _; refine uW ?_; exact BK216.out) hb); have n8_ := Aside0.mk (blk_below (g := gb224) (o := .cells #[.int .i64 t217, .int .i64 t218, .int .i64 t219, .slice Ao36 t220.length co36] 40 (0, 0)) (by refine uW ?_; refine blk_far ?_ NB224_250.out _; refine uW ?_; refine blk_far ?_ NB224_250.out _; refine uW ?_; refine blk_far ?_ NB224_250.out _; refine uW ?_; refine blk_far ?_ NB224_250.out _; refine uW ?_; exact BK224.out) hb); have n9_ := Aside0.mk (blk_below (g := gb250) (o := .cells #[.int .i64 t243, .int .i64 t244, .int .i64 t245, .slice Ao123 t246.length co123] 40 (0, 0)) (by refine uW ?_; refine blk_put (cs := #[.int .i64 t243, .int .i64 t244, .int .i64 t245, .slice none 0 0]) ?_ 3 _ rfl; refine uW ?_; refine blk_put (cs := #[.int .i64 t243, .int .i64 t244, .int .i64 0, .slice none 0 0]) ?_ 2 _ rfl; refine uW ?_; refine blk_put (cs := #[.int .i64 t243, .int .i64 0, .int .i64 0, .slice none 0 0]) ?_ 1 _ rfl; refine uW ?_; refine blk_put (cs := #[.int .i64 0, .int .i64 0, .int .i64 0, .slice none 0 0]) ?_ 0 _ rfl; refine uW ?_; exact BK250.out) hb); have n10_ := Aside0.mk (below_step (by first | exact uB HB | exact uS HB (gC GE196 (gC GE210 (gC GE216 (gC GE224 (gC GE250 gN)))))) hb); clear HO_211003 HO_217002 HO_225003 HO242 HO248 BK196 BK210 BK216 BK224 BK250 HB; have HO_211003 := n0_; have HO_217002 := n1_; have HO_225003 := n2_; have HO242 := n3_; have HO248 := n4_; have BK196 := n5_; have BK210 := n6_; have BK216 := n7_; have BK224 := n8_; have BK250 := n9_; have HB := n10_; clear n0_ n1_ n2_ n3_ n4_ n5_ n6_ n7_ n8_ n9_ n10_; (try clear hb); (try clear hb2); (try clear hk); (try clear hi)))
             go_meet
             case rel => exact ⟨_, (true), (by first | rfl | (simp; done) | (simp [*]; done)), H', ⟨by have := HJ10.out; have := HJ59.out; first | omega | exact Nat.le_refl _⟩, ⟨by (try simp only [hl217002_59]); (with_reducible repeat (first | apply Kd.R_alloc | apply Kd.R_drewN | apply Kd.R_drew)); exact Kd.R_mono HO_211003.out (fun _ hk => ⟨hk.1.1.1, ⟨hk.1.1.2, hk.2⟩⟩)⟩, ⟨by (try simp only [hl217002_59]); (with_reducible repeat (first | apply Kd.R_alloc | apply Kd.R_drewN | apply Kd.R_drew)); exact Kd.R_mono HO_217002.out (fun _ hk => ⟨hk.1.1.1, ⟨hk.1.1.2, hk.2⟩⟩)⟩, ⟨by (try simp only [hl217002_59]); (with_reducible repeat (first | apply Kd.R_alloc | apply Kd.R_drewN | apply Kd.R_drew)); exact Kd.R_mono HO_225003.out (fun _ hk => ⟨hk.1.1.1, ⟨hk.1.1.2, hk.2⟩⟩)⟩, ⟨by (try simp only [hl217002_59]); (with_reducible repeat (first | apply Kd.R_alloc | apply Kd.R_drewN | apply Kd.R_drew)); exact Kd.R_mono HO248.out (fun _ hk => ⟨hk.1.1.1.2, ⟨hk.1.1.2, hk.1.2⟩⟩)⟩, ⟨by (try simp only [hl217002_59]); refine uW ?_; exact BK196.out⟩, ⟨by (try simp only [hl217002_59]); refine uW ?_; exact BK210.out⟩, ⟨by (try simp only [hl217002_59]); refine uW ?_; exact BK216.out⟩, ⟨by (try simp only [hl217002_59]); refine uW ?_; exact BK224.out⟩, ⟨by (try simp only [hl217002_59]); refine uW ?_; exact BK250.out⟩, ⟨by first | exact uB HB | exact uS HB (gC GE196 (gC GE210 (gC GE216 (gC GE224 (gC GE250 gN)))))⟩⟩
           case rest =>
            clear HC103
            try clear c1
            try clear c2
            try clear p2
            try clear c3
            try clear c3b0
            try clear c4
            try clear c5
            try clear c6
            try clear c7
            try clear c8
            try clear c9
            try clear c10
            try clear c11
            try clear c12
            try clear c13
            try clear c14
            try clear c20
            try clear c21
            try clear c22
            try clear c23
            try clear c24
            try clear c25
            try clear c26
            try clear c27
            try clear c28
            try clear c32
            try clear c33
            try clear c34
            try clear c38
            try clear c39
            try clear c40
            try clear c41
            try clear c43
            try clear c44
            try clear c47
            try clear c48
            try clear c49
            try clear c51
            try clear c52
            try clear c55
            try clear c58
            try clear c65
            try clear c66
            try clear c67
            try clear c70
            try clear c70b0
            try clear c72
            try clear c73
            try clear c74
            try clear c75
            try clear c77
            try clear c78
            try clear c81
            try clear c82
            try clear c83
            try clear c85
            try clear c86
            try clear c89
            try clear c92
            try clear c92b0
            try clear c93
            try clear c94
            try clear c95
            try clear c100
            try clear c100b0
            try clear c100b1
            try clear c104
            try clear c105
            try clear c106
            try clear c111
            try clear c112
            try clear c118
            try clear c119
            try clear c120
            try clear c121
            try clear c125
            try clear c126
            try clear c127
            try clear c128
            try clear c129
            try clear c131
            try clear c132
            try clear c133
            try clear c136
            try clear c137
            try clear c138
            try clear c139
            try clear c141
            try clear c142
            try clear c143
            try clear hcz107_0
            try clear hcz107_1
            try clear hcz107_2
            try clear hcz107_3
            try clear hcz109_0
            try clear hcz109_1
            try clear hcz109_2
            try clear hcz109_3
            try clear hcz113_0
            try clear hcz113_1
            try clear hcz113_2
            try clear hcz122_0
            try clear hcz122_1
            try clear hcz122_2
            try clear hcz122_3
            try clear hcz130_0
            try clear hcz130_1
            try clear hcz130_2
            try clear hcz130_3
            try clear hcz134_0
            try clear hcz134_1
            try clear hcz134_2
            try clear hcz134_3
            try clear hcz13_0
            try clear hcz13_1
            try clear hcz13_2
            try clear hcz140_0
            try clear hcz140_1
            try clear hcz140_2
            try clear hcz140_3
            try clear hcz144_0
            try clear hcz144_1
            try clear hcz144_2
            try clear hcz144_3
            try clear hcz15_0
            try clear hcz15_1
            try clear hcz15_2
            try clear hcz21_0
            try clear hcz21_1
            try clear hcz21_2
            try clear hcz21_3
            try clear hcz23_0
            try clear hcz23_1
            try clear hcz23_2
            try clear hcz28_0
            try clear hcz28_1
            try clear hcz28_2
            try clear hcz35_0
            try clear hcz35_1
            try clear hcz35_2
            try clear hcz35_3
            try clear hcz42_0
            try clear hcz42_1
            try clear hcz42_2
            try clear hcz42_3
            try clear hcz45_0
            try clear hcz45_1
            try clear hcz45_2
            try clear hcz45_3
            try clear hcz50_0
            try clear hcz50_1
            try clear hcz50_2
            try clear hcz50_3
            try clear hcz53_0
            try clear hcz53_1
            try clear hcz53_2
            try clear hcz53_3
            try clear hcz5_0
            try clear hcz5_1
            try clear hcz5_2
            try clear hcz68_0
            try clear hcz68_1
            try clear hcz68_2
            try clear hcz76_0
            try clear hcz76_1
            try clear hcz76_2
            try clear hcz76_3
            try clear hcz79_0
            try clear hcz79_1
            try clear hcz79_2
            try clear hcz79_3
            try clear hcz84_0
            try clear hcz84_1
            try clear hcz84_2
            try clear hcz84_3
            try clear hcz87_0
            try clear hcz87_1
            try clear hcz87_2
            try clear hcz87_3
            try clear hcz96_0
            try clear hcz96_1
            try clear hcz96_2
            try clear hcz96_3
            try clear hcz98_0
            try clear hcz98_1
            try clear hcz98_2
            try clear hcz98_3
            try clear hfz107_0
            try clear hfz107_1
            try clear hfz107_2
            try clear hfz107_3
            try clear hfz109_0
            try clear hfz109_1
            try clear hfz109_2
            try clear hfz109_3
            try clear hfz113_0
            try clear hfz113_1
            try clear hfz113_2
            try clear hfz122_0
            try clear hfz122_1
            try clear hfz122_2
            try clear hfz122_3
            try clear hfz130_0
            try clear hfz130_1
            try clear hfz130_2
            try clear hfz130_3
            try clear hfz134_0
            try clear hfz134_1
            try clear hfz134_2
            try clear hfz134_3
            try clear hfz13_0
            try clear hfz13_1
            try clear hfz13_2
            try clear hfz140_0
            try clear hfz140_1
            try clear hfz140_2
            try clear hfz140_3
            try clear hfz144_0
            try clear hfz144_1
            try clear hfz144_2
            try clear hfz144_3
            try clear hfz15_0
            try clear hfz15_1
            try clear hfz15_2
            try clear hfz21_0
            try clear hfz21_1
            try clear hfz21_2
            try clear hfz21_3
            try clear hfz23_0
            try clear hfz23_1
            try clear hfz23_2
            try clear hfz28_0
            try clear hfz28_1
            try clear hfz28_2
            try clear hfz35_0
            try clear hfz35_1
            try clear hfz35_2
            try clear hfz35_3
            try clear hfz42_0
            try clear hfz42_1
            try clear hfz42_2
            try clear hfz42_3
            try clear hfz45_0
            try clear hfz45_1
            try clear hfz45_2
            try clear hfz45_3
            try clear hfz50_0
            try clear hfz50_1
            try clear hfz50_2
            try clear hfz50_3
            try clear hfz53_0
            try clear hfz53_1
            try clear hfz53_2
            try clear hfz53_3
            try clear hfz5_0
            try clear hfz5_1
            try clear hfz5_2
            try clear hfz68_0
            try clear hfz68_1
            try clear hfz68_2
            try clear hfz76_0
            try clear hfz76_1
            try clear hfz76_2
            try clear hfz76_3
            try clear hfz79_0
            try clear hfz79_1
            try clear hfz79_2
            try clear hfz79_3
            try clear hfz84_0
            try clear hfz84_1
            try clear hfz84_2
            try clear hfz84_3
            try clear hfz87_0
            try clear hfz87_1
            try clear hfz87_2
            try clear hfz87_3
            try clear hfz96_0
            try clear hfz96_1
            try clear hfz96_2
            try clear hfz96_3
            try clear hfz98_0
            try clear hfz98_1
            try clear hfz98_2
            try clear hfz98_3
            try clear p2
            obtain ⟨kq, x87_102, rfl, HA, HJ102, HO_211003, HO_217002, HO_225003, HO_251003, BK196, BK210, BK216, BK224, BK250, HB⟩ := hcut
            have hl225003_102 := (Kd.R_reads' HO_225003.out).1
            rw [hl225003_102] at HO_225003
            (try simp only [hl225003_102])
            (try simp only [hl225003_102] at BK196)
            (try simp only [hl225003_102] at BK210)
            (try simp only [hl225003_102] at BK216)
            (try simp only [hl225003_102] at BK224)
            (try simp only [hl225003_102] at BK250)
            (try simp only [hl225003_102] at HO_211003)
            (try simp only [hl225003_102] at HO_217002)
            (try simp only [hl225003_102] at HO_251003)
            cases kq with
            | zero => exact absurd HA.out (by simp [laws_FnExactBloomOfCounting.j2])
            | succ kj102 =>
             have H := HA.out
             clear HA
             simp only [laws_FnExactBloomOfCounting.j2] at H
             by_cases c146 : x87_102 = true
             ·
              subst c146
              have H1 : (some false) = some r := by rw [if_pos rfl] at H; exact H
              clear H
              have H := H1
              clear H1
              obtain rfl := Option.some.inj H
              go_wp2
              go_ret
              exact ⟨by first | rfl | (simp [errW_none, errW_some] <;> rfl) | (simp [*, errW_none, errW_some] <;> rfl), by first | exact uB HB | exact uS HB (gC GE196 (gC GE210 (gC GE216 (gC GE224 (gC GE250 gN)))))⟩
             ·
              replace c146 := Bool.eq_false_iff.mpr c146
              subst c146
              have H1 : ((laws_heldBloom.f kj102 t217 t218 t219 t236 1).bind fun t252 => (if t252 < 0 then (some false) else (if t252 = t235 then (some true) else (some false)))) = some r := by rw [if_neg (show ¬ (false = true) by decide)] at H; exact H
              clear H
              have H := H1
              clear H1
              replace H := Option.bind_eq_some_iff.mp H
              obtain ⟨t252, A1470, H⟩ := H
              replace H : (if t252 < 0 then (some false) else (if t252 = t235 then (some true) else (some false))) = some r := H
              have A147 := Aside0.mk A1470
              clear A1470
              by_cases c148 : t252 < 0
              ·
               rw [if_pos c148] at H
               have c148b0 : decide (t252 < 0) = true := decide_eq_true c148
               clear c148
               obtain rfl := Option.some.inj H
               have hnb149 := NB224_196.out
               have hnc149 := NB196_224.out
               have hnb150 := NB224_210.out
               have hnc150 := NB210_224.out
               have hnb151 := NB224_216.out
               have hnc151 := NB216_224.out
               have hnb152 := NB224_250.out
               have hnc152 := NB250_224.out
               have hcz153_0 : wc.cell? ⟨gb224, 0, none⟩ = some (.int .i64 t217) := (blk_cell BK224.out 0).trans rfl
               have hcz153_1 : wc.cell? ⟨gb224, 1, none⟩ = some (.int .i64 t218) := (blk_cell BK224.out 1).trans rfl
               have hcz153_2 : wc.cell? ⟨gb224, 2, none⟩ = some (.int .i64 t219) := (blk_cell BK224.out 2).trans rfl
               have hcz153_3 : wc.cell? ⟨gb224, 3, none⟩ = some (.slice Ao36 t236.length co36) := (blk_cell BK224.out 3).trans rfl
               have hfz153_0 := blk_frozen BK224.out 0
               have hfz153_1 := blk_frozen BK224.out 1
               have hfz153_2 := blk_frozen BK224.out 2
               have hfz153_3 := blk_frozen BK224.out 3
               go_wp2_with (first | ((with_reducible refine gate_callee (f := 22) rfl ?_); refine goesL_ (some 90) rfl rfl Try.func22 (by kernel_rfl) rfl #[.agg #[.int .i64 t217, .int .i64 t218, .int .i64 t219, .slice Ao36 t236.length co36], .int .i64 1] rfl (by (try simp only [List.map_toArray, List.map_cons, List.map_nil]); first | done | rfl | (simp only [List.length_drop, List.length_take]; rfl)) ?_; (with_reducible refine (laws_heldBloom.calls kj102 t217 t218 t219 _ _ t236 1 t252 _ ?side1 ?side2 A147.out).mono ?_); (case side1 => exact uD HO_225003); (case side2 => exact (Kd.R_reads' HO_225003.out).2.1); rintro e w154 ⟨rfl, hb⟩; refine ⟨_, rfl, ?_⟩; have n0_ := Aside0.mk (Kd.R_below (uR HO_211003) hb); have n1_ := Aside0.mk (Kd.R_below (uR HO_217002) hb); have n2_ := Aside0.mk (Kd.R_below (uR HO_225003) hb); have n3_ := Aside0.mk (Kd.R_below (uR HO_251003) hb); have n4_ := Aside0.mk (blk_below (g := gb196) (o := .cells #[.int .i64 a0_0, .int .i64 a0_1, .slice A0_2 l0_2.length c0_2] 48 (0, 0)) (uK BK196) hb); have n5_ := Aside0.mk (blk_below (g := gb210) (o := .cells #[.int .i64 t203, .int .i64 t204, .int .i64 t205, .slice Ao22 t206.length co22] 40 (0, 0)) (uK BK210) hb); have n6_ := Aside0.mk (blk_below (g := gb216) (o := .cells #[.int .i64 t211, .int .i64 t212, .slice Ao29 t233.length co29] 51 (0, 0)) (uK BK216) hb); have n7_ := Aside0.mk (blk_below (g := gb224) (o := .cells #[.int .i64 t217, .int .i64 t218, .int .i64 t219, .slice Ao36 t236.length co36] 40 (0, 0)) (uK BK224) hb); have n8_ := Aside0.mk (blk_below (g := gb250) (o := .cells #[.int .i64 t243, .int .i64 t244, .int .i64 t245, .slice Ao123 t246.length co123] 40 (0, 0)) (uK BK250) hb); have n9_ := Aside0.mk (below_step (by first | exact uB HB | exact uS HB (gC GE196 (gC GE210 (gC GE216 (gC GE224 (gC GE250 gN)))))) hb); clear HO_211003 HO_217002 HO_225003 HO_251003 BK196 BK210 BK216 BK224 BK250 HB; have HO_211003 := n0_; have HO_217002 := n1_; have HO_225003 := n2_; have HO_251003 := n3_; have BK196 := n4_; have BK210 := n5_; have BK216 := n6_; have BK224 := n7_; have BK250 := n8_; have HB := n9_; clear n0_ n1_ n2_ n3_ n4_ n5_ n6_ n7_ n8_ n9_; (try clear hb); (try clear hb2); (try clear hk); (try clear hi)))
               go_ret
               exact ⟨by first | rfl | (simp [errW_none, errW_some] <;> rfl) | (simp [*, errW_none, errW_some] <;> rfl), by first | exact uB HB | exact uS HB (gC GE196 (gC GE210 (gC GE216 (gC GE224 (gC GE250 gN)))))⟩
              ·
               rw [if_neg c148] at H
               have c148b0 : decide (t252 < 0) = false := decide_eq_false c148
               clear c148
               by_cases c155 : t252 = t235
               ·
                rw [if_pos c155] at H
                have c155b0 : (t252 == t235) = true := beq_iff_eq.mpr c155
                have c155b1 : (t252 != t235) = false := bne_eq_false_iff_eq.mpr c155
                clear c155
                obtain rfl := Option.some.inj H
                have hnb156 := NB224_196.out
                have hnc156 := NB196_224.out
                have hnb157 := NB224_210.out
                have hnc157 := NB210_224.out
                have hnb158 := NB224_216.out
                have hnc158 := NB216_224.out
                have hnb159 := NB224_250.out
                have hnc159 := NB250_224.out
                have hcz160_0 : wc.cell? ⟨gb224, 0, none⟩ = some (.int .i64 t217) := (blk_cell BK224.out 0).trans rfl
                have hcz160_1 : wc.cell? ⟨gb224, 1, none⟩ = some (.int .i64 t218) := (blk_cell BK224.out 1).trans rfl
                have hcz160_2 : wc.cell? ⟨gb224, 2, none⟩ = some (.int .i64 t219) := (blk_cell BK224.out 2).trans rfl
                have hcz160_3 : wc.cell? ⟨gb224, 3, none⟩ = some (.slice Ao36 t236.length co36) := (blk_cell BK224.out 3).trans rfl
                have hfz160_0 := blk_frozen BK224.out 0
                have hfz160_1 := blk_frozen BK224.out 1
                have hfz160_2 := blk_frozen BK224.out 2
                have hfz160_3 := blk_frozen BK224.out 3
                go_wp2_with (first | ((with_reducible refine gate_callee (f := 22) rfl ?_); refine goesL_ (some 90) rfl rfl Try.func22 (by kernel_rfl) rfl #[.agg #[.int .i64 t217, .int .i64 t218, .int .i64 t219, .slice Ao36 t236.length co36], .int .i64 1] rfl (by (try simp only [List.map_toArray, List.map_cons, List.map_nil]); first | done | rfl | (simp only [List.length_drop, List.length_take]; rfl)) ?_; (with_reducible refine (laws_heldBloom.calls kj102 t217 t218 t219 _ _ t236 1 t252 _ ?side1 ?side2 A147.out).mono ?_); (case side1 => exact uD HO_225003); (case side2 => exact (Kd.R_reads' HO_225003.out).2.1); rintro e w161 ⟨rfl, hb⟩; refine ⟨_, rfl, ?_⟩; have n0_ := Aside0.mk (Kd.R_below (uR HO_211003) hb); have n1_ := Aside0.mk (Kd.R_below (uR HO_217002) hb); have n2_ := Aside0.mk (Kd.R_below (uR HO_225003) hb); have n3_ := Aside0.mk (Kd.R_below (uR HO_251003) hb); have n4_ := Aside0.mk (blk_below (g := gb196) (o := .cells #[.int .i64 a0_0, .int .i64 a0_1, .slice A0_2 l0_2.length c0_2] 48 (0, 0)) (uK BK196) hb); have n5_ := Aside0.mk (blk_below (g := gb210) (o := .cells #[.int .i64 t203, .int .i64 t204, .int .i64 t205, .slice Ao22 t206.length co22] 40 (0, 0)) (uK BK210) hb); have n6_ := Aside0.mk (blk_below (g := gb216) (o := .cells #[.int .i64 t211, .int .i64 t212, .slice Ao29 t233.length co29] 51 (0, 0)) (uK BK216) hb); have n7_ := Aside0.mk (blk_below (g := gb224) (o := .cells #[.int .i64 t217, .int .i64 t218, .int .i64 t219, .slice Ao36 t236.length co36] 40 (0, 0)) (uK BK224) hb); have n8_ := Aside0.mk (blk_below (g := gb250) (o := .cells #[.int .i64 t243, .int .i64 t244, .int .i64 t245, .slice Ao123 t246.length co123] 40 (0, 0)) (uK BK250) hb); have n9_ := Aside0.mk (below_step (by first | exact uB HB | exact uS HB (gC GE196 (gC GE210 (gC GE216 (gC GE224 (gC GE250 gN)))))) hb); clear HO_211003 HO_217002 HO_225003 HO_251003 BK196 BK210 BK216 BK224 BK250 HB; have HO_211003 := n0_; have HO_217002 := n1_; have HO_225003 := n2_; have HO_251003 := n3_; have BK196 := n4_; have BK210 := n5_; have BK216 := n6_; have BK224 := n7_; have BK250 := n8_; have HB := n9_; clear n0_ n1_ n2_ n3_ n4_ n5_ n6_ n7_ n8_ n9_; (try clear hb); (try clear hb2); (try clear hk); (try clear hi)))
                go_ret
                exact ⟨by first | rfl | (simp [errW_none, errW_some] <;> rfl) | (simp [*, errW_none, errW_some] <;> rfl), by first | exact uB HB | exact uS HB (gC GE196 (gC GE210 (gC GE216 (gC GE224 (gC GE250 gN)))))⟩
               ·
                rw [if_neg c155] at H
                have c155b0 : (t252 == t235) = false := beq_eq_false_iff_ne.mpr c155
                have c155b1 : (t252 != t235) = true := bne_iff_ne.mpr c155
                obtain rfl := Option.some.inj H
                have hnb162 := NB224_196.out
                have hnc162 := NB196_224.out
                have hnb163 := NB224_210.out
                have hnc163 := NB210_224.out
                have hnb164 := NB224_216.out
                have hnc164 := NB216_224.out
                have hnb165 := NB224_250.out
                have hnc165 := NB250_224.out
                have hcz166_0 : wc.cell? ⟨gb224, 0, none⟩ = some (.int .i64 t217) := (blk_cell BK224.out 0).trans rfl
                have hcz166_1 : wc.cell? ⟨gb224, 1, none⟩ = some (.int .i64 t218) := (blk_cell BK224.out 1).trans rfl
                have hcz166_2 : wc.cell? ⟨gb224, 2, none⟩ = some (.int .i64 t219) := (blk_cell BK224.out 2).trans rfl
                have hcz166_3 : wc.cell? ⟨gb224, 3, none⟩ = some (.slice Ao36 t236.length co36) := (blk_cell BK224.out 3).trans rfl
                have hfz166_0 := blk_frozen BK224.out 0
                have hfz166_1 := blk_frozen BK224.out 1
                have hfz166_2 := blk_frozen BK224.out 2
                have hfz166_3 := blk_frozen BK224.out 3
                go_wp2_with (first | ((with_reducible refine gate_callee (f := 22) rfl ?_); refine goesL_ (some 90) rfl rfl Try.func22 (by kernel_rfl) rfl #[.agg #[.int .i64 t217, .int .i64 t218, .int .i64 t219, .slice Ao36 t236.length co36], .int .i64 1] rfl (by (try simp only [List.map_toArray, List.map_cons, List.map_nil]); first | done | rfl | (simp only [List.length_drop, List.length_take]; rfl)) ?_; (with_reducible refine (laws_heldBloom.calls kj102 t217 t218 t219 _ _ t236 1 t252 _ ?side1 ?side2 A147.out).mono ?_); (case side1 => exact uD HO_225003); (case side2 => exact (Kd.R_reads' HO_225003.out).2.1); rintro e w167 ⟨rfl, hb⟩; refine ⟨_, rfl, ?_⟩; have n0_ := Aside0.mk (Kd.R_below (uR HO_211003) hb); have n1_ := Aside0.mk (Kd.R_below (uR HO_217002) hb); have n2_ := Aside0.mk (Kd.R_below (uR HO_225003) hb); have n3_ := Aside0.mk (Kd.R_below (uR HO_251003) hb); have n4_ := Aside0.mk (blk_below (g := gb196) (o := .cells #[.int .i64 a0_0, .int .i64 a0_1, .slice A0_2 l0_2.length c0_2] 48 (0, 0)) (uK BK196) hb); have n5_ := Aside0.mk (blk_below (g := gb210) (o := .cells #[.int .i64 t203, .int .i64 t204, .int .i64 t205, .slice Ao22 t206.length co22] 40 (0, 0)) (uK BK210) hb); have n6_ := Aside0.mk (blk_below (g := gb216) (o := .cells #[.int .i64 t211, .int .i64 t212, .slice Ao29 t233.length co29] 51 (0, 0)) (uK BK216) hb); have n7_ := Aside0.mk (blk_below (g := gb224) (o := .cells #[.int .i64 t217, .int .i64 t218, .int .i64 t219, .slice Ao36 t236.length co36] 40 (0, 0)) (uK BK224) hb); have n8_ := Aside0.mk (blk_below (g := gb250) (o := .cells #[.int .i64 t243, .int .i64 t244, .int .i64 t245, .slice Ao123 t246.length co123] 40 (0, 0)) (uK BK250) hb); have n9_ := Aside0.mk (below_step (by first | exact uB HB | exact uS HB (gC GE196 (gC GE210 (gC GE216 (gC GE224 (gC GE250 gN)))))) hb); clear HO_211003 HO_217002 HO_225003 HO_251003 BK196 BK210 BK216 BK224 BK250 HB; have HO_211003 := n0_; have HO_217002 := n1_; have HO_225003 := n2_; have HO_251003 := n3_; have BK196 := n4_; have BK210 := n5_; have BK216 := n6_; have BK224 := n7_; have BK250 := n8_; have HB := n9_; clear n0_ n1_ n2_ n3_ n4_ n5_ n6_ n7_ n8_ n9_; (try clear hb); (try clear hb2); (try clear hk); (try clear hi)))
                go_ret
                exact ⟨by first | rfl | (simp [errW_none, errW_some] <;> rfl) | (simp [*, errW_none, errW_some] <;> rfl), by first | exact uB HB | exact uS HB (gC GE196 (gC GE210 (gC GE216 (gC GE224 (gC GE250 gN)))))⟩
          ·
           rw [if_neg c100] at H
           have c100b0 : (t237 == t235) = false := beq_eq_false_iff_ne.mpr c100
           have c100b1 : (t237 != t235) = true := bne_iff_ne.mpr c100
           obtain rfl := Option.some.inj H
           have hnb168 := NB224_196.out
           have hnc168 := NB196_224.out
           have hnb169 := NB224_210.out
           have hnc169 := NB210_224.out
           have hnb170 := NB224_216.out
           have hnc170 := NB216_224.out
           have hcz171_0 : wc.cell? ⟨gb224, 0, none⟩ = some (.int .i64 t217) := (blk_cell BK224.out 0).trans rfl
           have hcz171_1 : wc.cell? ⟨gb224, 1, none⟩ = some (.int .i64 t218) := (blk_cell BK224.out 1).trans rfl
           have hcz171_2 : wc.cell? ⟨gb224, 2, none⟩ = some (.int .i64 t219) := (blk_cell BK224.out 2).trans rfl
           have hcz171_3 : wc.cell? ⟨gb224, 3, none⟩ = some (.slice Ao36 t220.length co36) := (blk_cell BK224.out 3).trans rfl
           have hfz171_0 := blk_frozen BK224.out 0
           have hfz171_1 := blk_frozen BK224.out 1
           have hfz171_2 := blk_frozen BK224.out 2
           have hfz171_3 := blk_frozen BK224.out 3
           go_wp2_with (first | ((with_reducible refine gate_callee (f := 21) rfl ?_); refine goesL_ (some 64) rfl rfl Try.func21 (by kernel_rfl) rfl #[.agg #[.int .i64 t217, .int .i64 t218, .int .i64 t219, .slice Ao36 t220.length co36], .int .i64 1] rfl (by (try simp only [List.map_toArray, List.map_cons, List.map_nil]); first | done | rfl | (simp only [List.length_drop, List.length_take]; rfl)) ?_; (with_reducible refine (laws_markBloom.calls kj59 t217 t218 t219 (fun k_ => some k_ = (.slice Ao36 t220.length co36 : Value).ownBlock) (.slice Ao36 t220.length co36) t220 1 t235 t236 w _ ?side1 ?side2 A90.out).mono ?_); (case side1 => first | exact uB HB | exact uS HB (gC GE196 (gC GE210 (gC GE216 (gC GE224 gN))))); (case side2 => exact Kd.R_tight rfl HO_225003.out); rintro e w172 ⟨rfl, hy0, hb, hkp⟩; refine ⟨_, rfl, ?_⟩; have n0_ := Aside0.mk (Kd.R_mono (ok' := fun k_ => some k_ ≠ (.slice Ao29 t233.length co29 : Value).ownBlock ∧ some k_ ≠ (.slice Ao36 t220.length co36 : Value).ownBlock) (Kd.R_keptB (HO_211003.out) hkp (fun k_ hk_ hs_ => (hk_.2) hs_)) (fun k_ hk_ => ⟨hk_.1.1, hk_.1.2⟩)); have n1_ := Aside0.mk (Kd.R_mono (ok' := fun k_ => some k_ ≠ (.slice Ao22 t206.length co22 : Value).ownBlock ∧ some k_ ≠ (.slice Ao36 t220.length co36 : Value).ownBlock) (Kd.R_keptB (HO_217002.out) hkp (fun k_ hk_ hs_ => (hk_.2) hs_)) (fun k_ hk_ => ⟨hk_.1.1, hk_.1.2⟩)); have n2_ := Aside0.mk (Kd.R_reok rfl hy0 (fun k_ e_ => HO_225003.out.1 k_ e_)); have n3_ := Aside0.mk (blk_kept (uK BK196) hkp (fun hs_ => (fun e_ => (Kd.R_ne HO_225003.out BK196.out (by decide)) e_) hs_)); have n4_ := Aside0.mk (blk_kept (uK BK210) hkp (fun hs_ => (fun e_ => (Kd.R_ne HO_225003.out BK210.out (by decide)) e_) hs_)); have n5_ := Aside0.mk (blk_kept (uK BK216) hkp (fun hs_ => (fun e_ => (Kd.R_ne HO_225003.out BK216.out (by decide)) e_) hs_)); have n6_ := Aside0.mk (blk_kept (uK BK224) hkp (fun hs_ => (fun e_ => (Kd.R_ne HO_225003.out BK224.out (by decide)) e_) hs_)); have n7_ := Aside0.mk (hb); clear HO_211003 HO_217002 HO_225003 BK196 BK210 BK216 BK224 HB; have HO_211003 := n0_; have HO_217002 := n1_; have HO_225003 := n2_; have BK196 := n3_; have BK210 := n4_; have BK216 := n5_; have BK224 := n6_; have HB := n7_; clear n0_ n1_ n2_ n3_ n4_ n5_ n6_ n7_; (try clear hb); (try clear hkp); (try clear hy0); have hcz173_0 : w172.cell? ⟨gb224, 0, none⟩ = some (.int .i64 t217) := (blk_cell BK224.out 0).trans rfl; have hcz173_1 : w172.cell? ⟨gb224, 1, none⟩ = some (.int .i64 t218) := (blk_cell BK224.out 1).trans rfl; have hcz173_2 : w172.cell? ⟨gb224, 2, none⟩ = some (.int .i64 t219) := (blk_cell BK224.out 2).trans rfl; have hcz173_3 : w172.cell? ⟨gb224, 3, none⟩ = some (.slice Ao36 t220.length co36) := (blk_cell BK224.out 3).trans rfl; have hfz173_0 := blk_frozen BK224.out 0; have hfz173_1 := blk_frozen BK224.out 1; have hfz173_2 := blk_frozen BK224.out 2; have hfz173_3 := blk_frozen BK224.out 3) | ((with_reducible refine gate_callee (f := 22) rfl ?_); refine goesL_ (some 67) rfl rfl Try.func22 (by kernel_rfl) rfl #[.agg #[.int .i64 t217, .int .i64 t218, .int .i64 t219, .slice Ao36 t236.length co36], .int .i64 1] rfl (by (try simp only [List.map_toArray, List.map_cons, List.map_nil]); first | done | (rw [show t236.length = t220.length from (Kd.R_reads' HO_225003.out).1.symm] <;> rfl) | rfl | (simp only [List.length_drop, List.length_take]; rfl)) ?_; (with_reducible refine (laws_heldBloom.calls kj59 t217 t218 t219 _ _ t236 1 t237 _ ?side1 ?side2 A91.out).mono ?_); (case side1 => exact uD HO_225003); (case side2 => rw [show t236.length = t220.length from (Kd.R_reads' HO_225003.out).1.symm]; exact (Kd.R_reads' HO_225003.out).2.1); rintro e w174 ⟨rfl, hb⟩; refine ⟨_, rfl, ?_⟩; have n0_ := Aside0.mk (Kd.R_below (uR HO_211003) hb); have n1_ := Aside0.mk (Kd.R_below (uR HO_217002) hb); have n2_ := Aside0.mk (Kd.R_below (uR HO_225003) hb); have n3_ := Aside0.mk (blk_below (g := gb196) (o := .cells #[.int .i64 a0_0, .int .i64 a0_1, .slice A0_2 l0_2.length c0_2] 48 (0, 0)) (uK BK196) hb); have n4_ := Aside0.mk (blk_below (g := gb210) (o := .cells #[.int .i64 t203, .int .i64 t204, .int .i64 t205, .slice Ao22 t206.length co22] 40 (0, 0)) (uK BK210) hb); have n5_ := Aside0.mk (blk_below (g := gb216) (o := .cells #[.int .i64 t211, .int .i64 t212, .slice Ao29 t233.length co29] 51 (0, 0)) (uK BK216) hb); have n6_ := Aside0.mk (blk_below (g := gb224) (o := .cells #[.int .i64 t217, .int .i64 t218, .int .i64 t219, .slice Ao36 t220.length co36] 40 (0, 0)) (uK BK224) hb); have n7_ := Aside0.mk (below_step (by first | exact uB HB | exact uS HB (gC GE196 (gC GE210 (gC GE216 (gC GE224 gN))))) hb); clear HO_211003 HO_217002 HO_225003 BK196 BK210 BK216 BK224 HB; have HO_211003 := n0_; have HO_217002 := n1_; have HO_225003 := n2_; have BK196 := n3_; have BK210 := n4_; have BK216 := n5_; have BK224 := n6_; have HB := n7_; clear n0_ n1_ n2_ n3_ n4_ n5_ n6_ n7_; (try clear hb); (try clear hb2); (try clear hk); (try clear hi)))
           go_ret
           exact ⟨by first | rfl | (simp [errW_none, errW_some] <;> rfl) | (simp [*, errW_none, errW_some] <;> rfl), by first | exact uB HB | exact uS HB (gC GE196 (gC GE210 (gC GE216 (gC GE224 gN))))⟩
     ·
      replace c58 := Bool.eq_false_iff.mpr c58
      subst c58
      have H1 : (some false) = some r := by rw [if_neg (show ¬ (false = true) by decide)] at H; exact H
      clear H
      have H := H1
      clear H1
      obtain rfl := Option.some.inj H
      try go_wp2
      have n0_ := Aside0.mk (Kd.R_drew HO_211003.out)
      have n1_ := Aside0.mk (Kd.R_drew HO_217002.out)
      have n2_ := Aside0.mk (Kd.R_drew HO_225003.out)
      have n3_ := Aside0.mk (blk_drew BK196.out)
      have n4_ := Aside0.mk (blk_drew BK210.out)
      have n5_ := Aside0.mk (blk_drew BK216.out)
      have n6_ := Aside0.mk (blk_drew BK224.out)
      have n7_ := Aside0.mk (below_drew1 HB.out)
      clear HO_211003
      clear HO_217002
      clear HO_225003
      clear BK196
      clear BK210
      clear BK216
      clear BK224
      clear HB
      have HO_211003 := n0_
      have HO_217002 := n1_
      have HO_225003 := n2_
      have BK196 := n3_
      have BK210 := n4_
      have BK216 := n5_
      have BK224 := n6_
      have HB := n7_
      clear n0_ n1_ n2_ n3_ n4_ n5_ n6_ n7_
      refine start_ (n := 5) (S := fun w' => w'.cell? ⟨gb216, 0, none⟩ = some (.int .i64 t211) ∧ w'.cell? ⟨gb216, 1, none⟩ = some (.int .i64 t212) ∧ w'.cell? ⟨gb216, 2, none⟩ = some (.slice Ao29 t213.length co29) ∧ w'.cell? ⟨gb196, 0, none⟩ = some (.int .i64 a0_0) ∧ w'.cell? ⟨gb196, 1, none⟩ = some (.int .i64 a0_1) ∧ w'.cell? ⟨gb196, 2, none⟩ = some (.slice A0_2 l0_2.length c0_2)) (ds := []) #[false, false, false, false, false] (by kernel_rfl) rfl rfl ⟨(blk_cell BK216.out 0).trans rfl, (blk_cell BK216.out 1).trans rfl, (blk_cell BK216.out 2).trans rfl, (blk_cell BK196.out 0).trans rfl, (blk_cell BK196.out 1).trans rfl, (blk_cell BK196.out 2).trans rfl⟩ (fun hHeld => ?_)
      generalize wc.drew = w175 at HO_211003 HO_217002 HO_225003 BK196 BK210 BK216 BK224 HB hHeld ⊢
      refine take_ (i := 0) (N := some 41) (v := ?_) (a' := ?_) #[true, false, false, false, false] rfl rfl (by kernel_rfl) (fun _ _ _ h => h) (Or.inl ⟨by rfl, ?_⟩) hHeld ?_ ?_
      rotate_left
      ·
       rintro w' ⟨s0, s1, s2, s3, s4, s5⟩
       go_simp
       with_reducible rfl
      rotate_left
      ·
       simp only [Act.put, List.setIfInBounds_toArray, List.set_cons_zero, List.set_cons_succ, i64_w, i32_w]
       rfl
      refine take_ (i := 1) (N := some 42) (v := ?_) (a' := ?_) #[true, true, false, false, false] rfl rfl (by kernel_rfl) (fun _ _ _ h => h) (Or.inl ⟨by rfl, ?_⟩) hHeld ?_ ?_
      rotate_left
      ·
       rintro w' ⟨s0, s1, s2, s3, s4, s5⟩
       go_simp
       with_reducible rfl
      rotate_left
      ·
       simp only [Act.put, List.setIfInBounds_toArray, List.set_cons_zero, List.set_cons_succ, i64_w, i32_w]
       rfl
      refine one_ (i := 2) (N := some 43) #[true, true, true, false, false] rfl rfl (by kernel_rfl) (by decide) (fun K hK => ?_)
      refine goes_ Try.func25 (by kernel_rfl) rfl #[.agg #[.int .i64 a0_0, .int .i64 a0_1, .slice A0_2 l0_2.length c0_2]] (by rfl) rfl rfl (by (try simp only [List.map_toArray, List.map_cons, List.map_nil]); first | done | rfl | (simp only [List.length_drop, List.length_take]; rfl)) ?_
      with_reducible refine (laws_toCounting.calls kj10 a0_0 a0_1 _ _ l0_2 t226 t227 t228 _ ?side1 ?side2 A56.out).mono ?_
      (case side1 => exact uC HR0_2 HB)
      (case side2 => exact HC0_2.out)
      rintro e w176 ⟨v229, rfl, ho0, hb⟩
      refine ⟨_, rfl, ?_⟩
      have n0_ := Aside0.mk (Kd.R_elder' (uR HO_211003) (Kd.R_base ho0) hb)
      have n1_ := Aside0.mk (Kd.R_elder' (uR HO_217002) (Kd.R_base ho0) hb)
      have n2_ := Aside0.mk (Kd.R_elder' (uR HO_225003) (Kd.R_base ho0) hb)
      have n3_ := Aside0.mk (Kd.R_lower (Kd.R_new' (Kd.R_new' (Kd.R_new' ho0 (Kd.R_lt (uR HO_211003))) (Kd.R_lt (uR HO_217002))) (Kd.R_lt (uR HO_225003))) (below_size (by first | exact uB HB | exact uS HB (gC GE196 (gC GE210 (gC GE216 (gC GE224 gN)))))))
      have n4_ := Aside0.mk (blk_below (g := gb196) (o := .cells #[.int .i64 a0_0, .int .i64 a0_1, .slice A0_2 l0_2.length c0_2] 48 (0, 0)) (uK BK196) hb)
      have n5_ := Aside0.mk (blk_below (g := gb210) (o := .cells #[.int .i64 t203, .int .i64 t204, .int .i64 t205, .slice Ao22 t206.length co22] 40 (0, 0)) (uK BK210) hb)
      have n6_ := Aside0.mk (blk_below (g := gb216) (o := .cells #[.int .i64 t211, .int .i64 t212, .slice Ao29 t213.length co29] 51 (0, 0)) (uK BK216) hb)
      have n7_ := Aside0.mk (blk_below (g := gb224) (o := .cells #[.int .i64 t217, .int .i64 t218, .int .i64 t219, .slice Ao36 t220.length co36] 40 (0, 0)) (uK BK224) hb)
      have n8_ := Aside0.mk (below_step (by first | exact uB HB | exact uS HB (gC GE196 (gC GE210 (gC GE216 (gC GE224 gN))))) hb)
      clear HO_211003
      clear HO_217002
      clear HO_225003
      clear BK196
      clear BK210
      clear BK216
      clear BK224
      clear HB
      have HO_211003 := n0_
      have HO_217002 := n1_
      have HO_225003 := n2_
      have HO230 := n3_
      have BK196 := n4_
      have BK210 := n5_
      have BK216 := n6_
      have BK224 := n7_
      have HB := n8_
      clear n0_ n1_ n2_ n3_ n4_ n5_ n6_ n7_ n8_
      (try clear hb)
      (try clear hb2)
      (try clear hk)
      (try clear hi)
      (try clear ho0)
      obtain ⟨Ao177, co177, eo177⟩ := Kd.R_slice HO230.out
      (first | subst eo177 | (injection eo177 with f1_ f2_ f3_; have f4_ := f1_.symm; have f5_ := f3_.symm; clear f1_ f2_ f3_; subst f4_; subst f5_))
      refine hK.out _ _ ⟨(blk_cell BK216.out 0).trans rfl, (blk_cell BK216.out 1).trans rfl, (blk_cell BK216.out 2).trans rfl, (blk_cell BK196.out 0).trans rfl, (blk_cell BK196.out 1).trans rfl, (blk_cell BK196.out 2).trans rfl⟩ (fun hHeld => ?_)
      clear hK K
      refine norm_ (a' := ?_) ?_ ?_
      rotate_left
      ·
       show Act.put _ (some 43) _ = _
       simp only [Act.put, List.setIfInBounds_toArray, List.set_cons_zero, List.set_cons_succ, i64_w, i32_w]
       rfl
      refine one_ (i := 3) (N := some 44) #[true, true, true, true, false] rfl rfl (by kernel_rfl) (by decide) (fun K hK => ?_)
      refine goes_ Try.func27 (by kernel_rfl) rfl #[.agg #[.int .i64 t211, .int .i64 t212, .slice Ao29 t213.length co29], .agg #[.int .i64 t226, .int .i64 t227, .slice Ao177 t228.length co177]] (by rfl) rfl rfl (by (try simp only [List.map_toArray, List.map_cons, List.map_nil]); first | done | rfl | (simp only [List.length_drop, List.length_take]; rfl)) ?_
      with_reducible refine (laws_eqCounting.calls kj10 t211 t212 _ _ t213 t226 t227 _ _ t228 false _ ?side1 ?side2 ?side3 ?side4 A57.out).mono ?_
      (case side1 => exact uD HO_217002)
      (case side2 => exact (Kd.R_reads' HO_217002.out).2.1)
      (case side3 => exact uD HO230)
      (case side4 => exact (Kd.R_reads' HO230.out).2.1)
      rintro e w178 ⟨rfl, hb⟩
      refine ⟨_, rfl, ?_⟩
      have n0_ := Aside0.mk (Kd.R_below (uR HO_211003) hb)
      have n1_ := Aside0.mk (Kd.R_below (uR HO_217002) hb)
      have n2_ := Aside0.mk (Kd.R_below (uR HO_225003) hb)
      have n3_ := Aside0.mk (Kd.R_below (uR HO230) hb)
      have n4_ := Aside0.mk (blk_below (g := gb196) (o := .cells #[.int .i64 a0_0, .int .i64 a0_1, .slice A0_2 l0_2.length c0_2] 48 (0, 0)) (uK BK196) hb)
      have n5_ := Aside0.mk (blk_below (g := gb210) (o := .cells #[.int .i64 t203, .int .i64 t204, .int .i64 t205, .slice Ao22 t206.length co22] 40 (0, 0)) (uK BK210) hb)
      have n6_ := Aside0.mk (blk_below (g := gb216) (o := .cells #[.int .i64 t211, .int .i64 t212, .slice Ao29 t213.length co29] 51 (0, 0)) (uK BK216) hb)
      have n7_ := Aside0.mk (blk_below (g := gb224) (o := .cells #[.int .i64 t217, .int .i64 t218, .int .i64 t219, .slice Ao36 t220.length co36] 40 (0, 0)) (uK BK224) hb)
      have n8_ := Aside0.mk (below_step (by first | exact uB HB | exact uS HB (gC GE196 (gC GE210 (gC GE216 (gC GE224 gN))))) hb)
      clear HO_211003
      clear HO_217002
      clear HO_225003
      clear HO230
      clear BK196
      clear BK210
      clear BK216
      clear BK224
      clear HB
      have HO_211003 := n0_
      have HO_217002 := n1_
      have HO_225003 := n2_
      have HO230 := n3_
      have BK196 := n4_
      have BK210 := n5_
      have BK216 := n6_
      have BK224 := n7_
      have HB := n8_
      clear n0_ n1_ n2_ n3_ n4_ n5_ n6_ n7_ n8_
      (try clear hb)
      (try clear hb2)
      (try clear hk)
      (try clear hi)
      refine hK.out _ _ ⟨(blk_cell BK216.out 0).trans rfl, (blk_cell BK216.out 1).trans rfl, (blk_cell BK216.out 2).trans rfl, (blk_cell BK196.out 0).trans rfl, (blk_cell BK196.out 1).trans rfl, (blk_cell BK196.out 2).trans rfl⟩ (fun hHeld => ?_)
      clear hK K
      refine norm_ (a' := ?_) ?_ ?_
      rotate_left
      ·
       show Act.put _ (some 44) _ = _
       simp only [Act.put, List.setIfInBounds_toArray, List.set_cons_zero, List.set_cons_succ, i64_w, i32_w]
       rfl
      refine pure_ (i := 4) (N := some 45) (v := ?_) (a' := ?_) #[true, true, true, true, true] rfl rfl (by kernel_rfl) (fun _ _ _ h => h) (Or.inl ⟨by rfl, ?_⟩) ?_ ?_
      rotate_left
      ·
       intro w'
       go_simp
       with_reducible rfl
      rotate_left
      ·
       simp only [Act.put, List.setIfInBounds_toArray, List.set_cons_zero, List.set_cons_succ, i64_w, i32_w]
       rfl
      refine done_ (by kernel_rfl) ?_
      try go_wp2
      go_ret
      exact ⟨by first | rfl | (simp [errW_none, errW_some] <;> rfl) | (simp [*, errW_none, errW_some] <;> rfl), by first | exact uB HB | exact uS HB (gC GE196 (gC GE210 (gC GE216 (gC GE224 gN))))⟩

end Go.Proofs.Ytgnpledbeohjgaa.PFnExactBloomOfCounting
